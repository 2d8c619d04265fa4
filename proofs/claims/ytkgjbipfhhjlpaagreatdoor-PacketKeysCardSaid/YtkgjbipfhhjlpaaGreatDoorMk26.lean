import Derived.Test.YtkgjbipfhhjlpaaGreatDoorMk25
import Derived.Test.YtkgjbipfhhjlpaaGreatDoorTie
import Derived.LaidMore
import Derived.Lay
import Derived.SevenTiedAt
import Derived.Stop.LaidErr
import Derived.HandedShaped
set_option linter.unusedVariables false
set_option linter.unusedSimpArgs false
set_option maxRecDepth 100000
set_option maxHeartbeats 32000000
namespace Go.Proofs.YtkgjbipfhhjlpaaGreatDoor
section
open Go.RowKit
def NuPost (w:World)(M:Nat)(l:List UInt8):Ending→World→Prop:=fun e w'=>∃(u:Nat) (er:Value),e=.returned (.tuple #[.int .i64 u,er])∧u<M∧(∀n,n<M→l=Lib.decDigits n→u=n)∧Below w.heap.size w w'
theorem nu_any (l:List UInt8)(M:Nat)(w:World)(hl:l.length≤1000)(h1:1≤M)(hm:M≤65536):Calls Tryz.prog 61 #[.string ⟨l.toArray⟩,.int .i64 10,.int .i64 (M:Nat)] w (NuPost w M l):=by
 refine(number_any ⟨l.toArray⟩ 10 M w (by simpa[ByteArray.size] using hl) (by decide) hm h1).mono ?_
 rintro e w' ⟨rfl,hb⟩
 have hd:∀n,n<M→l=Lib.decDigits n→numberL 10 M l=some n:=fun n hn h=>by
  unfold numberL
  rw[if_neg (by rw[h];exact decDigits_ne n),h,numL_dec M n n (Nat.le_refl _) hn]
 show NuPost w M l (.returned (numV (numberL 10 M l))) w'
 cases hx:numberL 10 M l with
 |none=>exact⟨0,.bool false,rfl,by omega,(fun n hn h=>by have:=hd n hn h;rw[hx] at this;cases this),hb⟩
 |some u=>exact⟨u,.bool true,rfl,numberL_bd h1 hx,(fun n hn h=>by have:=hd n hn h;rw[hx] at this;exact Option.some.inj this),hb⟩
theorem rkread_post {w w':World}{tmps:Array Value}{k:Ky}{err:Int}(R:Value)(hp:tmps.getD 2 undef=.pointer (some ⟨w.heap.size,0,none⟩))(h3:tmps.getD 3 undef=.int .i64 err)(hc:partOf w' w.heap.size 0 37=kyV k)(hv:R=.tuple #[.agg (kyV k),.int .i64 err])(hb:Below w.heap.size w w'):
 bodyPost Tryz.prog Tryz.f23 (RetAt w R) .ret { tmps:=tmps,defers:=[] } w':=
 bodyPost_ret (v:=.tuple #[.agg (kyV k),.int .i64 err]) (results_part2 rfl _ _ w.heap.size 37 _ _ Tryz.underlying38 rfl info_rkey hp h3 (kyV k) hc rfl) rfl (.mk hv.symm hb)
theorem rkread_any (l:List UInt8)(w:World)(hs:l.length≤1000):Calls Tryz.prog 23 #[.string ⟨l.toArray⟩] w (RetAt w (kyReadV (kyRead l))):=by
 have HSP:Hid (∀w,Calls Tryz.prog 60 #[.string ⟨l.toArray⟩,.int .u8 32] w (NewStrings w (cutsL 32 l))):=Lib.hid (fun w=>cuts_any ⟨l.toArray⟩ 32 w (by simpa[ByteArray.size] using hs))
 have HPC:Hid ((cutsL 32 l).length≤1001):=Lib.hid (by have:=cutsL_count 32 l;omega)
 have HPL:Hid (∀p∈cutsL 32 l,p.length≤1000):=Lib.hid (fun p hp=>by have:=cutsL_len 32 _ p hp;omega)
 have hX0:(w.alloc (.cells (kyV kyZ) 38)).heap[w.heap.size]? =some (.cells (kyV kyZ) 38 (0,0)):=heap_alloc_new w _
 have hB0:Below w.heap.size w (w.alloc (.cells (kyV kyZ) 38)):=Below.all (Below.refl _ _) _
 have HX0:=Lib.hid hX0
 have HB0:=Lib.hid hB0
 clear hX0 hB0
 unfold kyV kyZ kyC at HX0 HB0
 simp only at HX0 HB0
 obtain⟨P,hP⟩:∃P,cutsL 32 l=P:=⟨_,rfl⟩
 rw[hP] at HSP HPC HPL
 have HP:=Lib.hid hP
 clear hP hs
 obtain⟨R,hR⟩:∃R,kyReadV (kyRead l)=R:=⟨_,rfl⟩
 rw[hR]
 have HR:=Lib.hid hR
 clear hR
 go_enter Tryz.func23,Tryz.ntmps23
 go_wp2_with fail
 generalize w.alloc _=w1 at*
 refine Calls.mono (HSP.out _) ?_
 rintro e w2 ⟨op,capp,rfl,HO,HB⟩
 have HOO:=Lib.hid HO
 have HB2:=Lib.hid (HB0.out.trans (HB.mono HB0.out.size))
 have HX2:=Lib.hid ((HB.block _ (Array.getElem?_eq_some_iff.1 HX0.out).1).trans HX0.out)
 clear HO HB HX0 HB0
 by_cases h5:P.length=5
 rotate_left
 ·have hn:¬((P.length:Int)=5):=by omega
  have HN:Hid (kyRead l=none):=Lib.hid (kyRead_len (by rw[HP.out];exact h5))
  have hrf:rowFree w2 w.heap.size 37=true:=by rw[rowFree_row _ _ _ _ _ HX2.out];rfl
  clear h5
  go_wp2_with fail
  exact rkread_post (k:=kyZ) _ rfl rfl (partOf_set2 HX2.out) (by rw[←HR.out,HN.out];rfl) (below_setRow HB2.out (Nat.le_refl _) _)
 obtain⟨x0,x1,x2,x3,x4,rfl⟩:=five h5
 clear h5
 have hl0:=HPL.out x0 (by simp)
 have hl1:=HPL.out x1 (by simp)
 have hl2:=HPL.out x2 (by simp)
 have hl3:=HPL.out x3 (by simp)
 have hl4:=HPL.out x4 (by simp)
 have HU0:Hid (∀w',Calls Tryz.prog 61 #[.string ⟨x0.toArray⟩,.int .i64 10,.int .i64 256] w' (NuPost w' 256 x0)):=Lib.hid fun w'=>nu_any x0 256 w' (by omega) (by decide) (by decide)
 have HU2:Hid (∀w',Calls Tryz.prog 61 #[.string ⟨x2.toArray⟩,.int .i64 10,.int .i64 65536] w' (NuPost w' 65536 x2)):=Lib.hid fun w'=>nu_any x2 65536 w' (by omega) (by decide) (by decide)
 have HU4:Hid (∀w',Calls Tryz.prog 61 #[.string ⟨x4.toArray⟩,.int .i64 10,.int .i64 65536] w' (NuPost w' 65536 x4)):=Lib.hid fun w'=>nu_any x4 65536 w' (by omega) (by decide) (by decide)
 have HPA:Hid (∀w',Calls Tryz.prog 62 #[.string ⟨x1.toArray⟩] w' (RetAt w' (parseV (parseL x1)))):=Lib.hid fun w'=>rparse_any ⟨x1.toArray⟩ w' (by simp[ByteArray.size];omega)
 have HPB:Hid (∀w',Calls Tryz.prog 62 #[.string ⟨x3.toArray⟩] w' (RetAt w' (parseV (parseL x3)))):=Lib.hid fun w'=>rparse_any ⟨x3.toArray⟩ w' (by simp[ByteArray.size];omega)
 obtain⟨s1,S,e1,hv1,hc1⟩:=parse_form x1
 obtain⟨t1,T,e3,hv3,hc3⟩:=parse_form x3
 rw[hv1] at HPA
 rw[hv3] at HPB
 have HC1:=Lib.hid hc1
 have HC3:=Lib.hid hc3
 clear hl0 hl1 hl2 hl3 hl4 hv1 hv3 hc1 hc3 HPL HPC HSP
 obtain⟨g,off,hop,hbg,hg,hcc,-⟩:=HOO.out.here (by simp)
 subst hop
 have ST2:Hid (ReadSt w 38 g off [x0,x1,x2,x3,x4] w2):=Lib.hid ⟨HX2.out,fun j x hj=>hcc j (strV x) (by simp only[List.getElem?_map,hj];rfl),HB2.out⟩
 clear hcc HOO HX2 HB2 hbg hg
 have c0:=ST2.out.at 0 (x:=x0) rfl
 rw[Nat.add_zero] at c0
 simp only[List.length_cons,List.length_nil]
 go_wp2_with fail
 refine Calls.mono (HU0.out _) ?_
 rintro e w3 ⟨u0,er0,rfl,b0,hw0,hb3⟩
 have HW0:=Lib.hid (And.intro b0 hw0)
 clear b0 hw0
 have ST3:=Lib.hid (ST2.out.go hb3)
 clear hb3 c0 ST2
 have c2:=ST3.out.at 2 (x:=x2) rfl
 go_wp2_with fail
 refine Calls.mono (HU2.out _) ?_
 rintro e w4 ⟨u2,er2,rfl,b2,hw2,hb4⟩
 have HW2:=Lib.hid (And.intro b2 hw2)
 clear b2 hw2
 have ST4:=Lib.hid (ST3.out.go hb4)
 clear hb4 c2 ST3
 have c4:=ST4.out.at 4 (x:=x4) rfl
 go_wp2_with fail
 refine Calls.mono (HU4.out _) ?_
 rintro e w5 ⟨u4,er4,rfl,b4,hw4,hb5⟩
 have HW4:=Lib.hid (And.intro b4 hw4)
 clear b4 hw4
 have ST5:=Lib.hid (ST4.out.go hb5)
 clear hb5 c4 ST4
 have c1:=ST5.out.at 1 (x:=x1) rfl
 go_wp2_with fail
 refine Calls.mono (HPA.out _) ?_
 rintro e w6 ⟨rfl,hb6⟩
 have ST6:=Lib.hid ((ST5.out.go hb6).alloc (.cells #[.bool s1,.int .u8 (S 0),.int .u8 (S 1),.int .u8 (S 2),.int .u8 (S 3),.int .u8 (S 4),.int .u8 (S 5),.int .u8 (S 6),.int .u8 (S 7),.int .u8 (S 8),.int .u8 (S 9),.int .u8 (S 10),.int .u8 (S 11),.int .u8 (S 12),.int .u8 (S 13),.int .u8 (S 14),.int .u8 (S 15)] 36))
 have HA6:=Lib.hid (heap_alloc_new w6 (.cells #[.bool s1,.int .u8 (S 0),.int .u8 (S 1),.int .u8 (S 2),.int .u8 (S 3),.int .u8 (S 4),.int .u8 (S 5),.int .u8 (S 6),.int .u8 (S 7),.int .u8 (S 8),.int .u8 (S 9),.int .u8 (S 10),.int .u8 (S 11),.int .u8 (S 12),.int .u8 (S 13),.int .u8 (S 14),.int .u8 (S 15)] 36))
 clear hb6 c1 ST5
 unfold adV at HPB⊢
 have c3:=ST6.out.at 3 (x:=x3) rfl
 go_wp2_with fail
 obtain⟨b6,hb6⟩:∃b,b=w6.heap.size:=⟨_,rfl⟩
 rw[←hb6] at HA6⊢
 clear hb6 c3
 generalize w6.alloc _=y6 at*
 refine Calls.mono (HPB.out _) ?_
 rintro e w7 ⟨rfl,hb7⟩
 have ST7:=Lib.hid ((ST6.out.go hb7).alloc (.cells #[.bool t1,.int .u8 (T 0),.int .u8 (T 1),.int .u8 (T 2),.int .u8 (T 3),.int .u8 (T 4),.int .u8 (T 5),.int .u8 (T 6),.int .u8 (T 7),.int .u8 (T 8),.int .u8 (T 9),.int .u8 (T 10),.int .u8 (T 11),.int .u8 (T 12),.int .u8 (T 13),.int .u8 (T 14),.int .u8 (T 15)] 36))
 have HA7:=Lib.hid ((heap_alloc_old _ (.cells #[.bool t1,.int .u8 (T 0),.int .u8 (T 1),.int .u8 (T 2),.int .u8 (T 3),.int .u8 (T 4),.int .u8 (T 5),.int .u8 (T 6),.int .u8 (T 7),.int .u8 (T 8),.int .u8 (T 9),.int .u8 (T 10),.int .u8 (T 11),.int .u8 (T 12),.int .u8 (T 13),.int .u8 (T 14),.int .u8 (T 15)] 36) (Nat.lt_of_lt_of_le (Array.getElem?_eq_some_iff.1 HA6.out).1 hb7.size)).trans ((hb7.block b6 (Array.getElem?_eq_some_iff.1 HA6.out).1).trans HA6.out))
 have HT7:=Lib.hid (heap_alloc_new w7 (.cells #[.bool t1,.int .u8 (T 0),.int .u8 (T 1),.int .u8 (T 2),.int .u8 (T 3),.int .u8 (T 4),.int .u8 (T 5),.int .u8 (T 6),.int .u8 (T 7),.int .u8 (T 8),.int .u8 (T 9),.int .u8 (T 10),.int .u8 (T 11),.int .u8 (T 12),.int .u8 (T 13),.int .u8 (T 14),.int .u8 (T 15)] 36))
 have l6:b6<(w7.alloc (.cells #[.bool t1,.int .u8 (T 0),.int .u8 (T 1),.int .u8 (T 2),.int .u8 (T 3),.int .u8 (T 4),.int .u8 (T 5),.int .u8 (T 6),.int .u8 (T 7),.int .u8 (T 8),.int .u8 (T 9),.int .u8 (T 10),.int .u8 (T 11),.int .u8 (T 12),.int .u8 (T 13),.int .u8 (T 14),.int .u8 (T 15)] 36)).heap.size:=(Array.getElem?_eq_some_iff.1 HA7.out).1
 have p6:partOf (w7.alloc (.cells #[.bool t1,.int .u8 (T 0),.int .u8 (T 1),.int .u8 (T 2),.int .u8 (T 3),.int .u8 (T 4),.int .u8 (T 5),.int .u8 (T 6),.int .u8 (T 7),.int .u8 (T 8),.int .u8 (T 9),.int .u8 (T 10),.int .u8 (T 11),.int .u8 (T 12),.int .u8 (T 13),.int .u8 (T 14),.int .u8 (T 15)] 36)) b6 0 17=#[.bool s1,.int .u8 (S 0),.int .u8 (S 1),.int .u8 (S 2),.int .u8 (S 3),.int .u8 (S 4),.int .u8 (S 5),.int .u8 (S 6),.int .u8 (S 7),.int .u8 (S 8),.int .u8 (S 9),.int .u8 (S 10),.int .u8 (S 11),.int .u8 (S 12),.int .u8 (S 13),.int .u8 (S 14),.int .u8 (S 15)]:=partOf_all HA7.out rfl
 have ST7':=Lib.hid (ST6.out.go hb7)
 have hl7:w.heap.size<w7.heap.size:=ST7'.out.lt
 have hrf7:rowFree w7 w.heap.size 37=true:=ST7'.out.free
 have hm0:(u0:Int)%256=u0:=by have:=HW0.out.1;omega
 have hm2:IntKind.u16.wrap (u2:Int)=u2:=by rw[IntKind.wrap_u16];have:=HW2.out.1;omega
 have hm4:IntKind.u16.wrap (u4:Int)=u4:=by rw[IntKind.wrap_u16];have:=HW4.out.1;omega
 have hrf9:rowFree ((w7.alloc (.cells #[.bool t1,.int .u8 (T 0),.int .u8 (T 1),.int .u8 (T 2),.int .u8 (T 3),.int .u8 (T 4),.int .u8 (T 5),.int .u8 (T 6),.int .u8 (T 7),.int .u8 (T 8),.int .u8 (T 9),.int .u8 (T 10),.int .u8 (T 11),.int .u8 (T 12),.int .u8 (T 13),.int .u8 (T 14),.int .u8 (T 15)] 36)).alloc (.cells #[.bool s1,.int .u8 (S 0),.int .u8 (S 1),.int .u8 (S 2),.int .u8 (S 3),.int .u8 (S 4),.int .u8 (S 5),.int .u8 (S 6),.int .u8 (S 7),.int .u8 (S 8),.int .u8 (S 9),.int .u8 (S 10),.int .u8 (S 11),.int .u8 (S 12),.int .u8 (S 13),.int .u8 (S 14),.int .u8 (S 15),.bool t1,.int .u8 (T 0),.int .u8 (T 1),.int .u8 (T 2),.int .u8 (T 3),.int .u8 (T 4),.int .u8 (T 5),.int .u8 (T 6),.int .u8 (T 7),.int .u8 (T 8),.int .u8 (T 9),.int .u8 (T 10),.int .u8 (T 11),.int .u8 (T 12),.int .u8 (T 13),.int .u8 (T 14),.int .u8 (T 15),.int .u8 u0,.int .u16 u2,.int .u16 u4] 38)) w.heap.size 37=true:=(ST7'.out.alloc _ |>.alloc _).free
 clear hb7 ST6 HA6
 rcases HC1.out with ⟨rfl,hp1,hU1⟩|⟨rfl,hp1⟩
 rotate_left
 ·have HN:Hid (kyRead l=none):=Lib.hid (kyRead_no1 HP.out hp1)
  clear hp1
  go_wp2_with fail
  exact rkread_post (k:=kyZ) _ rfl rfl (partOf_all (ky_two _ _ ST7'.out.box) rfl) (by rw[←HR.out,HN.out];rfl) (Below.all (Below.all (below_setRow ST7'.out.bel (Nat.le_refl _) _) _) _)
 rcases HC3.out with ⟨rfl,hp3,hU3⟩|⟨rfl,hp3⟩
 rotate_left
 ·have HN:Hid (kyRead l=none):=Lib.hid (kyRead_no3 HP.out hp3)
  have HU1:=Lib.hid hU1
  clear hp1 hp3 hU1
  go_wp2_with fail
  exact rkread_post (k:=kyZ) _ rfl rfl (partOf_all (ky_two _ _ ST7'.out.box) rfl) (by rw[←HR.out,HN.out];rfl) (Below.all (Below.all (below_setRow ST7'.out.bel (Nat.le_refl _) _) _) _)
 have HIS:=Lib.hid (kyRead_is HP.out hp1 hp3 u0 u2 u4 HW0.out.1 HW2.out.1 HW4.out.1 HW0.out.2 HW2.out.2 HW4.out.2)
 have HKO:Hid (KyOk ⟨s1,S,t1,T,u0,u2,u4⟩):=Lib.hid ⟨hU1,hU3,(by show(0:Int)≤u0∧(u0:Int)<256;have:=HW0.out.1;omega),(by show(0:Int)≤u2∧(u2:Int)<65536;have:=HW2.out.1;omega),(by show(0:Int)≤u4∧(u4:Int)<65536;have:=HW4.out.1;omega)⟩
 have HTX:Hid (∀w',Calls Tryz.prog 29 #[.agg #[.bool s1,.int .u8 (S 0),.int .u8 (S 1),.int .u8 (S 2),.int .u8 (S 3),.int .u8 (S 4),.int .u8 (S 5),.int .u8 (S 6),.int .u8 (S 7),.int .u8 (S 8),.int .u8 (S 9),.int .u8 (S 10),.int .u8 (S 11),.int .u8 (S 12),.int .u8 (S 13),.int .u8 (S 14),.int .u8 (S 15),.bool t1,.int .u8 (T 0),.int .u8 (T 1),.int .u8 (T 2),.int .u8 (T 3),.int .u8 (T 4),.int .u8 (T 5),.int .u8 (T 6),.int .u8 (T 7),.int .u8 (T 8),.int .u8 (T 9),.int .u8 (T 10),.int .u8 (T 11),.int .u8 (T 12),.int .u8 (T 13),.int .u8 (T 14),.int .u8 (T 15),.int .u8 u0,.int .u16 u2,.int .u16 u4]] w' (RetAt w' (.string ⟨(kyText ⟨s1,S,t1,T,u0,u2,u4⟩).toArray⟩))):=Lib.hid fun w'=>rktext_any _ HKO.out w'
 clear hp1 hp3 hU1 hU3
 generalize kyText ⟨s1,S,t1,T,u0,u2,u4⟩=TX at*
 have ST9:=Lib.hid ((ST7'.out.alloc (.cells #[.bool t1,.int .u8 (T 0),.int .u8 (T 1),.int .u8 (T 2),.int .u8 (T 3),.int .u8 (T 4),.int .u8 (T 5),.int .u8 (T 6),.int .u8 (T 7),.int .u8 (T 8),.int .u8 (T 9),.int .u8 (T 10),.int .u8 (T 11),.int .u8 (T 12),.int .u8 (T 13),.int .u8 (T 14),.int .u8 (T 15)] 36)).alloc (.cells #[.bool s1,.int .u8 (S 0),.int .u8 (S 1),.int .u8 (S 2),.int .u8 (S 3),.int .u8 (S 4),.int .u8 (S 5),.int .u8 (S 6),.int .u8 (S 7),.int .u8 (S 8),.int .u8 (S 9),.int .u8 (S 10),.int .u8 (S 11),.int .u8 (S 12),.int .u8 (S 13),.int .u8 (S 14),.int .u8 (S 15),.bool t1,.int .u8 (T 0),.int .u8 (T 1),.int .u8 (T 2),.int .u8 (T 3),.int .u8 (T 4),.int .u8 (T 5),.int .u8 (T 6),.int .u8 (T 7),.int .u8 (T 8),.int .u8 (T 9),.int .u8 (T 10),.int .u8 (T 11),.int .u8 (T 12),.int .u8 (T 13),.int .u8 (T 14),.int .u8 (T 15),.int .u8 u0,.int .u16 u2,.int .u16 u4] 38))
 have hK9:=heap_alloc_new (w7.alloc (.cells #[.bool t1,.int .u8 (T 0),.int .u8 (T 1),.int .u8 (T 2),.int .u8 (T 3),.int .u8 (T 4),.int .u8 (T 5),.int .u8 (T 6),.int .u8 (T 7),.int .u8 (T 8),.int .u8 (T 9),.int .u8 (T 10),.int .u8 (T 11),.int .u8 (T 12),.int .u8 (T 13),.int .u8 (T 14),.int .u8 (T 15)] 36)) (.cells #[.bool s1,.int .u8 (S 0),.int .u8 (S 1),.int .u8 (S 2),.int .u8 (S 3),.int .u8 (S 4),.int .u8 (S 5),.int .u8 (S 6),.int .u8 (S 7),.int .u8 (S 8),.int .u8 (S 9),.int .u8 (S 10),.int .u8 (S 11),.int .u8 (S 12),.int .u8 (S 13),.int .u8 (S 14),.int .u8 (S 15),.bool t1,.int .u8 (T 0),.int .u8 (T 1),.int .u8 (T 2),.int .u8 (T 3),.int .u8 (T 4),.int .u8 (T 5),.int .u8 (T 6),.int .u8 (T 7),.int .u8 (T 8),.int .u8 (T 9),.int .u8 (T 10),.int .u8 (T 11),.int .u8 (T 12),.int .u8 (T 13),.int .u8 (T 14),.int .u8 (T 15),.int .u8 u0,.int .u16 u2,.int .u16 u4] 38)
 rw[show(w7.alloc (.cells #[.bool t1,.int .u8 (T 0),.int .u8 (T 1),.int .u8 (T 2),.int .u8 (T 3),.int .u8 (T 4),.int .u8 (T 5),.int .u8 (T 6),.int .u8 (T 7),.int .u8 (T 8),.int .u8 (T 9),.int .u8 (T 10),.int .u8 (T 11),.int .u8 (T 12),.int .u8 (T 13),.int .u8 (T 14),.int .u8 (T 15)] 36)).heap.size=w7.heap.size+1 by simp] at hK9
 have HK9:=Lib.hid hK9
 clear hK9
 go_wp2_with fail
 generalize (w7.alloc _).alloc _=y9 at*
 obtain⟨b9,hb9⟩:∃b,b=w7.heap.size+1:=⟨_,rfl⟩
 rw[←hb9] at HK9⊢
 have HN9:Hid (w.heap.size≠b9):=Lib.hid (by omega)
 clear hb9 hrf9 hrf7 hl7 p6 l6
 refine Calls.mono (HTX.out _) ?_
 rintro e w10 ⟨rfl,hb10⟩
 have ST10:=Lib.hid (ST9.out.go hb10)
 have HK10:=Lib.hid ((hb10.block b9 (Array.getElem?_eq_some_iff.1 HK9.out).1).trans HK9.out)
 clear hb10 ST9 HK9
 have p9:partOf w10 b9 0 37=#[.bool s1,.int .u8 (S 0),.int .u8 (S 1),.int .u8 (S 2),.int .u8 (S 3),.int .u8 (S 4),.int .u8 (S 5),.int .u8 (S 6),.int .u8 (S 7),.int .u8 (S 8),.int .u8 (S 9),.int .u8 (S 10),.int .u8 (S 11),.int .u8 (S 12),.int .u8 (S 13),.int .u8 (S 14),.int .u8 (S 15),.bool t1,.int .u8 (T 0),.int .u8 (T 1),.int .u8 (T 2),.int .u8 (T 3),.int .u8 (T 4),.int .u8 (T 5),.int .u8 (T 6),.int .u8 (T 7),.int .u8 (T 8),.int .u8 (T 9),.int .u8 (T 10),.int .u8 (T 11),.int .u8 (T 12),.int .u8 (T 13),.int .u8 (T 14),.int .u8 (T 15),.int .u8 u0,.int .u16 u2,.int .u16 u4]:=partOf_all HK10.out rfl
 have hrf:rowFree w10 w.heap.size 37=true:=ST10.out.free
 by_cases ht:TX=l
 ·have h2:=HIS.out
  rw[if_pos ht] at h2
  have HN:=Lib.hid h2
  have hq:(TX==l)=true:=by simpa using ht
  clear h2 ht HIS
  go_wp2_with fail
  exact rkread_post (k:=⟨s1,S,t1,T,u0,u2,u4⟩) _ rfl rfl (partOf_all (setRow_row ST10.out.box) rfl) (by rw[←HR.out,HN.out];rfl) (below_setRow ST10.out.bel (Nat.le_refl _) _)
 ·have h2:=HIS.out
  rw[if_neg ht] at h2
  have HN:=Lib.hid h2
  have hq:(TX==l)=false:=by simpa using ht
  clear h2 ht HIS
  go_wp2_with fail
  exact rkread_post (k:=kyZ) _ rfl rfl (partOf_all (setRow_row ST10.out.box) rfl) (by rw[←HR.out,HN.out];rfl) (below_setRow ST10.out.bel (Nat.le_refl _) _)
theorem Bx.set {W w:World}{fs:List (Nat×Obj)}{b:Nat}{old:Array Value}{t:TypeId}(h:Bx W w ((b,.cells old t (0,0))::fs))(cs:Array Value)(hb:W.heap.size≤b)(hne:∀p∈fs,p.1≠b):Bx W (w.setRow b cs) ((b,.cells cs t (0,0))::fs):=by
 refine⟨fun c o hm=>?_,below_setRow h.out hb _⟩
 rcases List.mem_cons.1 hm with e|hm
 ·cases e;exact setRow_row (h.at 0 rfl)
 ·exact(setRow_other _ _ _ _ (hne _ hm)).trans (h.all c o (List.mem_cons_of_mem _ hm))
theorem Bx.cons {W w:World}{fs:List (Nat×Obj)}{b:Nat}{o:Obj}(h:Bx W w fs)(hb:w.heap[b]? =some o):Bx W w ((b,o)::fs):=by
 refine⟨fun c o' hm=>?_,h.out⟩
 rcases List.mem_cons.1 hm with e|hm
 ·cases e;exact hb
 ·exact h.all c o' hm
theorem Bx.lts {W w:World}{fs:List (Nat×Obj)}(h:Bx W w fs):∀p∈fs,p.1<w.heap.size:=fun p hp=>(Array.getElem?_eq_some_iff.1 (h.all p.1 p.2 hp)).1
theorem Bx.grown {W w w' z:World}{fs:List (Nat×Obj)}{oa:Option Addr}(h:Bx W w fs)(hz:Bx W z fs)(hg:w.grownBy w' (oa.map Addr.block))(hn:∀a,oa=some a→z.heap.size≤a.block):Bx W w' fs:=by
 refine⟨fun b o hm=>?_,Below.grown h.out hg h.out.size (fun k hk=>?_)⟩
 ·refine(hg.block b (Array.getElem?_eq_some_iff.1 (h.all b o hm)).1 (fun e=>?_)).trans (h.all b o hm)
  obtain⟨a,ha,hab⟩:=Option.map_eq_some_iff.1 e.symm
  have h1:=hn a ha
  have h2:b<z.heap.size:=hz.lts _ hm
  omega
 ·obtain⟨a,ha,hab⟩:=Option.map_eq_some_iff.1 hk
  have h1:=hn a ha
  have h2:=hz.out.size
  omega
theorem run_equalIn_rkey (w:World)(d:Nat)(s:Bool)(S:Nat→Int)(t:Bool)(T:Nat→Int)(p a b:Int):
 (Op.equalIn (d+6) 38 (.agg #[.bool s,.int .u8 (S 0),.int .u8 (S 1),.int .u8 (S 2),.int .u8 (S 3),.int .u8 (S 4),.int .u8 (S 5),.int .u8 (S 6),.int .u8 (S 7),.int .u8 (S 8),.int .u8 (S 9),.int .u8 (S 10),.int .u8 (S 11),.int .u8 (S 12),.int .u8 (S 13),.int .u8 (S 14),.int .u8 (S 15),.bool t,.int .u8 (T 0),.int .u8 (T 1),.int .u8 (T 2),.int .u8 (T 3),.int .u8 (T 4),.int .u8 (T 5),.int .u8 (T 6),.int .u8 (T 7),.int .u8 (T 8),.int .u8 (T 9),.int .u8 (T 10),.int .u8 (T 11),.int .u8 (T 12),.int .u8 (T 13),.int .u8 (T 14),.int .u8 (T 15),.int .u8 p,.int .u16 a,.int .u16 b]) (.agg #[.bool s,.int .u8 (S 0),.int .u8 (S 1),.int .u8 (S 2),.int .u8 (S 3),.int .u8 (S 4),.int .u8 (S 5),.int .u8 (S 6),.int .u8 (S 7),.int .u8 (S 8),.int .u8 (S 9),.int .u8 (S 10),.int .u8 (S 11),.int .u8 (S 12),.int .u8 (S 13),.int .u8 (S 14),.int .u8 (S 15),.bool t,.int .u8 (T 0),.int .u8 (T 1),.int .u8 (T 2),.int .u8 (T 3),.int .u8 (T 4),.int .u8 (T 5),.int .u8 (T 6),.int .u8 (T 7),.int .u8 (T 8),.int .u8 (T 9),.int .u8 (T 10),.int .u8 (T 11),.int .u8 (T 12),.int .u8 (T 13),.int .u8 (T 14),.int .u8 (T 15),.int .u8 p,.int .u16 a,.int .u16 b])).run Tryz.prog w=.ok true w:=by
 simp[go_sem,eqL_self]
attribute [go_sem 5000] run_equalIn_rkey
theorem kyRead_form (l:List UInt8):∃k e,kyReadV (kyRead l)=.tuple #[.agg (kyV k),.int .i64 e]:=by
 unfold kyReadV
 split
 ·exact⟨_,_,rfl⟩
 ·exact⟨_,_,rfl⟩
theorem keys_any (k1 k2:Ky)(s:ByteArray)(h1:KyOk k1)(h2:KyOk k2)(w:World)(henv:Env w):Calls Tryz.prog 6 #[.agg (kyV k1),.agg (kyV k2),.string s] w (RetAt w (.bool true)):=by
 have HE:=Lib.hid henv
 obtain⟨s1,S1,t1,T1,p1,a1,b1⟩:=k1
 obtain⟨s2,S2,t2,T2,p2,a2,b2⟩:=k2
 show Calls Tryz.prog 6 #[.agg (kyC s1 S1 t1 T1 p1 a1 b1),.agg (kyC s2 S2 t2 T2 p2 a2 b2),.string s] w _
 have BX0:Hid (Bx w ((w.alloc (.cells (kyC s1 S1 t1 T1 p1 a1 b1) 30)).alloc (.cells (kyC s2 S2 t2 T2 p2 a2 b2) 30)) [(w.heap.size+1,.cells (kyC s2 S2 t2 T2 p2 a2 b2) 30 (0,0)),(w.heap.size,.cells (kyC s1 S1 t1 T1 p1 a1 b1) 30 (0,0))]):=Lib.hid (by
  have hbx:=((Bx.start w).box (kyC s1 S1 t1 T1 p1 a1 b1) 30).box (kyC s2 S2 t2 T2 p2 a2 b2) 30
  rw[show(w.alloc (.cells (kyC s1 S1 t1 T1 p1 a1 b1) 30)).heap.size=w.heap.size+1 by simp] at hbx
  exact hbx)
 by_cases hn:s.size≤120
 rotate_left
 ·have hn2:(s.size:Int)>120:=by omega
  clear h1 h2 henv
  unfold kyC at*
  go_enter Tryz.func6,Tryz.ntmps6
  go_wp2_with fail
  refine Calls.mono (works8_any _ (HE.out.below BX0.out.out)) ?_
  rintro e w2 ⟨rfl,hb⟩
  have HB:=Lib.hid (Below.via BX0.out.out hb)
  clear hb
  go_wp2_with fail
  go_ret
  exact .mk rfl HB.out
 obtain⟨l,hl⟩:∃l:List UInt8,s=⟨l.toArray⟩:=⟨s.data.toList,by cases s;simp⟩
 have hsz:l.length≤1000:=by
  have:s.size=l.length:=by rw[hl];simp[ByteArray.size]
  omega
 obtain⟨⟨s3,S3,t3,T3,p3,a3,b3⟩,er,hkr⟩:=kyRead_form l
 have HRD:Hid (∀w,Env w→Calls Tryz.prog 22 #[.string s] w (RetAt w (.tuple #[.agg (kyC s3 S3 t3 T3 p3 a3 b3),.int .i64 er]))):=Lib.hid fun w h=>by
  have:=kread_any l w hsz h
  rw[hkr,←hl] at this
  exact this
 have HRR:Hid (∀w,Calls Tryz.prog 23 #[.string s] w (RetAt w (.tuple #[.agg (kyC s3 S3 t3 T3 p3 a3 b3),.int .i64 er]))):=Lib.hid fun w=>by
  have:=rkread_any l w hsz
  rw[hkr,←hl] at this
  exact this
 have HB1:Hid (∀w,Calls Tryz.prog 24 #[.agg (kyC s1 S1 t1 T1 p1 a1 b1)] w (NewBytes w (kyBytes ⟨s1,S1,t1,T1,p1,a1,b1⟩))):=Lib.hid fun w=>kbytes_any _ h1 w
 have HB2:Hid (∀w,Calls Tryz.prog 25 #[.agg (kyC s1 S1 t1 T1 p1 a1 b1)] w (NewBytes w (kyBytes ⟨s1,S1,t1,T1,p1,a1,b1⟩))):=Lib.hid fun w=>rkbytes_any _ h1 w
 have HU:=Lib.hid (kyBytes_byte _ h1)
 have HM:Hid ((kyBytes ⟨s1,S1,t1,T1,p1,a1,b1⟩).length≤1000000):=Lib.hid (by have:=kyBytes_len ⟨s1,S1,t1,T1,p1,a1,b1⟩;omega)
 have HR1:Hid (∀w,Calls Tryz.prog 26 #[.agg (kyC s1 S1 t1 T1 p1 a1 b1)] w (RetAt w (.bool (kyRight ⟨s1,S1,t1,T1,p1,a1,b1⟩)))):=Lib.hid fun w=>kright_any _ _ _ _ _ _ _ w
 have HR2:Hid (∀w,Calls Tryz.prog 27 #[.agg (kyC s1 S1 t1 T1 p1 a1 b1)] w (RetAt w (.bool (kyRight ⟨s1,S1,t1,T1,p1,a1,b1⟩)))):=Lib.hid fun w=>rkright_any _ _ _ _ _ _ _ w
 have HT1:Hid (∀w,Env w→Calls Tryz.prog 28 #[.agg (kyC s1 S1 t1 T1 p1 a1 b1)] w (RetAt w (.string ⟨(kyText ⟨s1,S1,t1,T1,p1,a1,b1⟩).toArray⟩))):=Lib.hid fun w h=>ktext_any _ h1 w h
 have HT2:Hid (∀w,Calls Tryz.prog 29 #[.agg (kyC s1 S1 t1 T1 p1 a1 b1)] w (RetAt w (.string ⟨(kyText ⟨s1,S1,t1,T1,p1,a1,b1⟩).toArray⟩))):=Lib.hid fun w=>rktext_any _ h1 w
 have HC1:Hid (∀w,Calls Tryz.prog 30 #[.agg (kyC s1 S1 t1 T1 p1 a1 b1),.agg (kyC s2 S2 t2 T2 p2 a2 b2)] w (RetAt w (.int .i64 (kyCmp ⟨s1,S1,t1,T1,p1,a1,b1⟩ ⟨s2,S2,t2,T2,p2,a2,b2⟩)))):=Lib.hid fun w=>kcmp_any _ _ h1 h2 w
 have HC2:Hid (∀w,Calls Tryz.prog 31 #[.agg (kyC s1 S1 t1 T1 p1 a1 b1),.agg (kyC s2 S2 t2 T2 p2 a2 b2)] w (RetAt w (.int .i64 (kyCmp ⟨s1,S1,t1,T1,p1,a1,b1⟩ ⟨s2,S2,t2,T2,p2,a2,b2⟩)))):=Lib.hid fun w=>rkcmp_any _ _ h1 h2 w
 have HD1:Hid (∀w,Calls Tryz.prog 21 #[.agg (kyC s1 S1 t1 T1 p1 a1 b1)] w (RetAt w (.agg (kyC s1 S1 t1 T1 p1 a1 b1)))):=Lib.hid fun w=>docskey_any _ _ _ _ _ _ _ w
 have HD2:Hid (∀w,Calls Tryz.prog 21 #[.agg (kyC s2 S2 t2 T2 p2 a2 b2)] w (RetAt w (.agg (kyC s2 S2 t2 T2 p2 a2 b2)))):=Lib.hid fun w=>docskey_any _ _ _ _ _ _ _ w
 have HD3:Hid (∀w,Calls Tryz.prog 21 #[.agg (kyC s3 S3 t3 T3 p3 a3 b3)] w (RetAt w (.agg (kyC s3 S3 t3 T3 p3 a3 b3)))):=Lib.hid fun w=>docskey_any _ _ _ _ _ _ _ w
 clear hkr h1 h2 henv hsz hl
 generalize kyBytes ⟨s1,S1,t1,T1,p1,a1,b1⟩=LB at*
 generalize kyRight ⟨s1,S1,t1,T1,p1,a1,b1⟩=r1 at*
 generalize kyText ⟨s1,S1,t1,T1,p1,a1,b1⟩=TX at*
 generalize kyCmp ⟨s1,S1,t1,T1,p1,a1,b1⟩ ⟨s2,S2,t2,T2,p2,a2,b2⟩=cm at*
 have hq1:(r1==r1)=true:=by simp
 have hq2:(TX==TX)=true:=by simp
 have hq3:(cm==cm)=true:=by simp
 have hq4:(er==er)=true:=by simp
 have hn2:¬((s.size:Int)>120):=by omega
 unfold kyC at*
 go_enter Tryz.func6,Tryz.ntmps6
 go_wp2_with fail
 generalize (w.alloc _).alloc _=w1 at*
 refine wp_region_fresh 4 (.cells #[.bool false,.int .u8 0,.int .u8 0,.int .u8 0,.int .u8 0,.int .u8 0,.int .u8 0,.int .u8 0,.int .u8 0,.int .u8 0,.int .u8 0,.int .u8 0,.int .u8 0,.int .u8 0,.int .u8 0,.int .u8 0,.int .u8 0,.bool false,.int .u8 0,.int .u8 0,.int .u8 0,.int .u8 0,.int .u8 0,.int .u8 0,.int .u8 0,.int .u8 0,.int .u8 0,.int .u8 0,.int .u8 0,.int .u8 0,.int .u8 0,.int .u8 0,.int .u8 0,.int .u8 0,.int .u8 0,.int .u16 0,.int .u16 0] 38) (.cells #[.bool false,.int .u8 0,.int .u8 0,.int .u8 0,.int .u8 0,.int .u8 0,.int .u8 0,.int .u8 0,.int .u8 0,.int .u8 0,.int .u8 0,.int .u8 0,.int .u8 0,.int .u8 0,.int .u8 0,.int .u8 0,.int .u8 0,.bool false,.int .u8 0,.int .u8 0,.int .u8 0,.int .u8 0,.int .u8 0,.int .u8 0,.int .u8 0,.int .u8 0,.int .u8 0,.int .u8 0,.int .u8 0,.int .u8 0,.int .u8 0,.int .u8 0,.int .u8 0,.int .u8 0,.int .u8 0,.int .u16 0,.int .u16 0] 38) (by kernel_rfl) (by kernel_rfl) rfl rfl rfl rfl (by decide) (by kernel_rfl) ⟨fun _=>rfl,fun _ _=>by kernel_rfl⟩ ⟨fun _=>rfl,fun _ _=>by kernel_rfl⟩ ?_
 apply Exists.intro
 refine⟨fun wx hbx=>?_,?_⟩
 ·have BXx:=Lib.hid (BX0.out.go hbx)
  have pA:partOf wx w.heap.size 0 37=_:=BXx.out.part 1 rfl rfl
  have lA:=BXx.out.lt 1 rfl
  have pB:partOf wx (w.heap.size+1) 0 37=_:=BXx.out.part 0 rfl rfl
  have lB:=BXx.out.lt 0 rfl
  clear hbx
  simp only[List.take_succ_cons,List.take_zero]
  repeat go_big_quiet_step (fail)
  go_big_quiet_step ((go_at_call 21;exact later_call (HD1.out _)))
  repeat go_big_quiet_step (fail)
  go_big_quiet_step ((go_at_call 21;exact later_call (HD2.out _)))
  repeat go_big_quiet_step (fail)
  exact wpQuiet_nil rfl
 intro gp gq wn hbn hgp hgq hgne hcp hcq
 simp only[List.drop_succ_cons,List.drop_zero]
 have q1:=BX0.out.lt 1 rfl
 have q2:=BX0.out.lt 0 rfl
 have hfP:rowFree wn gp 37=true:=by rw[rowFree_row _ _ _ _ _ hcp];rfl
 have hcq1:=(setRow_other wn gp gq #[.bool s1,.int .u8 (S1 0),.int .u8 (S1 1),.int .u8 (S1 2),.int .u8 (S1 3),.int .u8 (S1 4),.int .u8 (S1 5),.int .u8 (S1 6),.int .u8 (S1 7),.int .u8 (S1 8),.int .u8 (S1 9),.int .u8 (S1 10),.int .u8 (S1 11),.int .u8 (S1 12),.int .u8 (S1 13),.int .u8 (S1 14),.int .u8 (S1 15),.bool t1,.int .u8 (T1 0),.int .u8 (T1 1),.int .u8 (T1 2),.int .u8 (T1 3),.int .u8 (T1 4),.int .u8 (T1 5),.int .u8 (T1 6),.int .u8 (T1 7),.int .u8 (T1 8),.int .u8 (T1 9),.int .u8 (T1 10),.int .u8 (T1 11),.int .u8 (T1 12),.int .u8 (T1 13),.int .u8 (T1 14),.int .u8 (T1 15),.int .u8 p1,.int .u16 a1,.int .u16 b1] (Ne.symm hgne)).trans hcq
 have hfQ:rowFree (wn.setRow gp #[.bool s1,.int .u8 (S1 0),.int .u8 (S1 1),.int .u8 (S1 2),.int .u8 (S1 3),.int .u8 (S1 4),.int .u8 (S1 5),.int .u8 (S1 6),.int .u8 (S1 7),.int .u8 (S1 8),.int .u8 (S1 9),.int .u8 (S1 10),.int .u8 (S1 11),.int .u8 (S1 12),.int .u8 (S1 13),.int .u8 (S1 14),.int .u8 (S1 15),.bool t1,.int .u8 (T1 0),.int .u8 (T1 1),.int .u8 (T1 2),.int .u8 (T1 3),.int .u8 (T1 4),.int .u8 (T1 5),.int .u8 (T1 6),.int .u8 (T1 7),.int .u8 (T1 8),.int .u8 (T1 9),.int .u8 (T1 10),.int .u8 (T1 11),.int .u8 (T1 12),.int .u8 (T1 13),.int .u8 (T1 14),.int .u8 (T1 15),.int .u8 p1,.int .u16 a1,.int .u16 b1]) gq 37=true:=by rw[rowFree_row _ _ _ _ _ hcq1];rfl
 have X1:=(Bx.cons (BX0.out.go hbn) hcp).set #[.bool s1,.int .u8 (S1 0),.int .u8 (S1 1),.int .u8 (S1 2),.int .u8 (S1 3),.int .u8 (S1 4),.int .u8 (S1 5),.int .u8 (S1 6),.int .u8 (S1 7),.int .u8 (S1 8),.int .u8 (S1 9),.int .u8 (S1 10),.int .u8 (S1 11),.int .u8 (S1 12),.int .u8 (S1 13),.int .u8 (S1 14),.int .u8 (S1 15),.bool t1,.int .u8 (T1 0),.int .u8 (T1 1),.int .u8 (T1 2),.int .u8 (T1 3),.int .u8 (T1 4),.int .u8 (T1 5),.int .u8 (T1 6),.int .u8 (T1 7),.int .u8 (T1 8),.int .u8 (T1 9),.int .u8 (T1 10),.int .u8 (T1 11),.int .u8 (T1 12),.int .u8 (T1 13),.int .u8 (T1 14),.int .u8 (T1 15),.int .u8 p1,.int .u16 a1,.int .u16 b1] (by omega) (by intro p hp;simp only[List.mem_cons,List.not_mem_nil,or_false] at hp;rcases hp with rfl|rfl<;>simp only<;>omega)
 have BX1:=Lib.hid ((Bx.cons X1 hcq1).set #[.bool s2,.int .u8 (S2 0),.int .u8 (S2 1),.int .u8 (S2 2),.int .u8 (S2 3),.int .u8 (S2 4),.int .u8 (S2 5),.int .u8 (S2 6),.int .u8 (S2 7),.int .u8 (S2 8),.int .u8 (S2 9),.int .u8 (S2 10),.int .u8 (S2 11),.int .u8 (S2 12),.int .u8 (S2 13),.int .u8 (S2 14),.int .u8 (S2 15),.bool t2,.int .u8 (T2 0),.int .u8 (T2 1),.int .u8 (T2 2),.int .u8 (T2 3),.int .u8 (T2 4),.int .u8 (T2 5),.int .u8 (T2 6),.int .u8 (T2 7),.int .u8 (T2 8),.int .u8 (T2 9),.int .u8 (T2 10),.int .u8 (T2 11),.int .u8 (T2 12),.int .u8 (T2 13),.int .u8 (T2 14),.int .u8 (T2 15),.int .u8 p2,.int .u16 a2,.int .u16 b2] (by omega) (by intro p hp;simp only[List.mem_cons,List.not_mem_nil,or_false] at hp;rcases hp with rfl|rfl|rfl<;>simp only<;>first|exact hgne|omega))
 clear X1 hcp hcq hcq1 hbn BX0
 simp only[Act.put,ptrTo,List.setIfInBounds_toArray,List.set_cons_succ,List.set_cons_zero]
 go_wp2_with fail
 clear hfP hfQ hgp hgq hgne q1 q2
 generalize (wn.setRow gp _).setRow gq _=wm at*
 refine BX1.out.ret (HRD.out _ (HE.out.below BX1.out.out)) ?_
 intro u1 hb1 BU1
 have BX2:=Lib.hid (BU1.out.box #[.bool s3,.int .u8 (S3 0),.int .u8 (S3 1),.int .u8 (S3 2),.int .u8 (S3 3),.int .u8 (S3 4),.int .u8 (S3 5),.int .u8 (S3 6),.int .u8 (S3 7),.int .u8 (S3 8),.int .u8 (S3 9),.int .u8 (S3 10),.int .u8 (S3 11),.int .u8 (S3 12),.int .u8 (S3 13),.int .u8 (S3 14),.int .u8 (S3 15),.bool t3,.int .u8 (T3 0),.int .u8 (T3 1),.int .u8 (T3 2),.int .u8 (T3 3),.int .u8 (T3 4),.int .u8 (T3 5),.int .u8 (T3 6),.int .u8 (T3 7),.int .u8 (T3 8),.int .u8 (T3 9),.int .u8 (T3 10),.int .u8 (T3 11),.int .u8 (T3 12),.int .u8 (T3 13),.int .u8 (T3 14),.int .u8 (T3 15),.int .u8 p3,.int .u16 a3,.int .u16 b3] 30)
 clear hb1 BU1 BX1 HRD
 obtain⟨b5,hq5⟩:∃b,b=u1.heap.size:=⟨_,rfl⟩
 go_wp2_with fail
 rw[←hq5] at BX2⊢
 clear hq5
 generalize u1.alloc _=y1 at*
 refine BX2.out.ret (HRR.out _) ?_
 intro u2 hb2 BU2
 have BX3:=Lib.hid (BU2.out.box #[.bool s3,.int .u8 (S3 0),.int .u8 (S3 1),.int .u8 (S3 2),.int .u8 (S3 3),.int .u8 (S3 4),.int .u8 (S3 5),.int .u8 (S3 6),.int .u8 (S3 7),.int .u8 (S3 8),.int .u8 (S3 9),.int .u8 (S3 10),.int .u8 (S3 11),.int .u8 (S3 12),.int .u8 (S3 13),.int .u8 (S3 14),.int .u8 (S3 15),.bool t3,.int .u8 (T3 0),.int .u8 (T3 1),.int .u8 (T3 2),.int .u8 (T3 3),.int .u8 (T3 4),.int .u8 (T3 5),.int .u8 (T3 6),.int .u8 (T3 7),.int .u8 (T3 8),.int .u8 (T3 9),.int .u8 (T3 10),.int .u8 (T3 11),.int .u8 (T3 12),.int .u8 (T3 13),.int .u8 (T3 14),.int .u8 (T3 15),.int .u8 p3,.int .u16 a3,.int .u16 b3] 38)
 clear hb2 BU2 BX2 HRR
 obtain⟨b6,hq6⟩:∃b,b=u2.heap.size:=⟨_,rfl⟩
 go_wp2_with fail
 rw[←hq6] at BX3⊢
 clear hq6
 generalize u2.alloc _=y2 at*
 go_loopw [13,14] (fun u13 u14 wr=>∃k:Nat,k≤2∧u13=.int .i64 k∧Hid (Bx w wr [(b6,.cells #[.bool s3,.int .u8 (S3 0),.int .u8 (S3 1),.int .u8 (S3 2),.int .u8 (S3 3),.int .u8 (S3 4),.int .u8 (S3 5),.int .u8 (S3 6),.int .u8 (S3 7),.int .u8 (S3 8),.int .u8 (S3 9),.int .u8 (S3 10),.int .u8 (S3 11),.int .u8 (S3 12),.int .u8 (S3 13),.int .u8 (S3 14),.int .u8 (S3 15),.bool t3,.int .u8 (T3 0),.int .u8 (T3 1),.int .u8 (T3 2),.int .u8 (T3 3),.int .u8 (T3 4),.int .u8 (T3 5),.int .u8 (T3 6),.int .u8 (T3 7),.int .u8 (T3 8),.int .u8 (T3 9),.int .u8 (T3 10),.int .u8 (T3 11),.int .u8 (T3 12),.int .u8 (T3 13),.int .u8 (T3 14),.int .u8 (T3 15),.int .u8 p3,.int .u16 a3,.int .u16 b3] 38 (0,0)),(b5,.cells #[.bool s3,.int .u8 (S3 0),.int .u8 (S3 1),.int .u8 (S3 2),.int .u8 (S3 3),.int .u8 (S3 4),.int .u8 (S3 5),.int .u8 (S3 6),.int .u8 (S3 7),.int .u8 (S3 8),.int .u8 (S3 9),.int .u8 (S3 10),.int .u8 (S3 11),.int .u8 (S3 12),.int .u8 (S3 13),.int .u8 (S3 14),.int .u8 (S3 15),.bool t3,.int .u8 (T3 0),.int .u8 (T3 1),.int .u8 (T3 2),.int .u8 (T3 3),.int .u8 (T3 4),.int .u8 (T3 5),.int .u8 (T3 6),.int .u8 (T3 7),.int .u8 (T3 8),.int .u8 (T3 9),.int .u8 (T3 10),.int .u8 (T3 11),.int .u8 (T3 12),.int .u8 (T3 13),.int .u8 (T3 14),.int .u8 (T3 15),.int .u8 p3,.int .u16 a3,.int .u16 b3] 30 (0,0)),(gq,.cells #[.bool s2,.int .u8 (S2 0),.int .u8 (S2 1),.int .u8 (S2 2),.int .u8 (S2 3),.int .u8 (S2 4),.int .u8 (S2 5),.int .u8 (S2 6),.int .u8 (S2 7),.int .u8 (S2 8),.int .u8 (S2 9),.int .u8 (S2 10),.int .u8 (S2 11),.int .u8 (S2 12),.int .u8 (S2 13),.int .u8 (S2 14),.int .u8 (S2 15),.bool t2,.int .u8 (T2 0),.int .u8 (T2 1),.int .u8 (T2 2),.int .u8 (T2 3),.int .u8 (T2 4),.int .u8 (T2 5),.int .u8 (T2 6),.int .u8 (T2 7),.int .u8 (T2 8),.int .u8 (T2 9),.int .u8 (T2 10),.int .u8 (T2 11),.int .u8 (T2 12),.int .u8 (T2 13),.int .u8 (T2 14),.int .u8 (T2 15),.int .u8 p2,.int .u16 a2,.int .u16 b2] 38 (0,0)),(gp,.cells #[.bool s1,.int .u8 (S1 0),.int .u8 (S1 1),.int .u8 (S1 2),.int .u8 (S1 3),.int .u8 (S1 4),.int .u8 (S1 5),.int .u8 (S1 6),.int .u8 (S1 7),.int .u8 (S1 8),.int .u8 (S1 9),.int .u8 (S1 10),.int .u8 (S1 11),.int .u8 (S1 12),.int .u8 (S1 13),.int .u8 (S1 14),.int .u8 (S1 15),.bool t1,.int .u8 (T1 0),.int .u8 (T1 1),.int .u8 (T1 2),.int .u8 (T1 3),.int .u8 (T1 4),.int .u8 (T1 5),.int .u8 (T1 6),.int .u8 (T1 7),.int .u8 (T1 8),.int .u8 (T1 9),.int .u8 (T1 10),.int .u8 (T1 11),.int .u8 (T1 12),.int .u8 (T1 13),.int .u8 (T1 14),.int .u8 (T1 15),.int .u8 p1,.int .u16 a1,.int .u16 b1] 38 (0,0)),(w.heap.size+1,.cells #[.bool s2,.int .u8 (S2 0),.int .u8 (S2 1),.int .u8 (S2 2),.int .u8 (S2 3),.int .u8 (S2 4),.int .u8 (S2 5),.int .u8 (S2 6),.int .u8 (S2 7),.int .u8 (S2 8),.int .u8 (S2 9),.int .u8 (S2 10),.int .u8 (S2 11),.int .u8 (S2 12),.int .u8 (S2 13),.int .u8 (S2 14),.int .u8 (S2 15),.bool t2,.int .u8 (T2 0),.int .u8 (T2 1),.int .u8 (T2 2),.int .u8 (T2 3),.int .u8 (T2 4),.int .u8 (T2 5),.int .u8 (T2 6),.int .u8 (T2 7),.int .u8 (T2 8),.int .u8 (T2 9),.int .u8 (T2 10),.int .u8 (T2 11),.int .u8 (T2 12),.int .u8 (T2 13),.int .u8 (T2 14),.int .u8 (T2 15),.int .u8 p2,.int .u16 a2,.int .u16 b2] 30 (0,0)),(w.heap.size,.cells #[.bool s1,.int .u8 (S1 0),.int .u8 (S1 1),.int .u8 (S1 2),.int .u8 (S1 3),.int .u8 (S1 4),.int .u8 (S1 5),.int .u8 (S1 6),.int .u8 (S1 7),.int .u8 (S1 8),.int .u8 (S1 9),.int .u8 (S1 10),.int .u8 (S1 11),.int .u8 (S1 12),.int .u8 (S1 13),.int .u8 (S1 14),.int .u8 (S1 15),.bool t1,.int .u8 (T1 0),.int .u8 (T1 1),.int .u8 (T1 2),.int .u8 (T1 3),.int .u8 (T1 4),.int .u8 (T1 5),.int .u8 (T1 6),.int .u8 (T1 7),.int .u8 (T1 8),.int .u8 (T1 9),.int .u8 (T1 10),.int .u8 (T1 11),.int .u8 (T1 12),.int .u8 (T1 13),.int .u8 (T1 14),.int .u8 (T1 15),.int .u8 p1,.int .u16 a1,.int .u16 b1] 30 (0,0))])) (fun u13 _ _=>(2:Int)-intOf u13 |>.toNat)
 case atStart=>exact⟨0,by omega,rfl,BX3⟩
 case round=>
  obtain⟨k,hk,rfl,BX⟩:=hrel
  clear BX3
  by_cases hlt:k<2
  ·have pA:partOf wr w.heap.size 0 37=_:=BX.out.part 5 rfl rfl
   have lA:=BX.out.lt 5 rfl
   go_wp2_with fail
   refine Calls.mono (HB1.out _) ?_
   rintro e v1 ⟨oa,cap,rfl,ho,hb⟩
   have BXb:=Lib.hid (BX.out.go hb)
   have HO:=Lib.hid ho
   clear ho hb pA lA
   have pX:partOf v1 gp 0 37=_:=BXb.out.part 3 rfl rfl
   have lX:=BXb.out.lt 3 rfl
   go_wp2_with fail
   refine Calls.mono (HB2.out _) ?_
   rintro e v2 ⟨o2,c2,rfl,ho2,hb⟩
   have BXc:=Lib.hid (BXb.out.go hb)
   have HO2:=Lib.hid (HO.out.below hb)
   have HR:=Lib.hid (ho2.reads HU.out)
   clear ho2 hb pX lX BXb HO
   go_wp2_with fail
   refine Calls.mono (same_any oa LB.length cap o2 c2 LB _ (HO2.out.reads HU.out) HR.out HM.out) ?_
   rintro e v3 ⟨rfl,hb⟩
   have BXd:=Lib.hid (BXc.out.go hb)
   have HO3:=Lib.hid (HO2.out.below hb)
   clear hb BXc HO2 HR
   go_wp2_with fail
   refine Calls.mono (spoil_any oa LB.length cap _ _ _ HO3.out HM.out) ?_
   rintro e v4 ⟨rfl,hg,hsz⟩
   have BXe:=Lib.hid (BXd.out.grown BX.out hg (fun a ha=>(HO3.out.lt ha).1))
   clear hg hsz BXd HO3
   go_wp2_with fail
   go_roundw
   case rel=>exact⟨k+1,by omega,by go_num,BXe⟩
   case measure=>simp[intOf];omega
  ·obtain rfl:k=2:=by omega
   have pA:partOf wr w.heap.size 0 37=_:=BX.out.part 5 rfl rfl
   have lA:=BX.out.lt 5 rfl
   have pB:partOf wr (w.heap.size+1) 0 37=_:=BX.out.part 4 rfl rfl
   have lB:=BX.out.lt 4 rfl
   have pX:partOf wr gp 0 37=_:=BX.out.part 3 rfl rfl
   have lX:=BX.out.lt 3 rfl
   have pY:partOf wr gq 0 37=_:=BX.out.part 2 rfl rfl
   have lY:=BX.out.lt 2 rfl
   have pK:partOf wr b5 0 37=_:=BX.out.part 1 rfl rfl
   have lK:=BX.out.lt 1 rfl
   have pR:partOf wr b6 0 37=_:=BX.out.part 0 rfl rfl
   have lR:=BX.out.lt 0 rfl
   have HT1':=Lib.hid (fun(x:Later wr)=>HT1.out x.world ((HE.out.below BX.out.out).later x))
   have HWO:=Lib.hid (fun(x:Later wr)=>works8_any x.world ((HE.out.below BX.out.out).later x))
   go_wp2_with fail
   refine wp_region_later (by kernel_rfl) (by kernel_rfl) ?_
   repeat go_big_quiet_step (first
    |(go_at_call 26;exact later_call (HR1.out _))
    |(go_at_call 27;exact later_call (HR2.out _))
    |(go_at_call 28;exact later_call (HT1'.out _))
    |(go_at_call 29;exact later_call (HT2.out _))
    |(go_at_call 30;exact later_call (HC1.out _))
    |(go_at_call 31;exact later_call (HC2.out _))
    |(go_at_call 21;exact later_call (HD3.out _))
    |(go_at_call 9;exact later_call (HWO.out _)))
   refine wpQuiet_nil ?_
   intro x
   go_wp2_with fail
   go_ret
   exact .mk rfl (BX.out.out.trans (x.below.mono BX.out.out.size))
open Go.ChangeShapes Go.WideShapes Go.ChangeAt Go.RowKit
def seatLaid:List (String×DataW Unit):=[("math/bits.deBruijn32tab",Rows.laid_math_bits_deBruijn32tab),("math/bits.deBruijn64tab",Rows.laid_math_bits_deBruijn64tab),("internal/strconv.uint64pow10",Rows.laid_internal_strconv_uint64pow10),("unicode/utf8.acceptRanges",Rows.laid_unicode_utf8_acceptRanges),("strconv.ErrRange",Rows.laid_strconv_ErrRange),("strconv.ErrSyntax",Rows.laid_strconv_ErrSyntax),("unicode/utf8.first",Rows.laid_unicode_utf8_first)]
def bits64:List Int:=[0,1,56,2,57,49,28,3,61,58,42,50,38,29,17,4,62,47,59,36,45,43,51,22,53,39,33,30,24,18,12,5,63,55,48,27,60,41,37,16,46,35,44,21,52,32,23,11,54,26,40,15,34,20,31,10,25,14,19,9,13,8,7,6]
theorem bits64_is:(Rows.laid_math_bits_deBruijn64tab:DataW Unit)=Lib.tabData .u8 bits64:=by kernel_rfl
theorem pow10_is:(Rows.laid_internal_strconv_uint64pow10:DataW Unit)=Lib.tabData .u64 Lib.pow10Tab:=by kernel_rfl
theorem star_is: "*"++ "errors.errorString"= "*errors.errorString":=by decide
theorem row_err (u:TypeId)(h:Tryz.prog.typeName? 3 u=some "*errors.errorString"):u=311:=
 typeName_ptr_named (nm:= "errors.errorString") (by rw[star_is];kernel_rfl) (by kernel_rfl) (by decide) u (by rw[star_is];exact h)
theorem env_of_laid {W:World}(h:laidMetH Tryz.prog seatLaid W)(hs:W.ShapedOpen Tryz.prog):Env W:=by
 rw[MakeChecks.laidMetH_plain _ _ _ (by kernel_rfl)] at h
 have h1:=h.tail
 have h2:=h1.tail
 have h4:=h2.tail.tail
 have h5:=h4.tail
 obtain⟨a4,s4,hv4,-⟩:=laid_sentinel h4 (g:=2) (ti:=126) (tp:=311) (te:=313) (ts:=9) (by kernel_rfl) (by kernel_rfl) Tryz.underlying126 row_err Tryz.underlying311 Tryz.underlying313 rfl rfl Tryz.underlying9 (by kernel_rfl) (by kernel_rfl)
 obtain⟨a5,s5,hv5,-⟩:=laid_sentinel h5 (g:=1) (ti:=126) (tp:=311) (te:=313) (ts:=9) (by kernel_rfl) (by kernel_rfl) Tryz.underlying126 row_err Tryz.underlying311 Tryz.underlying313 rfl rfl Tryz.underlying9 (by kernel_rfl) (by kernel_rfl)
 rw[bits64_is] at h1
 rw[pow10_is] at h2
 have ht1:=Lib.tabIs_of_head (g:=7) (t:=329) (e:=5) (n:=64) (by kernel_rfl) (by kernel_rfl) Tryz.underlying329 Tryz.underlying5 (by kernel_rfl) (by kernel_rfl) h1
 have ht2:=Lib.tabIs_of_head (g:=3) (t:=315) (e:=124) (n:=20) (by kernel_rfl) (by kernel_rfl) Tryz.underlying315 Tryz.underlying124 (by kernel_rfl) (by kernel_rfl) h2
 refine⟨cell_of_shapedOpen_int (zero:=#[.int .i64 0]) (t:=3) hs (of_decide_eq_true (by kernel_rfl)) (by kernel_rfl) rfl (by kernel_rfl) (by kernel_rfl) Tryz.underlying3,⟨311,.pointer (some a5),?_⟩,⟨311,.pointer (some a4),?_⟩,ht2,?_⟩
 ·simpa using World.var?_cell (g:=1) (by kernel_rfl) hv5 0
 ·simpa using World.var?_cell (g:=2) (by kernel_rfl) hv4 0
 ·exact Lib.TabIs.cell ht1 (by kernel_rfl) 15 (by decide)
theorem handed_shaped {H:Type}{enc:TypeId×Value→H}{a:Assume}{C:Checked}{os:Os}{f:FuncId}{fn:Func}{s:ChangeSpec}{conds:List PathCond}{apart fresh handsOn again:Bool}{X:World→Array Value→Prop}
 (hX:∀(w w':World) (args:Array Value),w.heap=w'.heap→X w args→X w' args)
 (own:ownKnob C.prog.godebug=none)(started:os.Started)(noInit:C.prog.inits.idxOf? f=none)(hfn:C.prog.funcs[f]? =some fn)
 (witness:∃(w:World) (tape:Tape) (i:Input),w.os=os∧(w.forCall tape i).Shaped C.prog∧i.vars=[]∧Input.okWide C.prog (w.forCall tape i) .any w.heap.size f i∧
   ((s.pre enc C.prog fn conds apart (w.forCall tape i).memory i.args∧X (w.forCall tape i).memory i.args)∧sizedMet enc C.prog fn (OpenSpec.ofChange s) apart (w.forCall tape i).memory i.args)∧a.holds C.prog (lone (Frame.enter C.prog f i.args .normal) [] (w.forCall tape i)))
 (contract:∀(W:World) (base:Nat) (args:Array Value) (ds gs:List (DataW H)) (before:List MemPlace),
   (∀(j:Nat) t v,fn.params[j]? =some t→args[j]? =some v→Value.okWide C.prog W .any base t v)→
   DataW.Whole enc C.prog fn.params.toList s.vars apart W args.toList ds gs before→X W args→W.ShapedOpen C.prog→
   Calls C.prog f args W fun e W'=>∃v,e=.returned v∧s.post enc C.prog fn apart fresh handsOn again W args v W'):
 ReturnsInHanded a C os f .any (fun w args=>(s.pre enc C.prog fn conds apart w args∧X w args)∧sizedMet enc C.prog fn (OpenSpec.ofChange s) apart w args) (s.post enc C.prog fn apart fresh handsOn again):=by
 refine returnsInHanded_of_calls own started noInit witness ?_
 intro w tape i _ hsh _ hok hpre hholds
 obtain⟨_,_,_,fn',hfn',_,_,_,_,hval⟩:=hok
 have e:fn'=fn:=Option.some.inj (hfn'.symm.trans hfn)
 subst e
 obtain⟨⟨⟨ds,gs,before,hw,hc⟩,hx⟩,hz⟩:=hpre
 have hw':=DataW.Whole.of_heap (w':=w.forCall tape i) (by rfl) hw
 refine(contract (w.forCall tape i) w.heap.size i.args ds gs before hval hw' (hX _ _ _ (by rfl) hx) hsh).mono fun e W' ⟨v,he,hp⟩=>?_
 subst he
 exact ChangeSpec.post_blind hp
theorem own:ownKnob Tryz.prog.godebug=none:=by kernel_rfl
theorem laidOut:laidOutB Tryz.prog=true:=by kernel_rfl
theorem laid_met (os:Os)(args:Array Value):laidMetH Tryz.prog seatLaid ((World.laidAll Tryz.prog os seatLaid).forCall (fun _ _=>0) ⟨#[],args,[]⟩).memory:=by
 rw[MakeChecks.laidMetH_plain _ _ _ (by kernel_rfl)]
 exact laidMet_laidAll _ (by kernel_rfl) (by kernel_rfl)
open Go.ChangeShapes Go.WideShapes Go.ChangeAt Go.RowKit
theorem cell_bool {w:World}{r:Reach}{base:Nat}{v:Value}(h:Cell.okWide Tryz.prog w r base 4 v):∃b,v=.bool b:=by
 simp only[Cell.okWide,Tryz.underlying4] at h
 cases v<;>simp_all [Cell.ok,Tryz.underlying4]
theorem cell_u8 {w:World}{r:Reach}{base:Nat}{v:Value}(h:Cell.okWide Tryz.prog w r base 5 v):∃n,v=.int .u8 n∧0≤n∧n<256:=by
 simp only[Cell.okWide,Tryz.underlying5] at h
 cases v<;>simp_all [Cell.ok,Tryz.underlying5]
 obtain⟨h1,h2⟩:=h
 have e0:IntKind.u8.min=0:=by decide
 have e1:IntKind.u8.max=255:=by decide
 simp only[IntKind.has,e0,e1] at h2
 omega
open Go.ChangeShapes Go.WideShapes Go.ChangeAt Go.RowKit
theorem cell_u16 {w:World}{r:Reach}{base:Nat}{v:Value}(h:Cell.okWide Tryz.prog w r base 28 v):∃n,v=.int .u16 n∧0≤n∧n<65536:=by
 simp only[Cell.okWide,Tryz.underlying28] at h
 cases v<;>simp_all [Cell.ok,Tryz.underlying28]
 obtain⟨h1,h2⟩:=h
 have e0:IntKind.u16.min=0:=by decide
 have e1:IntKind.u16.max=65535:=by decide
 simp only[IntKind.has,e0,e1] at h2
 omega
theorem at_cell {o:Option TypeId}{P:TypeId→Prop}{t:TypeId}(h:∃u,o=some u∧P u)(e:o=some t):P t:=by
 obtain⟨u,hu,hp⟩:=h
 rw[e] at hu
 cases hu
 exact hp
def AllB:List Int→Prop
 |[]=>True
 |v::l=>(0≤v∧v<256)∧AllB l
theorem u8_list:{l:List Int}→AllB l→U8 fun i=>l.getD i 0
 |[],_=>fun i=>⟨by simp,by simp⟩
 |v::l,h=>fun i=>by
  cases i with
  |zero=>exact h.1
  |succ i=>exact u8_list h.2 i
theorem len37 {α:Type}(l:List α)(h:l.length=37):∃c0 c1 c2 c3 c4 c5 c6 c7 c8 c9 c10 c11 c12 c13 c14 c15 c16 c17 c18 c19 c20 c21 c22 c23 c24 c25 c26 c27 c28 c29 c30 c31 c32 c33 c34 c35 c36,l=[c0,c1,c2,c3,c4,c5,c6,c7,c8,c9,c10,c11,c12,c13,c14,c15,c16,c17,c18,c19,c20,c21,c22,c23,c24,c25,c26,c27,c28,c29,c30,c31,c32,c33,c34,c35,c36]:=by
 match l,h with
 |c0::c1::c2::c3::c4::c5::c6::c7::c8::c9::c10::c11::c12::c13::c14::c15::c16::c17::c18::c19::c20::c21::c22::c23::c24::c25::c26::c27::c28::c29::c30::c31::c32::c33::c34::c35::c36::[],_=>exact⟨c0,c1,c2,c3,c4,c5,c6,c7,c8,c9,c10,c11,c12,c13,c14,c15,c16,c17,c18,c19,c20,c21,c22,c23,c24,c25,c26,c27,c28,c29,c30,c31,c32,c33,c34,c35,c36,rfl⟩
theorem open_key {w:World}{r:Reach}{base:Nat}{v:Value}(h:Value.okWide Tryz.prog w r base 30 v):∃k:Ky,v=.agg (kyV k)∧KyOk k:=by
 simp only[Value.okWide,Tryz.underlying30] at h
 obtain⟨cs,rfl,hs,ts,ht,-,hc⟩:=h
 have hts:Tryz.prog.cellTypes Tryz.prog.depth 30=some [4,5,5,5,5,5,5,5,5,5,5,5,5,5,5,5,5,4,5,5,5,5,5,5,5,5,5,5,5,5,5,5,5,5,5,28,28]:=by kernel_rfl
 rw[hts] at ht
 obtain rfl:=Option.some.inj ht
 have hs0:cs.size=37:=hs.trans (by kernel_rfl)
 obtain⟨l⟩:=cs
 obtain⟨c0,c1,c2,c3,c4,c5,c6,c7,c8,c9,c10,c11,c12,c13,c14,c15,c16,c17,c18,c19,c20,c21,c22,c23,c24,c25,c26,c27,c28,c29,c30,c31,c32,c33,c34,c35,c36,rfl⟩:=len37 l hs0
 obtain⟨n0,rfl⟩:=cell_bool (at_cell (hc 0 _ rfl) rfl)
 obtain⟨n1,rfl,h1⟩:=cell_u8 (at_cell (hc 1 _ rfl) rfl)
 obtain⟨n2,rfl,h2⟩:=cell_u8 (at_cell (hc 2 _ rfl) rfl)
 obtain⟨n3,rfl,h3⟩:=cell_u8 (at_cell (hc 3 _ rfl) rfl)
 obtain⟨n4,rfl,h4⟩:=cell_u8 (at_cell (hc 4 _ rfl) rfl)
 obtain⟨n5,rfl,h5⟩:=cell_u8 (at_cell (hc 5 _ rfl) rfl)
 obtain⟨n6,rfl,h6⟩:=cell_u8 (at_cell (hc 6 _ rfl) rfl)
 obtain⟨n7,rfl,h7⟩:=cell_u8 (at_cell (hc 7 _ rfl) rfl)
 obtain⟨n8,rfl,h8⟩:=cell_u8 (at_cell (hc 8 _ rfl) rfl)
 obtain⟨n9,rfl,h9⟩:=cell_u8 (at_cell (hc 9 _ rfl) rfl)
 obtain⟨n10,rfl,h10⟩:=cell_u8 (at_cell (hc 10 _ rfl) rfl)
 obtain⟨n11,rfl,h11⟩:=cell_u8 (at_cell (hc 11 _ rfl) rfl)
 obtain⟨n12,rfl,h12⟩:=cell_u8 (at_cell (hc 12 _ rfl) rfl)
 obtain⟨n13,rfl,h13⟩:=cell_u8 (at_cell (hc 13 _ rfl) rfl)
 obtain⟨n14,rfl,h14⟩:=cell_u8 (at_cell (hc 14 _ rfl) rfl)
 obtain⟨n15,rfl,h15⟩:=cell_u8 (at_cell (hc 15 _ rfl) rfl)
 obtain⟨n16,rfl,h16⟩:=cell_u8 (at_cell (hc 16 _ rfl) rfl)
 obtain⟨n17,rfl⟩:=cell_bool (at_cell (hc 17 _ rfl) rfl)
 obtain⟨n18,rfl,h18⟩:=cell_u8 (at_cell (hc 18 _ rfl) rfl)
 obtain⟨n19,rfl,h19⟩:=cell_u8 (at_cell (hc 19 _ rfl) rfl)
 obtain⟨n20,rfl,h20⟩:=cell_u8 (at_cell (hc 20 _ rfl) rfl)
 obtain⟨n21,rfl,h21⟩:=cell_u8 (at_cell (hc 21 _ rfl) rfl)
 obtain⟨n22,rfl,h22⟩:=cell_u8 (at_cell (hc 22 _ rfl) rfl)
 obtain⟨n23,rfl,h23⟩:=cell_u8 (at_cell (hc 23 _ rfl) rfl)
 obtain⟨n24,rfl,h24⟩:=cell_u8 (at_cell (hc 24 _ rfl) rfl)
 obtain⟨n25,rfl,h25⟩:=cell_u8 (at_cell (hc 25 _ rfl) rfl)
 obtain⟨n26,rfl,h26⟩:=cell_u8 (at_cell (hc 26 _ rfl) rfl)
 obtain⟨n27,rfl,h27⟩:=cell_u8 (at_cell (hc 27 _ rfl) rfl)
 obtain⟨n28,rfl,h28⟩:=cell_u8 (at_cell (hc 28 _ rfl) rfl)
 obtain⟨n29,rfl,h29⟩:=cell_u8 (at_cell (hc 29 _ rfl) rfl)
 obtain⟨n30,rfl,h30⟩:=cell_u8 (at_cell (hc 30 _ rfl) rfl)
 obtain⟨n31,rfl,h31⟩:=cell_u8 (at_cell (hc 31 _ rfl) rfl)
 obtain⟨n32,rfl,h32⟩:=cell_u8 (at_cell (hc 32 _ rfl) rfl)
 obtain⟨n33,rfl,h33⟩:=cell_u8 (at_cell (hc 33 _ rfl) rfl)
 obtain⟨n34,rfl,h34⟩:=cell_u8 (at_cell (hc 34 _ rfl) rfl)
 obtain⟨n35,rfl,h35⟩:=cell_u16 (at_cell (hc 35 _ rfl) rfl)
 obtain⟨n36,rfl,h36⟩:=cell_u16 (at_cell (hc 36 _ rfl) rfl)
 exact⟨⟨n0,fun i=>([n1,n2,n3,n4,n5,n6,n7,n8,n9,n10,n11,n12,n13,n14,n15,n16]:List Int).getD i 0,n17,fun i=>([n18,n19,n20,n21,n22,n23,n24,n25,n26,n27,n28,n29,n30,n31,n32,n33]:List Int).getD i 0,n34,n35,n36⟩,rfl,⟨u8_list ⟨h1,h2,h3,h4,h5,h6,h7,h8,h9,h10,h11,h12,h13,h14,h15,h16,trivial⟩,u8_list ⟨h18,h19,h20,h21,h22,h23,h24,h25,h26,h27,h28,h29,h30,h31,h32,h33,trivial⟩,h34,h35,h36⟩⟩
end
end Go.Proofs.YtkgjbipfhhjlpaaGreatDoor
