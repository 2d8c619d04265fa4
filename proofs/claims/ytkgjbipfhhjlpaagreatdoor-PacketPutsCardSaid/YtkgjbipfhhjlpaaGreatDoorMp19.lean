import Derived.Test.YtkgjbipfhhjlpaaGreatDoorMp18
set_option linter.unusedVariables false
set_option linter.unusedSimpArgs false
set_option maxRecDepth 100000
set_option maxHeartbeats 32000000
namespace Go.Proofs.YtkgjbipfhhjlpaaGreatDoor
section
open Go.RowKit
structure ReadSt (w0:World)(t:TypeId)(g off:Nat)(L:List (List UInt8))(w:World):Prop where
 box:w.heap[w0.heap.size]? =some (.cells (kyV kyZ) t (0,0))
 row:∀j x,L[j]? =some x→w.cell? ⟨g,off+j,none⟩=some (strV x)
 bel:Below w0.heap.size w0 w
theorem ReadSt.go {w0 w w':World}{t:TypeId}{g off:Nat}{L:List (List UInt8)}(h:ReadSt w0 t g off L w)(hb:Below w.heap.size w w'):ReadSt w0 t g off L w':=
 ⟨(hb.block _ (Array.getElem?_eq_some_iff.1 h.box).1).trans h.box,fun j x hj=>(hb.cell (World.block_lt_of_cell? w _ (h.row j x hj))).trans (h.row j x hj),h.bel.trans (hb.mono h.bel.size)⟩
theorem ReadSt.at {w0 w:World}{t:TypeId}{g off:Nat}{L:List (List UInt8)}(h:ReadSt w0 t g off L w)(j:Nat){x:List UInt8}(hj:L[j]? =some x):w.cell? ⟨g,off+j,none⟩=some (.string ⟨x.toArray⟩):=h.row j x hj
theorem ReadSt.lt {w0 w:World}{t:TypeId}{g off:Nat}{L:List (List UInt8)}(h:ReadSt w0 t g off L w):w0.heap.size<w.heap.size:=(Array.getElem?_eq_some_iff.1 h.box).1
theorem ReadSt.free {w0 w:World}{t:TypeId}{g off:Nat}{L:List (List UInt8)}(h:ReadSt w0 t g off L w):rowFree w w0.heap.size 37=true:=by rw[rowFree_row _ _ _ _ _ h.box];rfl
theorem ReadSt.alloc {w0 w:World}{t:TypeId}{g off:Nat}{L:List (List UInt8)}(h:ReadSt w0 t g off L w)(o:Obj):ReadSt w0 t g off L (w.alloc o):=h.go (Below.all (Below.refl _ _) o)
theorem parse_form (x:List UInt8):∃(s:Bool) (B:Nat→Int) (e:Int),parseV (parseL x)=.tuple #[adV s B,.int .i64 e]∧((e=0∧parseL x=some (s,B)∧U8 B)∨(e=40∧parseL x=none)):=by
 rcases parseV_cases x with ⟨s,B,h1,-,h3,h4⟩|⟨h1,h4⟩
 ·exact⟨s,B,0,h4,.inl ⟨rfl,h1,h3⟩⟩
 ·exact⟨false,fun _=>0,40,h4,.inr ⟨rfl,h1⟩⟩
theorem ky_two {w:World}{b:Nat}{cs old:Array Value}{t:TypeId}(A K:Obj)(h:w.heap[b]? =some (.cells old t (0,0))):(((w.setRow b cs).alloc A).alloc K).heap[b]? =some (.cells cs t (0,0)):=by
 have h1:=setRow_row (cs:=cs) h
 have l1:=(Array.getElem?_eq_some_iff.1 h1).1
 have h2:=(heap_alloc_old _ A l1).trans h1
 exact(heap_alloc_old _ K (Array.getElem?_eq_some_iff.1 h2).1).trans h2
theorem five {α:Type}{l:List α}(h:l.length=5):∃a b c d e,l=[a,b,c,d,e]:=by
 match l,h with
 |[a,b,c,d,e],_=>exact⟨a,b,c,d,e,rfl⟩
theorem kread_post {w w':World}{tmps:Array Value}{k:Ky}{err:Int}(R:Value)(hp:tmps.getD 2 undef=.pointer (some ⟨w.heap.size,0,none⟩))(h3:tmps.getD 3 undef=.int .i64 err)(hc:partOf w' w.heap.size 0 37=kyV k)(hv:R=.tuple #[.agg (kyV k),.int .i64 err])(hb:Below w.heap.size w w'):
 bodyPost Tryz.prog Tryz.f22 (RetAt w R) .ret { tmps:=tmps,defers:=[] } w':=
 bodyPost_ret (v:=.tuple #[.agg (kyV k),.int .i64 err]) (results_part2 rfl _ _ w.heap.size 37 _ _ Tryz.underlying30 rfl info_key hp h3 (kyV k) hc rfl) rfl (.mk hv.symm hb)
theorem kread_any (l:List UInt8)(w:World)(hs:l.length≤1000)(henv:Env w):Calls Tryz.prog 22 #[.string ⟨l.toArray⟩] w (RetAt w (kyReadV (kyRead l))):=by
 have HE:=Lib.hid henv
 have HSP:Hid (∀w,Env w→Calls Tryz.prog 57 #[.string ⟨l.toArray⟩,.string ⟨#[32]⟩] w (NewStrings w (cutsL 32 l))):=Lib.hid (fun w h=>split_new ⟨l.toArray⟩ 32 w h (by simpa[ByteArray.size] using hs))
 have HPC:Hid ((cutsL 32 l).length≤1001):=Lib.hid (by have:=cutsL_count 32 l;omega)
 have HPL:Hid (∀p∈cutsL 32 l,p.length≤1000):=Lib.hid (fun p hp=>by have:=cutsL_len 32 _ p hp;omega)
 have hX0:(w.alloc (.cells (kyV kyZ) 30)).heap[w.heap.size]? =some (.cells (kyV kyZ) 30 (0,0)):=heap_alloc_new w _
 have hB0:Below w.heap.size w (w.alloc (.cells (kyV kyZ) 30)):=Below.all (Below.refl _ _) _
 have HX0:=Lib.hid hX0
 have HB0:=Lib.hid hB0
 clear hX0 hB0
 unfold kyV kyZ kyC at HX0 HB0
 simp only at HX0 HB0
 obtain⟨P,hP⟩:∃P,cutsL 32 l=P:=⟨_,rfl⟩
 rw[hP] at HSP HPC HPL
 have HP:=Lib.hid hP
 clear hP hs henv
 obtain⟨R,hR⟩:∃R,kyReadV (kyRead l)=R:=⟨_,rfl⟩
 rw[hR]
 have HR:=Lib.hid hR
 clear hR
 go_enter Tryz.func22,Tryz.ntmps22
 go_wp2_with fail
 generalize w.alloc _=w1 at*
 refine Calls.mono (HSP.out _ (HE.out.below HB0.out)) ?_
 rintro e w2 ⟨op,capp,rfl,HO,HB⟩
 have HOO:=Lib.hid HO
 have HB2:=Lib.hid (HB0.out.trans (HB.mono HB0.out.size))
 have HX2:=Lib.hid ((HB.block _ (Array.getElem?_eq_some_iff.1 HX0.out).1).trans HX0.out)
 clear HO HB HX0 HB0
 by_cases h5:P.length=5
 rotate_left
 ·have hn:¬((P.length:Int)=5):=by omega
  have HN:Hid (kyRead l=none):=Lib.hid (kyRead_len (by rw[HP.out];exact h5))
  have hrf:rowFree w2 w.heap.size 37=true:=by rw[rowFree_row _ _ _ _ _ HX2.out];rfl
  clear h5
  go_wp2_with fail
  exact kread_post (k:=kyZ) _ rfl rfl (partOf_set2 HX2.out) (by rw[←HR.out,HN.out];rfl) (below_setRow HB2.out (Nat.le_refl _) _)
 obtain⟨x0,x1,x2,x3,x4,rfl⟩:=five h5
 clear h5
 have hl0:=HPL.out x0 (by simp)
 have hl1:=HPL.out x1 (by simp)
 have hl2:=HPL.out x2 (by simp)
 have hl3:=HPL.out x3 (by simp)
 have hl4:=HPL.out x4 (by simp)
 have HU0:Hid (∀w',Env w'→Calls Tryz.prog 58 #[.string ⟨x0.toArray⟩,.int .i64 10,.int .i64 8] w' (PuPost w' 256 x0)):=Lib.hid fun w' h=>pu8_any ⟨x0.toArray⟩ (by simp[ByteArray.size];omega) w' h
 have HU2:Hid (∀w',Env w'→Calls Tryz.prog 58 #[.string ⟨x2.toArray⟩,.int .i64 10,.int .i64 16] w' (PuPost w' 65536 x2)):=Lib.hid fun w' h=>pu16_any ⟨x2.toArray⟩ (by simp[ByteArray.size];omega) w' h
 have HU4:Hid (∀w',Env w'→Calls Tryz.prog 58 #[.string ⟨x4.toArray⟩,.int .i64 10,.int .i64 16] w' (PuPost w' 65536 x4)):=Lib.hid fun w' h=>pu16_any ⟨x4.toArray⟩ (by simp[ByteArray.size];omega) w' h
 have HPA:Hid (∀w',Env w'→Calls Tryz.prog 59 #[.string ⟨x1.toArray⟩] w' (RetAt w' (parseV (parseL x1)))):=Lib.hid fun w' h=>parse_any ⟨x1.toArray⟩ w' (by simp[ByteArray.size];omega) h
 have HPB:Hid (∀w',Env w'→Calls Tryz.prog 59 #[.string ⟨x3.toArray⟩] w' (RetAt w' (parseV (parseL x3)))):=Lib.hid fun w' h=>parse_any ⟨x3.toArray⟩ w' (by simp[ByteArray.size];omega) h
 obtain⟨s1,S,e1,hv1,hc1⟩:=parse_form x1
 obtain⟨t1,T,e3,hv3,hc3⟩:=parse_form x3
 rw[hv1] at HPA
 rw[hv3] at HPB
 have HC1:=Lib.hid hc1
 have HC3:=Lib.hid hc3
 clear hl0 hl1 hl2 hl3 hl4 hv1 hv3 hc1 hc3 HPL HPC HSP
 obtain⟨g,off,hop,hbg,hg,hcc,-⟩:=HOO.out.here (by simp)
 subst hop
 have ST2:Hid (ReadSt w 30 g off [x0,x1,x2,x3,x4] w2):=Lib.hid ⟨HX2.out,fun j x hj=>hcc j (strV x) (by simp only[List.getElem?_map,hj];rfl),HB2.out⟩
 clear hcc HOO HX2 HB2 hbg hg
 have c0:=ST2.out.at 0 (x:=x0) rfl
 rw[Nat.add_zero] at c0
 simp only[List.length_cons,List.length_nil]
 go_wp2_with fail
 refine Calls.mono (HU0.out _ (HE.out.below ST2.out.bel)) ?_
 rintro e w3 ⟨u0,er0,rfl,b0,hw0,hb3⟩
 have HW0:=Lib.hid (And.intro b0 hw0)
 clear b0 hw0
 have ST3:=Lib.hid (ST2.out.go hb3)
 clear hb3 c0 ST2
 have c2:=ST3.out.at 2 (x:=x2) rfl
 go_wp2_with fail
 refine Calls.mono (HU2.out _ (HE.out.below ST3.out.bel)) ?_
 rintro e w4 ⟨u2,er2,rfl,b2,hw2,hb4⟩
 have HW2:=Lib.hid (And.intro b2 hw2)
 clear b2 hw2
 have ST4:=Lib.hid (ST3.out.go hb4)
 clear hb4 c2 ST3
 have c4:=ST4.out.at 4 (x:=x4) rfl
 go_wp2_with fail
 refine Calls.mono (HU4.out _ (HE.out.below ST4.out.bel)) ?_
 rintro e w5 ⟨u4,er4,rfl,b4,hw4,hb5⟩
 have HW4:=Lib.hid (And.intro b4 hw4)
 clear b4 hw4
 have ST5:=Lib.hid (ST4.out.go hb5)
 clear hb5 c4 ST4
 have c1:=ST5.out.at 1 (x:=x1) rfl
 go_wp2_with fail
 refine Calls.mono (HPA.out _ (HE.out.below ST5.out.bel)) ?_
 rintro e w6 ⟨rfl,hb6⟩
 have ST6:=Lib.hid ((ST5.out.go hb6).alloc (.cells #[.bool s1,.int .u8 (S 0),.int .u8 (S 1),.int .u8 (S 2),.int .u8 (S 3),.int .u8 (S 4),.int .u8 (S 5),.int .u8 (S 6),.int .u8 (S 7),.int .u8 (S 8),.int .u8 (S 9),.int .u8 (S 10),.int .u8 (S 11),.int .u8 (S 12),.int .u8 (S 13),.int .u8 (S 14),.int .u8 (S 15)] 27))
 have HA6:=Lib.hid (heap_alloc_new w6 (.cells #[.bool s1,.int .u8 (S 0),.int .u8 (S 1),.int .u8 (S 2),.int .u8 (S 3),.int .u8 (S 4),.int .u8 (S 5),.int .u8 (S 6),.int .u8 (S 7),.int .u8 (S 8),.int .u8 (S 9),.int .u8 (S 10),.int .u8 (S 11),.int .u8 (S 12),.int .u8 (S 13),.int .u8 (S 14),.int .u8 (S 15)] 27))
 clear hb6 c1 ST5
 unfold adV at HPB⊢
 have c3:=ST6.out.at 3 (x:=x3) rfl
 go_wp2_with fail
 obtain⟨b6,hb6⟩:∃b,b=w6.heap.size:=⟨_,rfl⟩
 rw[←hb6] at HA6⊢
 clear hb6 c3
 generalize w6.alloc _=y6 at*
 refine Calls.mono (HPB.out _ (HE.out.below ST6.out.bel)) ?_
 rintro e w7 ⟨rfl,hb7⟩
 have ST7:=Lib.hid ((ST6.out.go hb7).alloc (.cells #[.bool t1,.int .u8 (T 0),.int .u8 (T 1),.int .u8 (T 2),.int .u8 (T 3),.int .u8 (T 4),.int .u8 (T 5),.int .u8 (T 6),.int .u8 (T 7),.int .u8 (T 8),.int .u8 (T 9),.int .u8 (T 10),.int .u8 (T 11),.int .u8 (T 12),.int .u8 (T 13),.int .u8 (T 14),.int .u8 (T 15)] 27))
 have HA7:=Lib.hid ((heap_alloc_old _ (.cells #[.bool t1,.int .u8 (T 0),.int .u8 (T 1),.int .u8 (T 2),.int .u8 (T 3),.int .u8 (T 4),.int .u8 (T 5),.int .u8 (T 6),.int .u8 (T 7),.int .u8 (T 8),.int .u8 (T 9),.int .u8 (T 10),.int .u8 (T 11),.int .u8 (T 12),.int .u8 (T 13),.int .u8 (T 14),.int .u8 (T 15)] 27) (Nat.lt_of_lt_of_le (Array.getElem?_eq_some_iff.1 HA6.out).1 hb7.size)).trans ((hb7.block b6 (Array.getElem?_eq_some_iff.1 HA6.out).1).trans HA6.out))
 have HT7:=Lib.hid (heap_alloc_new w7 (.cells #[.bool t1,.int .u8 (T 0),.int .u8 (T 1),.int .u8 (T 2),.int .u8 (T 3),.int .u8 (T 4),.int .u8 (T 5),.int .u8 (T 6),.int .u8 (T 7),.int .u8 (T 8),.int .u8 (T 9),.int .u8 (T 10),.int .u8 (T 11),.int .u8 (T 12),.int .u8 (T 13),.int .u8 (T 14),.int .u8 (T 15)] 27))
 have l6:b6<(w7.alloc (.cells #[.bool t1,.int .u8 (T 0),.int .u8 (T 1),.int .u8 (T 2),.int .u8 (T 3),.int .u8 (T 4),.int .u8 (T 5),.int .u8 (T 6),.int .u8 (T 7),.int .u8 (T 8),.int .u8 (T 9),.int .u8 (T 10),.int .u8 (T 11),.int .u8 (T 12),.int .u8 (T 13),.int .u8 (T 14),.int .u8 (T 15)] 27)).heap.size:=(Array.getElem?_eq_some_iff.1 HA7.out).1
 have p6:partOf (w7.alloc (.cells #[.bool t1,.int .u8 (T 0),.int .u8 (T 1),.int .u8 (T 2),.int .u8 (T 3),.int .u8 (T 4),.int .u8 (T 5),.int .u8 (T 6),.int .u8 (T 7),.int .u8 (T 8),.int .u8 (T 9),.int .u8 (T 10),.int .u8 (T 11),.int .u8 (T 12),.int .u8 (T 13),.int .u8 (T 14),.int .u8 (T 15)] 27)) b6 0 17=#[.bool s1,.int .u8 (S 0),.int .u8 (S 1),.int .u8 (S 2),.int .u8 (S 3),.int .u8 (S 4),.int .u8 (S 5),.int .u8 (S 6),.int .u8 (S 7),.int .u8 (S 8),.int .u8 (S 9),.int .u8 (S 10),.int .u8 (S 11),.int .u8 (S 12),.int .u8 (S 13),.int .u8 (S 14),.int .u8 (S 15)]:=partOf_all HA7.out rfl
 have ST7':=Lib.hid (ST6.out.go hb7)
 have hl7:w.heap.size<w7.heap.size:=ST7'.out.lt
 have hrf7:rowFree w7 w.heap.size 37=true:=ST7'.out.free
 have hm0:(u0:Int)%256=u0:=by have:=HW0.out.1;omega
 have hm2:IntKind.u16.wrap (u2:Int)=u2:=by rw[IntKind.wrap_u16];have:=HW2.out.1;omega
 have hm4:IntKind.u16.wrap (u4:Int)=u4:=by rw[IntKind.wrap_u16];have:=HW4.out.1;omega
 have hrf9:rowFree ((w7.alloc (.cells #[.bool t1,.int .u8 (T 0),.int .u8 (T 1),.int .u8 (T 2),.int .u8 (T 3),.int .u8 (T 4),.int .u8 (T 5),.int .u8 (T 6),.int .u8 (T 7),.int .u8 (T 8),.int .u8 (T 9),.int .u8 (T 10),.int .u8 (T 11),.int .u8 (T 12),.int .u8 (T 13),.int .u8 (T 14),.int .u8 (T 15)] 27)).alloc (.cells #[.bool s1,.int .u8 (S 0),.int .u8 (S 1),.int .u8 (S 2),.int .u8 (S 3),.int .u8 (S 4),.int .u8 (S 5),.int .u8 (S 6),.int .u8 (S 7),.int .u8 (S 8),.int .u8 (S 9),.int .u8 (S 10),.int .u8 (S 11),.int .u8 (S 12),.int .u8 (S 13),.int .u8 (S 14),.int .u8 (S 15),.bool t1,.int .u8 (T 0),.int .u8 (T 1),.int .u8 (T 2),.int .u8 (T 3),.int .u8 (T 4),.int .u8 (T 5),.int .u8 (T 6),.int .u8 (T 7),.int .u8 (T 8),.int .u8 (T 9),.int .u8 (T 10),.int .u8 (T 11),.int .u8 (T 12),.int .u8 (T 13),.int .u8 (T 14),.int .u8 (T 15),.int .u8 u0,.int .u16 u2,.int .u16 u4] 30)) w.heap.size 37=true:=(ST7'.out.alloc _ |>.alloc _).free
 clear hb7 ST6 HA6
 rcases HC1.out with ⟨rfl,hp1,hU1⟩|⟨rfl,hp1⟩
 rotate_left
 ·have HN:Hid (kyRead l=none):=Lib.hid (kyRead_no1 HP.out hp1)
  clear hp1
  go_wp2_with fail
  exact kread_post (k:=kyZ) _ rfl rfl (partOf_all (ky_two _ _ ST7'.out.box) rfl) (by rw[←HR.out,HN.out];rfl) (Below.all (Below.all (below_setRow ST7'.out.bel (Nat.le_refl _) _) _) _)
 rcases HC3.out with ⟨rfl,hp3,hU3⟩|⟨rfl,hp3⟩
 rotate_left
 ·have HN:Hid (kyRead l=none):=Lib.hid (kyRead_no3 HP.out hp3)
  have HU1:=Lib.hid hU1
  clear hp1 hp3 hU1
  go_wp2_with fail
  exact kread_post (k:=kyZ) _ rfl rfl (partOf_all (ky_two _ _ ST7'.out.box) rfl) (by rw[←HR.out,HN.out];rfl) (Below.all (Below.all (below_setRow ST7'.out.bel (Nat.le_refl _) _) _) _)
 have HIS:=Lib.hid (kyRead_is HP.out hp1 hp3 u0 u2 u4 HW0.out.1 HW2.out.1 HW4.out.1 HW0.out.2 HW2.out.2 HW4.out.2)
 have HKO:Hid (KyOk ⟨s1,S,t1,T,u0,u2,u4⟩):=Lib.hid ⟨hU1,hU3,(by show(0:Int)≤u0∧(u0:Int)<256;have:=HW0.out.1;omega),(by show(0:Int)≤u2∧(u2:Int)<65536;have:=HW2.out.1;omega),(by show(0:Int)≤u4∧(u4:Int)<65536;have:=HW4.out.1;omega)⟩
 have HTX:Hid (∀w',Env w'→Calls Tryz.prog 28 #[.agg #[.bool s1,.int .u8 (S 0),.int .u8 (S 1),.int .u8 (S 2),.int .u8 (S 3),.int .u8 (S 4),.int .u8 (S 5),.int .u8 (S 6),.int .u8 (S 7),.int .u8 (S 8),.int .u8 (S 9),.int .u8 (S 10),.int .u8 (S 11),.int .u8 (S 12),.int .u8 (S 13),.int .u8 (S 14),.int .u8 (S 15),.bool t1,.int .u8 (T 0),.int .u8 (T 1),.int .u8 (T 2),.int .u8 (T 3),.int .u8 (T 4),.int .u8 (T 5),.int .u8 (T 6),.int .u8 (T 7),.int .u8 (T 8),.int .u8 (T 9),.int .u8 (T 10),.int .u8 (T 11),.int .u8 (T 12),.int .u8 (T 13),.int .u8 (T 14),.int .u8 (T 15),.int .u8 u0,.int .u16 u2,.int .u16 u4]] w' (RetAt w' (.string ⟨(kyText ⟨s1,S,t1,T,u0,u2,u4⟩).toArray⟩))):=Lib.hid fun w' h=>ktext_any _ HKO.out w' h
 clear hp1 hp3 hU1 hU3
 generalize kyText ⟨s1,S,t1,T,u0,u2,u4⟩=TX at*
 have ST9:=Lib.hid ((ST7'.out.alloc (.cells #[.bool t1,.int .u8 (T 0),.int .u8 (T 1),.int .u8 (T 2),.int .u8 (T 3),.int .u8 (T 4),.int .u8 (T 5),.int .u8 (T 6),.int .u8 (T 7),.int .u8 (T 8),.int .u8 (T 9),.int .u8 (T 10),.int .u8 (T 11),.int .u8 (T 12),.int .u8 (T 13),.int .u8 (T 14),.int .u8 (T 15)] 27)).alloc (.cells #[.bool s1,.int .u8 (S 0),.int .u8 (S 1),.int .u8 (S 2),.int .u8 (S 3),.int .u8 (S 4),.int .u8 (S 5),.int .u8 (S 6),.int .u8 (S 7),.int .u8 (S 8),.int .u8 (S 9),.int .u8 (S 10),.int .u8 (S 11),.int .u8 (S 12),.int .u8 (S 13),.int .u8 (S 14),.int .u8 (S 15),.bool t1,.int .u8 (T 0),.int .u8 (T 1),.int .u8 (T 2),.int .u8 (T 3),.int .u8 (T 4),.int .u8 (T 5),.int .u8 (T 6),.int .u8 (T 7),.int .u8 (T 8),.int .u8 (T 9),.int .u8 (T 10),.int .u8 (T 11),.int .u8 (T 12),.int .u8 (T 13),.int .u8 (T 14),.int .u8 (T 15),.int .u8 u0,.int .u16 u2,.int .u16 u4] 30))
 have hK9:=heap_alloc_new (w7.alloc (.cells #[.bool t1,.int .u8 (T 0),.int .u8 (T 1),.int .u8 (T 2),.int .u8 (T 3),.int .u8 (T 4),.int .u8 (T 5),.int .u8 (T 6),.int .u8 (T 7),.int .u8 (T 8),.int .u8 (T 9),.int .u8 (T 10),.int .u8 (T 11),.int .u8 (T 12),.int .u8 (T 13),.int .u8 (T 14),.int .u8 (T 15)] 27)) (.cells #[.bool s1,.int .u8 (S 0),.int .u8 (S 1),.int .u8 (S 2),.int .u8 (S 3),.int .u8 (S 4),.int .u8 (S 5),.int .u8 (S 6),.int .u8 (S 7),.int .u8 (S 8),.int .u8 (S 9),.int .u8 (S 10),.int .u8 (S 11),.int .u8 (S 12),.int .u8 (S 13),.int .u8 (S 14),.int .u8 (S 15),.bool t1,.int .u8 (T 0),.int .u8 (T 1),.int .u8 (T 2),.int .u8 (T 3),.int .u8 (T 4),.int .u8 (T 5),.int .u8 (T 6),.int .u8 (T 7),.int .u8 (T 8),.int .u8 (T 9),.int .u8 (T 10),.int .u8 (T 11),.int .u8 (T 12),.int .u8 (T 13),.int .u8 (T 14),.int .u8 (T 15),.int .u8 u0,.int .u16 u2,.int .u16 u4] 30)
 rw[show(w7.alloc (.cells #[.bool t1,.int .u8 (T 0),.int .u8 (T 1),.int .u8 (T 2),.int .u8 (T 3),.int .u8 (T 4),.int .u8 (T 5),.int .u8 (T 6),.int .u8 (T 7),.int .u8 (T 8),.int .u8 (T 9),.int .u8 (T 10),.int .u8 (T 11),.int .u8 (T 12),.int .u8 (T 13),.int .u8 (T 14),.int .u8 (T 15)] 27)).heap.size=w7.heap.size+1 by simp] at hK9
 have HK9:=Lib.hid hK9
 clear hK9
 go_wp2_with fail
 generalize (w7.alloc _).alloc _=y9 at*
 obtain⟨b9,hb9⟩:∃b,b=w7.heap.size+1:=⟨_,rfl⟩
 rw[←hb9] at HK9⊢
 have HN9:Hid (w.heap.size≠b9):=Lib.hid (by omega)
 clear hb9 hrf9 hrf7 hl7 p6 l6
 refine Calls.mono (HTX.out _ (HE.out.below ST9.out.bel)) ?_
 rintro e w10 ⟨rfl,hb10⟩
 have ST10:=Lib.hid (ST9.out.go hb10)
 have HK10:=Lib.hid ((hb10.block b9 (Array.getElem?_eq_some_iff.1 HK9.out).1).trans HK9.out)
 clear hb10 ST9 HK9
 have p9:partOf w10 b9 0 37=#[.bool s1,.int .u8 (S 0),.int .u8 (S 1),.int .u8 (S 2),.int .u8 (S 3),.int .u8 (S 4),.int .u8 (S 5),.int .u8 (S 6),.int .u8 (S 7),.int .u8 (S 8),.int .u8 (S 9),.int .u8 (S 10),.int .u8 (S 11),.int .u8 (S 12),.int .u8 (S 13),.int .u8 (S 14),.int .u8 (S 15),.bool t1,.int .u8 (T 0),.int .u8 (T 1),.int .u8 (T 2),.int .u8 (T 3),.int .u8 (T 4),.int .u8 (T 5),.int .u8 (T 6),.int .u8 (T 7),.int .u8 (T 8),.int .u8 (T 9),.int .u8 (T 10),.int .u8 (T 11),.int .u8 (T 12),.int .u8 (T 13),.int .u8 (T 14),.int .u8 (T 15),.int .u8 u0,.int .u16 u2,.int .u16 u4]:=partOf_all HK10.out rfl
 have hrf:rowFree w10 w.heap.size 37=true:=ST10.out.free
 by_cases ht:TX=l
 ·have h2:=HIS.out
  rw[if_pos ht] at h2
  have HN:=Lib.hid h2
  have hq:(TX==l)=true:=by simpa using ht
  clear h2 ht HIS
  go_wp2_with fail
  exact kread_post (k:=⟨s1,S,t1,T,u0,u2,u4⟩) _ rfl rfl (partOf_all (setRow_row ST10.out.box) rfl) (by rw[←HR.out,HN.out];rfl) (below_setRow ST10.out.bel (Nat.le_refl _) _)
 ·have h2:=HIS.out
  rw[if_neg ht] at h2
  have HN:=Lib.hid h2
  have hq:(TX==l)=false:=by simpa using ht
  clear h2 ht HIS
  go_wp2_with fail
  exact kread_post (k:=kyZ) _ rfl rfl (partOf_all (setRow_row ST10.out.box) rfl) (by rw[←HR.out,HN.out];rfl) (below_setRow ST10.out.bel (Nat.le_refl _) _)
theorem made_zeros (n:Nat):madeCells #[Value.int .u8 0] n=((zerosL n).map (.int .u8)).toArray:=by
 apply Array.ext
 ·simp[madeCells,zerosL]
 ·intro i h1 h2
  simp[madeCells,zerosL,Nat.mod_one]
theorem run_zeros (w:World)(n:Nat)(hn:n≤2048):(Instr.makeSlice 22 (.int .i64 n) (.int .i64 n)).run Tryz.prog w=.ok (.slice (some ⟨w.heap.size,0,none⟩) n n) (w.alloc (.cells ((zerosL n).map (.int .u8)).toArray 5)):=by
 obtain⟨ie,hie,hz,h4,h5⟩:=info_parts Bits.infoU8
 have h:=run_makeSlice (P:=Tryz.prog) (w:=w) 22 5 ie (.int .u8 0) Tryz.underlying22 hie hz .i64 .i64 (n:Int) (n:Int) (by omega) (Int.le_refl _) (by rw[h4];simp;omega) (by rw[h5];omega) (by omega)
 rw[h4,Nat.mul_one,Int.toNat_natCast] at h
 rw[h,←made_zeros]
 rfl
theorem exec_make (ev:Operand→Value)(w:World){dst:Option Tmp}{ty:TypeId}{pos:String}{after:Array Edge}{g:Option (Nat×Bool)}{t:TypeId}{x y:Operand}{vx vy v:Value}{w2:World}(hx:ev x=vx)(hy:ev y=vy)
 (hr:(Instr.makeSlice t vx vy).run Tryz.prog w=.ok v w2):(execOp ev ⟨dst,.makeSlice t x y,ty,pos,after,g⟩).run Tryz.prog w=.ok (.value v) w2:=by
 simp[execOp,hx,hy,hr,Result.andThen]
theorem zeros_reads {w:World}{b n:Nat}{t:TypeId}(h:w.heap[b]? =some (.cells ((zerosL n).map (.int .u8)).toArray t (0,0)))(hn:n≤2048):Reads w (some ⟨b,0,none⟩) n n (zerosL n):=by
 refine⟨by simp[zerosL],Nat.le_refl _,by unfold maxLen;omega,fun v hv=>?_,.inr ⟨b,0,rfl,(Array.getElem?_eq_some_iff.1 h).1,fun j hj=>?_⟩⟩
 ·rw[(List.mem_replicate.1 hv).2];decide
 ·rw[Nat.zero_add,cell_of_row _ _ _ _ _ _ h];simp[zerosL,hj]
theorem spseg_none (s:Bool)(S T:Nat→Int)(p a b f:Int)(d:Nat)(hd:d≤2048)(hip:isPorts p=false)(hii:isIcmp p=false)(w:World):
 Calls Tryz.prog 43 #[.agg (spC s S s T p a b f d)] w (BytesErr w (zerosL d) 0):=by
 have HP:Hid (∀w',Calls Tryz.prog 35 #[.int .u8 p] w' (RetAt w' (.bool (isPorts p)))):=Lib.hid (fun w'=>ports_any p w')
 have HI:Hid (∀w',Calls Tryz.prog 36 #[.int .u8 p] w' (RetAt w' (.bool (isIcmp p)))):=Lib.hid (fun w'=>icmp_any p w')
 rw[hip] at HP
 rw[hii] at HI
 have HD:=Lib.hid hd
 have hX:(w.alloc (.cells (spC s S s T p a b f d) 47)).heap[w.heap.size]? =some (.cells (spC s S s T p a b f d) 47 (0,0)):=heap_alloc_new w _
 have HB:Hid (Below w.heap.size w (w.alloc (.cells (spC s S s T p a b f d) 47))):=Lib.hid (Below.all (Below.refl _ _) _)
 clear hd hip hii
 unfold spC at HB hX⊢
 go_enter Tryz.func43,Tryz.ntmps43
 go_wp2_with fail
 obtain⟨b0,hb0⟩:∃b,b=w.heap.size:=⟨_,rfl⟩
 have HB0:=Lib.hid hb0
 rw[←hb0] at hX⊢
 clear hb0
 generalize w.alloc _=y at*
 have hlt:b0<y.heap.size:=(Array.getElem?_eq_some_iff.1 hX).1
 have HY:=Lib.hid hX
 clear hX
 have hc0:y.cell? ⟨b0,34,none⟩=some (.int .u8 p):=cell_of_row _ _ 34 _ _ (0,0) HY.out
 refine wp_region_fl [.h,.h,.h,.h,.h] [(0,1,0),(1,1,0),(2,1,0)] (fun _ w'=>w'.cell? ⟨b0,34,none⟩=some (.int .u8 p)) [1] [(.w,5),(.q,6)] [(.w,8)] 7 (.cells segZC 149) (by kernel_rfl) (by kernel_rfl) rfl rfl ⟨fun _=>rfl,fun _ _=>by kernel_rfl⟩ (by kernel_rfl) (by kernel_rfl) ?_
 apply Exists.intro
 refine⟨fun wx hbx=>?_,?_,?_⟩
 ·have hxx:=(hbx.block b0 hlt).trans HY.out
  have hbx2:b0<wx.heap.size:=Nat.lt_of_lt_of_le hlt hbx.size
  have c34:wx.cell? ⟨b0,34,none⟩=some (.int .u8 p):=cell_of_row _ _ 34 _ _ (0,0) hxx
  have c38:wx.cell? ⟨b0,38,none⟩=some (.int .i64 d):=cell_of_row _ _ 38 _ _ (0,0) hxx
  clear hxx hbx
  simp only[headsL]
  repeat go_big_quiet_step (fail)
  exact wpQuiet_nil rfl
 ·intro q hq oi hoi
  simp only[List.mem_cons,List.not_mem_nil,or_false] at hq
  rcases hq with rfl|rfl|rfl
  ·cases hoi;exact⟨_,rfl,rfl,fun w2 hw=>by kernel_rfl⟩
  ·cases hoi;exact⟨_,rfl,rfl,fun w2 hw=>by kernel_rfl⟩
  ·cases hoi;exact⟨_,rfl,rfl,fun w2 hw=>by simp[execOp,go_sem,hw]⟩
 simp only[opsAt,List.getElem?_cons_succ,List.getElem?_cons_zero]
 refine⟨fun v fl w2=>∃r,v=.slice (some ⟨r,0,none⟩) d d∧y.heap.size≤r∧Below y.heap.size y w2∧w2.heap[r]? =some (.cells ((zerosL d).map (.int .u8)).toArray 5 (0,0))∧∀b',fl=some b'→y.heap.size≤b'∧b'≠r∧w2.heap[b']? =some (.cells segZC 149 (0,0)),?_,?_,?_,?_⟩
 ·rintro fl-
  refine SeqRun.made rfl ?_
  rintro w' ⟨⟨x,rfl⟩,hfb⟩
  refine⟨_,_,exec_make _ _ (vx:=.int .i64 d) (vy:=.int .i64 d) (by kernel_rfl) (by kernel_rfl) (run_zeros x.world d HD.out),x.world.heap.size,rfl,x.below.size,Below.all x.below _,heap_alloc_new _ _,fun b' hb'=>?_⟩
  have h1:=(hfb b' hb')
  have h2:=(Array.getElem?_eq_some_iff.1 h1.2).1
  exact⟨h1.1,by omega,(heap_alloc_old _ _ h2).trans h1.2⟩
 ·rintro v fl g-w2 ⟨r,-,-,h3,-⟩
  exact(below_cell h3 hlt _ rfl).trans hc0
 ·rintro-v w2 ⟨r,h1,h2,h3,h4,-⟩
  have hr:=(Array.getElem?_eq_some_iff.1 h4).1
  exact⟨r,h1,h2,Below.all h3 _,(heap_alloc_old _ _ hr).trans h4,fun b' hb'=>by cases hb';exact⟨h3.size,by omega,heap_alloc_new _ _⟩⟩
 rintro v ⟨fl0,w20,r,rfl,-⟩
 refine⟨.agg (segV p 0 0 0 0 0 (some ⟨r,0,none⟩) d d),⟨rfl,fun _=>by kernel_rfl⟩,?_⟩
 intro bs
 refine⟨fun v fl w2=>v=undef∧(y.heap.size≤bs∧y.heap.size≤r∧bs≠r∧Below y.heap.size y w2∧w2.heap[r]? =some (.cells ((zerosL d).map (.int .u8)).toArray 5 (0,0))∧w2.heap[bs]? =some (.cells (segV p 0 0 0 0 0 (some ⟨r,0,none⟩) d d) 149 (0,0))),?_,fun _ _=>kept_top rfl,(fun h=>by cases h),?_⟩
 ·rintro fl rfl
  refine SeqRun.skip rfl ?_
  rintro w' ⟨r',hr',h2,h3,h4,hfb⟩
  obtain rfl:r=r':=by simpa using hr'
  obtain⟨hbge,hne,hbx⟩:=hfb bs rfl
  exact⟨_,do_store_seg _ w' bs (segV p 0 0 0 0 0 (some ⟨r,0,none⟩) d d) (by kernel_rfl) (by kernel_rfl) (by rw[rowFree_row _ _ _ _ _ hbx];rfl) rfl rfl,hbge,h2,hne,h3.trans (setRow_below _ hbge),(setRow_other _ bs _ _ (fun h=>hne h.symm)).trans h4,setRow_row hbx⟩
 rintro v ⟨fl2,w22,rfl,-⟩
 rintro zz ⟨-,hbs,hr0,hne,hzz,hzr,hsz⟩
 have HZ:=Lib.hid hzz
 have HS:=Lib.hid hsz
 have HR:=Lib.hid hzr
 have HX:=Lib.hid ((hzz.block b0 hlt).trans HY.out)
 have hbz:b0<zz.heap.size:=Nat.lt_of_lt_of_le hlt hzz.size
 have hsz':bs<zz.heap.size:=(Array.getElem?_eq_some_iff.1 hsz).1
 have hrz:r<zz.heap.size:=(Array.getElem?_eq_some_iff.1 hzr).1
 have hne0:bs≠b0:=by omega
 have c34:zz.cell? ⟨b0,34,none⟩=some (.int .u8 p):=cell_of_row _ _ 34 _ _ (0,0) HX.out
 clear hzz hsz hzr fl0 fl2 w20 w22 HY hc0
 unfold ptrTo
 simp only[Act.put,List.setIfInBounds_toArray,List.set_cons_succ,List.set_cons_zero]
 go_wp2_with fail
 refine Calls.mono (HP.out zz) ?_
 rintro e z2 ⟨rfl,hb2⟩
 have HZ2:=Lib.hid (Below.via HZ.out hb2)
 have HX2:=Lib.hid ((hb2.block b0 hbz).trans HX.out)
 have HS2:=Lib.hid ((hb2.block bs hsz').trans HS.out)
 have HR2:=Lib.hid ((hb2.block r hrz).trans HR.out)
 have d34:z2.cell? ⟨b0,34,none⟩=some (.int .u8 p):=cell_of_row _ _ 34 _ _ (0,0) HX2.out
 clear hb2 c34
 go_wp2_with fail
 refine Calls.mono (HI.out z2) ?_
 rintro e z3 ⟨rfl,hb3⟩
 have HZ3:=Lib.hid (Below.via HZ2.out hb3)
 have HS3:=Lib.hid ((hb3.block bs (Array.getElem?_eq_some_iff.1 HS2.out).1).trans HS2.out)
 have HR3:=Lib.hid ((hb3.block r (Array.getElem?_eq_some_iff.1 HR2.out).1).trans HR2.out)
 have e11:z3.cell? ⟨bs,11,none⟩=some (.slice (some ⟨r,0,none⟩) d d):=cell_of_row _ _ 11 _ _ (0,0) HS3.out
 clear hb3 d34
 go_wp2_with fail
 go_ret2
 have hl:((zerosL d).map (.int .u8:Int→Value)).length=d:=by simp[zerosL]
 have hz:(zerosL d).length=d:=by simp[zerosL]
 have hO:=owns_row HR3.out (by rw[hl];have:=HD.out;unfold maxLen;omega)
 rw[hl] at hO
 exact⟨some ⟨r,0,none⟩,d,by rw[hz];rfl,by rw[hz];exact hO.mono (Nat.le_trans HB.out.size hr0),HB.out.trans (HZ3.out.mono HB.out.size)⟩
theorem spseg_ports (s:Bool)(S T:Nat→Int)(p a b f:Int)(d:Nat)(hd:d≤2048)(hS:U8 S)(hT:U8 T)(hip:isPorts p=true)(R:List Int→List Int)(hput:∀(oD:Option Addr) (n cD:Nat) (l:List Int) (o1 o2:Option Addr) (k c1 c2:Nat) (w:World),Reads w oD n cD l→Reads w o1 k c1 (adBytes s S)→Reads w o2 k c2 (adBytes s T)→(k=4∨k=16)→n≤60000→Calls Tryz.prog 94 #[.agg (segV p a b f 0 0 oD n cD),.slice o1 k c1,.slice o2 k c2] w (BytesErr w (R l) 0))(w:World):
 Calls Tryz.prog 43 #[.agg (spC s S s T p a b f d)] w (BytesErr w (R (zerosL d)) 0):=by
 have HP:Hid (∀w',Calls Tryz.prog 35 #[.int .u8 p] w' (RetAt w' (.bool (isPorts p)))):=Lib.hid (fun w'=>ports_any p w')
 have HI:Hid (∀w',Calls Tryz.prog 36 #[.int .u8 p] w' (RetAt w' (.bool (isIcmp p)))):=Lib.hid (fun w'=>icmp_any p w')
 rw[hip] at HP
 obtain⟨L,hL⟩:∃L,R (zerosL d)=L:=⟨_,rfl⟩
 have HPU:Hid (∀(oD:Option Addr) (n cD:Nat) (o1 o2:Option Addr) (k c1 c2:Nat) (w:World),Reads w oD n cD (zerosL d)→Reads w o1 k c1 (adBytes s S)→Reads w o2 k c2 (adBytes s T)→(k=4∨k=16)→n≤60000→Calls Tryz.prog 94 #[.agg (segV p a b f 0 0 oD n cD),.slice o1 k c1,.slice o2 k c2] w (BytesErr w L 0)):=Lib.hid (fun oD n cD o1 o2 k c1 c2 w h0 h1 h2 h3 h4=>by rw[←hL];exact hput oD n cD _ o1 o2 k c1 c2 w h0 h1 h2 h3 h4)
 rw[hL]
 have HD:=Lib.hid hd
 have hX:(w.alloc (.cells (spC s S s T p a b f d) 47)).heap[w.heap.size]? =some (.cells (spC s S s T p a b f d) 47 (0,0)):=heap_alloc_new w _
 have HB:Hid (Below w.heap.size w (w.alloc (.cells (spC s S s T p a b f d) 47))):=Lib.hid (Below.all (Below.refl _ _) _)
 clear hd hip hput hL
 unfold spC at HB hX⊢
 go_enter Tryz.func43,Tryz.ntmps43
 go_wp2_with fail
 obtain⟨b0,hb0⟩:∃b,b=w.heap.size:=⟨_,rfl⟩
 have HB0:=Lib.hid hb0
 rw[←hb0] at hX⊢
 clear hb0
 generalize w.alloc _=y at*
 have hlt:b0<y.heap.size:=(Array.getElem?_eq_some_iff.1 hX).1
 have HY:=Lib.hid hX
 clear hX
 have hc0:y.cell? ⟨b0,34,none⟩=some (.int .u8 p):=cell_of_row _ _ 34 _ _ (0,0) HY.out
 refine wp_region_fl [.h,.h,.h,.h,.h] [(0,1,0),(1,1,0),(2,1,0)] (fun _ w'=>w'.cell? ⟨b0,34,none⟩=some (.int .u8 p)) [1] [(.w,5),(.q,6)] [(.w,8)] 7 (.cells segZC 149) (by kernel_rfl) (by kernel_rfl) rfl rfl ⟨fun _=>rfl,fun _ _=>by kernel_rfl⟩ (by kernel_rfl) (by kernel_rfl) ?_
 apply Exists.intro
 refine⟨fun wx hbx=>?_,?_,?_⟩
 ·have hxx:=(hbx.block b0 hlt).trans HY.out
  have hbx2:b0<wx.heap.size:=Nat.lt_of_lt_of_le hlt hbx.size
  have c34:wx.cell? ⟨b0,34,none⟩=some (.int .u8 p):=cell_of_row _ _ 34 _ _ (0,0) hxx
  have c38:wx.cell? ⟨b0,38,none⟩=some (.int .i64 d):=cell_of_row _ _ 38 _ _ (0,0) hxx
  clear hxx hbx
  simp only[headsL]
  repeat go_big_quiet_step (fail)
  exact wpQuiet_nil rfl
 ·intro q hq oi hoi
  simp only[List.mem_cons,List.not_mem_nil,or_false] at hq
  rcases hq with rfl|rfl|rfl
  ·cases hoi;exact⟨_,rfl,rfl,fun w2 hw=>by kernel_rfl⟩
  ·cases hoi;exact⟨_,rfl,rfl,fun w2 hw=>by kernel_rfl⟩
  ·cases hoi;exact⟨_,rfl,rfl,fun w2 hw=>by simp[execOp,go_sem,hw]⟩
 simp only[opsAt,List.getElem?_cons_succ,List.getElem?_cons_zero]
 refine⟨fun v fl w2=>∃r,v=.slice (some ⟨r,0,none⟩) d d∧y.heap.size≤r∧Below y.heap.size y w2∧w2.heap[r]? =some (.cells ((zerosL d).map (.int .u8)).toArray 5 (0,0))∧∀b',fl=some b'→y.heap.size≤b'∧b'≠r∧w2.heap[b']? =some (.cells segZC 149 (0,0)),?_,?_,?_,?_⟩
 ·rintro fl-
  refine SeqRun.made rfl ?_
  rintro w' ⟨⟨x,rfl⟩,hfb⟩
  refine⟨_,_,exec_make _ _ (vx:=.int .i64 d) (vy:=.int .i64 d) (by kernel_rfl) (by kernel_rfl) (run_zeros x.world d HD.out),x.world.heap.size,rfl,x.below.size,Below.all x.below _,heap_alloc_new _ _,fun b' hb'=>?_⟩
  have h1:=(hfb b' hb')
  have h2:=(Array.getElem?_eq_some_iff.1 h1.2).1
  exact⟨h1.1,by omega,(heap_alloc_old _ _ h2).trans h1.2⟩
 ·rintro v fl g-w2 ⟨r,-,-,h3,-⟩
  exact(below_cell h3 hlt _ rfl).trans hc0
 ·rintro-v w2 ⟨r,h1,h2,h3,h4,-⟩
  have hr:=(Array.getElem?_eq_some_iff.1 h4).1
  exact⟨r,h1,h2,Below.all h3 _,(heap_alloc_old _ _ hr).trans h4,fun b' hb'=>by cases hb';exact⟨h3.size,by omega,heap_alloc_new _ _⟩⟩
 rintro v ⟨fl0,w20,r,rfl,-⟩
 refine⟨.agg (segV p 0 0 0 0 0 (some ⟨r,0,none⟩) d d),⟨rfl,fun _=>by kernel_rfl⟩,?_⟩
 intro bs
 refine⟨fun v fl w2=>v=undef∧(y.heap.size≤bs∧y.heap.size≤r∧bs≠r∧Below y.heap.size y w2∧w2.heap[r]? =some (.cells ((zerosL d).map (.int .u8)).toArray 5 (0,0))∧w2.heap[bs]? =some (.cells (segV p 0 0 0 0 0 (some ⟨r,0,none⟩) d d) 149 (0,0))),?_,fun _ _=>kept_top rfl,(fun h=>by cases h),?_⟩
 ·rintro fl rfl
  refine SeqRun.skip rfl ?_
  rintro w' ⟨r',hr',h2,h3,h4,hfb⟩
  obtain rfl:r=r':=by simpa using hr'
  obtain⟨hbge,hne,hbx⟩:=hfb bs rfl
  exact⟨_,do_store_seg _ w' bs (segV p 0 0 0 0 0 (some ⟨r,0,none⟩) d d) (by kernel_rfl) (by kernel_rfl) (by rw[rowFree_row _ _ _ _ _ hbx];rfl) rfl rfl,hbge,h2,hne,h3.trans (setRow_below _ hbge),(setRow_other _ bs _ _ (fun h=>hne h.symm)).trans h4,setRow_row hbx⟩
 rintro v ⟨fl2,w22,rfl,-⟩
 rintro zz ⟨-,hbs,hr0,hne,hzz,hzr,hsz⟩
 have HZ:=Lib.hid hzz
 have HS:=Lib.hid hsz
 have HR:=Lib.hid hzr
 have HX:=Lib.hid ((hzz.block b0 hlt).trans HY.out)
 have hbz:b0<zz.heap.size:=Nat.lt_of_lt_of_le hlt hzz.size
 have hsz':bs<zz.heap.size:=(Array.getElem?_eq_some_iff.1 hsz).1
 have hrz:r<zz.heap.size:=(Array.getElem?_eq_some_iff.1 hzr).1
 have hne0:bs≠b0:=by omega
 have c34:zz.cell? ⟨b0,34,none⟩=some (.int .u8 p):=cell_of_row _ _ 34 _ _ (0,0) HX.out
 clear hzz hsz hzr fl0 fl2 w20 w22 HY hc0
 unfold ptrTo
 simp only[Act.put,List.setIfInBounds_toArray,List.set_cons_succ,List.set_cons_zero]
 go_wp2_with fail
 refine Calls.mono (HP.out zz) ?_
 rintro e z2 ⟨rfl,hb2⟩
 have HZ2:=Lib.hid (Below.via HZ.out hb2)
 have HX2:=Lib.hid ((hb2.block b0 hbz).trans HX.out)
 have HS2:=Lib.hid ((hb2.block bs hsz').trans HS.out)
 have HR2:=Lib.hid ((hb2.block r hrz).trans HR.out)
 clear hb2 c34 HX HS HR HZ
 go_wp2_with fail
 have hb02:b0<z2.heap.size:=(Array.getElem?_eq_some_iff.1 HX2.out).1
 have hbs2:bs<z2.heap.size:=(Array.getElem?_eq_some_iff.1 HS2.out).1
 have hr2:r<z2.heap.size:=(Array.getElem?_eq_some_iff.1 HR2.out).1
 refine wp_region_sc [.h,.h,.h,.h,.h,.h,.h,.h,.h] [(3,1,0),(4,1,0),(5,1,0),(6,2,0),(7,2,0)] (fun _ w'=>w'.cell? ⟨b0,36,none⟩=some (.int .u16 b)∧w'.cell? ⟨b0,37,none⟩=some (.int .u8 f)) [2] [(.w,9),(.q,10),(.w,11),(.q,12),(.w,13)] (by kernel_rfl) (by kernel_rfl) (by kernel_rfl) (by kernel_rfl) ?_
 apply Exists.intro
 refine⟨fun wx hbx=>?_,?_,?_⟩
 ·have hxx:=(hbx.block b0 hb02).trans HX2.out
  have e35:wx.cell? ⟨b0,35,none⟩=some (.int .u16 a):=cell_of_row _ _ 35 _ _ (0,0) hxx
  have e36:wx.cell? ⟨b0,36,none⟩=some (.int .u16 b):=cell_of_row _ _ 36 _ _ (0,0) hxx
  have e37:wx.cell? ⟨b0,37,none⟩=some (.int .u8 f):=cell_of_row _ _ 37 _ _ (0,0) hxx
  have hbx2:b0<wx.heap.size:=Nat.lt_of_lt_of_le hb02 hbx.size
  clear hxx hbx
  simp only[headsL]
  repeat go_big_quiet_step (fail)
  exact wpQuiet_nil rfl
 ·intro q hq oi hoi
  simp only[List.mem_cons,List.not_mem_nil,or_false] at hq
  rcases hq with rfl|rfl|rfl|rfl|rfl
  ·cases hoi;exact⟨_,rfl,rfl,fun w2 hw=>by kernel_rfl⟩
  ·cases hoi;exact⟨_,rfl,rfl,fun w2 hw=>by kernel_rfl⟩
  ·cases hoi;exact⟨_,rfl,rfl,fun w2 hw=>by simp[execOp,go_sem,hw.1]⟩
  ·cases hoi;exact⟨_,rfl,rfl,fun w2 hw=>by kernel_rfl⟩
  ·cases hoi;exact⟨_,rfl,rfl,fun w2 hw=>by simp[execOp,go_sem,hw.2]⟩
 have d36:z2.cell? ⟨b0,36,none⟩=some (.int .u16 b):=cell_of_row _ _ 36 _ _ (0,0) HX2.out
 have d37:z2.cell? ⟨b0,37,none⟩=some (.int .u8 f):=cell_of_row _ _ 37 _ _ (0,0) HX2.out
 simp only[opsAt,List.getElem?_cons_succ,List.getElem?_cons_zero]
 refine⟨fun v fq w2=>v=undef∧OBx z2 bs (segV p a 0 0 0 0 (some ⟨r,0,none⟩) d d) 149 w2,?_,?_,(fun h=>by cases h),?_⟩
 ·rintro fl rfl
  refine SeqRun.skip rfl ?_
  rintro w' ⟨⟨x,rfl⟩,-⟩
  have hob:OBx z2 bs (segV p 0 0 0 0 0 (some ⟨r,0,none⟩) d d) 149 x.world:=OBx.later ⟨HS2.out,Below.refl _ _,fun _ _ _=>rfl⟩ x.below
  have g1:x.world.cell? ⟨bs,1,none⟩=some (.int .u16 0):=cell_of_row _ _ 1 _ _ (0,0) hob.1
  have g2:=frozen_of_row _ _ 1 _ _ hob.1
  refine⟨_,?_,hob.set 1 (.int .u16 a)⟩
  simp[execOp,go_sem,g1,g2]
 ·rintro v fq g-w2 ⟨-,hob⟩
  have:=(hob.2.2 b0 (fun h=>hne0 h.symm) hb02)
  exact⟨(World.cell?_of_block (a:=⟨b0,36,none⟩) this).trans d36,(World.cell?_of_block (a:=⟨b0,37,none⟩) this).trans d37⟩
 rintro v ⟨gl0,w30,rfl,-⟩
 refine⟨.pointer (some ⟨bs,2,none⟩),⟨rfl,fun _=>by kernel_rfl⟩,?_⟩
 refine⟨fun v fq w2=>v=undef∧OBx z2 bs (segV p a b 0 0 0 (some ⟨r,0,none⟩) d d) 149 w2,?_,?_,(fun h=>by cases h),?_⟩
 ·rintro fl rfl
  refine SeqRun.skip rfl ?_
  rintro w' ⟨-,hob⟩
  have g1:w'.cell? ⟨bs,2,none⟩=some (.int .u16 0):=cell_of_row _ _ 2 _ _ (0,0) hob.1
  have g2:=frozen_of_row _ _ 2 _ _ hob.1
  refine⟨_,?_,hob.set 2 (.int .u16 b)⟩
  simp[execOp,go_sem,g1,g2]
 ·rintro v fq g-w2 ⟨-,hob⟩
  have:=(hob.2.2 b0 (fun h=>hne0 h.symm) hb02)
  exact⟨(World.cell?_of_block (a:=⟨b0,36,none⟩) this).trans d36,(World.cell?_of_block (a:=⟨b0,37,none⟩) this).trans d37⟩
 rintro v ⟨gl1,w31,rfl,-⟩
 refine⟨.pointer (some ⟨bs,5,none⟩),⟨rfl,fun _=>by kernel_rfl⟩,?_⟩
 refine⟨fun v fq w2=>v=undef∧OBx z2 bs (segV p a b f 0 0 (some ⟨r,0,none⟩) d d) 149 w2,?_,fun _ _=>kept_top rfl,(fun h=>by cases h),?_⟩
 ·rintro fl rfl
  refine SeqRun.skip rfl ?_
  rintro w' ⟨-,hob⟩
  have g1:w'.cell? ⟨bs,5,none⟩=some (.int .u8 0):=cell_of_row _ _ 5 _ _ (0,0) hob.1
  have g2:=frozen_of_row _ _ 5 _ _ hob.1
  refine⟨_,?_,hob.set 5 (.int .u8 f)⟩
  simp[execOp,go_sem,g1,g2]
 rintro v ⟨gl2,w32,rfl,-⟩
 rintro z4 ⟨-,hob⟩
 have HS4:=Lib.hid hob.1
 have HX4:=Lib.hid ((hob.2.2 b0 (fun h=>hne0 h.symm) hb02).trans HX2.out)
 have HR4:=Lib.hid ((hob.2.2 r (fun h=>hne h.symm) hr2).trans HR2.out)
 have HZ4:Hid (Below y.heap.size y z4):=Lib.hid (HZ2.out.trans (hob.2.1.mono hbs))
 clear hob d36 d37 gl0 gl1 gl2 w30 w31 w32 HS2 HX2 HR2 HZ2 hb02 hbs2 hr2
 have HSZ:Hid ((segV p a b f 0 0 (some ⟨r,0,none⟩) d d).size=12):=Lib.hid rfl
 simp only[Act.put,List.setIfInBounds_toArray,List.set_cons_succ,List.set_cons_zero]
 go_wp2_with fail
 have hb04:b0<z4.heap.size:=(Array.getElem?_eq_some_iff.1 HX4.out).1
 have hbs4:bs<z4.heap.size:=(Array.getElem?_eq_some_iff.1 HS4.out).1
 obtain⟨k1,hk1⟩:∃m,(adBytes s S).length=m:=⟨_,rfl⟩
 have hk2:(adBytes s T).length=k1:=by rw[adBytes_len,←hk1,adBytes_len]
 have HK:Hid (k1=4∨k1=16):=Lib.hid (by rw[←hk1,adBytes_len];cases s;exact .inl rfl;exact .inr rfl)
 have HA1:Hid (∀w',Calls Tryz.prog 64 #[adV s S] w' (NewN w' k1 (adBytes s S))):=Lib.hid fun w'=>(bytes_any s S w').mono fun _ _ h=>h.n hk1 (adBytes_isb hS s)
 have HA2:Hid (∀w',Calls Tryz.prog 64 #[adV s T] w' (NewN w' k1 (adBytes s T))):=Lib.hid fun w'=>(bytes_any s T w').mono fun _ _ h=>h.n hk2 (adBytes_isb hT s)
 have HRZ:=Lib.hid (zeros_reads HR4.out HD.out)
 refine wp_region_sc [.h,.h,.h,.h,.w,.h,.h,.h] [(0,2,0),(5,1,0),(6,1,0),(7,1,0)] (fun _ w'=>partOf w' bs 0 12=segV p a b f 0 0 (some ⟨r,0,none⟩) d d∧partOf w' b0 17 17=#[.bool s,.int .u8 (T 0),.int .u8 (T 1),.int .u8 (T 2),.int .u8 (T 3),.int .u8 (T 4),.int .u8 (T 5),.int .u8 (T 6),.int .u8 (T 7),.int .u8 (T 8),.int .u8 (T 9),.int .u8 (T 10),.int .u8 (T 11),.int .u8 (T 12),.int .u8 (T 13),.int .u8 (T 14),.int .u8 (T 15)]) [2] [(.w,4),(.w,8),(.w,9),(.q,10),(.q,11),(.q,12),(.q,13)] (by kernel_rfl) (by kernel_rfl) (by kernel_rfl) (by kernel_rfl) ?_
 apply Exists.intro
 refine⟨fun wx hbx=>?_,?_,?_⟩
 ·have hxx:=(hbx.block b0 hb04).trans HX4.out
  have hss:=(hbx.block bs hbs4).trans HS4.out
  have hbx2:b0<wx.heap.size:=Nat.lt_of_lt_of_le hb04 hbx.size
  have hbx3:bs<wx.heap.size:=Nat.lt_of_lt_of_le hbs4 hbx.size
  have p0:partOf wx bs 0 12=segV p a b f 0 0 (some ⟨r,0,none⟩) d d:=partOf_all hss rfl
  have hld:∀x:Later wx,ldRun Tryz.prog 149 x.world (.pointer (some ⟨bs,0,none⟩))=.ok (.value (.agg (segV p a b f 0 0 (some ⟨r,0,none⟩) d d))) x.world:=fun x=>by
   have e:partOf x.world bs 0 12=_:=(Later.part x bs 0 12 hbx3).trans p0
   rw[run_load_seg x.world bs 0 (by rw[e];rfl),e]
  have p1:partOf wx b0 0 17=#[.bool s,.int .u8 (S 0),.int .u8 (S 1),.int .u8 (S 2),.int .u8 (S 3),.int .u8 (S 4),.int .u8 (S 5),.int .u8 (S 6),.int .u8 (S 7),.int .u8 (S 8),.int .u8 (S 9),.int .u8 (S 10),.int .u8 (S 11),.int .u8 (S 12),.int .u8 (S 13),.int .u8 (S 14),.int .u8 (S 15)]:=by rw[partOf_row _ _ _ _ _ _ _ hxx];simp
  have p2:partOf wx b0 17 17=#[.bool s,.int .u8 (T 0),.int .u8 (T 1),.int .u8 (T 2),.int .u8 (T 3),.int .u8 (T 4),.int .u8 (T 5),.int .u8 (T 6),.int .u8 (T 7),.int .u8 (T 8),.int .u8 (T 9),.int .u8 (T 10),.int .u8 (T 11),.int .u8 (T 12),.int .u8 (T 13),.int .u8 (T 14),.int .u8 (T 15)]:=by rw[partOf_row _ _ _ _ _ _ _ hxx];simp
  clear hxx hss hbx
  simp only[headsL]
  repeat go_big_quiet_step (fail)
  exact wpQuiet_nil rfl
 ·intro q hq oi hoi
  simp only[List.mem_cons,List.not_mem_nil,or_false] at hq
  rcases hq with rfl|rfl|rfl|rfl
  ·cases hoi;exact⟨_,rfl,rfl,fun w2 hw=>do_load_seg _ w2 bs _ (by kernel_rfl) hw.1 rfl⟩
  ·cases hoi;exact⟨_,rfl,rfl,fun w2 hw=>by kernel_rfl⟩
  ·cases hoi;exact⟨_,rfl,rfl,fun w2 hw=>by kernel_rfl⟩
  ·cases hoi;exact⟨_,rfl,rfl,fun w2 hw=>by simp[execOp,go_sem,hw.2]⟩
 have q0:partOf z4 bs 0 12=segV p a b f 0 0 (some ⟨r,0,none⟩) d d:=partOf_all HS4.out rfl
 have q2:partOf z4 b0 17 17=#[.bool s,.int .u8 (T 0),.int .u8 (T 1),.int .u8 (T 2),.int .u8 (T 3),.int .u8 (T 4),.int .u8 (T 5),.int .u8 (T 6),.int .u8 (T 7),.int .u8 (T 8),.int .u8 (T 9),.int .u8 (T 10),.int .u8 (T 11),.int .u8 (T 12),.int .u8 (T 13),.int .u8 (T 14),.int .u8 (T 15)]:=by rw[partOf_row _ _ _ _ _ _ _ HX4.out];simp
 simp only[opsAt,List.getElem?_cons_succ,List.getElem?_cons_zero]
 refine⟨fun v fl w2=>∃o1 c1,v=.slice o1 k1 c1∧Reads w2 o1 k1 c1 (adBytes s S)∧Below z4.heap.size z4 w2,?_,?_,(fun h=>by cases h),?_⟩
 ·rintro fl rfl
  refine⟨rfl,fun w' hw'=>.inr ⟨64,#[adV s S],by kernel_rfl,?_⟩⟩
  obtain⟨⟨x,rfl⟩,-⟩:=hw'
  refine(HA1.out x.world).mono ?_
  rintro e w2 ⟨o1,c1,rfl,h1,hb⟩
  exact⟨_,rfl,o1,c1,rfl,h1,Below.via x.below hb⟩
 ·rintro v fq g-w2 ⟨o1,c1,-,-,hb⟩
  exact⟨(partOf_below hb bs 0 12 hbs4).trans q0,(partOf_below hb b0 17 17 hb04).trans q2⟩
 rintro v ⟨gl0,w30,o1,c1,rfl,-⟩
 refine⟨fun v fl w2=>∃o2 c2,v=.slice o2 k1 c2∧Reads w2 o1 k1 c1 (adBytes s S)∧Reads w2 o2 k1 c2 (adBytes s T)∧Below z4.heap.size z4 w2,?_,?_,(fun h=>by cases h),?_⟩
 ·rintro fl rfl
  refine⟨rfl,fun w' hw'=>.inr ⟨64,#[adV s T],by kernel_rfl,?_⟩⟩
  obtain⟨o1',c1',he,h1,hb1⟩:=hw'
  obtain⟨rfl,rfl⟩:o1=o1'∧c1=c1':=by simpa using he
  refine(HA2.out w').mono ?_
  rintro e w2 ⟨o2,c2,rfl,h2,hb⟩
  exact⟨_,rfl,o2,c2,rfl,h1.below hb,h2,Below.via hb1 hb⟩
 ·rintro v fq g-w2 ⟨o2,c2,-,-,-,hb⟩
  exact⟨(partOf_below hb bs 0 12 hbs4).trans q0,(partOf_below hb b0 17 17 hb04).trans q2⟩
 rintro v ⟨gl1,w31,o2,c2,rfl,-⟩
 refine⟨fun v fl w2=>∃oP cP,v=.tuple #[.slice oP L.length cP,.int .i64 0]∧Owns w2 z4.heap.size 1 oP L.length cP (L.map (.int .u8))∧Below z4.heap.size z4 w2,?_,fun _ _=>kept_top rfl,(fun h=>by cases h),?_⟩
 ·rintro fl rfl
  refine⟨rfl,fun w' hw'=>.inr ⟨94,#[.agg (segV p a b f 0 0 (some ⟨r,0,none⟩) d d),.slice o1 k1 c1,.slice o2 k1 c2],by kernel_rfl,?_⟩⟩
  obtain⟨o2',c2',he,h1,h2,hb1⟩:=hw'
  obtain⟨rfl,rfl⟩:o2=o2'∧c2=c2':=by simpa using he
  refine(HPU.out _ d d o1 o2 k1 c1 c2 w' (HRZ.out.below hb1) h1 h2 HK.out (by have:=HD.out;omega)).mono ?_
  rintro e w2 ⟨oP,cP,rfl,ho,hb⟩
  exact⟨_,rfl,oP,cP,rfl,ho.mono hb1.size,Below.via hb1 hb⟩
 rintro v ⟨gl2,w32,oP,cP,rfl,-⟩
 refine⟨.slice oP L.length cP,⟨rfl,fun _=>by kernel_rfl⟩,?_⟩
 refine⟨.int .i64 0,⟨rfl,fun _=>by kernel_rfl⟩,?_⟩
 refine⟨.slice oP L.length cP,⟨rfl,fun _=>by kernel_rfl⟩,?_⟩
 refine⟨.int .i64 0,⟨rfl,fun _=>by kernel_rfl⟩,?_⟩
 rintro y3 ⟨oP',cP',he,hoP,hb3⟩
 obtain⟨rfl,rfl⟩:oP=oP'∧cP=cP':=by simpa using he
 have HOP:=Lib.hid hoP
 have HB3:=Lib.hid hb3
 clear he gl0 gl1 gl2 w30 w31 w32 q0 q2 hk1 hk2 hoP hb3 hb04 hbs4 hbz hsz' hrz hlt hne hne0 hbs hr0 hS hT
 simp only[Act.put,List.setIfInBounds_toArray,List.set_cons_succ,List.set_cons_zero]
 go_wp2_with fail
 go_ret2
 exact⟨_,_,rfl,HOP.out.mono (Nat.le_trans HB.out.size HZ4.out.size),HB.out.trans ((HZ4.out.trans (HB3.out.mono HZ4.out.size)).mono HB.out.size)⟩
theorem spseg_icmp (s:Bool)(S T:Nat→Int)(p a b f:Int)(d:Nat)(hd:d≤2048)(hS:U8 S)(hT:U8 T)(hip:isPorts p=false)(hii:isIcmp p=true)(hb:0≤b∧b<65536)(w:World):
 Calls Tryz.prog 43 #[.agg (spC s S s T p a b f d)] w (BytesErr w (tPut p (b/256) (b%256) 0 (zerosL d) (adBytes s S) (adBytes s T)) 0):=by
 have HP:Hid (∀w',Calls Tryz.prog 35 #[.int .u8 p] w' (RetAt w' (.bool (isPorts p)))):=Lib.hid (fun w'=>ports_any p w')
 have HI:Hid (∀w',Calls Tryz.prog 36 #[.int .u8 p] w' (RetAt w' (.bool (isIcmp p)))):=Lib.hid (fun w'=>icmp_any p w')
 have hpi:p=1∨p=58:=by simpa[isIcmp] using hii
 rw[hip] at HP
 rw[hii] at HI
 have HBB:=Lib.hid hb
 have HPU:Hid (∀(oD:Option Addr) (n cD:Nat) (o1 o2:Option Addr) (k c1 c2:Nat) (w:World),Reads w oD n cD (zerosL d)→Reads w o1 k c1 (adBytes s S)→Reads w o2 k c2 (adBytes s T)→(k=4∨k=16)→n≤60000→Calls Tryz.prog 94 #[.agg (segV p 0 0 0 (b/256) (b%256) oD n cD),.slice o1 k c1,.slice o2 k c2] w (BytesErr w (tPut p (b/256) (b%256) 0 (zerosL d) (adBytes s S) (adBytes s T)) 0)):=Lib.hid (fun oD n cD o1 o2 k c1 c2 w h0 h1 h2 h3 h4=>tput_icmp p (b/256) (b%256) oD n cD (zerosL d) o1 o2 k c1 c2 _ _ w h0 h1 h2 h3 h4 (by omega) (by omega) hpi)
 generalize tPut p (b/256) (b%256) 0 (zerosL d) (adBytes s S) (adBytes s T)=L at*
 have HD:=Lib.hid hd
 have hX:(w.alloc (.cells (spC s S s T p a b f d) 47)).heap[w.heap.size]? =some (.cells (spC s S s T p a b f d) 47 (0,0)):=heap_alloc_new w _
 have HB:Hid (Below w.heap.size w (w.alloc (.cells (spC s S s T p a b f d) 47))):=Lib.hid (Below.all (Below.refl _ _) _)
 clear hd hip hii hb hpi
 unfold spC at HB hX⊢
 go_enter Tryz.func43,Tryz.ntmps43
 go_wp2_with fail
 obtain⟨b0,hb0⟩:∃b,b=w.heap.size:=⟨_,rfl⟩
 have HB0:=Lib.hid hb0
 rw[←hb0] at hX⊢
 clear hb0
 generalize w.alloc _=y at*
 have hlt:b0<y.heap.size:=(Array.getElem?_eq_some_iff.1 hX).1
 have HY:=Lib.hid hX
 clear hX
 have hc0:y.cell? ⟨b0,34,none⟩=some (.int .u8 p):=cell_of_row _ _ 34 _ _ (0,0) HY.out
 refine wp_region_fl [.h,.h,.h,.h,.h] [(0,1,0),(1,1,0),(2,1,0)] (fun _ w'=>w'.cell? ⟨b0,34,none⟩=some (.int .u8 p)) [1] [(.w,5),(.q,6)] [(.w,8)] 7 (.cells segZC 149) (by kernel_rfl) (by kernel_rfl) rfl rfl ⟨fun _=>rfl,fun _ _=>by kernel_rfl⟩ (by kernel_rfl) (by kernel_rfl) ?_
 apply Exists.intro
 refine⟨fun wx hbx=>?_,?_,?_⟩
 ·have hxx:=(hbx.block b0 hlt).trans HY.out
  have hbx2:b0<wx.heap.size:=Nat.lt_of_lt_of_le hlt hbx.size
  have c34:wx.cell? ⟨b0,34,none⟩=some (.int .u8 p):=cell_of_row _ _ 34 _ _ (0,0) hxx
  have c38:wx.cell? ⟨b0,38,none⟩=some (.int .i64 d):=cell_of_row _ _ 38 _ _ (0,0) hxx
  clear hxx hbx
  simp only[headsL]
  repeat go_big_quiet_step (fail)
  exact wpQuiet_nil rfl
 ·intro q hq oi hoi
  simp only[List.mem_cons,List.not_mem_nil,or_false] at hq
  rcases hq with rfl|rfl|rfl
  ·cases hoi;exact⟨_,rfl,rfl,fun w2 hw=>by kernel_rfl⟩
  ·cases hoi;exact⟨_,rfl,rfl,fun w2 hw=>by kernel_rfl⟩
  ·cases hoi;exact⟨_,rfl,rfl,fun w2 hw=>by simp[execOp,go_sem,hw]⟩
 simp only[opsAt,List.getElem?_cons_succ,List.getElem?_cons_zero]
 refine⟨fun v fl w2=>∃r,v=.slice (some ⟨r,0,none⟩) d d∧y.heap.size≤r∧Below y.heap.size y w2∧w2.heap[r]? =some (.cells ((zerosL d).map (.int .u8)).toArray 5 (0,0))∧∀b',fl=some b'→y.heap.size≤b'∧b'≠r∧w2.heap[b']? =some (.cells segZC 149 (0,0)),?_,?_,?_,?_⟩
 ·rintro fl-
  refine SeqRun.made rfl ?_
  rintro w' ⟨⟨x,rfl⟩,hfb⟩
  refine⟨_,_,exec_make _ _ (vx:=.int .i64 d) (vy:=.int .i64 d) (by kernel_rfl) (by kernel_rfl) (run_zeros x.world d HD.out),x.world.heap.size,rfl,x.below.size,Below.all x.below _,heap_alloc_new _ _,fun b' hb'=>?_⟩
  have h1:=(hfb b' hb')
  have h2:=(Array.getElem?_eq_some_iff.1 h1.2).1
  exact⟨h1.1,by omega,(heap_alloc_old _ _ h2).trans h1.2⟩
 ·rintro v fl g-w2 ⟨r,-,-,h3,-⟩
  exact(below_cell h3 hlt _ rfl).trans hc0
 ·rintro-v w2 ⟨r,h1,h2,h3,h4,-⟩
  have hr:=(Array.getElem?_eq_some_iff.1 h4).1
  exact⟨r,h1,h2,Below.all h3 _,(heap_alloc_old _ _ hr).trans h4,fun b' hb'=>by cases hb';exact⟨h3.size,by omega,heap_alloc_new _ _⟩⟩
 rintro v ⟨fl0,w20,r,rfl,-⟩
 refine⟨.agg (segV p 0 0 0 0 0 (some ⟨r,0,none⟩) d d),⟨rfl,fun _=>by kernel_rfl⟩,?_⟩
 intro bs
 refine⟨fun v fl w2=>v=undef∧(y.heap.size≤bs∧y.heap.size≤r∧bs≠r∧Below y.heap.size y w2∧w2.heap[r]? =some (.cells ((zerosL d).map (.int .u8)).toArray 5 (0,0))∧w2.heap[bs]? =some (.cells (segV p 0 0 0 0 0 (some ⟨r,0,none⟩) d d) 149 (0,0))),?_,fun _ _=>kept_top rfl,(fun h=>by cases h),?_⟩
 ·rintro fl rfl
  refine SeqRun.skip rfl ?_
  rintro w' ⟨r',hr',h2,h3,h4,hfb⟩
  obtain rfl:r=r':=by simpa using hr'
  obtain⟨hbge,hne,hbx⟩:=hfb bs rfl
  exact⟨_,do_store_seg _ w' bs (segV p 0 0 0 0 0 (some ⟨r,0,none⟩) d d) (by kernel_rfl) (by kernel_rfl) (by rw[rowFree_row _ _ _ _ _ hbx];rfl) rfl rfl,hbge,h2,hne,h3.trans (setRow_below _ hbge),(setRow_other _ bs _ _ (fun h=>hne h.symm)).trans h4,setRow_row hbx⟩
 rintro v ⟨fl2,w22,rfl,-⟩
 rintro zz ⟨-,hbs,hr0,hne,hzz,hzr,hsz⟩
 have HZ:=Lib.hid hzz
 have HS:=Lib.hid hsz
 have HR:=Lib.hid hzr
 have HX:=Lib.hid ((hzz.block b0 hlt).trans HY.out)
 have hbz:b0<zz.heap.size:=Nat.lt_of_lt_of_le hlt hzz.size
 have hsz':bs<zz.heap.size:=(Array.getElem?_eq_some_iff.1 hsz).1
 have hrz:r<zz.heap.size:=(Array.getElem?_eq_some_iff.1 hzr).1
 have hne0:bs≠b0:=by omega
 have c34:zz.cell? ⟨b0,34,none⟩=some (.int .u8 p):=cell_of_row _ _ 34 _ _ (0,0) HX.out
 clear hzz hsz hzr fl0 fl2 w20 w22 HY hc0
 unfold ptrTo
 simp only[Act.put,List.setIfInBounds_toArray,List.set_cons_succ,List.set_cons_zero]
 go_wp2_with fail
 refine Calls.mono (HP.out zz) ?_
 rintro e z2 ⟨rfl,hb2⟩
 have HZ2:=Lib.hid (Below.via HZ.out hb2)
 have HX2:=Lib.hid ((hb2.block b0 hbz).trans HX.out)
 have HS2:=Lib.hid ((hb2.block bs hsz').trans HS.out)
 have HR2:=Lib.hid ((hb2.block r hrz).trans HR.out)
 clear hb2 c34 HX HS HR HZ
 have hb02:b0<z2.heap.size:=(Array.getElem?_eq_some_iff.1 HX2.out).1
 have hbs2:bs<z2.heap.size:=(Array.getElem?_eq_some_iff.1 HS2.out).1
 have hr2:r<z2.heap.size:=(Array.getElem?_eq_some_iff.1 HR2.out).1
 have c34:z2.cell? ⟨b0,34,none⟩=some (.int .u8 p):=cell_of_row _ _ 34 _ _ (0,0) HX2.out
 go_wp2_with fail
 refine Calls.mono (HI.out z2) ?_
 rintro e z3 ⟨rfl,hb3⟩
 have HZ3:=Lib.hid (Below.via HZ2.out hb3)
 have HX3:=Lib.hid ((hb3.block b0 hb02).trans HX2.out)
 have HS3:=Lib.hid ((hb3.block bs hbs2).trans HS2.out)
 have HR3:=Lib.hid ((hb3.block r hr2).trans HR2.out)
 clear hb3 c34 HX2 HS2 HR2 HZ2 hb02 hbs2 hr2
 go_wp2_with fail
 have hb02:b0<z3.heap.size:=(Array.getElem?_eq_some_iff.1 HX3.out).1
 have hbs2:bs<z3.heap.size:=(Array.getElem?_eq_some_iff.1 HS3.out).1
 have hr2:r<z3.heap.size:=(Array.getElem?_eq_some_iff.1 HR3.out).1
 have hw1:IntKind.u8.wrap (b/256)=b/256:=by rw[IntKind.wrap_u8];have:=HBB.out;omega
 have hw2:IntKind.u8.wrap b=b%256:=by rw[IntKind.wrap_u8]
 have bb0:=HBB.out.1
 have bb1:=HBB.out.2
 refine wp_region_sc [.h,.h,.h,.h,.h,.h,.h,.h,.h,.h] [(5,1,0),(6,1,0),(7,1,0),(8,1,0)] (fun _ w'=>w'.cell? ⟨b0,36,none⟩=some (.int .u16 b)) [1] [(.w,10),(.q,11),(.w,12)] (by kernel_rfl) (by kernel_rfl) (by kernel_rfl) (by kernel_rfl) ?_
 apply Exists.intro
 refine⟨fun wx hbx=>?_,?_,?_⟩
 ·have hxx:=(hbx.block b0 hb02).trans HX3.out
  have e36:wx.cell? ⟨b0,36,none⟩=some (.int .u16 b):=cell_of_row _ _ 36 _ _ (0,0) hxx
  have hbx2:b0<wx.heap.size:=Nat.lt_of_lt_of_le hb02 hbx.size
  clear hxx hbx
  simp only[headsL]
  repeat go_big_quiet_step (fail)
  exact wpQuiet_nil rfl
 ·intro q hq oi hoi
  simp only[List.mem_cons,List.not_mem_nil,or_false] at hq
  rcases hq with rfl|rfl|rfl|rfl
  ·cases hoi;exact⟨_,rfl,rfl,fun w2 hw=>by kernel_rfl⟩
  ·cases hoi;exact⟨_,rfl,rfl,fun w2 hw=>by kernel_rfl⟩
  ·cases hoi;exact⟨_,rfl,rfl,fun w2 hw=>by simp[execOp,go_sem,hw]⟩
  ·cases hoi;exact⟨_,rfl,rfl,fun w2 hw=>by simp[execOp,go_sem,hw2]⟩
 have d36:z3.cell? ⟨b0,36,none⟩=some (.int .u16 b):=cell_of_row _ _ 36 _ _ (0,0) HX3.out
 simp only[opsAt,List.getElem?_cons_succ,List.getElem?_cons_zero]
 refine⟨fun v fq w2=>v=undef∧OBx z3 bs (segV p 0 0 0 (b/256) 0 (some ⟨r,0,none⟩) d d) 149 w2,?_,?_,(fun h=>by cases h),?_⟩
 ·rintro fl rfl
  refine SeqRun.skip rfl ?_
  rintro w' ⟨⟨x,rfl⟩,-⟩
  have hob:OBx z3 bs (segV p 0 0 0 0 0 (some ⟨r,0,none⟩) d d) 149 x.world:=OBx.later ⟨HS3.out,Below.refl _ _,fun _ _ _=>rfl⟩ x.below
  have g1:x.world.cell? ⟨bs,9,none⟩=some (.int .u8 0):=cell_of_row _ _ 9 _ _ (0,0) hob.1
  have g2:=frozen_of_row _ _ 9 _ _ hob.1
  refine⟨_,?_,hob.set 9 (.int .u8 (b/256))⟩
  simp[execOp,go_sem,g1,g2]
 ·rintro v fq g-w2 ⟨-,hob⟩
  have:=(hob.2.2 b0 (fun h=>hne0 h.symm) hb02)
  exact(World.cell?_of_block (a:=⟨b0,36,none⟩) this).trans d36
 rintro v ⟨gl0,w30,rfl,-⟩
 refine⟨.pointer (some ⟨bs,10,none⟩),⟨rfl,fun _=>by kernel_rfl⟩,?_⟩
 refine⟨fun v fq w2=>v=undef∧OBx z3 bs (segV p 0 0 0 (b/256) (b%256) (some ⟨r,0,none⟩) d d) 149 w2,?_,fun _ _=>kept_top rfl,(fun h=>by cases h),?_⟩
 ·rintro fl rfl
  refine SeqRun.skip rfl ?_
  rintro w' ⟨-,hob⟩
  have g1:w'.cell? ⟨bs,10,none⟩=some (.int .u8 0):=cell_of_row _ _ 10 _ _ (0,0) hob.1
  have g2:=frozen_of_row _ _ 10 _ _ hob.1
  refine⟨_,?_,hob.set 10 (.int .u8 (b%256))⟩
  simp[execOp,go_sem,g1,g2]
 rintro v ⟨gl2,w32,rfl,-⟩
 rintro z4 ⟨-,hob⟩
 have HS4:=Lib.hid hob.1
 have HX4:=Lib.hid ((hob.2.2 b0 (fun h=>hne0 h.symm) hb02).trans HX3.out)
 have HR4:=Lib.hid ((hob.2.2 r (fun h=>hne h.symm) hr2).trans HR3.out)
 have HZ4:Hid (Below y.heap.size y z4):=Lib.hid (HZ3.out.trans (hob.2.1.mono hbs))
 clear hob d36 gl0 gl2 w30 w32 HS3 HX3 HR3 HZ3 hb02 hbs2 hr2 hw1 hw2 bb0 bb1
 have HSZ:Hid ((segV p 0 0 0 (b/256) (b%256) (some ⟨r,0,none⟩) d d).size=12):=Lib.hid rfl
 simp only[Act.put,List.setIfInBounds_toArray,List.set_cons_succ,List.set_cons_zero]
 go_wp2_with fail
 have hb04:b0<z4.heap.size:=(Array.getElem?_eq_some_iff.1 HX4.out).1
 have hbs4:bs<z4.heap.size:=(Array.getElem?_eq_some_iff.1 HS4.out).1
 obtain⟨k1,hk1⟩:∃m,(adBytes s S).length=m:=⟨_,rfl⟩
 have hk2:(adBytes s T).length=k1:=by rw[adBytes_len,←hk1,adBytes_len]
 have HK:Hid (k1=4∨k1=16):=Lib.hid (by rw[←hk1,adBytes_len];cases s;exact .inl rfl;exact .inr rfl)
 have HA1:Hid (∀w',Calls Tryz.prog 64 #[adV s S] w' (NewN w' k1 (adBytes s S))):=Lib.hid fun w'=>(bytes_any s S w').mono fun _ _ h=>h.n hk1 (adBytes_isb hS s)
 have HA2:Hid (∀w',Calls Tryz.prog 64 #[adV s T] w' (NewN w' k1 (adBytes s T))):=Lib.hid fun w'=>(bytes_any s T w').mono fun _ _ h=>h.n hk2 (adBytes_isb hT s)
 have HRZ:=Lib.hid (zeros_reads HR4.out HD.out)
 refine wp_region_sc [.h,.h,.h,.h,.w,.h,.h,.h] [(0,2,0),(5,1,0),(6,1,0),(7,1,0)] (fun _ w'=>partOf w' bs 0 12=segV p 0 0 0 (b/256) (b%256) (some ⟨r,0,none⟩) d d∧partOf w' b0 17 17=#[.bool s,.int .u8 (T 0),.int .u8 (T 1),.int .u8 (T 2),.int .u8 (T 3),.int .u8 (T 4),.int .u8 (T 5),.int .u8 (T 6),.int .u8 (T 7),.int .u8 (T 8),.int .u8 (T 9),.int .u8 (T 10),.int .u8 (T 11),.int .u8 (T 12),.int .u8 (T 13),.int .u8 (T 14),.int .u8 (T 15)]) [2] [(.w,4),(.w,8),(.w,9),(.q,10),(.q,11),(.q,12),(.q,13)] (by kernel_rfl) (by kernel_rfl) (by kernel_rfl) (by kernel_rfl) ?_
 apply Exists.intro
 refine⟨fun wx hbx=>?_,?_,?_⟩
 ·have hxx:=(hbx.block b0 hb04).trans HX4.out
  have hss:=(hbx.block bs hbs4).trans HS4.out
  have hbx2:b0<wx.heap.size:=Nat.lt_of_lt_of_le hb04 hbx.size
  have hbx3:bs<wx.heap.size:=Nat.lt_of_lt_of_le hbs4 hbx.size
  have p0:partOf wx bs 0 12=segV p 0 0 0 (b/256) (b%256) (some ⟨r,0,none⟩) d d:=partOf_all hss rfl
  have hld:∀x:Later wx,ldRun Tryz.prog 149 x.world (.pointer (some ⟨bs,0,none⟩))=.ok (.value (.agg (segV p 0 0 0 (b/256) (b%256) (some ⟨r,0,none⟩) d d))) x.world:=fun x=>by
   have e:partOf x.world bs 0 12=_:=(Later.part x bs 0 12 hbx3).trans p0
   rw[run_load_seg x.world bs 0 (by rw[e];rfl),e]
  have p1:partOf wx b0 0 17=#[.bool s,.int .u8 (S 0),.int .u8 (S 1),.int .u8 (S 2),.int .u8 (S 3),.int .u8 (S 4),.int .u8 (S 5),.int .u8 (S 6),.int .u8 (S 7),.int .u8 (S 8),.int .u8 (S 9),.int .u8 (S 10),.int .u8 (S 11),.int .u8 (S 12),.int .u8 (S 13),.int .u8 (S 14),.int .u8 (S 15)]:=by rw[partOf_row _ _ _ _ _ _ _ hxx];simp
  have p2:partOf wx b0 17 17=#[.bool s,.int .u8 (T 0),.int .u8 (T 1),.int .u8 (T 2),.int .u8 (T 3),.int .u8 (T 4),.int .u8 (T 5),.int .u8 (T 6),.int .u8 (T 7),.int .u8 (T 8),.int .u8 (T 9),.int .u8 (T 10),.int .u8 (T 11),.int .u8 (T 12),.int .u8 (T 13),.int .u8 (T 14),.int .u8 (T 15)]:=by rw[partOf_row _ _ _ _ _ _ _ hxx];simp
  clear hxx hss hbx
  simp only[headsL]
  repeat go_big_quiet_step (fail)
  exact wpQuiet_nil rfl
 ·intro q hq oi hoi
  simp only[List.mem_cons,List.not_mem_nil,or_false] at hq
  rcases hq with rfl|rfl|rfl|rfl
  ·cases hoi;exact⟨_,rfl,rfl,fun w2 hw=>do_load_seg _ w2 bs _ (by kernel_rfl) hw.1 rfl⟩
  ·cases hoi;exact⟨_,rfl,rfl,fun w2 hw=>by kernel_rfl⟩
  ·cases hoi;exact⟨_,rfl,rfl,fun w2 hw=>by kernel_rfl⟩
  ·cases hoi;exact⟨_,rfl,rfl,fun w2 hw=>by simp[execOp,go_sem,hw.2]⟩
 have q0:partOf z4 bs 0 12=segV p 0 0 0 (b/256) (b%256) (some ⟨r,0,none⟩) d d:=partOf_all HS4.out rfl
 have q2:partOf z4 b0 17 17=#[.bool s,.int .u8 (T 0),.int .u8 (T 1),.int .u8 (T 2),.int .u8 (T 3),.int .u8 (T 4),.int .u8 (T 5),.int .u8 (T 6),.int .u8 (T 7),.int .u8 (T 8),.int .u8 (T 9),.int .u8 (T 10),.int .u8 (T 11),.int .u8 (T 12),.int .u8 (T 13),.int .u8 (T 14),.int .u8 (T 15)]:=by rw[partOf_row _ _ _ _ _ _ _ HX4.out];simp
 simp only[opsAt,List.getElem?_cons_succ,List.getElem?_cons_zero]
 refine⟨fun v fl w2=>∃o1 c1,v=.slice o1 k1 c1∧Reads w2 o1 k1 c1 (adBytes s S)∧Below z4.heap.size z4 w2,?_,?_,(fun h=>by cases h),?_⟩
 ·rintro fl rfl
  refine⟨rfl,fun w' hw'=>.inr ⟨64,#[adV s S],by kernel_rfl,?_⟩⟩
  obtain⟨⟨x,rfl⟩,-⟩:=hw'
  refine(HA1.out x.world).mono ?_
  rintro e w2 ⟨o1,c1,rfl,h1,hb⟩
  exact⟨_,rfl,o1,c1,rfl,h1,Below.via x.below hb⟩
 ·rintro v fq g-w2 ⟨o1,c1,-,-,hb⟩
  exact⟨(partOf_below hb bs 0 12 hbs4).trans q0,(partOf_below hb b0 17 17 hb04).trans q2⟩
 rintro v ⟨gl0,w30,o1,c1,rfl,-⟩
 refine⟨fun v fl w2=>∃o2 c2,v=.slice o2 k1 c2∧Reads w2 o1 k1 c1 (adBytes s S)∧Reads w2 o2 k1 c2 (adBytes s T)∧Below z4.heap.size z4 w2,?_,?_,(fun h=>by cases h),?_⟩
 ·rintro fl rfl
  refine⟨rfl,fun w' hw'=>.inr ⟨64,#[adV s T],by kernel_rfl,?_⟩⟩
  obtain⟨o1',c1',he,h1,hb1⟩:=hw'
  obtain⟨rfl,rfl⟩:o1=o1'∧c1=c1':=by simpa using he
  refine(HA2.out w').mono ?_
  rintro e w2 ⟨o2,c2,rfl,h2,hb⟩
  exact⟨_,rfl,o2,c2,rfl,h1.below hb,h2,Below.via hb1 hb⟩
 ·rintro v fq g-w2 ⟨o2,c2,-,-,-,hb⟩
  exact⟨(partOf_below hb bs 0 12 hbs4).trans q0,(partOf_below hb b0 17 17 hb04).trans q2⟩
 rintro v ⟨gl1,w31,o2,c2,rfl,-⟩
 refine⟨fun v fl w2=>∃oP cP,v=.tuple #[.slice oP L.length cP,.int .i64 0]∧Owns w2 z4.heap.size 1 oP L.length cP (L.map (.int .u8))∧Below z4.heap.size z4 w2,?_,fun _ _=>kept_top rfl,(fun h=>by cases h),?_⟩
 ·rintro fl rfl
  refine⟨rfl,fun w' hw'=>.inr ⟨94,#[.agg (segV p 0 0 0 (b/256) (b%256) (some ⟨r,0,none⟩) d d),.slice o1 k1 c1,.slice o2 k1 c2],by kernel_rfl,?_⟩⟩
  obtain⟨o2',c2',he,h1,h2,hb1⟩:=hw'
  obtain⟨rfl,rfl⟩:o2=o2'∧c2=c2':=by simpa using he
  refine(HPU.out _ d d o1 o2 k1 c1 c2 w' (HRZ.out.below hb1) h1 h2 HK.out (by have:=HD.out;omega)).mono ?_
  rintro e w2 ⟨oP,cP,rfl,ho,hb⟩
  exact⟨_,rfl,oP,cP,rfl,ho.mono hb1.size,Below.via hb1 hb⟩
 rintro v ⟨gl2,w32,oP,cP,rfl,-⟩
 refine⟨.slice oP L.length cP,⟨rfl,fun _=>by kernel_rfl⟩,?_⟩
 refine⟨.int .i64 0,⟨rfl,fun _=>by kernel_rfl⟩,?_⟩
 refine⟨.slice oP L.length cP,⟨rfl,fun _=>by kernel_rfl⟩,?_⟩
 refine⟨.int .i64 0,⟨rfl,fun _=>by kernel_rfl⟩,?_⟩
 rintro y3 ⟨oP',cP',he,hoP,hb3⟩
 obtain⟨rfl,rfl⟩:oP=oP'∧cP=cP':=by simpa using he
 have HOP:=Lib.hid hoP
 have HB3:=Lib.hid hb3
 clear he gl0 gl1 gl2 w30 w31 w32 q0 q2 hk1 hk2 hoP hb3 hb04 hbs4 hbz hsz' hrz hlt hne hne0 hbs hr0 hS hT
 simp only[Act.put,List.setIfInBounds_toArray,List.set_cons_succ,List.set_cons_zero]
 go_wp2_with fail
 go_ret2
 exact⟨_,_,rfl,HOP.out.mono (Nat.le_trans HB.out.size HZ4.out.size),HB.out.trans ((HZ4.out.trans (HB3.out.mono HZ4.out.size)).mono HB.out.size)⟩
def sxHead (n nx:Int)(A D:List Int):List Int:=Bits.be4 1610612736++be2 n++[nx,64]++A++D
theorem sp_zeros (s:Sp):(zerosL s.n.toNat).length=s.n.toNat:=by simp[zerosL]
theorem sp_head4 {s:Sp}(hs:s.k.s=false):spHead s=ipPut ⟨0,20+((spBody s).length:Int),0,false,false,0,64,s.k.p,adBytes false s.k.S,adBytes false s.k.T,[]⟩:=by
 unfold spHead;rw[hs,if_neg (by decide)];rfl
theorem sp_head6 {s:Sp}(hs:s.k.s=true):spHead s=sxHead ((spBody s).length:Nat) s.k.p (adBytes true s.k.S) (adBytes true s.k.T):=by
 unfold spHead;rw[hs,if_pos rfl];rfl
theorem ipPut_len (h:IpH)(hA:h.src.length=4)(hD:h.dst.length=4)(ho:h.opt=[]):(ipPut h).length=20:=by
 unfold ipPut ipStands
 simp[be2,hA,hD,ho]
theorem sxHead_len (n nx:Int)(A D:List Int)(hA:A.length=16)(hD:D.length=16):(sxHead n nx A D).length=40:=by
 simp[sxHead,be2,Bits.be4,hA,hD]
theorem sp_head_len {s:Sp}:(spHead s).length=if s.k.s=true then 40 else 20:=by
 cases hs:s.k.s
 ·rw[sp_head4 hs,ipPut_len _ (adBytes_len _ _) (adBytes_len _ _) rfl];rfl
 ·rw[sp_head6 hs,sxHead_len _ _ _ _ (adBytes_len _ _) (adBytes_len _ _)];rfl
end
end Go.Proofs.YtkgjbipfhhjlpaaGreatDoor
