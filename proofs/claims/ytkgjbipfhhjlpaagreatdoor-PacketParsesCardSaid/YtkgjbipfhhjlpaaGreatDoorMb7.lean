import Derived.Test.YtkgjbipfhhjlpaaGreatDoorMb6
import Derived.Test.YtkgjbipfhhjlpaaGreatDoorMb4
set_option linter.unusedVariables false
set_option linter.unusedSimpArgs false
set_option maxRecDepth 100000
set_option maxHeartbeats 32000000
namespace Go.Proofs.YtkgjbipfhhjlpaaGreatDoor
section
open Go.RowKit
def JfV (F S:Option (List Nat)):Option (Bool×(Nat→Int)):=match F with
 |some l=>some (false,Jbd l)
 |none=>match S with
  |some l=>some (true,JgK l)
  |none=>none
theorem Jlb (L:List UInt8):XB L=JfV (Jio L) (Jjj L):=rfl
theorem Jhi (S:Option (List Nat)):(∀l,S=some l→JfV none S=some (true,JgK l))∧(S=none→JfV none S=none):=⟨fun l h=>by rw[h];rfl,fun h=>by rw[h];rfl⟩
theorem Jiz {w:World}{b:Nat}{t:TypeId}{s s':Bool}{B B':Nat→Int}(h:JZ w b t s B)(cs:Array Value)(o:Obj)(hc:cs=(Jpr s' (.int .u8 (B' 0)) (.int .u8 (B' 1)) (.int .u8 (B' 2)) (.int .u8 (B' 3)) (.int .u8 (B' 4)) (.int .u8 (B' 5)) (.int .u8 (B' 6)) (.int .u8 (B' 7)) (.int .u8 (B' 8)) (.int .u8 (B' 9)) (.int .u8 (B' 10)) (.int .u8 (B' 11)) (.int .u8 (B' 12)) (.int .u8 (B' 13)) (.int .u8 (B' 14)) (.int .u8 (B' 15)):Array Value):=by rfl):Jf ((w.setRow b cs).alloc o) b 0 17=(Jpr s' (.int .u8 (B' 0)) (.int .u8 (B' 1)) (.int .u8 (B' 2)) (.int .u8 (B' 3)) (.int .u8 (B' 4)) (.int .u8 (B' 5)) (.int .u8 (B' 6)) (.int .u8 (B' 7)) (.int .u8 (B' 8)) (.int .u8 (B' 9)) (.int .u8 (B' 10)) (.int .u8 (B' 11)) (.int .u8 (B' 12)) (.int .u8 (B' 13)) (.int .u8 (B' 14)) (.int .u8 (B' 15)):Array Value):=by
 rw[Je2 _ _ _ _ _ (by have:=h.lt;simpa using this)]
 subst hc
 exact Xg h.heap
theorem Jhj (s:ByteArray)(w:World)(hs:s.size≤1000)(henv:Env w):Calls Tryz.prog 59 #[.string s] w (Jh w (Je8 (XB s.data.toList))):=by
 have HE:=Jpa henv
 have H4:=Jpa (fun w h=>Jmv s w hs h)
 have H6:=Jpa (fun w h=>JnC s w hs h)
 rw[Jlb]
 clear henv hs
 generalize s.data.toList=L at*
 generalize Jio L=F at*
 generalize Jjj L=S at*
 go_enter Tryz.func59,Tryz.ntmps59
 go_wp2_with fail
 refine Jpc (H4.out _ (HE.out.below (Below.all (Jpd _ _) _))) ?_
 rintro e w2 ⟨B,ok,rfl,hb2,hc⟩
 have HX:=Jpa ((JZ.made0 w 27 false).below hb2)
 have HW:=Jpa (Jo3 (Below.all (Jpd w.heap.size w) _) hb2)
 have hlt:=HX.out.lt
 have HC:=Jpa hc
 clear hb2 hc
 cases ok
 ·have hF:F=none:=by rcases HC.out with ⟨h,-⟩|⟨-,h⟩;cases h;exact h
  subst hF
  have HP2:=Jpa (Jhi S)
  generalize JfV none S=R at*
  unfold adV
  have HX2:=Jpa (HX.out.alloc (.cells (Jpm false B) 27))
  have HW2:=Jpa (Below.all HW.out (.cells (Jpm false B) 27))
  clear HC HX HW hlt
  go_wp2_with fail
  generalize w2.alloc (.cells (Jpm false B) 27)=w3 at*
  refine Jpc (H6.out _ (HE.out.below HW2.out)) ?_
  rintro e w4 ⟨hb4,hc⟩
  have HX4:=Jpa (HX2.out.below hb4)
  have HW4:=Jpa (Jo3 HW2.out hb4)
  have hlt:=HX4.out.lt
  clear hb4 HX2 HW2
  rcases hc with ⟨l,hl,rfl⟩|⟨hl,rfl⟩
  ·have HR:Hid (R=some (true,JgK l)):=Jpa (HP2.out.1 l hl)
   generalize JgK l=C at*
   have HX4:=Jpa HX4.out
   clear hl HP2
   unfold adV
   have hrr:=HX4.out.row
   go_wp2_with fail
   exact bodyPost_ret (v:=.tuple #[adV true C,.int .i64 0]) (J0 _ _ Tryz.underlying27 Zs rfl _ _ w.heap.size (.int .i64 0) rfl rfl (Jiz (s':=true) (B':=C) HX4.out _ _ rfl)) rfl (.mk (by rw[HR.out];rfl) (Below.all (below_setRow HW4.out (Jpf _) _) _))
  ·have HR:Hid (R=none):=Jpa (HP2.out.2 hl)
   clear hl HP2
   unfold adV
   have hrr:=HX4.out.row
   go_wp2_with fail
   exact bodyPost_ret (v:=.tuple #[adV false fun _=>0,.int .i64 40]) (J0 _ _ Tryz.underlying27 Zs rfl _ _ w.heap.size (.int .i64 40) rfl rfl (Jiz (s':=false) (B':=fun _=>0) HX4.out _ _ rfl)) rfl (.mk (by rw[HR.out];rfl) (Below.all (below_setRow HW4.out (Jpf _) _) _))
 ·obtain⟨l,rfl,hB⟩:∃l,F=some l∧∀i,i<16→B i=Jbd l i:=by
   rcases HC.out with ⟨-,h⟩|⟨h,-⟩
   ·exact h
   ·cases h
  have HBE:=Jpa (Jml (six:=false) hB)
  clear HC hB H6
  unfold adV at*
  have hrr:=HX.out.row
  go_wp2_with fail
  refine bodyPost_ret (v:=.tuple #[adV false B,.int .i64 0]) (J0 _ _ Tryz.underlying27 Zs rfl _ _ w.heap.size (.int .i64 0) rfl rfl (Jiz (s':=false) (B':=B) HX.out _ _ rfl)) rfl (.mk ?_ (Below.all (below_setRow HW.out (Jpf _) _) _))
  show Value.tuple #[adV false B,.int .i64 0]=.tuple #[adV false (Jbd l),.int .i64 0]
  rw[show adV false B=adV false (Jbd l) from HBE.out]
theorem Jcz (c:UInt8):∀l:List (List UInt8),Lib.join l [c]=Xn c l
 |[]=>rfl
 |[p]=>by rw[Lib.join_one];rfl
 |p::q::l=>by
  rw[Lib.join_cons,Xw,←Jcz c (q::l),Lib.join_cons]
  simp[Lib.joinTail]
theorem Ja1 (oa:Option Addr)(n cap base:Nat)(L:List (List UInt8))(c:UInt8)(w:World)(hO:JF w base 1 oa n cap (L.map Jey))(hlen:(Xn c L).length≤140737488355328)(hn:n≤140737488355328):
 Calls Tryz.prog 70 #[.slice oa n cap,.string ⟨#[c]⟩] w (Jh w (.string ⟨(Xn c L).toArray⟩)):=by
 have hLn:L.length=n:=by have:=hO.len;simpa using this
 rcases Nat.eq_zero_or_pos n with h0|h0
 ·subst h0
  obtain rfl:=List.eq_nil_of_length_eq_zero hLn
  refine Jpc (Tryz.strings_Join_none oa cap _ w) ?_
  rintro e w' ⟨rfl,rfl⟩
  exact .mk rfl (Jpd _ _)
 ·obtain⟨g,off,rfl,hb,hg,hc,ht⟩:=hO.here h0
  have e1:(L.map fun l:List UInt8=>(⟨l.toArray⟩:ByteArray)).length=n:=by rw[List.length_map,hLn]
  have e2:((L.map fun l:List UInt8=>(⟨l.toArray⟩:ByteArray)).map (·.data.toList))=L:=by simp[Function.comp_def]
  have h:=Tryz.strings_Join g off cap (L.map fun l:List UInt8=>(⟨l.toArray⟩:ByteArray)) ⟨#[c]⟩ w (fun j x hx=>by
   refine hc j _ ?_
   rw[List.getElem?_map] at hx⊢
   cases h:L[j]? with
   |none=>rw[h] at hx;cases hx
   |some l=>rw[h] at hx;cases hx;rfl) hg (by rw[e1];exact hn) (by rw[e1];exact hO.le) (by rw[e2];show(Lib.join L [c]).length≤_;rw[Jcz];exact hlen)
  rw[e1,e2,show(⟨#[c]⟩:ByteArray).data.toList=[c] from rfl,Jcz] at h
  refine Jpc h ?_
  rintro e w' ⟨rfl,hb'⟩
  exact .mk rfl hb'
theorem Jdn (u:Nat)(hu:u<9223372036854775808)(w:World)(henv:Env w):Calls Tryz.prog 71 #[.int .i64 (u:Int)] w (Jh w (.string ⟨(Lib.decDigits u).toArray⟩)):=by
 refine Jpc (Tryz.strconv_Itoa (u:Int) (by omega) (by omega) w henv.tab) ?_
 rintro e w' ⟨rfl,k,os,rfl⟩
 refine .mk ?_ (Lib.below_grow _ _ (Jpf _) _ _)
 unfold Lib.itoa
 rw[if_neg (by omega)]
 rfl
theorem JdO (u:Nat)(h:u<256):(Lib.decDigits u).length≤257:=by
 rw[←Jdm u u (Jpf _)]
 have:=Z4 10 u u (Jpf _)
 omega
theorem Xo (c:UInt8)(m:Nat):∀L:List (List UInt8),(∀p∈L,p.length≤m)→(Xn c L).length≤L.length*(m+1)
 |[],_=>by simp[Xn]
 |[p],h=>by have:=h p (by simp);simp[Xn];omega
 |p::q::l,h=>by
  have h1:=h p (by simp)
  have h2:=Xo c m (q::l) (fun x hx=>h x (by simp at hx⊢;exact .inr hx))
  have h3:(p::q::l).length*(m+1)=(q::l).length*(m+1)+(m+1):=by rw[List.length_cons (a:=p),Nat.add_mul,Nat.one_mul]
  rw[Xw,List.length_append,List.length_cons]
  omega
theorem Jlc (B:Nat→Int)(hB:U8 B)(hr:J6 false B=true)(w:World)(henv:Env w):
 Calls Tryz.prog 72 #[adV false B] w (Jh w (.string ⟨(Jn3 fun i=>(B i).toNat).toArray⟩)):=by
 have HE:=Jpa henv
 have HU:=Jpa hB
 have HR:Hid (∀w,Calls Tryz.prog 68 #[adV false B] w (Jh w (.bool true))):=Jpa fun w=>by rw[←hr];exact QF false B w
 clear henv hB hr
 have HX:Hid (JZ (w.alloc (.cells (Jpm false B) 27)) w.heap.size 27 false B):=Jpa (JZ.made w _ false B)
 have HW:Hid (Below w.heap.size w (w.alloc (.cells (Jpm false B) 27))):=Jpa (Below.all (Jpd w.heap.size w) _)
 unfold adV at*
 go_enter Tryz.func72,Tryz.ntmps72
 go_wp2_with fail
 generalize hw1:w.alloc (.cells (Jpm false B) 27)=w1 at*
 have hs1:w1.heap.size=w.heap.size+1:=by rw[←hw1];simp
 clear hw1
 refine Jpc (HR.out _) ?_
 rintro e w2 ⟨rfl,hb2⟩
 have HX2:=Jpa (HX.out.below hb2)
 have HW2:=Jpa (Jo3 HW.out hb2)
 have hs2:w.heap.size+1≤w2.heap.size:=by have:=hb2.size;omega
 have hsx:=HX2.out.six
 clear hb2 HX HW hs1
 go_wp2_with fail
 clear hsx
 go_loopw [3,20] (fun u3 u20 wr=>∃(k:Nat) (oa:Option Addr) (cap:Nat),k≤4∧u20=.int .i64 k∧u3=.slice oa k cap∧Hid (JF wr (w.heap.size+1) 1 oa k cap (((List.range k).map fun i=>Lib.decDigits (B i).toNat).map Jey))∧Hid (JZ wr w.heap.size 27 false B)∧Hid (Below w.heap.size w wr)∧w.heap.size+1≤wr.heap.size) (fun _ u20 _=>(4:Int)-intOf u20 |>.toNat)
 case atStart=>exact⟨0,none,0,by omega,rfl,rfl,Jpa (JF.nil _ _ _),HX2,HW2,hs2⟩
 case round=>
  obtain⟨k,oa,cap,hk,rfl,rfl,HO,HX,HW,hsr⟩:=hrel
  by_cases hlt:k<4
  ·have hcx:=HX.out.cell k (by omega)
   have hbk:=HU.out k
   have HR1:Hid (List.range (k+1)=List.range k++[k]):=Jpa List.range_succ
   obtain⟨b,hbe⟩:=Int.eq_ofNat_of_zero_le hbk.1
   have HBE:=Jpa hbe
   rw[hbe] at hcx hbk
   clear hbe
   go_wp2_with fail
   refine Jpc (Jdn b (by omega) wr (HE.out.below HW.out)) ?_
   rintro e w3 ⟨rfl,hb3⟩
   have HO3:=Jpa (HO.out.below hb3)
   have HX3:=Jpa (HX.out.below hb3)
   have HW3:=Jpa (Jo3 HW.out hb3)
   have hs3:w.heap.size+1≤w3.heap.size:=by have:=hb3.size;omega
   have HLT:=Jpa (fun a (ha:oa=some a)=>(HO3.out.lt ha).1)
   clear hb3 hcx HO HX HW hsr
   go_wp2_with (at_builtin;refine Jt.of ?_)
   refine Jt.mk ?_
   refine JG _ rfl _ _ 76 rfl 9 (.string ⟨#[]⟩) 1 16 (w.heap.size+1) Tryz.underlying76 JfR rfl (by decide) oa k cap _ rfl (HO3.out.alloc _) ⟨w3.heap.size,0,none⟩ 1 1 [.string ⟨(Lib.decDigits b).toArray⟩] rfl rfl ?_ ?_ (by decide) ?_ ?_ ?_ ?_
   ·exact Q7 _ _ _
   ·simp[Value.oneCell']
   ·unfold maxLen;omega
   ·omega
   ·simp only[World.size_alloc];omega
   intro oa' cap' w4 ho' hg hd
   have HX4:=Jpa ((HX3.out.alloc (.cells #[.string ⟨(Lib.decDigits b).toArray⟩] 9)).keep (hg.block _ (by simp;omega) (fun e=>by
    obtain⟨a,ha,hab⟩:=Option.map_eq_some_iff.1 e.symm
    have:=HLT.out a ha;omega)))
   have HW4:Hid (Below w.heap.size w w4):=Jpa (Jo1 (Below.all HW3.out _) (HO3.out.alloc _) (by omega) hg (by simp only[World.size_alloc];omega))
   have hs4:w.heap.size+1≤w4.heap.size:=by have:=hg.size;simp only[World.size_alloc] at this;omega
   have HO4:Hid (JF w4 (w.heap.size+1) 1 oa' (k+1) cap' (((List.range (k+1)).map fun i=>Lib.decDigits (B i).toNat).map Jey)):=Jpa (by
    rw[HR1.out,List.map_append,List.map_append]
    simp only[List.map_cons,List.map_nil]
    rw[HBE.out]
    exact ho')
   clear hg hd ho' HX3 HW3 HO3 hs3 HLT
   go_wp2_with fail
   go_roundw
   case rel=>exact⟨k+1,oa',cap',by omega,by go_num,rfl,HO4,HX4,HW4,hs4⟩
   case measure=>simp[intOf];omega
  ·obtain rfl:k=4:=by omega
   go_wp2_with fail
   refine Jpc (Ja1 oa 4 cap _ _ 46 wr HO.out ?_ (by omega)) ?_
   ·refine Nat.le_trans (Xo 46 257 _ fun p hp=>?_) (by simp)
    obtain⟨i,-,rfl⟩:=List.mem_map.1 hp
    exact JdO _ (by have:=HU.out i;omega)
   rintro e w3 ⟨rfl,hb3⟩
   have HW3:=Jpa (Jo3 HW.out hb3)
   go_wp2_with fail
   go_ret
   exact .mk rfl HW3.out
def grpN (B:Nat→Int)(k:Nat):Nat:=(Jme B k).toNat
theorem Jld {B:Nat→Int}(hB:U8 B)(k:Nat):grpN B k<65536:=by have:=JkY hB k;unfold grpN;omega
theorem Jle {B:Nat→Int}(hB:U8 B)(k:Nat):Jme B k=(grpN B k:Int):=by have:=JkY hB k;unfold grpN;omega
theorem Jn5 {B:Nat→Int}(hB:U8 B)(k:Nat)(h:k<8):zg (grpN B) k=(Jme B k==0):=by
 rw[Jop _ _ h,Jle hB k,Bool.eq_iff_iff]
 simp only[beq_iff_eq]
 omega
theorem JjV (z:Nat→Bool)(hz:∃a b c d e f g h:Bool,z=zof [a,b,c,d,e,f,g,h]):(J1 z).1≤(J1 z).2∧(J1 z).2≤8:=by
 obtain⟨a,b,c,d,e,f,g,h,rfl⟩:=hz
 exact Jiq a b c d e f g h
theorem JfW (g:Nat→Nat):Jk8 g=if (J1 (zg g)).1=(J1 (zg g)).2 then Xn 58 ((List.range 8).map fun i=>X6 16 (g i))
 else Xn 58 (((List.range 8).map fun i=>X6 16 (g i)).take (J1 (zg g)).1)++[58,58]++Xn 58 (((List.range 8).map fun i=>X6 16 (g i)).drop (J1 (zg g)).2):=by
 unfold Jk8 JkX
 split
 ·exact JbS _ _
 ·rw[ZH,ZH,JbS,JbS,List.map_take,List.map_drop];rfl
theorem Jmy (B:Nat→Int)(hB:U8 B)(w:World)(henv:Env w):
 Calls Tryz.prog 72 #[adV true B] w (Jh w (.string ⟨(Jk8 (grpN B)).toArray⟩)):=by
 have HE:=Jpa henv
 have HU:=Jpa hB
 have HR:Hid (∀w,Calls Tryz.prog 68 #[adV true B] w (Jh w (.bool true))):=Jpa fun w=>QF true B w
 have HG:=Jpa (fun k hk w=>JgZ true B hB k hk w)
 have HN:=Jpa (fun w=>Jir true B hB (zg (grpN B)) (fun k hk=>Jn5 hB k hk) w)
 have HNB:=JjV (zg (grpN B)) ⟨_,_,_,_,_,_,_,_,rfl⟩
 have HT:=Jpa (JfW (grpN B))
 have HGL:=Jpa (fun k=>Jld hB k)
 have HGE:=Jpa (fun k=>Jle hB k)
 clear henv hB
 generalize Jk8 (grpN B)=T at*
 generalize J1 (zg (grpN B))=ft at*
 obtain⟨f,t⟩:=ft
 simp only at HN HNB HT
 obtain⟨hft,ht8⟩:=HNB
 have HX:Hid (JZ (w.alloc (.cells (Jpm true B) 27)) w.heap.size 27 true B):=Jpa (JZ.made w _ true B)
 have HW:Hid (Below w.heap.size w (w.alloc (.cells (Jpm true B) 27))):=Jpa (Below.all (Jpd w.heap.size w) _)
 unfold adV at*
 go_enter Tryz.func72,Tryz.ntmps72
 go_wp2_with fail
 generalize hw1:w.alloc (.cells (Jpm true B) 27)=w1 at*
 have hs1:w1.heap.size=w.heap.size+1:=by rw[←hw1];simp
 clear hw1
 refine Jpc (HR.out _) ?_
 rintro e w2 ⟨rfl,hb2⟩
 have HX2:=Jpa (HX.out.below hb2)
 have HW2:=Jpa (Jo3 HW.out hb2)
 have hs2:w.heap.size+1≤w2.heap.size:=by have:=hb2.size;omega
 have hsx:=HX2.out.six
 clear hb2 HX HW hs1
 go_wp2_with fail
 clear hsx
 go_loopw [3,33] (fun u3 u33 wr=>∃(k:Nat) (oa:Option Addr) (cap:Nat),k≤8∧u33=.int .i64 k∧u3=.slice oa k cap∧Hid (JF wr (w.heap.size+1) 1 oa k cap (((List.range k).map fun i=>X6 16 (grpN B i)).map Jey))∧Hid (JZ wr w.heap.size 27 true B)∧Hid (Below w.heap.size w wr)∧w.heap.size+1≤wr.heap.size) (fun _ u33 _=>(8:Int)-intOf u33 |>.toNat)
 case atStart=>exact⟨0,none,0,by omega,rfl,rfl,Jpa (JF.nil _ _ _),HX2,HW2,hs2⟩
 case round=>
  obtain⟨k,oa,cap,hk,rfl,rfl,HO,HX,HW,hsr⟩:=hrel
  by_cases hlt:k<8
  ·have hpp:=HX.out.part
   have HR1:Hid (List.range (k+1)=List.range k++[k]):=Jpa List.range_succ
   have HGk:=Jpa (HG.out k hlt)
   have hgl:=HGL.out k
   rw[HGE.out k] at HGk
   have HBE:Hid (∃b,grpN B k=b):=Jpa ⟨_,rfl⟩
   obtain⟨b,hbe⟩:=HBE.out
   clear HBE
   have HBE:=Jpa hbe
   rw[hbe] at HGk hgl
   clear hbe
   go_wp2_with fail
   refine Jpc (HGk.out _) ?_
   rintro e w3 ⟨rfl,hb3⟩
   have HO3:=Jpa (HO.out.below hb3)
   have HX3:=Jpa (HX.out.below hb3)
   have HW3:=Jpa (Jo3 HW.out hb3)
   have hs3:w.heap.size+1≤w3.heap.size:=by have:=hb3.size;omega
   clear hb3 hpp HO HX HW hsr
   go_wp2_with fail
   refine Jpc (Jn1 b hgl w3 (HE.out.below HW3.out)) ?_
   rintro e w4 ⟨rfl,hb4⟩
   have HO4:=Jpa (HO3.out.below hb4)
   have HX4:=Jpa (HX3.out.below hb4)
   have HW4:=Jpa (Jo3 HW3.out hb4)
   have hs4:w.heap.size+1≤w4.heap.size:=by have:=hb4.size;omega
   have HLT:=Jpa (fun a (ha:oa=some a)=>(HO4.out.lt ha).1)
   clear hb4 HO3 HX3 HW3 hs3
   go_wp2_with (at_builtin;refine Jt.of ?_)
   refine Jt.mk ?_
   refine JG _ rfl _ _ 76 rfl 9 (.string ⟨#[]⟩) 1 16 (w.heap.size+1) Tryz.underlying76 JfR rfl (by decide) oa k cap _ rfl (HO4.out.alloc _) ⟨w4.heap.size,0,none⟩ 1 1 [.string ⟨(X6 16 b).toArray⟩] rfl rfl ?_ ?_ (by decide) ?_ ?_ ?_ ?_
   ·exact Q7 _ _ _
   ·simp[Value.oneCell']
   ·unfold maxLen;omega
   ·omega
   ·simp only[World.size_alloc];omega
   intro oa' cap' w5 ho' hg hd
   have HX5:=Jpa ((HX4.out.alloc (.cells #[.string ⟨(X6 16 b).toArray⟩] 9)).keep (hg.block _ (by simp;omega) (fun e=>by
    obtain⟨a,ha,hab⟩:=Option.map_eq_some_iff.1 e.symm
    have:=HLT.out a ha;omega)))
   have HW5:Hid (Below w.heap.size w w5):=Jpa (Jo1 (Below.all HW4.out _) (HO4.out.alloc _) (by omega) hg (by simp only[World.size_alloc];omega))
   have hs5:w.heap.size+1≤w5.heap.size:=by have:=hg.size;simp only[World.size_alloc] at this;omega
   have HO5:Hid (JF w5 (w.heap.size+1) 1 oa' (k+1) cap' (((List.range (k+1)).map fun i=>X6 16 (grpN B i)).map Jey)):=Jpa (by
    rw[HR1.out,List.map_append,List.map_append]
    simp only[List.map_cons,List.map_nil]
    rw[HBE.out]
    exact ho')
   clear hg hd ho' HX4 HW4 HO4 hs4 HLT
   go_wp2_with fail
   go_roundw
   case rel=>exact⟨k+1,oa',cap',by omega,by go_num,rfl,HO5,HX5,HW5,hs5⟩
   case measure=>simp[intOf];omega
  ·obtain rfl:k=8:=by omega
   have hpp:=HX.out.part
   have HPL:Hid (∀p∈(List.range 8).map fun i=>X6 16 (grpN B i),p.length≤4):=Jpa fun p hp=>by
    obtain⟨i,-,rfl⟩:=List.mem_map.1 hp
    exact Je7 _ (HGL.out i)
   have HPN:Hid (((List.range 8).map fun i=>X6 16 (grpN B i)).length=8):=Jpa (by simp)
   clear HGL HGE HG HU HR
   generalize ((List.range 8).map fun i=>X6 16 (grpN B i))=P at*
   go_wp2_with fail
   refine Jpc (HN.out _) ?_
   rintro e w3 ⟨rfl,hb3⟩
   have HO3:=Jpa (HO.out.below hb3)
   have HW3:=Jpa (Jo3 HW.out hb3)
   clear hb3 hpp HX HO HW HN
   by_cases hz:f=t
   ·have HT2:=HT.out
    rw[if_pos hz] at HT2
    have HT3:=Jpa HT2
    have hz2:(f:Int)=t:=by omega
    clear HT2 HT hz
    go_wp2_with fail
    refine Jpc (Ja1 oa 8 cap _ _ 58 w3 HO3.out (Nat.le_trans (Xo 58 4 _ HPL.out) (by rw[HPN.out];decide)) (by omega)) ?_
    rintro e w4 ⟨rfl,hb4⟩
    have HW4:=Jpa (Jo3 HW3.out hb4)
    go_wp2_with fail
    go_ret
    exact .mk (by rw[HT3.out];rfl) HW4.out
   ·have HT2:=HT.out
    rw[if_neg hz] at HT2
    have HT3:=Jpa HT2
    have hz2:¬((f:Int)=t):=by omega
    have HT1:Hid (JF w3 (w.heap.size+1) 1 oa f cap ((P.take f).map Jey)):=Jpa (by rw[List.map_take];have:=HO3.out.take f (by omega);rwa [Nat.mul_one] at this)
    have HT4:Hid (JF w3 (w.heap.size+1) 1 (Jk oa t cap 1) (8-t) (cap-t) ((P.drop t).map Jey)):=Jpa (by rw[List.map_drop];have:=HO3.out.cut t (by omega);rwa [Nat.mul_one] at this)
    have hcap:=HO3.out.le
    have hct:=fun w=>Jdz (P:=Tryz.prog) 76 oa 8 cap 1 Tryz.underlying76 (by kernel_rfl) f (f:Int) rfl (by omega) w
    have hcu:=fun w=>Jcs (P:=Tryz.prog) 76 oa 8 cap 1 Tryz.underlying76 (by kernel_rfl) t (t:Int) rfl (by omega) w
    have hA:(Xn 58 (P.take f)).length≤1000:=Nat.le_trans (Xo 58 4 _ fun p hp=>HPL.out p (List.mem_of_mem_take hp)) (by rw[List.length_take,HPN.out];omega)
    have hC:(Xn 58 (P.drop t)).length≤1000:=Nat.le_trans (Xo 58 4 _ fun p hp=>HPL.out p (List.mem_of_mem_drop hp)) (by rw[List.length_drop,HPN.out];omega)
    have HJ1:=Jpa (fun(x:Jz w3)=>Ja1 oa f cap _ _ 58 _ (HT1.out.later x) (by omega) (by omega))
    have HJ2:=Jpa (fun(x:Jz w3)=>Ja1 _ (8-t) (cap-t) _ _ 58 _ (HT4.out.later x) (by omega) (by omega))
    generalize Xn 58 (P.take f)=A at*
    generalize Xn 58 (P.drop t)=C at*
    generalize Jk oa t cap 1=oc at*
    clear HT2 HT hz HT1 HT4 HO3 HPL HPN
    go_wp2_with fail
    have hl1:A.length+2≤9223372036854775807:=by omega
    have hl2:(A.length:Int)+2≤9223372036854775807:=by omega
    have hl3:A.length+2+C.length≤9223372036854775807:=by omega
    have hl4:(A.length:Int)+2+(C.length:Int)≤9223372036854775807:=by omega
    refine Jo (by kernel_rfl) (by kernel_rfl) ?_
    iterate 3 go_big_quiet_step (fail)
    go_big_quiet_step ((go_at_call 70;exact Jp (HJ1.out _)))
    iterate 4 go_big_quiet_step (fail)
    go_big_quiet_step ((go_at_call 70;exact Jp (HJ2.out _)))
    repeat go_big_quiet_step (fail)
    refine wpQuiet_nil ?_
    intro x
    go_wp2_with fail
    go_ret
    refine .mk ?_ (HW3.out.trans (x.below.mono HW3.out.size))
    rw[HT3.out,←Jax,←Jax];rfl
theorem JjW (six:Bool)(B:Nat→Int)(hr:J6 six B=false)(w:World):
 Calls Tryz.prog 72 #[adV six B] w (Jh w (.string ⟨([]:List UInt8).toArray⟩)):=by
 have HR:Hid (∀w,Calls Tryz.prog 68 #[adV six B] w (Jh w (.bool false))):=Jpa fun w=>by rw[←hr];exact QF six B w
 clear hr
 unfold adV at*
 go_enter Tryz.func72,Tryz.ntmps72
 go_wp2_with fail
 refine Calls.later (HR.out _) ?_
 intro x
 go_wp2_with fail
 go_ret
 exact .mk rfl (Jo2 (Below.all (Jpd _ _) _))
def Q8 (six:Bool)(B:Nat→Int):List UInt8:=if J6 six B=true then (if six=true then Jk8 (grpN B) else Jn3 fun i=>(B i).toNat) else []
theorem Jjm (six:Bool)(B:Nat→Int)(hB:U8 B)(w:World)(henv:Env w):
 Calls Tryz.prog 72 #[adV six B] w (Jh w (.string ⟨(Q8 six B).toArray⟩)):=by
 unfold Q8
 by_cases h:J6 six B=true
 ·rw[if_pos h]
  cases six
  ·exact Jlc B hB h w henv
  ·exact Jmy B hB w henv
 ·rw[if_neg h]
  exact JjW six B (by simpa using h) w
theorem Jhk (s:List UInt8):(∃(six:Bool) (B:Nat→Int),XB s=some (six,B)∧J6 six B=true∧U8 B∧Je8 (XB s)=.tuple #[adV six B,.int .i64 0])∨(XB s=none∧Je8 (XB s)=.tuple #[adV false fun _=>0,.int .i64 40]):=by
 cases h:XB s with
 |none=>exact .inr ⟨rfl,rfl⟩
 |some p=>
  obtain⟨six,B⟩:=p
  have:=Jhh h
  exact .inl ⟨six,B,rfl,this.1,this.2,rfl⟩
end
section
open Go.Lib Go.RowKit
theorem Jhl (x c:UInt8):∀L:List (List UInt8),x∈Xn c L→x=c∨∃p∈L,x∈p
 |[],h=>by simp[Xn] at h
 |[p],h=>.inr ⟨p,by simp,by simpa[Xn] using h⟩
 |p::q::l,h=>by
  rw[Xw] at h
  rcases List.mem_append.1 h with h|h
  ·exact .inr ⟨p,by simp,h⟩
  ·rcases List.mem_cons.1 h with h|h
   ·exact .inl h
   ·rcases Jhl x c (q::l) h with h|⟨r,hr,hx⟩
    ·exact .inl h
    ·exact .inr ⟨r,by simp at hr⊢;exact .inr hr,hx⟩
theorem JoG:∀b:Fin 256,(Lib.decDigits b).length≤3:=by decide+kernel
theorem Je9 (s:Bool)(B:Nat→Int)(hB:U8 B):(Q8 s B).length≤100:=by
 unfold Q8
 split
 ·split
  ·have hp:∀p∈(List.range 8).map fun i=>X6 16 (grpN B i),p.length≤4:=fun p hp=>by
    obtain⟨i,-,rfl⟩:=List.mem_map.1 hp
    exact Je7 _ (Jld hB i)
   rw[JfW]
   split
   ·exact Nat.le_trans (Xo 58 4 _ hp) (by simp)
   ·have h1:=Xo 58 4 (((List.range 8).map fun i=>X6 16 (grpN B i)).take (J1 (zg (grpN B))).1) (fun p h=>hp p (List.mem_of_mem_take h))
    have h2:=Xo 58 4 (((List.range 8).map fun i=>X6 16 (grpN B i)).drop (J1 (zg (grpN B))).2) (fun p h=>hp p (List.mem_of_mem_drop h))
    rw[List.length_take,List.length_map,List.length_range] at h1
    rw[List.length_drop,List.length_map,List.length_range] at h2
    simp only[List.length_append,List.length_cons,List.length_nil]
    have h3:min (J1 (zg (grpN B))).1 8*(4+1)≤40:=by have:=Nat.min_le_right (J1 (zg (grpN B))).1 8;omega
    have h4:(8-(J1 (zg (grpN B))).2)*(4+1)≤40:=by omega
    omega
  ·refine Nat.le_trans (Xo 46 3 _ fun p hp=>?_) (by simp)
   obtain⟨i,-,rfl⟩:=List.mem_map.1 hp
   have:=hB i
   exact JoG ⟨(B i).toNat,by omega⟩
 ·simp
section
end
end
section
def tHead (p:Int):Nat:=if p=6 then 20 else if p=17 then 8 else if p=1∨p=58 then 4 else 0
def Jfa (l:List Int):Nat:=(l.getD 12 0/16).toNat*4
def Zh (p:Int)(l:List Int):Int:=
 if tHead p=0 then 70 else if l.length<tHead p then 10 else if 65535<l.length then 51
 else if p=6 then (if Jfa l<20 then 51 else if l.length<Jfa l then 10 else 0)
 else if p=17 then (if w2 l 4<8 then 51 else if (l.length:Int)<w2 l 4 then 10 else 0) else 0
structure Seg where
 proto:Int
 src:Int
 dst:Int
 seq:Int
 ack:Int
 flags:Int
 win:Int
 urg:Int
 opt:List Int
 type:Int
 code:Int
 data:List Int
def JnS:Seg:=⟨0,0,0,0,0,0,0,0,[],0,0,[]⟩
def Jlf (p:Int)(l:List Int):Seg:=
 if p=6 then ⟨6,w2 l 0,w2 l 2,w4 l 4,w4 l 8,l.getD 13 0,w2 l 14,w2 l 18,(l.take (Jfa l)).drop 20,0,0,l.drop (Jfa l)⟩
 else if p=17 then ⟨17,w2 l 0,w2 l 2,0,0,0,0,0,[],0,0,(l.take (w2 l 4).toNat).drop 8⟩
 else ⟨p,0,0,0,0,0,0,0,[],l.getD 0 0,l.getD 1 0,l.drop 4⟩
def JT (p:Int)(l:List Int):Seg:=if Zh p l=0 then Jlf p l else JnS
def Jr (p a b f n c:Int)(data:List Int):List Int:=
 if p=6 then be2 a++be2 b++[0,0,0,0,0,0,0,0,80,f,0,0]++be2 c++[0,0]++data
 else if p=17 then be2 a++be2 b++be2 n++be2 c++data
 else [a,b]++be2 c++data
def J7 (p:Int)(n:Int)(src dst:List Int):List Int:=
 if p=1 then [] else if src.length=4 then src++dst++[0,p]++be2 n else src++dst++[0,0]++be2 n++[0,0,0,p]
def Jod (p a b f n:Int)(data src dst:List Int):Int:=
 let c:Int:=sumOf (J7 p n src dst++Jr p a b f n 0 data)
 if c=0∧p=17 then 65535 else c
def JcW (p a b f:Int)(data src dst:List Int):List Int:=
 let n:Int:=(tHead p+data.length:Nat)
 Jr p a b f n (Jod p a b f n data src dst) data
structure JeH where
 six:Bool
 src:Nat→Int
 dst:Nat→Int
 proto:Int
 len:Int
 frag:Bool
 more:Bool
 body:List Int
def Q4 (l:List Int):JjL:=XU 17 [] (l.getD 6 0) 0 ((l.drop 40).take (w2 l 4).toNat)
def Ju (l:List Int):Int:=if Xk l≠0 then Xk l else if (l.length:Int)<40+w2 l 4 then 10 else match Q4 l with
 | .err e=>e
 | .done _ _ _=>0
def QQ (l:List Int):XV:=match Q4 l with
 | .err _=>[]
 | .done xs _ _=>xs
def Q5 (l:List Int):Int:=match Q4 l with
 | .err _=>0
 | .done _ p _=>p
def Jn6 (l:List Int):Nat:=match Q4 l with
 | .err _=>0
 | .done _ _ i=>i
def Xb (l:List Int):List Int:=((l.drop 40).take (w2 l 4).toNat).drop (Jn6 l)
def J8 (l:List Int):JeH:=⟨false,JM ((l.drop 12).take 4),JM ((l.drop 16).take 4),l.getD 9 0,w2 l 2,decide (0<w2 l 6%8192),(w2 l 6/8192%2==1),ZF l⟩
def Qy (l:List Int):JeH:=⟨true,JM ((l.drop 8).take 16),JM ((l.drop 24).take 16),Q5 l,40+w2 l 4,decide (0<Xv (QQ l)),QU (QQ l),Xb l⟩
def JO (p:Int):Bool:=p==6||p==17
def JS (p:Int):Bool:=p==1||p==58
structure JiA where
 err:Int
 src:Int
 dst:Int
 flags:Int
def Js (p:Int)(l:List Int):JiA:=let s:=JT p l;⟨Zh p l,s.src,if JS p then s.type*256+s.code else s.dst,s.flags⟩
def JA (p:Int)(l:List Int):JiA:=
 if JS p then (if l.length<2 then ⟨10,0,0,0⟩ else ⟨0,0,w2 l 0,0⟩)
 else (if l.length<4 then ⟨10,0,0,0⟩ else ⟨0,w2 l 0,w2 l 2,if p=6∧14≤l.length then l.getD 13 0 else 0⟩)
def Jal (o:JeH):JiA:=if (JO o.proto||JS o.proto)&&!o.frag then (if o.more then JA o.proto o.body else Js o.proto o.body) else ⟨0,0,0,0⟩
structure Pk where
 six:Bool
 src:Nat→Int
 dst:Nat→Int
 proto:Int
 sp:Int
 dp:Int
 len:Int
 flags:Int
 frag:Bool
def pkZ:Pk:=⟨false,fun _=>0,fun _=>0,0,0,0,0,0,false⟩
def JjX (o:JeH)(u:JiA):Pk:=⟨o.six,o.src,o.dst,o.proto,u.src,u.dst,o.len,u.flags,o.frag⟩
def Qj (l:List Int):Int:=
 if 2048<l.length then 3 else if l.length=0 then 10
 else if l.getD 0 0/16=4 then (if Jm l≠0 then Jm l else (Jal (J8 l)).err)
 else if l.getD 0 0/16=6 then (if Ju l≠0 then Ju l else (Jal (Qy l)).err) else 50
def Jlg (l:List Int):Pk:=
 if Qj l≠0 then pkZ else if l.getD 0 0/16=4 then JjX (J8 l) (Jal (J8 l)) else JjX (Qy l) (Jal (Qy l))
def XJ (k:Pk):Array Value:=#[.bool k.six,.int .u8 (k.src 0),.int .u8 (k.src 1),.int .u8 (k.src 2),.int .u8 (k.src 3),.int .u8 (k.src 4),.int .u8 (k.src 5),.int .u8 (k.src 6),.int .u8 (k.src 7),.int .u8 (k.src 8),.int .u8 (k.src 9),.int .u8 (k.src 10),.int .u8 (k.src 11),.int .u8 (k.src 12),.int .u8 (k.src 13),.int .u8 (k.src 14),.int .u8 (k.src 15),.bool k.six,.int .u8 (k.dst 0),.int .u8 (k.dst 1),.int .u8 (k.dst 2),.int .u8 (k.dst 3),.int .u8 (k.dst 4),.int .u8 (k.dst 5),.int .u8 (k.dst 6),.int .u8 (k.dst 7),.int .u8 (k.dst 8),.int .u8 (k.dst 9),.int .u8 (k.dst 10),.int .u8 (k.dst 11),.int .u8 (k.dst 12),.int .u8 (k.dst 13),.int .u8 (k.dst 14),.int .u8 (k.dst 15),.int .u8 k.proto,.int .u16 k.sp,.int .u16 k.dp,.int .i64 k.len,.int .u8 k.flags,.bool k.frag]
def pkR (l:List Int):Value:=.tuple #[.agg (XJ (Jlg l)),.int .i64 (Qj l)]
end
end Go.Proofs.YtkgjbipfhhjlpaaGreatDoor
namespace Go.Proofs.YtkgjbipfhhjlpaaGreatDoor.Bits
open Go.RowKit
theorem JnD {p:Prop}[Decidable p]{b:Bool}(h:b=true↔p):b=decide p:=by rw[Bool.eq_iff_iff,h];simp
def J6 (n:Int):Bool:=decide (1≤n∧n≤8)
theorem QF (n:Int)(w:World):Calls Tryz.prog 142 #[.int .i64 n] w (Jh w (.bool (J6 n))):=by
 go_enter Tryz.func142,Tryz.ntmps142
 go_wp2
 all_goals go_ret
 all_goals refine .mk (JK (JnD ?_)) (by go_grown)
 all_goals simp
 all_goals omega
theorem Jlh (v:Int)(n:Nat)(h0:0≤v)(h1:v<256^n)(hn1:1≤n)(hn:n≤8)(w:World):
 Calls Tryz.prog 176 #[.int .u64 v] w (fun e w'=>∃k:Int,e=.returned (.int .i64 k)∧1≤k∧k≤n∧Below w.heap.size w w'):=by
 go_enter Tryz.func176,Tryz.ntmps176
 go_wp2_with fail
 have hv:v/256<256^(n-1):=by
  obtain⟨m,rfl⟩:∃m,n=m+1:=⟨n-1,by omega⟩
  rw[Int.pow_succ] at h1
  simp only[Nat.add_sub_cancel]
  generalize (256:Int)^m=p at*
  omega
 have HV:=Jpa hv
 clear hv h1
 go_loopw [0,3] (fun u0 u3 wr=>∃(x k:Int) (m:Nat),u0=.int .u64 x∧u3=.int .i64 k∧0≤x∧Hid (x<256^m)∧1≤k∧k+m=n∧Below w.heap.size w wr) (fun u0 _ _=>(intOf u0).toNat)
 case atStart=>exact⟨v/256,1,n-1,rfl,rfl,by omega,HV,by omega,by omega,Jpd _ _⟩
 case round=>
  obtain⟨x,k,m,rfl,rfl,hx,HX,hk,hkm,hb⟩:=hrel
  by_cases hx0:0<x
  ·obtain⟨m,rfl⟩:∃m',m=m'+1:=by
    refine⟨m-1,?_⟩
    have:=HX.out
    rcases Nat.eq_zero_or_pos m with e|e
    ·subst e;simp at this;omega
    ·omega
   have hx2:x/256<256^m:=by
    have:=HX.out
    rw[Int.pow_succ] at this
    generalize (256:Int)^m=p at*
    omega
   have HX2:=Jpa hx2
   clear hx2
   go_wp2_with fail
   go_roundw
   case rel=>exact⟨x/256,k+1,m,by go_num,by go_num,by omega,HX2,by omega,by omega,hb⟩
   case measure=>simp[intOf];omega
  ·go_wp2_with fail
   go_ret
   exact⟨k,rfl,hk,by omega,hb⟩
theorem ZI (v:Int)(n:Nat)(h0:0≤v)(h1:v<256^n)(hn1:1≤n)(hn:n≤8)(w:World):
 Calls Tryz.prog 124 #[.int .u64 v,.int .i64 n] w (Jh w (.bool true)):=by
 have hr:J6 n=true:=by simp[J6];omega
 go_enter Tryz.func124,Tryz.ntmps124
 go_wp2_with (go_at_call 142;refine Calls.later (QF _ _) ?_;intro x;rw[hr])
 refine Jpc (Jlh v n h0 h1 hn1 hn _) ?_
 rintro e w' ⟨k,rfl,hk1,hk2,hb⟩
 go_wp2_with fail
 go_ret
 refine .mk (JK ?_) (x.below.trans (hb.mono x.below.size))
 first|(simp;done)|(simp;omega)
def be4 (v:Int):List Int:=[v/16777216%256,v/65536%256,v/256%256,v%256]
theorem infoU8:(Tryz.prog.info? 5).map (fun i=>(i.zero,i.size,i.bytes))=some (some (.int .u8 0),1,1):=by kernel_rfl
theorem Joq (w:World):(Instr.makeSlice 22 (.int .i64 1) (.int .i64 1)).run Tryz.prog w=.ok (.slice (some ⟨w.heap.size,0,none⟩) 1 1) (w.alloc (.cells #[.int .u8 0] 5)):=
 (run_make_row' 22 5 (.int .u8 0) 1 Tryz.underlying22 infoU8 rfl .i64 .i64 1 (by decide) (by decide) w).trans (by rw[show madeCells #[Value.int .u8 0] 1=#[.int .u8 0] from by kernel_rfl])
theorem Jor (w:World):(Instr.makeSlice 22 (.int .i64 4) (.int .i64 4)).run Tryz.prog w=.ok (.slice (some ⟨w.heap.size,0,none⟩) 4 4) (w.alloc (.cells #[.int .u8 0,.int .u8 0,.int .u8 0,.int .u8 0] 5)):=
 (run_make_row' 22 5 (.int .u8 0) 1 Tryz.underlying22 infoU8 rfl .i64 .i64 4 (by decide) (by decide) w).trans (by rw[show madeCells #[Value.int .u8 0] 4=#[.int .u8 0,.int .u8 0,.int .u8 0,.int .u8 0] from by kernel_rfl])
theorem Jli (v:Int)(h0:0≤v)(h1:v<256)(w:World):Calls Tryz.prog 125 #[.int .u64 v,.int .i64 1] w (J4 w ([v])):=by
 have hm:=Joq
 go_enter Tryz.func125,Tryz.ntmps125
 go_wp2_with fail
 refine wp_loop_rounds 2 ?_
 rw[rounds_succ]
 go_wp2_with fail
 rw[rounds_succ]
 go_wp2_with fail
 go_ret
 refine⟨_,_,rfl,?_,?_⟩
 ·refine JF.made _ 1 1 5 _ (Jpf _) (Jpf 1) (Jpf 1) (by decide) ?_
  simp[List.take]
  all_goals omega
 ·exact(Jpd _ _).alloc (Jpf _) _
theorem Jlj (v:Int)(h0:0≤v)(h1:v<4294967296)(w:World):Calls Tryz.prog 125 #[.int .u64 v,.int .i64 4] w (J4 w (be4 v)):=by
 have hm:=Jor
 go_enter Tryz.func125,Tryz.ntmps125
 go_wp2_with fail
 refine wp_loop_rounds 5 ?_
 rw[rounds_succ]
 go_wp2_with fail
 rw[rounds_succ]
 go_wp2_with fail
 rw[rounds_succ]
 go_wp2_with fail
 rw[rounds_succ]
 go_wp2_with fail
 rw[rounds_succ]
 go_wp2_with fail
 go_ret
 refine⟨_,_,rfl,?_,?_⟩
 ·refine JF.made _ 4 4 5 _ (Jpf _) (Jpf 4) (Jpf 4) (by decide) ?_
  simp[be4]
  all_goals omega
 ·exact(Jpd _ _).alloc (Jpf _) _
end Go.Proofs.YtkgjbipfhhjlpaaGreatDoor.Bits
namespace Go.Proofs.YtkgjbipfhhjlpaaGreatDoor
section
open Bits
structure Ky where
 s:Bool
 S:Nat→Int
 t:Bool
 T:Nat→Int
 p:Int
 a:Int
 b:Int
structure JnT (k:Ky):Prop where
 S:U8 k.S
 T:U8 k.T
 p:0≤k.p∧k.p<256
 a:0≤k.a∧k.a<65536
 b:0≤k.b∧k.b<65536
def kyC (s:Bool)(S:Nat→Int)(t:Bool)(T:Nat→Int)(p a b:Int):Array Value:=(JpD s t p (.int .u16 a) (.int .u16 b) S T)
def kyV (k:Ky):Array Value:=kyC k.s k.S k.t k.T k.p k.a k.b
def kyZ:Ky:=⟨false,fun _=>0,false,fun _=>0,0,0,0⟩
def Jbv (p a b:Int):Bool:=JO p||(a==0&&(JS p||b==0))
def J9 (k:Ky):Bool:=J6 k.s k.S&&(J6 k.t k.T&&(k.s==k.t&&Jbv k.p k.a k.b))
def Jbg (k:Ky):List UInt8:=if J9 k then Xn 32 [Lib.decDigits k.p.toNat,Q8 k.s k.S,Lib.decDigits k.a.toNat,Q8 k.t k.T,Lib.decDigits k.b.toNat] else []
structure Sp where
 k:Ky
 f:Int
 n:Int
structure Jmz (s:Sp):Prop where
 k:JnT s.k
 f:0≤s.f∧s.f<256
 n:-9223372036854775808≤s.n∧s.n≤9223372036854775807
def spV (s:Sp):Array Value:=#[.bool s.k.s,.int .u8 (s.k.S 0),.int .u8 (s.k.S 1),.int .u8 (s.k.S 2),.int .u8 (s.k.S 3),.int .u8 (s.k.S 4),.int .u8 (s.k.S 5),.int .u8 (s.k.S 6),.int .u8 (s.k.S 7),.int .u8 (s.k.S 8),.int .u8 (s.k.S 9),.int .u8 (s.k.S 10),.int .u8 (s.k.S 11),.int .u8 (s.k.S 12),.int .u8 (s.k.S 13),.int .u8 (s.k.S 14),.int .u8 (s.k.S 15),.bool s.k.t,.int .u8 (s.k.T 0),.int .u8 (s.k.T 1),.int .u8 (s.k.T 2),.int .u8 (s.k.T 3),.int .u8 (s.k.T 4),.int .u8 (s.k.T 5),.int .u8 (s.k.T 6),.int .u8 (s.k.T 7),.int .u8 (s.k.T 8),.int .u8 (s.k.T 9),.int .u8 (s.k.T 10),.int .u8 (s.k.T 11),.int .u8 (s.k.T 12),.int .u8 (s.k.T 13),.int .u8 (s.k.T 14),.int .u8 (s.k.T 15),.int .u8 s.k.p,.int .u16 s.k.a,.int .u16 s.k.b,.int .u8 s.f,.int .i64 s.n]
def Qt (n:Nat):List Int:=List.replicate n 0
def JdP (s:Sp):Bool:=!(J9 s.k)||((s.k.s&&JJ s.k.p)||((s.f != 0&&s.k.p != 6)||decide (s.n<0)))
def QR (s:Sp):List Int:=
 let d:=Qt s.n.toNat
 let src:=Jn s.k.s s.k.S
 let dst:=Jn s.k.t s.k.T
 if JO s.k.p then JcW s.k.p s.k.a s.k.b s.f d src dst
 else if JS s.k.p then JcW s.k.p (s.k.b/256) (s.k.b%256) 0 d src dst else d
def Jnb (s:Sp)(n:Nat):IpH:=⟨0,20+(n:Int),0,false,false,0,64,s.k.p,Jn false s.k.S,Jn false s.k.T,[]⟩
def Jn7 (s:Sp)(n:Nat):List Int:=be4 1610612736++be2 (n:Int)++[s.k.p,64]++Jn true s.k.S++Jn true s.k.T
def XC (s:Sp):List Int:=if s.k.s then Jn7 s (QR s).length else Jdc (Jnb s (QR s).length)
def Z6 (s:Sp):Int:=if JdP s then 2 else if 2048<s.n then 3 else if 2048<(XC s++QR s).length then 3 else 0
def spL (s:Sp):List Int:=if Z6 s=0 then XC s++QR s else []
open Go.RowKit
theorem JjY (a:Option Addr)(n c:Nat)(r:List Value):ZP (.slice a n c::r)=ZP r:=by rw[ZP];rfl
theorem Jlk (f:Fn)(a b:Array Value)(r:List Value):ZP (.func f a b::r)=ZP r:=by rw[ZP];rfl
attribute [go_sem] JjY Jlk
theorem JbV {w:World}{b off:Nat}{v0 v1 v2 v3:Value}(h0:w.cell? ⟨b,off,none⟩=some v0)(h1:w.cell? ⟨b,off+1,none⟩=some v1)(h2:w.cell? ⟨b,off+2,none⟩=some v2)(h3:w.cell? ⟨b,off+3,none⟩=some v3):Jf w b off 4=#[v0,v1,v2,v3]:=by
 unfold World.cell? at h0 h1 h2 h3
 unfold Jf
 cases hh:w.heap[b]? with
 |none=>rw[hh] at h0;simp at h0
 |some ob=>
  rw[hh] at h0 h1 h2 h3
  cases ob with
  |cells cs t fr=>
   simp only at h0 h1 h2 h3⊢
   have g0:cs[off]? =some v0:=by simpa using h0
   have g1:cs[off+1]? =some v1:=by simpa using h1
   have g2:cs[off+2]? =some v2:=by simpa using h2
   have g3:cs[off+3]? =some v3:=by simpa using h3
   have hs:off+3<cs.size:=(Jpb g3).1
   apply Array.ext_getElem?
   intro j
   rw[Array.getElem?_extract]
   rcases j with _|_|_|_|j
   ·simp[g0];omega
   ·simp[g1];omega
   ·simp[g2];omega
   ·simp[g3];omega
   ·simp;omega
  |_=>simp at h0
theorem JfX (ev:Operand→Value)(w:World)(dst:Option Tmp)(t:TypeId)(pos:String)(after:Array Edge)(g:Option (Nat×Bool))(x:Operand):(execOp ev ⟨dst,.load 111 x,t,pos,after,g⟩).run Tryz.prog w=Qz Tryz.prog 111 w (ev x):=Ql _ ev w dst t pos after g x _
theorem Jhm (w:World)(b off:Nat)(hs:(Jf w b off 4).size=4):Qz Tryz.prog 111 w (.pointer (some ⟨b,off,none⟩))=.ok (.value (.agg (Jf w b off 4))) w:=
 JN _ w none 0 "" #[] none _ _ 4 _ Tryz.underlying111 rfl (by kernel_rfl) (by decide) hs
theorem JfY (ev:Operand→Value)(w:World)(dst:Option Tmp)(t:TypeId)(pos:String)(after:Array Edge)(g:Option (Nat×Bool))(x:Operand):(execOp ev ⟨dst,.load 113 x,t,pos,after,g⟩).run Tryz.prog w=Qz Tryz.prog 113 w (ev x):=Ql _ ev w dst t pos after g x _
theorem JcX (w:World)(b off:Nat)(hs:(Jf w b off 17).size=17):Qz Tryz.prog 113 w (.pointer (some ⟨b,off,none⟩))=.ok (.value (.agg (Jf w b off 17))) w:=
 JN _ w none 0 "" #[] none _ _ 17 _ Tryz.underlying113 rfl (by kernel_rfl) (by decide) hs
theorem JeI (ev:Operand→Value)(w:World)(dst:Option Tmp)(t:TypeId)(pos:String)(after:Array Edge)(g:Option (Nat×Bool))(x y:Operand):(execOp ev ⟨dst,.store 113 x y,t,pos,after,g⟩).run Tryz.prog w=Xf Tryz.prog 113 w (ev x) (ev y):=Qc _ ev w dst t pos after g x y _
theorem JfZ (w:World)(b:Nat)(cs:Array Value)(hx:Jg w b 17=true)(hs:cs.size=17)(h1:ZP cs.toList=true):Xf Tryz.prog 113 w (.pointer (some ⟨b,0,none⟩)) (.agg cs)=.ok .skip (w.setRow b cs):=
 JL _ w none 0 "" #[] none _ _ _ 17 (by kernel_rfl) hx (by show Z3 _ (.agg cs)=true;rw[Qk,←Array.all_toList,QE _ h1,hs];simp)
theorem Jf0:(Tryz.prog.info? 113).map (·.size)=some 17:=by kernel_rfl
theorem JeJ (ev:Operand→Value)(w:World)(dst:Option Tmp)(t:TypeId)(pos:String)(after:Array Edge)(g:Option (Nat×Bool))(x:Operand):(execOp ev ⟨dst,.load 106 x,t,pos,after,g⟩).run Tryz.prog w=Qz Tryz.prog 106 w (ev x):=Ql _ ev w dst t pos after g x _
theorem Jf1 (w:World)(b off:Nat)(hs:(Jf w b off 11).size=11):Qz Tryz.prog 106 w (.pointer (some ⟨b,off,none⟩))=.ok (.value (.agg (Jf w b off 11))) w:=
 JN _ w none 0 "" #[] none _ _ 11 _ Tryz.underlying106 rfl (by kernel_rfl) (by decide) hs
theorem JaB (ev:Operand→Value)(w:World)(dst:Option Tmp)(t:TypeId)(pos:String)(after:Array Edge)(g:Option (Nat×Bool))(x y:Operand):(execOp ev ⟨dst,.store 106 x y,t,pos,after,g⟩).run Tryz.prog w=Xf Tryz.prog 106 w (ev x) (ev y):=Qc _ ev w dst t pos after g x y _
theorem Jbh (w:World)(b:Nat)(cs:Array Value)(hx:Jg w b 11=true)(hs:cs.size=11)(h1:ZP cs.toList=true):Xf Tryz.prog 106 w (.pointer (some ⟨b,0,none⟩)) (.agg cs)=.ok .skip (w.setRow b cs):=
 JL _ w none 0 "" #[] none _ _ _ 11 (by kernel_rfl) hx (by show Z3 _ (.agg cs)=true;rw[Qk,←Array.all_toList,QE _ h1,hs];simp)
theorem Jhn:(Tryz.prog.info? 106).map (·.size)=some 11:=by kernel_rfl
theorem JbW (ev:Operand→Value)(w:World)(dst:Option Tmp)(t:TypeId)(pos:String)(after:Array Edge)(g:Option (Nat×Bool))(x:Operand):(execOp ev ⟨dst,.load 118 x,t,pos,after,g⟩).run Tryz.prog w=Qz Tryz.prog 118 w (ev x):=Ql _ ev w dst t pos after g x _
theorem JcY (w:World)(b off:Nat)(hs:(Jf w b off 37).size=37):Qz Tryz.prog 118 w (.pointer (some ⟨b,off,none⟩))=.ok (.value (.agg (Jf w b off 37))) w:=
 JN _ w none 0 "" #[] none _ _ 37 _ Tryz.underlying118 rfl (by kernel_rfl) (by decide) hs
theorem Jbi (ev:Operand→Value)(w:World)(dst:Option Tmp)(t:TypeId)(pos:String)(after:Array Edge)(g:Option (Nat×Bool))(x y:Operand):(execOp ev ⟨dst,.store 118 x y,t,pos,after,g⟩).run Tryz.prog w=Xf Tryz.prog 118 w (ev x) (ev y):=Qc _ ev w dst t pos after g x y _
theorem JbX (w:World)(b:Nat)(cs:Array Value)(hx:Jg w b 37=true)(hs:cs.size=37)(h1:ZP cs.toList=true):Xf Tryz.prog 118 w (.pointer (some ⟨b,0,none⟩)) (.agg cs)=.ok .skip (w.setRow b cs):=
 JL _ w none 0 "" #[] none _ _ _ 37 (by kernel_rfl) hx (by show Z3 _ (.agg cs)=true;rw[Qk,←Array.all_toList,QE _ h1,hs];simp)
theorem Jjn:(Tryz.prog.info? 118).map (·.size)=some 37:=by kernel_rfl
theorem JeK (ev:Operand→Value)(w:World)(dst:Option Tmp)(t:TypeId)(pos:String)(after:Array Edge)(g:Option (Nat×Bool))(x:Operand):(execOp ev ⟨dst,.load 109 x,t,pos,after,g⟩).run Tryz.prog w=Qz Tryz.prog 109 w (ev x):=Ql _ ev w dst t pos after g x _
theorem Jf2 (w:World)(b off:Nat)(hs:(Jf w b off 7).size=7):Qz Tryz.prog 109 w (.pointer (some ⟨b,off,none⟩))=.ok (.value (.agg (Jf w b off 7))) w:=
 JN _ w none 0 "" #[] none _ _ 7 _ Tryz.underlying109 rfl (by kernel_rfl) (by decide) hs
theorem JaC (ev:Operand→Value)(w:World)(dst:Option Tmp)(t:TypeId)(pos:String)(after:Array Edge)(g:Option (Nat×Bool))(x y:Operand):(execOp ev ⟨dst,.store 109 x y,t,pos,after,g⟩).run Tryz.prog w=Xf Tryz.prog 109 w (ev x) (ev y):=Qc _ ev w dst t pos after g x y _
theorem Jbj (w:World)(b:Nat)(cs:Array Value)(hx:Jg w b 7=true)(hs:cs.size=7)(h1:ZP cs.toList=true):Xf Tryz.prog 109 w (.pointer (some ⟨b,0,none⟩)) (.agg cs)=.ok .skip (w.setRow b cs):=
 JL _ w none 0 "" #[] none _ _ _ 7 (by kernel_rfl) hx (by show Z3 _ (.agg cs)=true;rw[Qk,←Array.all_toList,QE _ h1,hs];simp)
theorem Jho:(Tryz.prog.info? 109).map (·.size)=some 7:=by kernel_rfl
theorem JbY (ev:Operand→Value)(w:World)(dst:Option Tmp)(t:TypeId)(pos:String)(after:Array Edge)(g:Option (Nat×Bool))(x:Operand):(execOp ev ⟨dst,.load 149 x,t,pos,after,g⟩).run Tryz.prog w=Qz Tryz.prog 149 w (ev x):=Ql _ ev w dst t pos after g x _
theorem Xc (w:World)(b off:Nat)(hs:(Jf w b off 12).size=12):Qz Tryz.prog 149 w (.pointer (some ⟨b,off,none⟩))=.ok (.value (.agg (Jf w b off 12))) w:=
 JN _ w none 0 "" #[] none _ _ 12 _ Tryz.underlying149 rfl (by kernel_rfl) (by decide) hs
theorem Jbk (ev:Operand→Value)(w:World)(dst:Option Tmp)(t:TypeId)(pos:String)(after:Array Edge)(g:Option (Nat×Bool))(x y:Operand):(execOp ev ⟨dst,.store 149 x y,t,pos,after,g⟩).run Tryz.prog w=Xf Tryz.prog 149 w (ev x) (ev y):=Qc _ ev w dst t pos after g x y _
theorem JbZ (w:World)(b:Nat)(cs:Array Value)(hx:Jg w b 12=true)(hs:cs.size=12)(h1:ZP cs.toList=true):Xf Tryz.prog 149 w (.pointer (some ⟨b,0,none⟩)) (.agg cs)=.ok .skip (w.setRow b cs):=
 JL _ w none 0 "" #[] none _ _ _ 12 (by kernel_rfl) hx (by show Z3 _ (.agg cs)=true;rw[Qk,←Array.all_toList,QE _ h1,hs];simp)
theorem Jjo:(Tryz.prog.info? 149).map (·.size)=some 12:=by kernel_rfl
theorem JeL (ev:Operand→Value)(w:World)(dst:Option Tmp)(t:TypeId)(pos:String)(after:Array Edge)(g:Option (Nat×Bool))(x:Operand):(execOp ev ⟨dst,.load 102 x,t,pos,after,g⟩).run Tryz.prog w=Qz Tryz.prog 102 w (ev x):=Ql _ ev w dst t pos after g x _
theorem Jf3 (w:World)(b off:Nat)(hs:(Jf w b off 12).size=12):Qz Tryz.prog 102 w (.pointer (some ⟨b,off,none⟩))=.ok (.value (.agg (Jf w b off 12))) w:=
 JN _ w none 0 "" #[] none _ _ 12 _ Tryz.underlying102 rfl (by kernel_rfl) (by decide) hs
theorem JdQ (ev:Operand→Value)(w:World)(dst:Option Tmp)(t:TypeId)(pos:String)(after:Array Edge)(g:Option (Nat×Bool))(x y:Operand):(execOp ev ⟨dst,.store 102 x y,t,pos,after,g⟩).run Tryz.prog w=Xf Tryz.prog 102 w (ev x) (ev y):=Qc _ ev w dst t pos after g x y _
theorem JeM (w:World)(b:Nat)(cs:Array Value)(hx:Jg w b 12=true)(hs:cs.size=12)(h1:ZP cs.toList=true):Xf Tryz.prog 102 w (.pointer (some ⟨b,0,none⟩)) (.agg cs)=.ok .skip (w.setRow b cs):=
 JL _ w none 0 "" #[] none _ _ _ 12 (by kernel_rfl) hx (by show Z3 _ (.agg cs)=true;rw[Qk,←Array.all_toList,QE _ h1,hs];simp)
theorem Jll:(Tryz.prog.info? 102).map (·.size)=some 12:=by kernel_rfl
theorem Jf4 (ev:Operand→Value)(w:World)(dst:Option Tmp)(t:TypeId)(pos:String)(after:Array Edge)(g:Option (Nat×Bool))(x:Operand):(execOp ev ⟨dst,.load 30 x,t,pos,after,g⟩).run Tryz.prog w=Qz Tryz.prog 30 w (ev x):=Ql _ ev w dst t pos after g x _
theorem Jhp (w:World)(b off:Nat)(hs:(Jf w b off 37).size=37):Qz Tryz.prog 30 w (.pointer (some ⟨b,off,none⟩))=.ok (.value (.agg (Jf w b off 37))) w:=
 JN _ w none 0 "" #[] none _ _ 37 _ Tryz.underlying30 rfl (by kernel_rfl) (by decide) hs
theorem JeN (ev:Operand→Value)(w:World)(dst:Option Tmp)(t:TypeId)(pos:String)(after:Array Edge)(g:Option (Nat×Bool))(x y:Operand):(execOp ev ⟨dst,.store 30 x y,t,pos,after,g⟩).run Tryz.prog w=Xf Tryz.prog 30 w (ev x) (ev y):=Qc _ ev w dst t pos after g x y _
theorem Jf5 (w:World)(b:Nat)(cs:Array Value)(hx:Jg w b 37=true)(hs:cs.size=37)(h1:ZP cs.toList=true):Xf Tryz.prog 30 w (.pointer (some ⟨b,0,none⟩)) (.agg cs)=.ok .skip (w.setRow b cs):=
 JL _ w none 0 "" #[] none _ _ _ 37 (by kernel_rfl) hx (by show Z3 _ (.agg cs)=true;rw[Qk,←Array.all_toList,QE _ h1,hs];simp)
theorem JmA:(Tryz.prog.info? 30).map (·.size)=some 37:=by kernel_rfl
theorem JdR (ev:Operand→Value)(w:World)(dst:Option Tmp)(t:TypeId)(pos:String)(after:Array Edge)(g:Option (Nat×Bool))(x y:Operand):(execOp ev ⟨dst,.store 38 x y,t,pos,after,g⟩).run Tryz.prog w=Xf Tryz.prog 38 w (ev x) (ev y):=Qc _ ev w dst t pos after g x y _
theorem JeO (w:World)(b:Nat)(cs:Array Value)(hx:Jg w b 37=true)(hs:cs.size=37)(h1:ZP cs.toList=true):Xf Tryz.prog 38 w (.pointer (some ⟨b,0,none⟩)) (.agg cs)=.ok .skip (w.setRow b cs):=
 JL _ w none 0 "" #[] none _ _ _ 37 (by kernel_rfl) hx (by show Z3 _ (.agg cs)=true;rw[Qk,←Array.all_toList,QE _ h1,hs];simp)
theorem Jlm:(Tryz.prog.info? 38).map (·.size)=some 37:=by kernel_rfl
theorem Jf6 (ev:Operand→Value)(w:World)(dst:Option Tmp)(t:TypeId)(pos:String)(after:Array Edge)(g:Option (Nat×Bool))(x:Operand):(execOp ev ⟨dst,.load 32 x,t,pos,after,g⟩).run Tryz.prog w=Qz Tryz.prog 32 w (ev x):=Ql _ ev w dst t pos after g x _
theorem Jhq (w:World)(b off:Nat)(hs:(Jf w b off 40).size=40):Qz Tryz.prog 32 w (.pointer (some ⟨b,off,none⟩))=.ok (.value (.agg (Jf w b off 40))) w:=
 JN _ w none 0 "" #[] none _ _ 40 _ Tryz.underlying32 rfl (by kernel_rfl) (by decide) hs
theorem JeP (ev:Operand→Value)(w:World)(dst:Option Tmp)(t:TypeId)(pos:String)(after:Array Edge)(g:Option (Nat×Bool))(x y:Operand):(execOp ev ⟨dst,.store 32 x y,t,pos,after,g⟩).run Tryz.prog w=Xf Tryz.prog 32 w (ev x) (ev y):=Qc _ ev w dst t pos after g x y _
theorem Jf7 (w:World)(b:Nat)(cs:Array Value)(hx:Jg w b 40=true)(hs:cs.size=40)(h1:ZP cs.toList=true):Xf Tryz.prog 32 w (.pointer (some ⟨b,0,none⟩)) (.agg cs)=.ok .skip (w.setRow b cs):=
 JL _ w none 0 "" #[] none _ _ _ 40 (by kernel_rfl) hx (by show Z3 _ (.agg cs)=true;rw[Qk,←Array.all_toList,QE _ h1,hs];simp)
theorem JmB:(Tryz.prog.info? 32).map (·.size)=some 40:=by kernel_rfl
theorem JeQ (ev:Operand→Value)(w:World)(dst:Option Tmp)(t:TypeId)(pos:String)(after:Array Edge)(g:Option (Nat×Bool))(x:Operand):(execOp ev ⟨dst,.load 40 x,t,pos,after,g⟩).run Tryz.prog w=Qz Tryz.prog 40 w (ev x):=Ql _ ev w dst t pos after g x _
theorem Jf8 (w:World)(b off:Nat)(hs:(Jf w b off 40).size=40):Qz Tryz.prog 40 w (.pointer (some ⟨b,off,none⟩))=.ok (.value (.agg (Jf w b off 40))) w:=
 JN _ w none 0 "" #[] none _ _ 40 _ Tryz.underlying40 rfl (by kernel_rfl) (by decide) hs
theorem JaD (ev:Operand→Value)(w:World)(dst:Option Tmp)(t:TypeId)(pos:String)(after:Array Edge)(g:Option (Nat×Bool))(x y:Operand):(execOp ev ⟨dst,.store 40 x y,t,pos,after,g⟩).run Tryz.prog w=Xf Tryz.prog 40 w (ev x) (ev y):=Qc _ ev w dst t pos after g x y _
theorem Jbl (w:World)(b:Nat)(cs:Array Value)(hx:Jg w b 40=true)(hs:cs.size=40)(h1:ZP cs.toList=true):Xf Tryz.prog 40 w (.pointer (some ⟨b,0,none⟩)) (.agg cs)=.ok .skip (w.setRow b cs):=
 JL _ w none 0 "" #[] none _ _ _ 40 (by kernel_rfl) hx (by show Z3 _ (.agg cs)=true;rw[Qk,←Array.all_toList,QE _ h1,hs];simp)
theorem Jb0:(Tryz.prog.info? 40).map (·.size)=some 40:=by kernel_rfl
theorem Jf9 (ev:Operand→Value)(w:World)(dst:Option Tmp)(t:TypeId)(pos:String)(after:Array Edge)(g:Option (Nat×Bool))(x:Operand):(execOp ev ⟨dst,.load 47 x,t,pos,after,g⟩).run Tryz.prog w=Qz Tryz.prog 47 w (ev x):=Ql _ ev w dst t pos after g x _
theorem Jhr (w:World)(b off:Nat)(hs:(Jf w b off 39).size=39):Qz Tryz.prog 47 w (.pointer (some ⟨b,off,none⟩))=.ok (.value (.agg (Jf w b off 39))) w:=
 JN _ w none 0 "" #[] none _ _ 39 _ Tryz.underlying47 rfl (by kernel_rfl) (by decide) hs
theorem JeR (ev:Operand→Value)(w:World)(dst:Option Tmp)(t:TypeId)(pos:String)(after:Array Edge)(g:Option (Nat×Bool))(x y:Operand):(execOp ev ⟨dst,.store 85 x y,t,pos,after,g⟩).run Tryz.prog w=Xf Tryz.prog 85 w (ev x) (ev y):=Qc _ ev w dst t pos after g x y _
theorem Jga (w:World)(b:Nat)(cs:Array Value)(hx:Jg w b 42=true)(hs:cs.size=42)(h1:ZP cs.toList=true):Xf Tryz.prog 85 w (.pointer (some ⟨b,0,none⟩)) (.agg cs)=.ok .skip (w.setRow b cs):=
 JL _ w none 0 "" #[] none _ _ _ 42 (by kernel_rfl) hx (by show Z3 _ (.agg cs)=true;rw[Qk,←Array.all_toList,QE _ h1,hs];simp)
theorem Jjp:(Tryz.prog.info? 85).map (·.size)=some 42:=by kernel_rfl
attribute [go_sem ↓] JfX JfY JeI JeJ JaB JbW Jbi JeK JaC JbY Jbk JeL JdQ Jf4 JeN JdR Jf6 JeP JeQ JaD Jf9 JeR
attribute [go_sem] Jhm JcX JfZ Jf1 Jbh JcY JbX Jf2 Jbj Xc JbZ Jf3 JeM Jhp Jf5 JeO Jhq Jf7 Jf8 Jbl Jhr Jga
end
section
open Go.RowKit
section
variable {P:Program} {ops:Array Oper} {md:Region.Mode}
def ZJ (w:World):World→Prop:=fun w'=>∃x:Jz w,w'=x.world
def QG (P:Program)(ops:Array Oper)(w:World)(o:Oper)(v:Value)(a:Act):Prop:=∀w1,Below w.heap.size w w1→YieldsIn P ops (ZJ w1) o v a
def Q6 (g:Nat):Value:=.pointer (some ⟨g,0,none⟩)
structure Jhs (P:Program)(ops:Array Oper)(o:Oper)(ob:Obj):Prop where
 wanted:∀a:Act,Region.wanted o (yielded ops a.tmps)=true
 run:∀(a:Act) (w':World),(execOp a.eval o).run P w'=.ok (.value (Q6 w'.heap.size)) (w'.alloc ob)
theorem QG.of_put {w:World}{oi oj:Oper}{v u:Value}{a:Act}(hsi:∀cs b,oi.op≠ .select cs b)(h:QG P ops w oi v a)(hap:∀d,oj.dst=some d→d∉oi.looksAt ops):QG P ops w oi v (a.put oj.dst u):=
 fun w1 hb=>(h w1 hb).of_same (execOp_put oi hsi a oj.dst u hap) (wanted_put oi a oj.dst u hap)
theorem QG.of_unput {w:World}{oi oj:Oper}{v u:Value}{a:Act}(hsi:∀cs b,oi.op≠ .select cs b)(h:QG P ops w oi v (a.put oj.dst u))(hap:∀d,oj.dst=some d→d∉oi.looksAt ops):QG P ops w oi v a:=
 fun w1 hb=>(h w1 hb).of_same (execOp_put oi hsi a oj.dst u hap).symm (wanted_put oi a oj.dst u hap).symm
def Zc (md:Region.Mode)(ops:Array Oper):Nat→Nat→Array Bool→Bool
 |0,_,_=>true
 |f+1,k,listed=>(Region.ready md ops listed).contains k&&Region.free md ops listed k&&Zc md ops f (k+1) (listed.setIfInBounds k true)
def XK:Nat→Nat→Array Bool→Array Bool
 |0,_,listed=>listed
 |f+1,k,listed=>XK f (k+1) (listed.setIfInBounds k true)
def Jln (P:Program)(ops:Array Oper)(w:World)(Lq:Act→Prop):List Oper→Act→Prop
 |[],a=>Lq a
 |o::rest,a=>∃v,QG P ops w o v a∧Jln P ops w Lq rest (a.put o.dst v)
theorem QV {C:World→Prop}{Q:Act→Prop}{o:Oper}{rest:List Oper}{a:Act}(h:wpQuiet P ops C Q (o::rest) a):∃v,YieldsIn P ops C o v a∧wpQuiet P ops C Q rest (a.put o.dst v):=by
 rw[wpQuiet] at h
 by_cases hw:Region.wanted o (yielded ops a.tmps)=true
 ·simp only[hw,if_true] at h
  obtain⟨v,h1,h2⟩:=h
  exact⟨v,.inl ⟨hw,h1⟩,h2⟩
 ·simp only[hw] at h
  exact⟨undef,.inr ⟨by simpa using hw,rfl⟩,h⟩
def Jap (n:Nat):List Oper→Bool
 |[]=>true
 |o::l=>(match o.dst with|some d=>decide (d<n)&&l.all fun p=>p.dst != some d|none=>false)&&Jap n l
theorem Jdo (a:Act)(d:Option Tmp)(v:Value):(a.put d v).tmps.size=a.tmps.size:=by
 cases d<;>simp[Act.put]
theorem Zu {C:World→Prop}{aF:Act}{d:Tmp}:∀(l:List Oper) (a:Act),(∀o∈l,o.dst≠some d)→wpQuiet P ops C (fun a'=>a'=aF) l a→aF.tmps[d]? =a.tmps[d]?
 |[],a,_,h=>by have h:a=aF:=h;rw[h]
 |o::l,a,hd,h=>by
  obtain⟨v,-,h2⟩:=QV h
  rw[Zu l _ (fun p hp=>hd p (by simp[hp])) h2]
  have:=hd o (by simp)
  cases ho:o.dst with
  |none=>rfl
  |some e=>
   rw[ho] at this
   have hne:e≠d:=fun h=>this (by rw[h])
   simp[Act.put,Array.getElem?_setIfInBounds,hne]
theorem Jht {w:World}{aF:Act}:∀(l:List Oper) (a:Act),Jap a.tmps.size l=true→(∀w1,Below w.heap.size w w1→wpQuiet P ops (ZJ w1) (fun a'=>a'=aF) l a)→Jln P ops w (fun a'=>a'=aF) l a
 |[],a,_,h=>h w (Jpd _ _)
 |o::l,a,hd,h=>by
  rw[Jap,Bool.and_eq_true] at hd
  obtain⟨hd1,hd2⟩:=hd
  cases ho:o.dst with
  |none=>rw[ho] at hd1;cases hd1
  |some d=>
   rw[ho] at hd1
   simp only[Bool.and_eq_true,decide_eq_true_eq,List.all_eq_true] at hd1
   have hne:∀p∈l,p.dst≠some d:=fun p hp e=>by have:=hd1.2 p hp;rw[e] at this;simp at this
   have val:∀{C:World→Prop} {v:Value},wpQuiet P ops C (fun a'=>a'=aF) l (a.put o.dst v)→aF.tmps[d]? =some v:=fun {C v} h=>by
    rw[Zu l _ hne h,ho]
    simp[Act.put,Array.getElem?_setIfInBounds,hd1.1]
   obtain⟨v,-,hv⟩:=QV (h w (Jpd _ _))
   have e:=val hv
   have H:∀w1,Below w.heap.size w w1→YieldsIn P ops (ZJ w1) o v a∧wpQuiet P ops (ZJ w1) (fun a'=>a'=aF) l (a.put o.dst v):=fun w1 hb=>by
    obtain⟨u,h1,h2⟩:=QV (h w1 hb)
    have:=val h2
    rw[e] at this
    obtain rfl:v=u:=Option.some.inj this
    exact⟨h1,h2⟩
   exact⟨v,fun w1 hb=>(H w1 hb).1,Jht l _ (by rw[Jdo];exact hd2) fun w1 hb=>(H w1 hb).2⟩
end
end
end Go.Proofs.YtkgjbipfhhjlpaaGreatDoor
