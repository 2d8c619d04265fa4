import Derived.Test.YtkgjbipfhhjlpaaGreatDoorMf5
import Derived.Test.YtkgjbipfhhjlpaaGreatDoorMf3
set_option linter.unusedVariables false
set_option linter.unusedSimpArgs false
set_option maxRecDepth 100000
set_option maxHeartbeats 32000000
namespace Go.Proofs.YtkgjbipfhhjlpaaGreatDoor
section
open Go.RowKit
def JeT (F S:Option (List Nat)):Option (Bool×(Nat→Int)):=match F with
 |some l=>some (false,Ja1 l)
 |none=>match S with
  |some l=>some (true,JfC l)
  |none=>none
theorem Jji (L:List UInt8):Xq L=JeT (JgX L) (JhF L):=rfl
theorem Jf9 (S:Option (List Nat)):(∀l,S=some l→JeT none S=some (true,JfC l))∧(S=none→JeT none S=none):=⟨fun l h=>by rw[h];rfl,fun h=>by rw[h];rfl⟩
theorem Jg8 {w:World}{b:Nat}{t:TypeId}{s s':Bool}{B B':Nat→Int}(h:JZ w b t s B)(cs:Array Value)(o:Obj)(hc:cs=(JnI s' (.int .u8 (B' 0)) (.int .u8 (B' 1)) (.int .u8 (B' 2)) (.int .u8 (B' 3)) (.int .u8 (B' 4)) (.int .u8 (B' 5)) (.int .u8 (B' 6)) (.int .u8 (B' 7)) (.int .u8 (B' 8)) (.int .u8 (B' 9)) (.int .u8 (B' 10)) (.int .u8 (B' 11)) (.int .u8 (B' 12)) (.int .u8 (B' 13)) (.int .u8 (B' 14)) (.int .u8 (B' 15)):Array Value):=by rfl):Jc ((w.setRow b cs).alloc o) b 0 17=(JnI s' (.int .u8 (B' 0)) (.int .u8 (B' 1)) (.int .u8 (B' 2)) (.int .u8 (B' 3)) (.int .u8 (B' 4)) (.int .u8 (B' 5)) (.int .u8 (B' 6)) (.int .u8 (B' 7)) (.int .u8 (B' 8)) (.int .u8 (B' 9)) (.int .u8 (B' 10)) (.int .u8 (B' 11)) (.int .u8 (B' 12)) (.int .u8 (B' 13)) (.int .u8 (B' 14)) (.int .u8 (B' 15)):Array Value):=by
 rw[Jd6 _ _ _ _ _ (by have:=h.lt;simpa using this)]
 subst hc
 exact Q0 h.heap
theorem Jga (s:ByteArray)(w:World)(hs:s.size≤1000)(henv:Env w):Calls Tryz.prog 59 #[.string s] w (Jk w (Jec (Xq s.data.toList))):=by
 have HE:=Jnv henv
 have H4:=Jnv (fun w h=>Jku s w hs h)
 have H6:=Jnv (fun w h=>JlH s w hs h)
 rw[Jji]
 clear henv hs
 generalize s.data.toList=L at*
 generalize JgX L=F at*
 generalize JhF L=S at*
 go_enter Tryz.func59,Tryz.ntmps59
 go_wp2_with fail
 refine Jnx (H4.out _ (HE.out.below (Below.all (Jny _ _) _))) ?_
 rintro e w2 ⟨B,ok,rfl,hb2,hc⟩
 have HX:=Jnv ((JZ.made0 w 27 false).below hb2)
 have HW:=Jnv (Jno (Below.all (Jny w.heap.size w) _) hb2)
 have hlt:=HX.out.lt
 have HC:=Jnv hc
 clear hb2 hc
 cases ok
 ·have hF:F=none:=by rcases HC.out with ⟨h,-⟩|⟨-,h⟩;cases h;exact h
  subst hF
  have HP2:=Jnv (Jf9 S)
  generalize JeT none S=R at*
  unfold adV
  have HX2:=Jnv (HX.out.alloc (.cells (JnH false B) 27))
  have HW2:=Jnv (Below.all HW.out (.cells (JnH false B) 27))
  clear HC HX HW hlt
  go_wp2_with fail
  generalize w2.alloc (.cells (JnH false B) 27)=w3 at*
  refine Jnx (H6.out _ (HE.out.below HW2.out)) ?_
  rintro e w4 ⟨hb4,hc⟩
  have HX4:=Jnv (HX2.out.below hb4)
  have HW4:=Jnv (Jno HW2.out hb4)
  have hlt:=HX4.out.lt
  clear hb4 HX2 HW2
  rcases hc with ⟨l,hl,rfl⟩|⟨hl,rfl⟩
  ·have HR:Hid (R=some (true,JfC l)):=Jnv (HP2.out.1 l hl)
   generalize JfC l=C at*
   have HX4:=Jnv HX4.out
   clear hl HP2
   unfold adV
   have hrr:=HX4.out.row
   go_wp2_with fail
   exact bodyPost_ret (v:=.tuple #[adV true C,.int .i64 0]) (J4 _ _ Tryz.underlying27 Zf rfl _ _ w.heap.size (.int .i64 0) rfl rfl (Jg8 (s':=true) (B':=C) HX4.out _ _ rfl)) rfl (.mk (by rw[HR.out];rfl) (Below.all (below_setRow HW4.out (JnA _) _) _))
  ·have HR:Hid (R=none):=Jnv (HP2.out.2 hl)
   clear hl HP2
   unfold adV
   have hrr:=HX4.out.row
   go_wp2_with fail
   exact bodyPost_ret (v:=.tuple #[adV false fun _=>0,.int .i64 40]) (J4 _ _ Tryz.underlying27 Zf rfl _ _ w.heap.size (.int .i64 40) rfl rfl (Jg8 (s':=false) (B':=fun _=>0) HX4.out _ _ rfl)) rfl (.mk (by rw[HR.out];rfl) (Below.all (below_setRow HW4.out (JnA _) _) _))
 ·obtain⟨l,rfl,hB⟩:∃l,F=some l∧∀i,i<16→B i=Ja1 l i:=by
   rcases HC.out with ⟨-,h⟩|⟨h,-⟩
   ·exact h
   ·cases h
  have HBE:=Jnv (Jkm (six:=false) hB)
  clear HC hB H6
  unfold adV at*
  have hrr:=HX.out.row
  go_wp2_with fail
  refine bodyPost_ret (v:=.tuple #[adV false B,.int .i64 0]) (J4 _ _ Tryz.underlying27 Zf rfl _ _ w.heap.size (.int .i64 0) rfl rfl (Jg8 (s':=false) (B':=B) HX.out _ _ rfl)) rfl (.mk ?_ (Below.all (below_setRow HW.out (JnA _) _) _))
  show Value.tuple #[adV false B,.int .i64 0]=.tuple #[adV false (Ja1 l),.int .i64 0]
  rw[show adV false B=adV false (Ja1 l) from HBE.out]
theorem Jb7 (c:UInt8):∀l:List (List UInt8),Lib.join l [c]=Xa c l
 |[]=>rfl
 |[p]=>by rw[Lib.join_one];rfl
 |p::q::l=>by
  rw[Lib.join_cons,Xj,←Jb7 c (q::l),Lib.join_cons]
  simp[Lib.joinTail]
theorem JaU (oa:Option Addr)(n cap base:Nat)(L:List (List UInt8))(c:UInt8)(w:World)(hO:JI w base 1 oa n cap (L.map JdK))(hlen:(Xa c L).length≤140737488355328)(hn:n≤140737488355328):
 Calls Tryz.prog 70 #[.slice oa n cap,.string ⟨#[c]⟩] w (Jk w (.string ⟨(Xa c L).toArray⟩)):=by
 have hLn:L.length=n:=by have:=hO.len;simpa using this
 rcases Nat.eq_zero_or_pos n with h0|h0
 ·subst h0
  obtain rfl:=List.eq_nil_of_length_eq_zero hLn
  refine Jnx (Tryz.strings_Join_none oa cap _ w) ?_
  rintro e w' ⟨rfl,rfl⟩
  exact .mk rfl (Jny _ _)
 ·obtain⟨g,off,rfl,hb,hg,hc,ht⟩:=hO.here h0
  have e1:(L.map fun l:List UInt8=>(⟨l.toArray⟩:ByteArray)).length=n:=by rw[List.length_map,hLn]
  have e2:((L.map fun l:List UInt8=>(⟨l.toArray⟩:ByteArray)).map (·.data.toList))=L:=by simp[Function.comp_def]
  have h:=Tryz.strings_Join g off cap (L.map fun l:List UInt8=>(⟨l.toArray⟩:ByteArray)) ⟨#[c]⟩ w (fun j x hx=>by
   refine hc j _ ?_
   rw[List.getElem?_map] at hx⊢
   cases h:L[j]? with
   |none=>rw[h] at hx;cases hx
   |some l=>rw[h] at hx;cases hx;rfl) hg (by rw[e1];exact hn) (by rw[e1];exact hO.le) (by rw[e2];show(Lib.join L [c]).length≤_;rw[Jb7];exact hlen)
  rw[e1,e2,show(⟨#[c]⟩:ByteArray).data.toList=[c] from rfl,Jb7] at h
  refine Jnx h ?_
  rintro e w' ⟨rfl,hb'⟩
  exact .mk rfl hb'
theorem JcP (u:Nat)(hu:u<9223372036854775808)(w:World)(henv:Env w):Calls Tryz.prog 71 #[.int .i64 (u:Int)] w (Jk w (.string ⟨(Lib.decDigits u).toArray⟩)):=by
 refine Jnx (Tryz.strconv_Itoa (u:Int) (by omega) (by omega) w henv.tab) ?_
 rintro e w' ⟨rfl,k,os,rfl⟩
 refine .mk ?_ (Lib.below_grow _ _ (JnA _) _ _)
 unfold Lib.itoa
 rw[if_neg (by omega)]
 rfl
theorem Jdc (u:Nat)(h:u<256):(Lib.decDigits u).length≤257:=by
 rw[←JcO u u (JnA _)]
 have:=ZV 10 u u (JnA _)
 omega
theorem Xb (c:UInt8)(m:Nat):∀L:List (List UInt8),(∀p∈L,p.length≤m)→(Xa c L).length≤L.length*(m+1)
 |[],_=>by simp[Xa]
 |[p],h=>by have:=h p (by simp);simp[Xa];omega
 |p::q::l,h=>by
  have h1:=h p (by simp)
  have h2:=Xb c m (q::l) (fun x hx=>h x (by simp at hx⊢;exact .inr hx))
  have h3:(p::q::l).length*(m+1)=(q::l).length*(m+1)+(m+1):=by rw[List.length_cons (a:=p),Nat.add_mul,Nat.one_mul]
  rw[Xj,List.length_append,List.length_cons]
  omega
theorem Jjj (B:Nat→Int)(hB:U8 B)(hr:JR false B=true)(w:World)(henv:Env w):
 Calls Tryz.prog 72 #[adV false B] w (Jk w (.string ⟨(Jmc fun i=>(B i).toNat).toArray⟩)):=by
 have HE:=Jnv henv
 have HU:=Jnv hB
 have HR:Hid (∀w,Calls Tryz.prog 68 #[adV false B] w (Jk w (.bool true))):=Jnv fun w=>by rw[←hr];exact Qt false B w
 clear henv hB hr
 have HX:Hid (JZ (w.alloc (.cells (JnH false B) 27)) w.heap.size 27 false B):=Jnv (JZ.made w _ false B)
 have HW:Hid (Below w.heap.size w (w.alloc (.cells (JnH false B) 27))):=Jnv (Below.all (Jny w.heap.size w) _)
 unfold adV at*
 go_enter Tryz.func72,Tryz.ntmps72
 go_wp2_with fail
 generalize hw1:w.alloc (.cells (JnH false B) 27)=w1 at*
 have hs1:w1.heap.size=w.heap.size+1:=by rw[←hw1];simp
 clear hw1
 refine Jnx (HR.out _) ?_
 rintro e w2 ⟨rfl,hb2⟩
 have HX2:=Jnv (HX.out.below hb2)
 have HW2:=Jnv (Jno HW.out hb2)
 have hs2:w.heap.size+1≤w2.heap.size:=by have:=hb2.size;omega
 have hsx:=HX2.out.six
 clear hb2 HX HW hs1
 go_wp2_with fail
 clear hsx
 go_loopw [3,20] (fun u3 u20 wr=>∃(k:Nat) (oa:Option Addr) (cap:Nat),k≤4∧u20=.int .i64 k∧u3=.slice oa k cap∧Hid (JI wr (w.heap.size+1) 1 oa k cap (((List.range k).map fun i=>Lib.decDigits (B i).toNat).map JdK))∧Hid (JZ wr w.heap.size 27 false B)∧Hid (Below w.heap.size w wr)∧w.heap.size+1≤wr.heap.size) (fun _ u20 _=>(4:Int)-intOf u20 |>.toNat)
 case atStart=>exact⟨0,none,0,by omega,rfl,rfl,Jnv (JI.nil _ _ _),HX2,HW2,hs2⟩
 case round=>
  obtain⟨k,oa,cap,hk,rfl,rfl,HO,HX,HW,hsr⟩:=hrel
  by_cases hlt:k<4
  ·have hcx:=HX.out.cell k (by omega)
   have hbk:=HU.out k
   have HR1:Hid (List.range (k+1)=List.range k++[k]):=Jnv List.range_succ
   obtain⟨b,hbe⟩:=Int.eq_ofNat_of_zero_le hbk.1
   have HBE:=Jnv hbe
   rw[hbe] at hcx hbk
   clear hbe
   go_wp2_with fail
   refine Jnx (JcP b (by omega) wr (HE.out.below HW.out)) ?_
   rintro e w3 ⟨rfl,hb3⟩
   have HO3:=Jnv (HO.out.below hb3)
   have HX3:=Jnv (HX.out.below hb3)
   have HW3:=Jnv (Jno HW.out hb3)
   have hs3:w.heap.size+1≤w3.heap.size:=by have:=hb3.size;omega
   have HLT:=Jnv (fun a (ha:oa=some a)=>(HO3.out.lt ha).1)
   clear hb3 hcx HO HX HW hsr
   go_wp2_with (at_builtin;refine JB.of ?_)
   refine JB.mk ?_
   refine J2 _ rfl _ _ 76 rfl 9 (.string ⟨#[]⟩) 1 16 (w.heap.size+1) Tryz.underlying76 JeP rfl (by decide) oa k cap _ rfl (HO3.out.alloc _) ⟨w3.heap.size,0,none⟩ 1 1 [.string ⟨(Lib.decDigits b).toArray⟩] rfl rfl ?_ ?_ (by decide) ?_ ?_ ?_ ?_
   ·exact X1 _ _ _
   ·simp[Value.oneCell']
   ·unfold maxLen;omega
   ·omega
   ·simp only[World.size_alloc];omega
   intro oa' cap' w4 ho' hg hd
   have HX4:=Jnv ((HX3.out.alloc (.cells #[.string ⟨(Lib.decDigits b).toArray⟩] 9)).keep (hg.block _ (by simp;omega) (fun e=>by
    obtain⟨a,ha,hab⟩:=Option.map_eq_some_iff.1 e.symm
    have:=HLT.out a ha;omega)))
   have HW4:Hid (Below w.heap.size w w4):=Jnv (Jnm (Below.all HW3.out _) (HO3.out.alloc _) (by omega) hg (by simp only[World.size_alloc];omega))
   have hs4:w.heap.size+1≤w4.heap.size:=by have:=hg.size;simp only[World.size_alloc] at this;omega
   have HO4:Hid (JI w4 (w.heap.size+1) 1 oa' (k+1) cap' (((List.range (k+1)).map fun i=>Lib.decDigits (B i).toNat).map JdK)):=Jnv (by
    rw[HR1.out,List.map_append,List.map_append]
    simp only[List.map_cons,List.map_nil]
    rw[HBE.out]
    exact ho')
   clear hg hd ho' HX3 HW3 HO3 hs3 HLT
   go_wp2_with fail
   go_roundw
   case rel=>exact⟨k+1,oa',cap',by omega,by go_num,rfl,HO4,HX4,HW4,hs4⟩
   case measure=>simp[intOf];omega
  ·obtain rfl:k=4:=by omega
   go_wp2_with fail
   refine Jnx (JaU oa 4 cap _ _ 46 wr HO.out ?_ (by omega)) ?_
   ·refine Nat.le_trans (Xb 46 257 _ fun p hp=>?_) (by simp)
    obtain⟨i,-,rfl⟩:=List.mem_map.1 hp
    exact Jdc _ (by have:=HU.out i;omega)
   rintro e w3 ⟨rfl,hb3⟩
   have HW3:=Jnv (Jno HW.out hb3)
   go_wp2_with fail
   go_ret
   exact .mk rfl HW3.out
def grpN (B:Nat→Int)(k:Nat):Nat:=(Jke B k).toNat
theorem Jjk {B:Nat→Int}(hB:U8 B)(k:Nat):grpN B k<65536:=by have:=Ji5 hB k;unfold grpN;omega
theorem Jjl {B:Nat→Int}(hB:U8 B)(k:Nat):Jke B k=(grpN B k:Int):=by have:=Ji5 hB k;unfold grpN;omega
theorem Jme {B:Nat→Int}(hB:U8 B)(k:Nat)(h:k<8):zg (grpN B) k=(Jke B k==0):=by
 rw[JmK _ _ h,Jjl hB k,Bool.eq_iff_iff]
 simp only[beq_iff_eq]
 omega
theorem Jie (z:Nat→Bool)(hz:∃a b c d e f g h:Bool,z=zof [a,b,c,d,e,f,g,h]):(JN z).1≤(JN z).2∧(JN z).2≤8:=by
 obtain⟨a,b,c,d,e,f,g,h,rfl⟩:=hz
 exact JgZ a b c d e f g h
theorem JeU (g:Nat→Nat):Jjf g=if (JN (zg g)).1=(JN (zg g)).2 then Xa 58 ((List.range 8).map fun i=>XS 16 (g i))
 else Xa 58 (((List.range 8).map fun i=>XS 16 (g i)).take (JN (zg g)).1)++[58,58]++Xa 58 (((List.range 8).map fun i=>XS 16 (g i)).drop (JN (zg g)).2):=by
 unfold Jjf Ji4
 split
 ·exact Jbz _ _
 ·rw[Zt,Zt,Jbz,Jbz,List.map_take,List.map_drop];rfl
theorem Jkx (B:Nat→Int)(hB:U8 B)(w:World)(henv:Env w):
 Calls Tryz.prog 72 #[adV true B] w (Jk w (.string ⟨(Jjf (grpN B)).toArray⟩)):=by
 have HE:=Jnv henv
 have HU:=Jnv hB
 have HR:Hid (∀w,Calls Tryz.prog 68 #[adV true B] w (Jk w (.bool true))):=Jnv fun w=>Qt true B w
 have HG:=Jnv (fun k hk w=>JfQ true B hB k hk w)
 have HN:=Jnv (fun w=>Jg0 true B hB (zg (grpN B)) (fun k hk=>Jme hB k hk) w)
 have HNB:=Jie (zg (grpN B)) ⟨_,_,_,_,_,_,_,_,rfl⟩
 have HT:=Jnv (JeU (grpN B))
 have HGL:=Jnv (fun k=>Jjk hB k)
 have HGE:=Jnv (fun k=>Jjl hB k)
 clear henv hB
 generalize Jjf (grpN B)=T at*
 generalize JN (zg (grpN B))=ft at*
 obtain⟨f,t⟩:=ft
 simp only at HN HNB HT
 obtain⟨hft,ht8⟩:=HNB
 have HX:Hid (JZ (w.alloc (.cells (JnH true B) 27)) w.heap.size 27 true B):=Jnv (JZ.made w _ true B)
 have HW:Hid (Below w.heap.size w (w.alloc (.cells (JnH true B) 27))):=Jnv (Below.all (Jny w.heap.size w) _)
 unfold adV at*
 go_enter Tryz.func72,Tryz.ntmps72
 go_wp2_with fail
 generalize hw1:w.alloc (.cells (JnH true B) 27)=w1 at*
 have hs1:w1.heap.size=w.heap.size+1:=by rw[←hw1];simp
 clear hw1
 refine Jnx (HR.out _) ?_
 rintro e w2 ⟨rfl,hb2⟩
 have HX2:=Jnv (HX.out.below hb2)
 have HW2:=Jnv (Jno HW.out hb2)
 have hs2:w.heap.size+1≤w2.heap.size:=by have:=hb2.size;omega
 have hsx:=HX2.out.six
 clear hb2 HX HW hs1
 go_wp2_with fail
 clear hsx
 go_loopw [3,33] (fun u3 u33 wr=>∃(k:Nat) (oa:Option Addr) (cap:Nat),k≤8∧u33=.int .i64 k∧u3=.slice oa k cap∧Hid (JI wr (w.heap.size+1) 1 oa k cap (((List.range k).map fun i=>XS 16 (grpN B i)).map JdK))∧Hid (JZ wr w.heap.size 27 true B)∧Hid (Below w.heap.size w wr)∧w.heap.size+1≤wr.heap.size) (fun _ u33 _=>(8:Int)-intOf u33 |>.toNat)
 case atStart=>exact⟨0,none,0,by omega,rfl,rfl,Jnv (JI.nil _ _ _),HX2,HW2,hs2⟩
 case round=>
  obtain⟨k,oa,cap,hk,rfl,rfl,HO,HX,HW,hsr⟩:=hrel
  by_cases hlt:k<8
  ·have hpp:=HX.out.part
   have HR1:Hid (List.range (k+1)=List.range k++[k]):=Jnv List.range_succ
   have HGk:=Jnv (HG.out k hlt)
   have hgl:=HGL.out k
   rw[HGE.out k] at HGk
   have HBE:Hid (∃b,grpN B k=b):=Jnv ⟨_,rfl⟩
   obtain⟨b,hbe⟩:=HBE.out
   clear HBE
   have HBE:=Jnv hbe
   rw[hbe] at HGk hgl
   clear hbe
   go_wp2_with fail
   refine Jnx (HGk.out _) ?_
   rintro e w3 ⟨rfl,hb3⟩
   have HO3:=Jnv (HO.out.below hb3)
   have HX3:=Jnv (HX.out.below hb3)
   have HW3:=Jnv (Jno HW.out hb3)
   have hs3:w.heap.size+1≤w3.heap.size:=by have:=hb3.size;omega
   clear hb3 hpp HO HX HW hsr
   go_wp2_with fail
   refine Jnx (Jma b hgl w3 (HE.out.below HW3.out)) ?_
   rintro e w4 ⟨rfl,hb4⟩
   have HO4:=Jnv (HO3.out.below hb4)
   have HX4:=Jnv (HX3.out.below hb4)
   have HW4:=Jnv (Jno HW3.out hb4)
   have hs4:w.heap.size+1≤w4.heap.size:=by have:=hb4.size;omega
   have HLT:=Jnv (fun a (ha:oa=some a)=>(HO4.out.lt ha).1)
   clear hb4 HO3 HX3 HW3 hs3
   go_wp2_with (at_builtin;refine JB.of ?_)
   refine JB.mk ?_
   refine J2 _ rfl _ _ 76 rfl 9 (.string ⟨#[]⟩) 1 16 (w.heap.size+1) Tryz.underlying76 JeP rfl (by decide) oa k cap _ rfl (HO4.out.alloc _) ⟨w4.heap.size,0,none⟩ 1 1 [.string ⟨(XS 16 b).toArray⟩] rfl rfl ?_ ?_ (by decide) ?_ ?_ ?_ ?_
   ·exact X1 _ _ _
   ·simp[Value.oneCell']
   ·unfold maxLen;omega
   ·omega
   ·simp only[World.size_alloc];omega
   intro oa' cap' w5 ho' hg hd
   have HX5:=Jnv ((HX4.out.alloc (.cells #[.string ⟨(XS 16 b).toArray⟩] 9)).keep (hg.block _ (by simp;omega) (fun e=>by
    obtain⟨a,ha,hab⟩:=Option.map_eq_some_iff.1 e.symm
    have:=HLT.out a ha;omega)))
   have HW5:Hid (Below w.heap.size w w5):=Jnv (Jnm (Below.all HW4.out _) (HO4.out.alloc _) (by omega) hg (by simp only[World.size_alloc];omega))
   have hs5:w.heap.size+1≤w5.heap.size:=by have:=hg.size;simp only[World.size_alloc] at this;omega
   have HO5:Hid (JI w5 (w.heap.size+1) 1 oa' (k+1) cap' (((List.range (k+1)).map fun i=>XS 16 (grpN B i)).map JdK)):=Jnv (by
    rw[HR1.out,List.map_append,List.map_append]
    simp only[List.map_cons,List.map_nil]
    rw[HBE.out]
    exact ho')
   clear hg hd ho' HX4 HW4 HO4 hs4 HLT
   go_wp2_with fail
   go_roundw
   case rel=>exact⟨k+1,oa',cap',by omega,by go_num,rfl,HO5,HX5,HW5,hs5⟩
   case measure=>simp[intOf];omega
  ·obtain rfl:k=8:=by omega
   have hpp:=HX.out.part
   have HPL:Hid (∀p∈(List.range 8).map fun i=>XS 16 (grpN B i),p.length≤4):=Jnv fun p hp=>by
    obtain⟨i,-,rfl⟩:=List.mem_map.1 hp
    exact Jeb _ (HGL.out i)
   have HPN:Hid (((List.range 8).map fun i=>XS 16 (grpN B i)).length=8):=Jnv (by simp)
   clear HGL HGE HG HU HR
   generalize ((List.range 8).map fun i=>XS 16 (grpN B i))=P at*
   go_wp2_with fail
   refine Jnx (HN.out _) ?_
   rintro e w3 ⟨rfl,hb3⟩
   have HO3:=Jnv (HO.out.below hb3)
   have HW3:=Jnv (Jno HW.out hb3)
   clear hb3 hpp HX HO HW HN
   by_cases hz:f=t
   ·have HT2:=HT.out
    rw[if_pos hz] at HT2
    have HT3:=Jnv HT2
    have hz2:(f:Int)=t:=by omega
    clear HT2 HT hz
    go_wp2_with fail
    refine Jnx (JaU oa 8 cap _ _ 58 w3 HO3.out (Nat.le_trans (Xb 58 4 _ HPL.out) (by rw[HPN.out];decide)) (by omega)) ?_
    rintro e w4 ⟨rfl,hb4⟩
    have HW4:=Jnv (Jno HW3.out hb4)
    go_wp2_with fail
    go_ret
    exact .mk (by rw[HT3.out];rfl) HW4.out
   ·have HT2:=HT.out
    rw[if_neg hz] at HT2
    have HT3:=Jnv HT2
    have hz2:¬((f:Int)=t):=by omega
    have HT1:Hid (JI w3 (w.heap.size+1) 1 oa f cap ((P.take f).map JdK)):=Jnv (by rw[List.map_take];have:=HO3.out.take f (by omega);rwa [Nat.mul_one] at this)
    have HT4:Hid (JI w3 (w.heap.size+1) 1 (Jp oa t cap 1) (8-t) (cap-t) ((P.drop t).map JdK)):=Jnv (by rw[List.map_drop];have:=HO3.out.cut t (by omega);rwa [Nat.mul_one] at this)
    have hcap:=HO3.out.le
    have hct:=fun w=>JfF (P:=Tryz.prog) 76 oa 8 cap 1 Tryz.underlying76 (by kernel_rfl) f (f:Int) rfl (by omega) w
    have hcu:=fun w=>Jbf (P:=Tryz.prog) 76 oa 8 cap 1 Tryz.underlying76 (by kernel_rfl) t (t:Int) rfl (by omega) w
    have hA:(Xa 58 (P.take f)).length≤1000:=Nat.le_trans (Xb 58 4 _ fun p hp=>HPL.out p (List.mem_of_mem_take hp)) (by rw[List.length_take,HPN.out];omega)
    have hC:(Xa 58 (P.drop t)).length≤1000:=Nat.le_trans (Xb 58 4 _ fun p hp=>HPL.out p (List.mem_of_mem_drop hp)) (by rw[List.length_drop,HPN.out];omega)
    have HJ1:=Jnv (fun(x:JC w3)=>JaU oa f cap _ _ 58 _ (HT1.out.later x) (by omega) (by omega))
    have HJ2:=Jnv (fun(x:JC w3)=>JaU _ (8-t) (cap-t) _ _ 58 _ (HT4.out.later x) (by omega) (by omega))
    generalize Xa 58 (P.take f)=A at*
    generalize Xa 58 (P.drop t)=C at*
    generalize Jp oa t cap 1=oc at*
    clear HT2 HT hz HT1 HT4 HO3 HPL HPN
    go_wp2_with fail
    have hl1:A.length+2≤9223372036854775807:=by omega
    have hl2:(A.length:Int)+2≤9223372036854775807:=by omega
    have hl3:A.length+2+C.length≤9223372036854775807:=by omega
    have hl4:(A.length:Int)+2+(C.length:Int)≤9223372036854775807:=by omega
    refine Jr (by kernel_rfl) (by kernel_rfl) ?_
    iterate 3 go_big_quiet_step (fail)
    go_big_quiet_step ((go_at_call 70;exact JJ (HJ1.out _)))
    iterate 4 go_big_quiet_step (fail)
    go_big_quiet_step ((go_at_call 70;exact JJ (HJ2.out _)))
    repeat go_big_quiet_step (fail)
    refine wpQuiet_nil ?_
    intro x
    go_wp2_with fail
    go_ret
    refine .mk ?_ (HW3.out.trans (x.below.mono HW3.out.size))
    rw[HT3.out,←Jar,←Jar];rfl
theorem Jif (six:Bool)(B:Nat→Int)(hr:JR six B=false)(w:World):
 Calls Tryz.prog 72 #[adV six B] w (Jk w (.string ⟨([]:List UInt8).toArray⟩)):=by
 have HR:Hid (∀w,Calls Tryz.prog 68 #[adV six B] w (Jk w (.bool false))):=Jnv fun w=>by rw[←hr];exact Qt six B w
 clear hr
 unfold adV at*
 go_enter Tryz.func72,Tryz.ntmps72
 go_wp2_with fail
 refine Calls.later (HR.out _) ?_
 intro x
 go_wp2_with fail
 go_ret
 exact .mk rfl (Jnn (Below.all (Jny _ _) _))
def QR (six:Bool)(B:Nat→Int):List UInt8:=if JR six B=true then (if six=true then Jjf (grpN B) else Jmc fun i=>(B i).toNat) else []
theorem JhI (six:Bool)(B:Nat→Int)(hB:U8 B)(w:World)(henv:Env w):
 Calls Tryz.prog 72 #[adV six B] w (Jk w (.string ⟨(QR six B).toArray⟩)):=by
 unfold QR
 by_cases h:JR six B=true
 ·rw[if_pos h]
  cases six
  ·exact Jjj B hB h w henv
  ·exact Jkx B hB w henv
 ·rw[if_neg h]
  exact Jif six B (by simpa using h) w
theorem Jgb (s:List UInt8):(∃(six:Bool) (B:Nat→Int),Xq s=some (six,B)∧JR six B=true∧U8 B∧Jec (Xq s)=.tuple #[adV six B,.int .i64 0])∨(Xq s=none∧Jec (Xq s)=.tuple #[adV false fun _=>0,.int .i64 40]):=by
 cases h:Xq s with
 |none=>exact .inr ⟨rfl,rfl⟩
 |some p=>
  obtain⟨six,B⟩:=p
  have:=Jf8 h
  exact .inl ⟨six,B,rfl,this.1,this.2,rfl⟩
end
section
open Go.Lib Go.RowKit
theorem Jgc (x c:UInt8):∀L:List (List UInt8),x∈Xa c L→x=c∨∃p∈L,x∈p
 |[],h=>by simp[Xa] at h
 |[p],h=>.inr ⟨p,by simp,by simpa[Xa] using h⟩
 |p::q::l,h=>by
  rw[Xj] at h
  rcases List.mem_append.1 h with h|h
  ·exact .inr ⟨p,by simp,h⟩
  ·rcases List.mem_cons.1 h with h|h
   ·exact .inl h
   ·rcases Jgc x c (q::l) h with h|⟨r,hr,hx⟩
    ·exact .inl h
    ·exact .inr ⟨r,by simp at hr⊢;exact .inr hr,hx⟩
theorem Jm2:∀b:Fin 256,(Lib.decDigits b).length≤3:=by decide+kernel
theorem Jed (s:Bool)(B:Nat→Int)(hB:U8 B):(QR s B).length≤100:=by
 unfold QR
 split
 ·split
  ·have hp:∀p∈(List.range 8).map fun i=>XS 16 (grpN B i),p.length≤4:=fun p hp=>by
    obtain⟨i,-,rfl⟩:=List.mem_map.1 hp
    exact Jeb _ (Jjk hB i)
   rw[JeU]
   split
   ·exact Nat.le_trans (Xb 58 4 _ hp) (by simp)
   ·have h1:=Xb 58 4 (((List.range 8).map fun i=>XS 16 (grpN B i)).take (JN (zg (grpN B))).1) (fun p h=>hp p (List.mem_of_mem_take h))
    have h2:=Xb 58 4 (((List.range 8).map fun i=>XS 16 (grpN B i)).drop (JN (zg (grpN B))).2) (fun p h=>hp p (List.mem_of_mem_drop h))
    rw[List.length_take,List.length_map,List.length_range] at h1
    rw[List.length_drop,List.length_map,List.length_range] at h2
    simp only[List.length_append,List.length_cons,List.length_nil]
    have h3:min (JN (zg (grpN B))).1 8*(4+1)≤40:=by have:=Nat.min_le_right (JN (zg (grpN B))).1 8;omega
    have h4:(8-(JN (zg (grpN B))).2)*(4+1)≤40:=by omega
    omega
  ·refine Nat.le_trans (Xb 46 3 _ fun p hp=>?_) (by simp)
   obtain⟨i,-,rfl⟩:=List.mem_map.1 hp
   have:=hB i
   exact Jm2 ⟨(B i).toNat,by omega⟩
 ·simp
section
end
end
section
def JcJ (p:Int):Nat:=if p=6 then 20 else if p=17 then 8 else if p=1∨p=58 then 4 else 0
def Jkf (l:List Int):Nat:=(l.getD 12 0/16).toNat*4
def Ja2 (p:Int)(l:List Int):Int:=
 if JcJ p=0 then 70 else if l.length<JcJ p then 10 else if 65535<l.length then 51
 else if p=6 then (if Jkf l<20 then 51 else if l.length<Jkf l then 10 else 0)
 else if p=17 then (if w2 l 4<8 then 51 else if (l.length:Int)<w2 l 4 then 10 else 0) else 0
structure Seg where
 proto:Int
 src:Int
 dst:Int
 seq:Int
 ack:Int
 flags:Int
 win:Int
 urg:Int
 opt:List Int
 type:Int
 code:Int
 data:List Int
def JmV:Seg:=⟨0,0,0,0,0,0,0,0,[],0,0,[]⟩
def Jmf (p:Int)(l:List Int):Seg:=
 if p=6 then ⟨6,w2 l 0,w2 l 2,w4 l 4,w4 l 8,l.getD 13 0,w2 l 14,w2 l 18,(l.take (Jkf l)).drop 20,0,0,l.drop (Jkf l)⟩
 else if p=17 then ⟨17,w2 l 0,w2 l 2,0,0,0,0,0,[],0,0,(l.take (w2 l 4).toNat).drop 8⟩
 else ⟨p,0,0,0,0,0,0,0,[],l.getD 0 0,l.getD 1 0,l.drop 4⟩
def Ql (p:Int)(l:List Int):Seg:=if Ja2 p l=0 then Jmf p l else JmV
def Jo (p a b f n c:Int)(data:List Int):List Int:=
 if p=6 then be2 a++be2 b++[0,0,0,0,0,0,0,0,80,f,0,0]++be2 c++[0,0]++data
 else if p=17 then be2 a++be2 b++be2 n++be2 c++data
 else [a,b]++be2 c++data
def J1 (p:Int)(n:Int)(src dst:List Int):List Int:=
 if p=1 then [] else if src.length=4 then src++dst++[0,p]++be2 n else src++dst++[0,0]++be2 n++[0,0,0,p]
def Jmz (p a b f n:Int)(data src dst:List Int):Int:=
 let c:Int:=sumOf (J1 p n src dst++Jo p a b f n 0 data)
 if c=0∧p=17 then 65535 else c
def Jaf (p a b f:Int)(data src dst:List Int):List Int:=
 let n:Int:=(JcJ p+data.length:Nat)
 Jo p a b f n (Jmz p a b f n data src dst) data
structure Jb8 where
 six:Bool
 src:Nat→Int
 dst:Nat→Int
 proto:Int
 len:Int
 frag:Bool
 more:Bool
 body:List Int
def Xk (l:List Int):Jkj:=ZE 17 [] (l.getD 6 0) 0 ((l.drop 40).take (w2 l 4).toNat)
def JE (l:List Int):Int:=if ZR l≠0 then ZR l else if (l.length:Int)<40+w2 l 4 then 10 else match Xk l with
 | .err e=>e
 | .done _ _ _=>0
def Xw (l:List Int):Zq:=match Xk l with
 | .err _=>[]
 | .done xs _ _=>xs
def Xx (l:List Int):Int:=match Xk l with
 | .err _=>0
 | .done _ p _=>p
def Jmg (l:List Int):Nat:=match Xk l with
 | .err _=>0
 | .done _ _ i=>i
def Xl (l:List Int):List Int:=((l.drop 40).take (w2 l 4).toNat).drop (Jmg l)
def Qj (l:List Int):Jb8:=⟨false,JM ((l.drop 12).take 4),JM ((l.drop 16).take 4),l.getD 9 0,w2 l 2,decide (0<w2 l 6%8192),(w2 l 6/8192%2==1),Jan l⟩
def QE (l:List Int):Jb8:=⟨true,JM ((l.drop 8).take 16),JM ((l.drop 24).take 16),Xx l,40+w2 l 4,decide (0<ZS (Xw l)),X3 (Xw l),Xl l⟩
def JW (p:Int):Bool:=p==6||p==17
def JU (p:Int):Bool:=p==1||p==58
structure Jg9 where
 err:Int
 src:Int
 dst:Int
 flags:Int
def Jw (p:Int)(l:List Int):Jg9:=let s:=Ql p l;⟨Ja2 p l,s.src,if JU p then s.type*256+s.code else s.dst,s.flags⟩
def Jy (p:Int)(l:List Int):Jg9:=
 if JU p then (if l.length<2 then ⟨10,0,0,0⟩ else ⟨0,0,w2 l 0,0⟩)
 else (if l.length<4 then ⟨10,0,0,0⟩ else ⟨0,w2 l 0,w2 l 2,if p=6∧14≤l.length then l.getD 13 0 else 0⟩)
def Ja6 (o:Jb8):Jg9:=if (JW o.proto||JU o.proto)&&!o.frag then (if o.more then Jy o.proto o.body else Jw o.proto o.body) else ⟨0,0,0,0⟩
structure Pk where
 six:Bool
 src:Nat→Int
 dst:Nat→Int
 proto:Int
 sp:Int
 dp:Int
 len:Int
 flags:Int
 frag:Bool
def pkZ:Pk:=⟨false,fun _=>0,fun _=>0,0,0,0,0,0,false⟩
def Jig (o:Jb8)(u:Jg9):Pk:=⟨o.six,o.src,o.dst,o.proto,u.src,u.dst,o.len,u.flags,o.frag⟩
def Qu (l:List Int):Int:=
 if 2048<l.length then 3 else if l.length=0 then 10
 else if l.getD 0 0/16=4 then (if JA l≠0 then JA l else (Ja6 (Qj l)).err)
 else if l.getD 0 0/16=6 then (if JE l≠0 then JE l else (Ja6 (QE l)).err) else 50
def JiW (l:List Int):Pk:=
 if Qu l≠0 then pkZ else if l.getD 0 0/16=4 then Jig (Qj l) (Ja6 (Qj l)) else Jig (QE l) (Ja6 (QE l))
def Zh (k:Pk):Array Value:=#[.bool k.six,.int .u8 (k.src 0),.int .u8 (k.src 1),.int .u8 (k.src 2),.int .u8 (k.src 3),.int .u8 (k.src 4),.int .u8 (k.src 5),.int .u8 (k.src 6),.int .u8 (k.src 7),.int .u8 (k.src 8),.int .u8 (k.src 9),.int .u8 (k.src 10),.int .u8 (k.src 11),.int .u8 (k.src 12),.int .u8 (k.src 13),.int .u8 (k.src 14),.int .u8 (k.src 15),.bool k.six,.int .u8 (k.dst 0),.int .u8 (k.dst 1),.int .u8 (k.dst 2),.int .u8 (k.dst 3),.int .u8 (k.dst 4),.int .u8 (k.dst 5),.int .u8 (k.dst 6),.int .u8 (k.dst 7),.int .u8 (k.dst 8),.int .u8 (k.dst 9),.int .u8 (k.dst 10),.int .u8 (k.dst 11),.int .u8 (k.dst 12),.int .u8 (k.dst 13),.int .u8 (k.dst 14),.int .u8 (k.dst 15),.int .u8 k.proto,.int .u16 k.sp,.int .u16 k.dp,.int .i64 k.len,.int .u8 k.flags,.bool k.frag]
def pkR (l:List Int):Value:=.tuple #[.agg (Zh (JiW l)),.int .i64 (Qu l)]
end
end Go.Proofs.YtkgjbipfhhjlpaaGreatDoor
namespace Go.Proofs.YtkgjbipfhhjlpaaGreatDoor.Bits
open Go.RowKit
theorem JlI {p:Prop}[Decidable p]{b:Bool}(h:b=true↔p):b=decide p:=by rw[Bool.eq_iff_iff,h];simp
def JR (n:Int):Bool:=decide (1≤n∧n≤8)
theorem Qt (n:Int)(w:World):Calls Tryz.prog 142 #[.int .i64 n] w (Jk w (.bool (JR n))):=by
 go_enter Tryz.func142,Tryz.ntmps142
 go_wp2
 all_goals go_ret
 all_goals refine .mk (JL (JlI ?_)) (by go_grown)
 all_goals simp
 all_goals omega
theorem Jjm (v:Int)(n:Nat)(h0:0≤v)(h1:v<256^n)(hn1:1≤n)(hn:n≤8)(w:World):
 Calls Tryz.prog 176 #[.int .u64 v] w (fun e w'=>∃k:Int,e=.returned (.int .i64 k)∧1≤k∧k≤n∧Below w.heap.size w w'):=by
 go_enter Tryz.func176,Tryz.ntmps176
 go_wp2_with fail
 have hv:v/256<256^(n-1):=by
  obtain⟨m,rfl⟩:∃m,n=m+1:=⟨n-1,by omega⟩
  rw[Int.pow_succ] at h1
  simp only[Nat.add_sub_cancel]
  generalize (256:Int)^m=p at*
  omega
 have HV:=Jnv hv
 clear hv h1
 go_loopw [0,3] (fun u0 u3 wr=>∃(x k:Int) (m:Nat),u0=.int .u64 x∧u3=.int .i64 k∧0≤x∧Hid (x<256^m)∧1≤k∧k+m=n∧Below w.heap.size w wr) (fun u0 _ _=>(intOf u0).toNat)
 case atStart=>exact⟨v/256,1,n-1,rfl,rfl,by omega,HV,by omega,by omega,Jny _ _⟩
 case round=>
  obtain⟨x,k,m,rfl,rfl,hx,HX,hk,hkm,hb⟩:=hrel
  by_cases hx0:0<x
  ·obtain⟨m,rfl⟩:∃m',m=m'+1:=by
    refine⟨m-1,?_⟩
    have:=HX.out
    rcases Nat.eq_zero_or_pos m with e|e
    ·subst e;simp at this;omega
    ·omega
   have hx2:x/256<256^m:=by
    have:=HX.out
    rw[Int.pow_succ] at this
    generalize (256:Int)^m=p at*
    omega
   have HX2:=Jnv hx2
   clear hx2
   go_wp2_with fail
   go_roundw
   case rel=>exact⟨x/256,k+1,m,by go_num,by go_num,by omega,HX2,by omega,by omega,hb⟩
   case measure=>simp[intOf];omega
  ·go_wp2_with fail
   go_ret
   exact⟨k,rfl,hk,by omega,hb⟩
theorem Zu (v:Int)(n:Nat)(h0:0≤v)(h1:v<256^n)(hn1:1≤n)(hn:n≤8)(w:World):
 Calls Tryz.prog 124 #[.int .u64 v,.int .i64 n] w (Jk w (.bool true)):=by
 have hr:JR n=true:=by simp[JR];omega
 go_enter Tryz.func124,Tryz.ntmps124
 go_wp2_with (go_at_call 142;refine Calls.later (Qt _ _) ?_;intro x;rw[hr])
 refine Jnx (Jjm v n h0 h1 hn1 hn _) ?_
 rintro e w' ⟨k,rfl,hk1,hk2,hb⟩
 go_wp2_with fail
 go_ret
 refine .mk (JL ?_) (x.below.trans (hb.mono x.below.size))
 first|(simp;done)|(simp;omega)
def be4 (v:Int):List Int:=[v/16777216%256,v/65536%256,v/256%256,v%256]
theorem infoU8:(Tryz.prog.info? 5).map (fun i=>(i.zero,i.size,i.bytes))=some (some (.int .u8 0),1,1):=by kernel_rfl
theorem JmL (w:World):(Instr.makeSlice 22 (.int .i64 1) (.int .i64 1)).run Tryz.prog w=.ok (.slice (some ⟨w.heap.size,0,none⟩) 1 1) (w.alloc (.cells #[.int .u8 0] 5)):=
 (run_make_row' 22 5 (.int .u8 0) 1 Tryz.underlying22 infoU8 rfl .i64 .i64 1 (by decide) (by decide) w).trans (by rw[show madeCells #[Value.int .u8 0] 1=#[.int .u8 0] from by kernel_rfl])
theorem JmM (w:World):(Instr.makeSlice 22 (.int .i64 4) (.int .i64 4)).run Tryz.prog w=.ok (.slice (some ⟨w.heap.size,0,none⟩) 4 4) (w.alloc (.cells #[.int .u8 0,.int .u8 0,.int .u8 0,.int .u8 0] 5)):=
 (run_make_row' 22 5 (.int .u8 0) 1 Tryz.underlying22 infoU8 rfl .i64 .i64 4 (by decide) (by decide) w).trans (by rw[show madeCells #[Value.int .u8 0] 4=#[.int .u8 0,.int .u8 0,.int .u8 0,.int .u8 0] from by kernel_rfl])
theorem Jjn (v:Int)(h0:0≤v)(h1:v<256)(w:World):Calls Tryz.prog 125 #[.int .u64 v,.int .i64 1] w (J9 w ([v])):=by
 have hm:=JmL
 go_enter Tryz.func125,Tryz.ntmps125
 go_wp2_with fail
 refine wp_loop_rounds 2 ?_
 rw[rounds_succ]
 go_wp2_with fail
 rw[rounds_succ]
 go_wp2_with fail
 go_ret
 refine⟨_,_,rfl,?_,?_⟩
 ·refine JI.made _ 1 1 5 _ (JnA _) (JnA 1) (JnA 1) (by decide) ?_
  simp[List.take]
  all_goals omega
 ·exact(Jny _ _).alloc (JnA _) _
theorem Jjo (v:Int)(h0:0≤v)(h1:v<4294967296)(w:World):Calls Tryz.prog 125 #[.int .u64 v,.int .i64 4] w (J9 w (be4 v)):=by
 have hm:=JmM
 go_enter Tryz.func125,Tryz.ntmps125
 go_wp2_with fail
 refine wp_loop_rounds 5 ?_
 rw[rounds_succ]
 go_wp2_with fail
 rw[rounds_succ]
 go_wp2_with fail
 rw[rounds_succ]
 go_wp2_with fail
 rw[rounds_succ]
 go_wp2_with fail
 rw[rounds_succ]
 go_wp2_with fail
 go_ret
 refine⟨_,_,rfl,?_,?_⟩
 ·refine JI.made _ 4 4 5 _ (JnA _) (JnA 4) (JnA 4) (by decide) ?_
  simp[be4]
  all_goals omega
 ·exact(Jny _ _).alloc (JnA _) _
end Go.Proofs.YtkgjbipfhhjlpaaGreatDoor.Bits
namespace Go.Proofs.YtkgjbipfhhjlpaaGreatDoor
section
open Bits
structure Ky where
 s:Bool
 S:Nat→Int
 t:Bool
 T:Nat→Int
 p:Int
 a:Int
 b:Int
structure Jl3 (k:Ky):Prop where
 S:U8 k.S
 T:U8 k.T
 p:0≤k.p∧k.p<256
 a:0≤k.a∧k.a<65536
 b:0≤k.b∧k.b<65536
def kyC (s:Bool)(S:Nat→Int)(t:Bool)(T:Nat→Int)(p a b:Int):Array Value:=(JnR s t p (.int .u16 a) (.int .u16 b) S T)
def kyV (k:Ky):Array Value:=kyC k.s k.S k.t k.T k.p k.a k.b
def kyZ:Ky:=⟨false,fun _=>0,false,fun _=>0,0,0,0⟩
def ZB (p a b:Int):Bool:=JW p||(a==0&&(JU p||b==0))
def JX (k:Ky):Bool:=JR k.s k.S&&(JR k.t k.T&&(k.s==k.t&&ZB k.p k.a k.b))
def Ja7 (k:Ky):List UInt8:=if JX k then Xa 32 [Lib.decDigits k.p.toNat,QR k.s k.S,Lib.decDigits k.a.toNat,QR k.t k.T,Lib.decDigits k.b.toNat] else []
structure Sp where
 k:Ky
 f:Int
 n:Int
structure Jha (s:Sp):Prop where
 k:Jl3 s.k
 f:0≤s.f∧s.f<256
 n:-9223372036854775808≤s.n∧s.n≤9223372036854775807
def spV (s:Sp):Array Value:=#[.bool s.k.s,.int .u8 (s.k.S 0),.int .u8 (s.k.S 1),.int .u8 (s.k.S 2),.int .u8 (s.k.S 3),.int .u8 (s.k.S 4),.int .u8 (s.k.S 5),.int .u8 (s.k.S 6),.int .u8 (s.k.S 7),.int .u8 (s.k.S 8),.int .u8 (s.k.S 9),.int .u8 (s.k.S 10),.int .u8 (s.k.S 11),.int .u8 (s.k.S 12),.int .u8 (s.k.S 13),.int .u8 (s.k.S 14),.int .u8 (s.k.S 15),.bool s.k.t,.int .u8 (s.k.T 0),.int .u8 (s.k.T 1),.int .u8 (s.k.T 2),.int .u8 (s.k.T 3),.int .u8 (s.k.T 4),.int .u8 (s.k.T 5),.int .u8 (s.k.T 6),.int .u8 (s.k.T 7),.int .u8 (s.k.T 8),.int .u8 (s.k.T 9),.int .u8 (s.k.T 10),.int .u8 (s.k.T 11),.int .u8 (s.k.T 12),.int .u8 (s.k.T 13),.int .u8 (s.k.T 14),.int .u8 (s.k.T 15),.int .u8 s.k.p,.int .u16 s.k.a,.int .u16 s.k.b,.int .u8 s.f,.int .i64 s.n]
def Qh (n:Nat):List Int:=List.replicate n 0
def Jb9 (s:Sp):Bool:=!(JX s.k)||((s.k.s&&JP s.k.p)||((s.f != 0&&s.k.p != 6)||decide (s.n<0)))
def Jx (s:Sp):List Int:=
 let d:=Qh s.n.toNat
 let src:=Ja s.k.s s.k.S
 let dst:=Ja s.k.t s.k.T
 if JW s.k.p then Jaf s.k.p s.k.a s.k.b s.f d src dst
 else if JU s.k.p then Jaf s.k.p (s.k.b/256) (s.k.b%256) 0 d src dst else d
def Jlg (s:Sp)(n:Nat):IpH:=⟨0,20+(n:Int),0,false,false,0,64,s.k.p,Ja false s.k.S,Ja false s.k.T,[]⟩
def Jmh (s:Sp)(n:Nat):List Int:=be4 1610612736++be2 (n:Int)++[s.k.p,64]++Ja true s.k.S++Ja true s.k.T
def Qv (s:Sp):List Int:=if s.k.s then Jmh s (Jx s).length else J8 (Jlg s (Jx s).length)
def Q1 (s:Sp):Int:=if Jb9 s then 2 else if 2048<s.n then 3 else if 2048<(Qv s++Jx s).length then 3 else 0
def spL (s:Sp):List Int:=if Q1 s=0 then Qv s++Jx s else []
open Go.RowKit
theorem Jih (a:Option Addr)(n c:Nat)(r:List Value):Jbw (.slice a n c::r)=Jbw r:=by rw[Jbw];rfl
theorem Jjp (f:Fn)(a b:Array Value)(r:List Value):Jbw (.func f a b::r)=Jbw r:=by rw[Jbw];rfl
attribute [go_sem] Jih Jjp
theorem JbC {w:World}{b off:Nat}{v0 v1 v2 v3:Value}(h0:w.cell? ⟨b,off,none⟩=some v0)(h1:w.cell? ⟨b,off+1,none⟩=some v1)(h2:w.cell? ⟨b,off+2,none⟩=some v2)(h3:w.cell? ⟨b,off+3,none⟩=some v3):Jc w b off 4=#[v0,v1,v2,v3]:=by
 unfold World.cell? at h0 h1 h2 h3
 unfold Jc
 cases hh:w.heap[b]? with
 |none=>rw[hh] at h0;simp at h0
 |some ob=>
  rw[hh] at h0 h1 h2 h3
  cases ob with
  |cells cs t fr=>
   simp only at h0 h1 h2 h3⊢
   have g0:cs[off]? =some v0:=by simpa using h0
   have g1:cs[off+1]? =some v1:=by simpa using h1
   have g2:cs[off+2]? =some v2:=by simpa using h2
   have g3:cs[off+3]? =some v3:=by simpa using h3
   have hs:off+3<cs.size:=(Jnw g3).1
   apply Array.ext_getElem?
   intro j
   rw[Array.getElem?_extract]
   rcases j with _|_|_|_|j
   ·simp[g0];omega
   ·simp[g1];omega
   ·simp[g2];omega
   ·simp[g3];omega
   ·simp;omega
  |_=>simp at h0
theorem JeV (ev:Operand→Value)(w:World)(dst:Option Tmp)(t:TypeId)(pos:String)(after:Array Edge)(g:Option (Nat×Bool))(x:Operand):(execOp ev ⟨dst,.load 111 x,t,pos,after,g⟩).run Tryz.prog w=Q5 Tryz.prog 111 w (ev x):=QU _ ev w dst t pos after g x _
theorem Jgd (w:World)(b off:Nat)(hs:(Jc w b off 4).size=4):Q5 Tryz.prog 111 w (.pointer (some ⟨b,off,none⟩))=.ok (.value (.agg (Jc w b off 4))) w:=
 J3 _ w none 0 "" #[] none _ _ 4 _ Tryz.underlying111 rfl (by kernel_rfl) (by decide) hs
theorem JeW (ev:Operand→Value)(w:World)(dst:Option Tmp)(t:TypeId)(pos:String)(after:Array Edge)(g:Option (Nat×Bool))(x:Operand):(execOp ev ⟨dst,.load 113 x,t,pos,after,g⟩).run Tryz.prog w=Q5 Tryz.prog 113 w (ev x):=QU _ ev w dst t pos after g x _
theorem Jcv (w:World)(b off:Nat)(hs:(Jc w b off 17).size=17):Q5 Tryz.prog 113 w (.pointer (some ⟨b,off,none⟩))=.ok (.value (.agg (Jc w b off 17))) w:=
 J3 _ w none 0 "" #[] none _ _ 17 _ Tryz.underlying113 rfl (by kernel_rfl) (by decide) hs
theorem JdU (ev:Operand→Value)(w:World)(dst:Option Tmp)(t:TypeId)(pos:String)(after:Array Edge)(g:Option (Nat×Bool))(x y:Operand):(execOp ev ⟨dst,.store 113 x y,t,pos,after,g⟩).run Tryz.prog w=ZF Tryz.prog 113 w (ev x) (ev y):=QZ _ ev w dst t pos after g x y _
theorem JeX (w:World)(b:Nat)(cs:Array Value)(hx:Jl w b 17=true)(hs:cs.size=17)(h1:Jbw cs.toList=true):ZF Tryz.prog 113 w (.pointer (some ⟨b,0,none⟩)) (.agg cs)=.ok .skip (w.setRow b cs):=
 Qd _ w none 0 "" #[] none _ _ _ 17 (by kernel_rfl) hx (by show JcH _ (.agg cs)=true;rw[Q8,←Array.all_toList,XQ _ h1,hs];simp)
theorem JeY:(Tryz.prog.info? 113).map (·.size)=some 17:=by kernel_rfl
theorem JbD (ev:Operand→Value)(w:World)(dst:Option Tmp)(t:TypeId)(pos:String)(after:Array Edge)(g:Option (Nat×Bool))(x:Operand):(execOp ev ⟨dst,.load 118 x,t,pos,after,g⟩).run Tryz.prog w=Q5 Tryz.prog 118 w (ev x):=QU _ ev w dst t pos after g x _
theorem Jcw (w:World)(b off:Nat)(hs:(Jc w b off 37).size=37):Q5 Tryz.prog 118 w (.pointer (some ⟨b,off,none⟩))=.ok (.value (.agg (Jc w b off 37))) w:=
 J3 _ w none 0 "" #[] none _ _ 37 _ Tryz.underlying118 rfl (by kernel_rfl) (by decide) hs
theorem Ja8 (ev:Operand→Value)(w:World)(dst:Option Tmp)(t:TypeId)(pos:String)(after:Array Edge)(g:Option (Nat×Bool))(x y:Operand):(execOp ev ⟨dst,.store 118 x y,t,pos,after,g⟩).run Tryz.prog w=ZF Tryz.prog 118 w (ev x) (ev y):=QZ _ ev w dst t pos after g x y _
theorem JbE (w:World)(b:Nat)(cs:Array Value)(hx:Jl w b 37=true)(hs:cs.size=37)(h1:Jbw cs.toList=true):ZF Tryz.prog 118 w (.pointer (some ⟨b,0,none⟩)) (.agg cs)=.ok .skip (w.setRow b cs):=
 Qd _ w none 0 "" #[] none _ _ _ 37 (by kernel_rfl) hx (by show JcH _ (.agg cs)=true;rw[Q8,←Array.all_toList,XQ _ h1,hs];simp)
theorem JhJ:(Tryz.prog.info? 118).map (·.size)=some 37:=by kernel_rfl
theorem JbF (ev:Operand→Value)(w:World)(dst:Option Tmp)(t:TypeId)(pos:String)(after:Array Edge)(g:Option (Nat×Bool))(x:Operand):(execOp ev ⟨dst,.load 149 x,t,pos,after,g⟩).run Tryz.prog w=Q5 Tryz.prog 149 w (ev x):=QU _ ev w dst t pos after g x _
theorem QV (w:World)(b off:Nat)(hs:(Jc w b off 12).size=12):Q5 Tryz.prog 149 w (.pointer (some ⟨b,off,none⟩))=.ok (.value (.agg (Jc w b off 12))) w:=
 J3 _ w none 0 "" #[] none _ _ 12 _ Tryz.underlying149 rfl (by kernel_rfl) (by decide) hs
theorem Ja9 (ev:Operand→Value)(w:World)(dst:Option Tmp)(t:TypeId)(pos:String)(after:Array Edge)(g:Option (Nat×Bool))(x y:Operand):(execOp ev ⟨dst,.store 149 x y,t,pos,after,g⟩).run Tryz.prog w=ZF Tryz.prog 149 w (ev x) (ev y):=QZ _ ev w dst t pos after g x y _
theorem JbG (w:World)(b:Nat)(cs:Array Value)(hx:Jl w b 12=true)(hs:cs.size=12)(h1:Jbw cs.toList=true):ZF Tryz.prog 149 w (.pointer (some ⟨b,0,none⟩)) (.agg cs)=.ok .skip (w.setRow b cs):=
 Qd _ w none 0 "" #[] none _ _ _ 12 (by kernel_rfl) hx (by show JcH _ (.agg cs)=true;rw[Q8,←Array.all_toList,XQ _ h1,hs];simp)
theorem JhK:(Tryz.prog.info? 149).map (·.size)=some 12:=by kernel_rfl
theorem JeZ (ev:Operand→Value)(w:World)(dst:Option Tmp)(t:TypeId)(pos:String)(after:Array Edge)(g:Option (Nat×Bool))(x:Operand):(execOp ev ⟨dst,.load 30 x,t,pos,after,g⟩).run Tryz.prog w=Q5 Tryz.prog 30 w (ev x):=QU _ ev w dst t pos after g x _
theorem Jge (w:World)(b off:Nat)(hs:(Jc w b off 37).size=37):Q5 Tryz.prog 30 w (.pointer (some ⟨b,off,none⟩))=.ok (.value (.agg (Jc w b off 37))) w:=
 J3 _ w none 0 "" #[] none _ _ 37 _ Tryz.underlying30 rfl (by kernel_rfl) (by decide) hs
theorem JdV (ev:Operand→Value)(w:World)(dst:Option Tmp)(t:TypeId)(pos:String)(after:Array Edge)(g:Option (Nat×Bool))(x y:Operand):(execOp ev ⟨dst,.store 30 x y,t,pos,after,g⟩).run Tryz.prog w=ZF Tryz.prog 30 w (ev x) (ev y):=QZ _ ev w dst t pos after g x y _
theorem Je0 (w:World)(b:Nat)(cs:Array Value)(hx:Jl w b 37=true)(hs:cs.size=37)(h1:Jbw cs.toList=true):ZF Tryz.prog 30 w (.pointer (some ⟨b,0,none⟩)) (.agg cs)=.ok .skip (w.setRow b cs):=
 Qd _ w none 0 "" #[] none _ _ _ 37 (by kernel_rfl) hx (by show JcH _ (.agg cs)=true;rw[Q8,←Array.all_toList,XQ _ h1,hs];simp)
theorem Jky:(Tryz.prog.info? 30).map (·.size)=some 37:=by kernel_rfl
theorem Je1 (ev:Operand→Value)(w:World)(dst:Option Tmp)(t:TypeId)(pos:String)(after:Array Edge)(g:Option (Nat×Bool))(x:Operand):(execOp ev ⟨dst,.load 32 x,t,pos,after,g⟩).run Tryz.prog w=Q5 Tryz.prog 32 w (ev x):=QU _ ev w dst t pos after g x _
theorem Jgf (w:World)(b off:Nat)(hs:(Jc w b off 40).size=40):Q5 Tryz.prog 32 w (.pointer (some ⟨b,off,none⟩))=.ok (.value (.agg (Jc w b off 40))) w:=
 J3 _ w none 0 "" #[] none _ _ 40 _ Tryz.underlying32 rfl (by kernel_rfl) (by decide) hs
theorem JdW (ev:Operand→Value)(w:World)(dst:Option Tmp)(t:TypeId)(pos:String)(after:Array Edge)(g:Option (Nat×Bool))(x y:Operand):(execOp ev ⟨dst,.store 32 x y,t,pos,after,g⟩).run Tryz.prog w=ZF Tryz.prog 32 w (ev x) (ev y):=QZ _ ev w dst t pos after g x y _
theorem Je2 (w:World)(b:Nat)(cs:Array Value)(hx:Jl w b 40=true)(hs:cs.size=40)(h1:Jbw cs.toList=true):ZF Tryz.prog 32 w (.pointer (some ⟨b,0,none⟩)) (.agg cs)=.ok .skip (w.setRow b cs):=
 Qd _ w none 0 "" #[] none _ _ _ 40 (by kernel_rfl) hx (by show JcH _ (.agg cs)=true;rw[Q8,←Array.all_toList,XQ _ h1,hs];simp)
theorem Jkz:(Tryz.prog.info? 32).map (·.size)=some 40:=by kernel_rfl
theorem Je3 (ev:Operand→Value)(w:World)(dst:Option Tmp)(t:TypeId)(pos:String)(after:Array Edge)(g:Option (Nat×Bool))(x:Operand):(execOp ev ⟨dst,.load 47 x,t,pos,after,g⟩).run Tryz.prog w=Q5 Tryz.prog 47 w (ev x):=QU _ ev w dst t pos after g x _
theorem Jgg (w:World)(b off:Nat)(hs:(Jc w b off 39).size=39):Q5 Tryz.prog 47 w (.pointer (some ⟨b,off,none⟩))=.ok (.value (.agg (Jc w b off 39))) w:=
 J3 _ w none 0 "" #[] none _ _ 39 _ Tryz.underlying47 rfl (by kernel_rfl) (by decide) hs
theorem JdX (ev:Operand→Value)(w:World)(dst:Option Tmp)(t:TypeId)(pos:String)(after:Array Edge)(g:Option (Nat×Bool))(x y:Operand):(execOp ev ⟨dst,.store 85 x y,t,pos,after,g⟩).run Tryz.prog w=ZF Tryz.prog 85 w (ev x) (ev y):=QZ _ ev w dst t pos after g x y _
theorem Je4 (w:World)(b:Nat)(cs:Array Value)(hx:Jl w b 42=true)(hs:cs.size=42)(h1:Jbw cs.toList=true):ZF Tryz.prog 85 w (.pointer (some ⟨b,0,none⟩)) (.agg cs)=.ok .skip (w.setRow b cs):=
 Qd _ w none 0 "" #[] none _ _ _ 42 (by kernel_rfl) hx (by show JcH _ (.agg cs)=true;rw[Q8,←Array.all_toList,XQ _ h1,hs];simp)
theorem JhL:(Tryz.prog.info? 85).map (·.size)=some 42:=by kernel_rfl
attribute [go_sem ↓] JeV JeW JdU JbD Ja8 JbF Ja9 JeZ JdV Je1 JdW Je3 JdX
attribute [go_sem] Jgd Jcv JeX Jcw JbE QV JbG Jge Je0 Jgf Je2 Jgg Je4
end
section
open Go.RowKit
section
variable {P:Program} {ops:Array Oper} {md:Region.Mode}
def Zv (w:World):World→Prop:=fun w'=>∃x:JC w,w'=x.world
def Qw (P:Program)(ops:Array Oper)(w:World)(o:Oper)(v:Value)(a:Act):Prop:=∀w1,Below w.heap.size w w1→YieldsIn P ops (Zv w1) o v a
def QQ (g:Nat):Value:=.pointer (some ⟨g,0,none⟩)
structure Jgh (P:Program)(ops:Array Oper)(o:Oper)(ob:Obj):Prop where
 wanted:∀a:Act,Region.wanted o (yielded ops a.tmps)=true
 run:∀(a:Act) (w':World),(execOp a.eval o).run P w'=.ok (.value (QQ w'.heap.size)) (w'.alloc ob)
theorem Qw.of_put {w:World}{oi oj:Oper}{v u:Value}{a:Act}(hsi:∀cs b,oi.op≠ .select cs b)(h:Qw P ops w oi v a)(hap:∀d,oj.dst=some d→d∉oi.looksAt ops):Qw P ops w oi v (a.put oj.dst u):=
 fun w1 hb=>(h w1 hb).of_same (execOp_put oi hsi a oj.dst u hap) (wanted_put oi a oj.dst u hap)
theorem Qw.of_unput {w:World}{oi oj:Oper}{v u:Value}{a:Act}(hsi:∀cs b,oi.op≠ .select cs b)(h:Qw P ops w oi v (a.put oj.dst u))(hap:∀d,oj.dst=some d→d∉oi.looksAt ops):Qw P ops w oi v a:=
 fun w1 hb=>(h w1 hb).of_same (execOp_put oi hsi a oj.dst u hap).symm (wanted_put oi a oj.dst u hap).symm
def ZX (md:Region.Mode)(ops:Array Oper):Nat→Nat→Array Bool→Bool
 |0,_,_=>true
 |f+1,k,listed=>(Region.ready md ops listed).contains k&&Region.free md ops listed k&&ZX md ops f (k+1) (listed.setIfInBounds k true)
def Zw:Nat→Nat→Array Bool→Array Bool
 |0,_,listed=>listed
 |f+1,k,listed=>Zw f (k+1) (listed.setIfInBounds k true)
def Jjq (P:Program)(ops:Array Oper)(w:World)(Lq:Act→Prop):List Oper→Act→Prop
 |[],a=>Lq a
 |o::rest,a=>∃v,Qw P ops w o v a∧Jjq P ops w Lq rest (a.put o.dst v)
theorem Q2 {C:World→Prop}{Q:Act→Prop}{o:Oper}{rest:List Oper}{a:Act}(h:wpQuiet P ops C Q (o::rest) a):∃v,YieldsIn P ops C o v a∧wpQuiet P ops C Q rest (a.put o.dst v):=by
 rw[wpQuiet] at h
 by_cases hw:Region.wanted o (yielded ops a.tmps)=true
 ·simp only[hw,if_true] at h
  obtain⟨v,h1,h2⟩:=h
  exact⟨v,.inl ⟨hw,h1⟩,h2⟩
 ·simp only[hw] at h
  exact⟨undef,.inr ⟨by simpa using hw,rfl⟩,h⟩
def Ja3 (n:Nat):List Oper→Bool
 |[]=>true
 |o::l=>(match o.dst with|some d=>decide (d<n)&&l.all fun p=>p.dst != some d|none=>false)&&Ja3 n l
theorem Je5 (a:Act)(d:Option Tmp)(v:Value):(a.put d v).tmps.size=a.tmps.size:=by
 cases d<;>simp[Act.put]
theorem ZY {C:World→Prop}{aF:Act}{d:Tmp}:∀(l:List Oper) (a:Act),(∀o∈l,o.dst≠some d)→wpQuiet P ops C (fun a'=>a'=aF) l a→aF.tmps[d]? =a.tmps[d]?
 |[],a,_,h=>by have h:a=aF:=h;rw[h]
 |o::l,a,hd,h=>by
  obtain⟨v,-,h2⟩:=Q2 h
  rw[ZY l _ (fun p hp=>hd p (by simp[hp])) h2]
  have:=hd o (by simp)
  cases ho:o.dst with
  |none=>rfl
  |some e=>
   rw[ho] at this
   have hne:e≠d:=fun h=>this (by rw[h])
   simp[Act.put,Array.getElem?_setIfInBounds,hne]
theorem Jgi {w:World}{aF:Act}:∀(l:List Oper) (a:Act),Ja3 a.tmps.size l=true→(∀w1,Below w.heap.size w w1→wpQuiet P ops (Zv w1) (fun a'=>a'=aF) l a)→Jjq P ops w (fun a'=>a'=aF) l a
 |[],a,_,h=>h w (Jny _ _)
 |o::l,a,hd,h=>by
  rw[Ja3,Bool.and_eq_true] at hd
  obtain⟨hd1,hd2⟩:=hd
  cases ho:o.dst with
  |none=>rw[ho] at hd1;cases hd1
  |some d=>
   rw[ho] at hd1
   simp only[Bool.and_eq_true,decide_eq_true_eq,List.all_eq_true] at hd1
   have hne:∀p∈l,p.dst≠some d:=fun p hp e=>by have:=hd1.2 p hp;rw[e] at this;simp at this
   have val:∀{C:World→Prop} {v:Value},wpQuiet P ops C (fun a'=>a'=aF) l (a.put o.dst v)→aF.tmps[d]? =some v:=fun {C v} h=>by
    rw[ZY l _ hne h,ho]
    simp[Act.put,Array.getElem?_setIfInBounds,hd1.1]
   obtain⟨v,-,hv⟩:=Q2 (h w (Jny _ _))
   have e:=val hv
   have H:∀w1,Below w.heap.size w w1→YieldsIn P ops (Zv w1) o v a∧wpQuiet P ops (Zv w1) (fun a'=>a'=aF) l (a.put o.dst v):=fun w1 hb=>by
    obtain⟨u,h1,h2⟩:=Q2 (h w1 hb)
    have:=val h2
    rw[e] at this
    obtain rfl:v=u:=Option.some.inj this
    exact⟨h1,h2⟩
   exact⟨v,fun w1 hb=>(H w1 hb).1,Jgi l _ (by rw[Je5];exact hd2) fun w1 hb=>(H w1 hb).2⟩
end
end
end Go.Proofs.YtkgjbipfhhjlpaaGreatDoor
