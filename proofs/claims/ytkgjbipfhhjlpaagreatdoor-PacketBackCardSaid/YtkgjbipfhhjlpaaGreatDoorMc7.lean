import Derived.Test.YtkgjbipfhhjlpaaGreatDoorMc6
import Derived.Test.YtkgjbipfhhjlpaaGreatDoorMc4
set_option linter.unusedVariables false
set_option linter.unusedSimpArgs false
set_option maxRecDepth 100000
set_option maxHeartbeats 32000000
namespace Go.Proofs.YtkgjbipfhhjlpaaGreatDoor
section
open Go.RowKit
def Jm5 (w:World)(o:Option (List Nat)):Ending→World→Prop:=fun e w'=>Below w.heap.size w w'∧
 ((∃l,o=some l∧e=.returned (.tuple #[adV true (JeZ l),true]))∨(o=none∧e=.returned (.tuple #[adV false fun _=>0,false])))
section
variable {P:Program}
theorem JbZ (w:World){ops:Array Oper}{rest:List Oper}{o:Oper}{a:Act}{Q:Exit→Act→World→Prop}
 (hg:o.guard=none)(s x:Operand)(t:TypeId)(hop:o.op=Op.call { callee:=Callee.builtin Builtin.append,args:=#[s,x],argTypes:=#[t,t] })
 (e:TypeId)(z:Value)(bytes base base2:Nat)(ht:P.underlying t=some (.slice e))(hinfo:(P.info? e).map (fun i=>(i.zero,i.size,i.bytes))=some (some z,1,bytes))(hzs:z.cells.size=1)
 (oa:Option Addr)(n cap:Nat)(xs:List Value)(hs:a.eval s=.slice oa n cap)(hown:JQ w base 1 oa n cap xs)
 (A:Option Addr)(m c:Nat)(ys:List Value)(hx:a.eval x=.slice A m c)(hsrc:JQ w base2 1 A m c ys)(h1:∀u∈ys,u.oneCell'=true)
 (h63:n+m≤maxLen)(hbytes:(n+m)*bytes≤140737488355328)(hbase:base≤w.heap.size)
 (h:∀oa' cap' w',JQ w' base 1 oa' (n+m) cap' (xs++ys)→w.grownBy w' (oa.map Addr.block)→(∀a,oa'=some a→oa=some a∨w.heap.size≤a.block)→wpList P ops Q rest (a.put o.dst (.slice oa' (n+m) cap')) w'):
 wpList P ops Q (o::rest) a w:=by
 rcases Nat.eq_zero_or_pos m with h0|h0
 ·subst h0
  have hy:ys=[]:=List.eq_nil_of_length_eq_zero (by simpa using hsrc.len)
  subst hy
  obtain⟨i,hi,-,h4,-⟩:=info_parts hinfo
  have hr:=Jas (P:=P) w t o.type e 1 ht (by rw[hi,←h4];rfl) oa n cap hown.le A c
  exact Lib.wpList_append_run w hg s x t t hop _ _ hs hx _ _ hr (h oa cap w (by simpa using hown) (JoI w _) fun a ha=>.inl ha)
 ·obtain⟨g,off,rfl,-,-,hc,-⟩:=hsrc.here h0
  exact Qa w hg s x t hop e z 1 bytes base ht hinfo hzs (by omega) oa n cap xs hs hown ⟨g,off,none⟩ m c ys hx hsrc.len (fun j u hu=>by rw[Addr.add_lit];exact hc j u hu) h1 h0 h63 hbytes hbase h
end
theorem Jnx {w:World}{b:Nat}{t:TypeId}{k:Nat}{L:List Nat}(h:J6 w b t true (fun j=>if j<2*k then JeZ L j else 0))(hk:k<8){u v:Int}(hu:u=JeZ L (2*k))(hv:v=JeZ L (2*k+1)):
 J6 ((w.setCell ⟨b,1+2*k,none⟩ (.int .u8 u)).setCell ⟨b,1+(2*k+1),none⟩ (.int .u8 v)) b t true (fun j=>if j<2*(k+1) then JeZ L j else 0):=
 ((h.set (2*k) (by omega) u).set (2*k+1) (by omega) v).congr fun i _=>by
   by_cases e:i=2*k+1
   ·subst e;simp only[if_true,if_pos (show 2*k+1<2*(k+1) by omega),hv]
   ·by_cases e2:i=2*k
    ·subst e2;simp only[if_neg e,if_true,if_pos (show 2*k<2*(k+1) by omega),hu]
    ·simp only[if_neg e,if_neg e2]
     by_cases h:i<2*k
     ·rw[if_pos h,if_pos (show i<2*(k+1) by omega)]
     ·rw[if_neg h,if_neg (show¬i<2*(k+1) by omega)]
theorem Jm6 (s:ByteArray)(w:World)(hs:s.size≤1000)(henv:Env w):Calls Tryz.prog 121 #[.string s] w (Jm5 w (Jft s.data.toList)):=by
 have HE:=JoL henv
 obtain⟨m,hm⟩:=henv.len
 have HS6:=JoL (JiL s.data.toList)
 have hls:s.data.toList.length=s.size:=by rw[Array.length_toList,ByteArray.size_data]
 have hcl:=Jm0 s.data.toList [58,58]
 have HC:=JoL (fun(w:World) h=>Tryz.strings_Cut s ⟨#[58,58]⟩ m w (by omega) h)
 have HB0:Hid (Below w.heap.size w (w.alloc (.cells (Jpn false) 27))):=JoL (Below.all (JoO _ _) _)
 have HM:=JoL hm
 rw[show(⟨#[58,58]⟩:ByteArray).data.toList=[58,58] from rfl] at HC
 clear henv hm
 generalize Lib.cut s.data.toList [58,58]=C at*
 obtain⟨H,T,short⟩:=C
 obtain⟨hH,hT⟩:=hcl
 simp only at hH hT HC
 go_enter Tryz.func121,Tryz.ntmps121
 go_wp2_with fail
 have hd0:∀(v:World) (n:Nat),Below v.heap.size v (v.drewN n):=fun v n=>⟨rfl,rfl,rfl,JoQ _,fun _ _=>rfl⟩
 refine JoN (HC.out _ ((HB0.out.cell (World.block_lt_of_cell? w _ HM.out)).trans HM.out)) ?_
 rintro e w1 ⟨rfl,nd,rfl⟩
 have HX1:=JoL ((J6.made0 w 27 false).below (hd0 _ nd))
 have HB1:=JoL (JoE HB0.out (hd0 _ nd))
 have hW1:w.heap.size<((w.alloc (.cells (Jpn false) 27)).drewN nd).heap.size:=by simp[World.drewN]
 clear hd0 HB0 HC HM
 generalize World.drewN _ nd=w1 at*
 have HE1:=JoL (HE.out.below HB1.out)
 have HR1:Hid (∀w,Env w→Calls Tryz.prog 174 #[.string ⟨H.toArray⟩] w (JhY w (J9 H))):=JoL fun w h=>Jkw ⟨H.toArray⟩ w (by simp[ByteArray.size];omega) h
 have HR2:Hid (∀w,Env w→Calls Tryz.prog 174 #[.string ⟨T.toArray⟩] w (JhY w (J9 T))):=JoL fun w h=>Jkw ⟨T.toArray⟩ w (by simp[ByteArray.size];omega) h
 have HS6':Hid (Jft s.data.toList=(J9 H).bind fun l=>(J9 T).bind fun m=>if (short=true∧l.length+m.length≤7)∨(short=false∧l.length+m.length=8) then some (l++List.replicate (8-l.length-m.length) 0++m) else none):=HS6
 clear HS6 hls hH hT hs
 go_wp2_with fail
 refine JoN (HR1.out _ HE1.out) ?_
 rintro e w2 ⟨oa1,cap1,G1,ok1,rfl,hO1,hb2,hl1,hc1⟩
 have HO1:=JoL hO1
 have HE2:=JoL (HE1.out.below hb2)
 have HX2:=JoL (HX1.out.below hb2)
 have HB2:=JoL (JoE HB1.out hb2)
 have HC1:=JoL hc1
 have HO1l2:=JoL (fun a (ha:oa1=some a)=>hO1.lt ha)
 have hW2:w1.heap.size≤w2.heap.size:=hb2.size
 clear hO1 hb2 hc1 HX1 HB1 HE1 HR1
 generalize hn1:G1.length=n1 at*
 have HN1:=JoL hn1
 clear hn1
 go_wp2_with fail
 refine JoN (HR2.out _ HE2.out) ?_
 rintro e w3 ⟨oa2,cap2,G2,ok2,rfl,hO2,hb3,hl2,hc2⟩
 have HO1:=JoL (HO1.out.below hb3)
 have HO2:=JoL hO2
 have HX3:=JoL (HX2.out.below hb3)
 have HB3:=JoL (JoE HB2.out hb3)
 have HC2:=JoL hc2
 have HO1lt:=JoL (fun a (ha:oa1=some a)=>HO1.out.lt ha)
 have hW3:w2.heap.size≤w3.heap.size:=hb3.size
 have hpp:=HX3.out.part
 have hrr:=HX3.out.row
 have HH:=JoL HX3.out.heap
 clear hO2 hb3 hc2 HX2 HB2 HE2 HR2
 generalize hn2:G2.length=n2 at*
 have HN2:=JoL hn2
 clear hn2
 cases ok1
 ·have HF:Hid (Jft s.data.toList=none):=JoL (by
   rcases HC1.out with ⟨h,-⟩|⟨-,h⟩
   ·cases h
   ·rw[HS6'.out,h];rfl)
  go_wp2_with fail
  refine bodyPost_ret (v:=.tuple #[adV false fun _=>0,false]) ?_ ?_ ?_
  ·exact Qd _ _ Tryz.underlying27 Zm rfl _ _ w.heap.size (.bool false) rfl rfl (Q3 HH.out)
  ·rfl
  ·exact⟨below_setRow HB3.out (JoQ _) _,.inr ⟨HF.out,rfl⟩⟩
 cases ok2
 ·have HF:Hid (Jft s.data.toList=none):=JoL (by
   rcases HC2.out with ⟨h,-⟩|⟨-,h⟩
   ·cases h
   ·rw[HS6'.out,h];cases J9 H<;>rfl)
  go_wp2_with fail
  refine bodyPost_ret (v:=.tuple #[adV false fun _=>0,false]) ?_ ?_ ?_
  ·exact Qd _ _ Tryz.underlying27 Zm rfl _ _ w.heap.size (.bool false) rfl rfl (Q3 HH.out)
  ·rfl
  ·exact⟨below_setRow HB3.out (JoQ _) _,.inr ⟨HF.out,rfl⟩⟩
 have HG1:Hid (J9 H=some G1):=JoL (by rcases HC1.out with ⟨-,h⟩|⟨h,-⟩;exact h;cases h)
 have HG2:Hid (J9 T=some G2):=JoL (by rcases HC2.out with ⟨-,h⟩|⟨h,-⟩;exact h;cases h)
 have HS7:Hid (Jft s.data.toList=if (short=true∧n1+n2≤7)∨(short=false∧n1+n2=8) then some (G1++List.replicate (8-n1-n2) 0++G2) else none):=JoL (by rw[HS6'.out,HG1.out,HG2.out,←HN1.out,←HN2.out];rfl)
 clear HS6' HC1 HC2
 by_cases hok:(short=true∧n1+n2≤7)∨(short=false∧n1+n2=8)
 ·have HF:Hid (Jft s.data.toList=some (G1++List.replicate (8-n1-n2) 0++G2)):=JoL (by rw[HS7.out,if_pos hok])
  obtain⟨mi,hmi⟩:∃mi:Nat,(8:Int)-n1-n2=mi:=⟨8-n1-n2,by omega⟩
  have hsm:(short=true∧1≤mi)∨(short=false∧mi=0):=by rcases hok with ⟨h1,h2⟩|⟨h1,h2⟩<;>simp only[h1,true_and,false_and,Bool.false_eq_true]<;>omega
  have h8:n1+mi+n2=8:=by omega
  have hm8:mi≤8:=by omega
  rw[show 8-n1-n2=mi by omega] at HF
  clear hok HS7
  cases short
  all_goals
   first
    |(have hmz:mi=0:=by simpa using hsm)
    |(have hmz:1≤mi:=by simpa using hsm)
   clear hsm
   go_wp2_with (at_builtin;refine JC.of ?_)
   have HMZ:=JoL hmz
   clear hmz
   refine JC.mk ?_
   refine Zn _ rfl _ _ 252 3 rfl 124 (.int .u64 0) 8 w1.heap.size .i64 Tryz.underlying252 Tryz.underlying3 Jbd rfl rfl oa1 n1 cap1 _ rfl (HO1.out.alloc _) mi ?_ (by omega) (by unfold maxLen;omega) (by omega) (by simp only[World.size_alloc];omega) ?_
   ·first
     |rfl
     |(show Value.int .i64 0=.int .i64 (mi:Int);rw[HMZ.out];rfl)
   intro oa' cap' w5 hO5 hg5 hd5
   have hlt1:=HX3.out.lt
   have hne:∀b,(b<w1.heap.size∨w3.heap.size≤b)→some b≠oa1.map Addr.block:=fun b hb e=>by
    obtain⟨a,ha,hab⟩:=Option.map_eq_some_iff.1 e.symm
    have:=HO1lt.out a ha;omega
   have HX5:=JoL ((HX3.out.alloc (.cells (Jpn true) 27)).keep (hg5.block _ (by simp;omega) (hne _ (.inl hW1))))
   have HY5:=JoL ((J6.made0 w3 27 true).keep (hg5.block _ (by simp) (hne _ (.inr (JoQ _)))))
   have HB5:=JoL (Below.grown (Below.all HB3.out _) hg5 (by simp;omega) (fun k hk=>by
    obtain⟨a,ha,hab⟩:=Option.map_eq_some_iff.1 hk
    have:=HO1lt.out a ha;omega))
   have HO25:=JoL ((HO2.out.alloc _).grown hg5 (fun a ha e=>by
    obtain⟨a',ha',hab⟩:=Option.map_eq_some_iff.1 e.symm
    have h1:=HO1l2.out a' ha'
    have h2:=HO2.out.lt ha
    omega))
   have hsz5:w3.heap.size+1≤w5.heap.size:=by have:=hg5.size;simpa using this
   have HD5:Hid (∀a,oa'=some a→w1.heap.size≤a.block∧a.block≠w3.heap.size∧a.block<w5.heap.size):=JoL fun a ha=>by
    have h1:=hO5.lt ha
    rcases hd5 a ha with h|h
    ·have:=HO1lt.out a h;omega
    ·simp only[World.size_alloc] at h;omega
   have HO5:=JoL hO5
   clear hne hg5 hd5 hO5 hpp hrr HH HO1 HO2
   go_wp2_with (at_builtin;refine JC.of ?_)
   refine JC.mk ?_
   refine JbZ _ rfl _ _ 252 rfl 124 (.int .u64 0) 8 w1.heap.size w2.heap.size Tryz.underlying252 Jbd rfl oa' (n1+mi) cap' _ rfl HO5.out oa2 n2 cap2 _ rfl HO25.out ?_ (by unfold maxLen;omega) (by omega) (by omega) ?_
   ·intro u hu
    obtain⟨i,-,rfl⟩:=List.mem_map.1 hu
    rfl
   intro oa'' cap'' w6 hO6 hg6 hd6
   have hne:∀b,(b<w1.heap.size∨b=w3.heap.size)→some b≠oa'.map Addr.block:=fun b hb e=>by
    obtain⟨a,ha,hab⟩:=Option.map_eq_some_iff.1 e.symm
    have:=HD5.out a ha;omega
   have HX6:=JoL (HX5.out.keep (hg6.block _ (by omega) (hne _ (.inl hW1))))
   have HY6:=JoL (HY5.out.keep (hg6.block _ (by omega) (hne _ (.inr rfl))))
   have HB6:=JoL (Below.grown HB5.out hg6 (by omega) (fun k hk=>by
    obtain⟨a,ha,hab⟩:=Option.map_eq_some_iff.1 hk
    have:=HD5.out a ha;omega))
   have HD6:Hid (∀a,oa''=some a→w1.heap.size≤a.block∧a.block≠w3.heap.size):=JoL fun a ha=>by
    have h1:=hO6.lt ha
    rcases hd6 a ha with h|h
    ·have:=HD5.out a h;omega
    ·omega
   rw[h8] at hO6⊢
   have hmap:List.map (fun(m:Nat)=>Value.int .u64 (m:Int)) G1++List.replicate mi (.int .u64 0)++List.map (fun(m:Nat)=>Value.int .u64 (m:Int)) G2=(G1++List.replicate mi 0++G2).map fun(m:Nat)=>Value.int .u64 (m:Int):=by simp
   rw[hmap] at hO6
   have HO6:=JoL hO6
   have HLB:=JoL (Jky HF.out)
   clear hmap hne hg6 hd6 hO6 HX5 HY5 HB5 HO25 HO5 HD5 HX3 HB3 HO1l2 HO1lt HMZ HG1 HG2 HN1 HN2 hmi hl1 hl2 hm8
   generalize G1++List.replicate mi 0++G2=L at*
   generalize w3.heap.size=b3 at*
   go_wp2_with fail
   have HLG:Hid (∀k (h:k<L.length),L[k]<65536):=JoL fun k h=>HLB.out.2 _ (List.getElem_mem h)
   have HL8:=JoL HLB.out.1
   clear HLB
   go_loopw [66] (fun u66 wr=>∃k:Nat,k≤8∧u66=.int .i64 k∧Hid (J6 wr w.heap.size 27 false fun _=>0)∧Hid (J6 wr b3 27 true (fun j=>if j<2*k then JeZ L j else 0))∧Hid (JQ wr w1.heap.size 1 oa'' 8 cap'' (L.map fun(m:Nat)=>Value.int .u64 (m:Int)))∧Hid (Below w.heap.size w wr)) (fun u66 _=>(8:Int)-intOf u66 |>.toNat)
   case atStart=>exact⟨0,by omega,rfl,HX6,JoL (HY6.out.congr fun i _=>by simp),HO6,HB6⟩
   case round=>
    obtain⟨k,hk,rfl,HX,HY,HO,HW⟩:=hrel
    by_cases hlt:k<8
    ·have hkL:k<L.length:=by rw[HL8.out];exact hlt
     obtain⟨g,off,hop,hbg,hg,hc,ht⟩:=HO.out.here (by omega)
     have hgb:=(HD6.out _ hop).2
     subst hop
     have hcl:=hc k (.int .u64 (L[k]:Nat)) (by simp[hkL])
     have hnb:=HLG.out k hkL
     have HSX:Hid (((L[k]/256:Nat):Int)=JeZ L (2*k)∧((L[k]%256:Nat):Int)=JeZ L (2*k+1)):=JoL (by
      unfold JeZ
      rw[if_pos (by omega),if_neg (by omega),show 2*k/2=k by omega,show(2*k+1)/2=k by omega,List.getD_eq_getElem?_getD,List.getElem?_eq_getElem hkL]
      exact⟨rfl,rfl⟩)
     generalize L[k]=n at*
     have hcx:=HY.out.cell (2*k) (by omega)
     have hcy:=HY.out.cell (2*k+1) (by omega)
     have hfx:=HY.out.free (1+2*k)
     have hfy:=HY.out.free (1+(2*k+1))
     clear hc ht
     go_wp2_with fail
     go_roundw
     case rel=>
      refine⟨k+1,by omega,by go_num,JoL ((HX.out.other _ _ (by simp only;omega)).other _ _ (by simp only;omega)),JoL (Jnx HY.out hlt (by rw[←HSX.out.1];omega) (by rw[←HSX.out.2];omega)),JoL ((HO.out.other ?_ _).other ?_ _),JoL ((HW.out.setCell (by simp only;omega) _).setCell (by simp only;omega) _)⟩
      ·intro a ha;cases ha;exact hgb
      ·intro a ha;cases ha;exact hgb
     case measure=>simp[intOf];omega
    ·obtain rfl:k=8:=by omega
     have HZ:=HY.out.congr (C:=JeZ L) fun i hi=>by rw[if_pos (by omega)]
     have hpp:=HZ.part
     have hrr:=HX.out.row
     have HH:=JoL HX.out.heap
     clear HZ
     go_wp2_with fail
     refine bodyPost_ret (v:=.tuple #[adV true (JeZ L),true]) ?_ ?_ ?_
     ·exact Qd _ _ Tryz.underlying27 Zm rfl _ _ w.heap.size (.bool true) rfl rfl (Q3 HH.out)
     ·rfl
     ·exact⟨below_setRow HW.out (JoQ _) _,.inl ⟨L,HF.out,rfl⟩⟩
 ·have HF:Hid (Jft s.data.toList=none):=JoL (by rw[HS7.out,if_neg hok])
  clear HS7
  cases short
  ·have hne:¬((8:Int)-n1-n2=0):=fun h=>hok (.inr ⟨rfl,by omega⟩)
   clear hok
   go_wp2_with fail
   refine bodyPost_ret (v:=.tuple #[adV false fun _=>0,false]) ?_ ?_ ?_
   ·exact Qd _ _ Tryz.underlying27 Zm rfl _ _ w.heap.size (.bool false) rfl rfl (Q3 HH.out)
   ·rfl
   ·exact⟨below_setRow HB3.out (JoQ _) _,.inr ⟨HF.out,rfl⟩⟩
  ·have hne:(8:Int)-n1-n2<1:=by
    have:¬(n1+n2≤7):=fun h=>hok (.inl ⟨rfl,h⟩)
    omega
   clear hok
   go_wp2_with fail
   refine bodyPost_ret (v:=.tuple #[adV false fun _=>0,false]) ?_ ?_ ?_
   ·exact Qd _ _ Tryz.underlying27 Zm rfl _ _ w.heap.size (.bool false) rfl rfl (Q3 HH.out)
   ·rfl
   ·exact⟨below_setRow HB3.out (JoQ _) _,.inr ⟨HF.out,rfl⟩⟩
end
section
open Go.RowKit
def JfH (F S:Option (List Nat)):Option (Bool×(Nat→Int)):=match F with
 |some l=>some (false,Jax l)
 |none=>match S with
  |some l=>some (true,JeZ l)
  |none=>none
theorem JgT (L:List UInt8):Xg L=JfH (JdJ L) (Jft L):=rfl
theorem JgU (S:Option (List Nat)):(∀l,S=some l→JfH none S=some (true,JeZ l))∧(S=none→JfH none S=none):=⟨fun l h=>by rw[h];rfl,fun h=>by rw[h];rfl⟩
theorem Jh3 {w:World}{b:Nat}{t:TypeId}{s s':Bool}{B B':Nat→Int}(h:J6 w b t s B)(cs:Array Value)(o:Obj)(hc:cs=(JoZ s' (.int .u8 (B' 0)) (.int .u8 (B' 1)) (.int .u8 (B' 2)) (.int .u8 (B' 3)) (.int .u8 (B' 4)) (.int .u8 (B' 5)) (.int .u8 (B' 6)) (.int .u8 (B' 7)) (.int .u8 (B' 8)) (.int .u8 (B' 9)) (.int .u8 (B' 10)) (.int .u8 (B' 11)) (.int .u8 (B' 12)) (.int .u8 (B' 13)) (.int .u8 (B' 14)) (.int .u8 (B' 15)):Array Value):=by rfl):Jb ((w.setRow b cs).alloc o) b 0 17=(JoZ s' (.int .u8 (B' 0)) (.int .u8 (B' 1)) (.int .u8 (B' 2)) (.int .u8 (B' 3)) (.int .u8 (B' 4)) (.int .u8 (B' 5)) (.int .u8 (B' 6)) (.int .u8 (B' 7)) (.int .u8 (B' 8)) (.int .u8 (B' 9)) (.int .u8 (B' 10)) (.int .u8 (B' 11)) (.int .u8 (B' 12)) (.int .u8 (B' 13)) (.int .u8 (B' 14)) (.int .u8 (B' 15)):Array Value):=by
 rw[JeW _ _ _ _ _ (by have:=h.lt;simpa using this)]
 subst hc
 exact Q3 h.heap
theorem JgV (s:ByteArray)(w:World)(hs:s.size≤1000)(henv:Env w):Calls Tryz.prog 59 #[.string s] w (Jj w (Je4 (Xg s.data.toList))):=by
 have HE:=JoL henv
 have H4:=JoL (fun w h=>JlR s w hs h)
 have H6:=JoL (fun w h=>Jm6 s w hs h)
 rw[JgT]
 clear henv hs
 generalize s.data.toList=L at*
 generalize JdJ L=F at*
 generalize Jft L=S at*
 go_enter Tryz.func59,Tryz.ntmps59
 go_wp2_with fail
 refine JoN (H4.out _ (HE.out.below (Below.all (JoO _ _) _))) ?_
 rintro e w2 ⟨B,ok,rfl,hb2,hc⟩
 have HX:=JoL ((J6.made0 w 27 false).below hb2)
 have HW:=JoL (JoE (Below.all (JoO w.heap.size w) _) hb2)
 have hlt:=HX.out.lt
 have HC:=JoL hc
 clear hb2 hc
 cases ok
 ·have hF:F=none:=by rcases HC.out with ⟨h,-⟩|⟨-,h⟩;cases h;exact h
  subst hF
  have HP2:=JoL (JgU S)
  generalize JfH none S=R at*
  unfold adV
  have HX2:=JoL (HX.out.alloc (.cells (JoX false B) 27))
  have HW2:=JoL (Below.all HW.out (.cells (JoX false B) 27))
  clear HC HX HW hlt
  go_wp2_with fail
  generalize w2.alloc (.cells (JoX false B) 27)=w3 at*
  refine JoN (H6.out _ (HE.out.below HW2.out)) ?_
  rintro e w4 ⟨hb4,hc⟩
  have HX4:=JoL (HX2.out.below hb4)
  have HW4:=JoL (JoE HW2.out hb4)
  have hlt:=HX4.out.lt
  clear hb4 HX2 HW2
  rcases hc with ⟨l,hl,rfl⟩|⟨hl,rfl⟩
  ·have HR:Hid (R=some (true,JeZ l)):=JoL (HP2.out.1 l hl)
   generalize JeZ l=C at*
   have HX4:=JoL HX4.out
   clear hl HP2
   unfold adV
   have hrr:=HX4.out.row
   go_wp2_with fail
   exact bodyPost_ret (v:=.tuple #[adV true C,.int .i64 0]) (Qd _ _ Tryz.underlying27 Zm rfl _ _ w.heap.size (.int .i64 0) rfl rfl (Jh3 (s':=true) (B':=C) HX4.out _ _ rfl)) rfl (.mk (by rw[HR.out];rfl) (Below.all (below_setRow HW4.out (JoQ _) _) _))
  ·have HR:Hid (R=none):=JoL (HP2.out.2 hl)
   clear hl HP2
   unfold adV
   have hrr:=HX4.out.row
   go_wp2_with fail
   exact bodyPost_ret (v:=.tuple #[adV false fun _=>0,.int .i64 40]) (Qd _ _ Tryz.underlying27 Zm rfl _ _ w.heap.size (.int .i64 40) rfl rfl (Jh3 (s':=false) (B':=fun _=>0) HX4.out _ _ rfl)) rfl (.mk (by rw[HR.out];rfl) (Below.all (below_setRow HW4.out (JoQ _) _) _))
 ·obtain⟨l,rfl,hB⟩:∃l,F=some l∧∀i,i<16→B i=Jax l i:=by
   rcases HC.out with ⟨-,h⟩|⟨h,-⟩
   ·exact h
   ·cases h
  have HBE:=JoL (JlK (six:=false) hB)
  clear HC hB H6
  unfold adV at*
  have hrr:=HX.out.row
  go_wp2_with fail
  refine bodyPost_ret (v:=.tuple #[adV false B,.int .i64 0]) (Qd _ _ Tryz.underlying27 Zm rfl _ _ w.heap.size (.int .i64 0) rfl rfl (Jh3 (s':=false) (B':=B) HX.out _ _ rfl)) rfl (.mk ?_ (Below.all (below_setRow HW.out (JoQ _) _) _))
  show Value.tuple #[adV false B,.int .i64 0]=.tuple #[adV false (Jax l),.int .i64 0]
  rw[show adV false B=adV false (Jax l) from HBE.out]
theorem JcD (c:UInt8):∀l:List (List UInt8),Lib.join l [c]=Qz c l
 |[]=>rfl
 |[p]=>by rw[Lib.join_one];rfl
 |p::q::l=>by
  rw[Lib.join_cons,QA,←JcD c (q::l),Lib.join_cons]
  simp[Lib.joinTail]
theorem Jbh (oa:Option Addr)(n cap base:Nat)(L:List (List UInt8))(c:UInt8)(w:World)(hO:JQ w base 1 oa n cap (L.map Jew))(hlen:(Qz c L).length≤140737488355328)(hn:n≤140737488355328):
 Calls Tryz.prog 70 #[.slice oa n cap,.string ⟨#[c]⟩] w (Jj w (.string ⟨(Qz c L).toArray⟩)):=by
 have hLn:L.length=n:=by have:=hO.len;simpa using this
 rcases Nat.eq_zero_or_pos n with h0|h0
 ·subst h0
  obtain rfl:=List.eq_nil_of_length_eq_zero hLn
  refine JoN (Tryz.strings_Join_none oa cap _ w) ?_
  rintro e w' ⟨rfl,rfl⟩
  exact .mk rfl (JoO _ _)
 ·obtain⟨g,off,rfl,hb,hg,hc,ht⟩:=hO.here h0
  have e1:(L.map fun l:List UInt8=>(⟨l.toArray⟩:ByteArray)).length=n:=by rw[List.length_map,hLn]
  have e2:((L.map fun l:List UInt8=>(⟨l.toArray⟩:ByteArray)).map (·.data.toList))=L:=by simp[Function.comp_def]
  have h:=Tryz.strings_Join g off cap (L.map fun l:List UInt8=>(⟨l.toArray⟩:ByteArray)) ⟨#[c]⟩ w (fun j x hx=>by
   refine hc j _ ?_
   rw[List.getElem?_map] at hx⊢
   cases h:L[j]? with
   |none=>rw[h] at hx;cases hx
   |some l=>rw[h] at hx;cases hx;rfl) hg (by rw[e1];exact hn) (by rw[e1];exact hO.le) (by rw[e2];show(Lib.join L [c]).length≤_;rw[JcD];exact hlen)
  rw[e1,e2,show(⟨#[c]⟩:ByteArray).data.toList=[c] from rfl,JcD] at h
  refine JoN h ?_
  rintro e w' ⟨rfl,hb'⟩
  exact .mk rfl hb'
theorem Jdj (u:Nat)(hu:u<9223372036854775808)(w:World)(henv:Env w):Calls Tryz.prog 71 #[.int .i64 (u:Int)] w (Jj w (.string ⟨(Lib.decDigits u).toArray⟩)):=by
 refine JoN (Tryz.strconv_Itoa (u:Int) (by omega) (by omega) w henv.tab) ?_
 rintro e w' ⟨rfl,k,os,rfl⟩
 refine .mk ?_ (Lib.below_grow _ _ (JoQ _) _ _)
 unfold Lib.itoa
 rw[if_neg (by omega)]
 rfl
theorem JdR (u:Nat)(h:u<256):(Lib.decDigits u).length≤257:=by
 rw[←Jdi u u (JoQ _)]
 have:=Jaa 10 u u (JoQ _)
 omega
theorem Xh (c:UInt8)(m:Nat):∀L:List (List UInt8),(∀p∈L,p.length≤m)→(Qz c L).length≤L.length*(m+1)
 |[],_=>by simp[Qz]
 |[p],h=>by have:=h p (by simp);simp[Qz];omega
 |p::q::l,h=>by
  have h1:=h p (by simp)
  have h2:=Xh c m (q::l) (fun x hx=>h x (by simp at hx⊢;exact .inr hx))
  have h3:(p::q::l).length*(m+1)=(q::l).length*(m+1)+(m+1):=by rw[List.length_cons (a:=p),Nat.add_mul,Nat.one_mul]
  rw[QA,List.length_append,List.length_cons]
  omega
theorem JkA (B:Nat→Int)(hB:U8 B)(hr:JW false B=true)(w:World)(henv:Env w):
 Calls Tryz.prog 72 #[adV false B] w (Jj w (.string ⟨(Jh1 fun i=>(B i).toNat).toArray⟩)):=by
 have HE:=JoL henv
 have HU:=JoL hB
 have HR:Hid (∀w,Calls Tryz.prog 68 #[adV false B] w (Jj w (.bool true))):=JoL fun w=>by rw[←hr];exact Qu false B w
 clear henv hB hr
 have HX:Hid (J6 (w.alloc (.cells (JoX false B) 27)) w.heap.size 27 false B):=JoL (J6.made w _ false B)
 have HW:Hid (Below w.heap.size w (w.alloc (.cells (JoX false B) 27))):=JoL (Below.all (JoO w.heap.size w) _)
 unfold adV at*
 go_enter Tryz.func72,Tryz.ntmps72
 go_wp2_with fail
 generalize hw1:w.alloc (.cells (JoX false B) 27)=w1 at*
 have hs1:w1.heap.size=w.heap.size+1:=by rw[←hw1];simp
 clear hw1
 refine JoN (HR.out _) ?_
 rintro e w2 ⟨rfl,hb2⟩
 have HX2:=JoL (HX.out.below hb2)
 have HW2:=JoL (JoE HW.out hb2)
 have hs2:w.heap.size+1≤w2.heap.size:=by have:=hb2.size;omega
 have hsx:=HX2.out.six
 clear hb2 HX HW hs1
 go_wp2_with fail
 clear hsx
 go_loopw [3,20] (fun u3 u20 wr=>∃(k:Nat) (oa:Option Addr) (cap:Nat),k≤4∧u20=.int .i64 k∧u3=.slice oa k cap∧Hid (JQ wr (w.heap.size+1) 1 oa k cap (((List.range k).map fun i=>Lib.decDigits (B i).toNat).map Jew))∧Hid (J6 wr w.heap.size 27 false B)∧Hid (Below w.heap.size w wr)∧w.heap.size+1≤wr.heap.size) (fun _ u20 _=>(4:Int)-intOf u20 |>.toNat)
 case atStart=>exact⟨0,none,0,by omega,rfl,rfl,JoL (JQ.nil _ _ _),HX2,HW2,hs2⟩
 case round=>
  obtain⟨k,oa,cap,hk,rfl,rfl,HO,HX,HW,hsr⟩:=hrel
  by_cases hlt:k<4
  ·have hcx:=HX.out.cell k (by omega)
   have hbk:=HU.out k
   have HR1:Hid (List.range (k+1)=List.range k++[k]):=JoL List.range_succ
   obtain⟨b,hbe⟩:=Int.eq_ofNat_of_zero_le hbk.1
   have HBE:=JoL hbe
   rw[hbe] at hcx hbk
   clear hbe
   go_wp2_with fail
   refine JoN (Jdj b (by omega) wr (HE.out.below HW.out)) ?_
   rintro e w3 ⟨rfl,hb3⟩
   have HO3:=JoL (HO.out.below hb3)
   have HX3:=JoL (HX.out.below hb3)
   have HW3:=JoL (JoE HW.out hb3)
   have hs3:w.heap.size+1≤w3.heap.size:=by have:=hb3.size;omega
   have HLT:=JoL (fun a (ha:oa=some a)=>(HO3.out.lt ha).1)
   clear hb3 hcx HO HX HW hsr
   go_wp2_with (at_builtin;refine JC.of ?_)
   refine JC.mk ?_
   refine Qa _ rfl _ _ 76 rfl 9 (.string ⟨#[]⟩) 1 16 (w.heap.size+1) Tryz.underlying76 JfC rfl (by decide) oa k cap _ rfl (HO3.out.alloc _) ⟨w3.heap.size,0,none⟩ 1 1 [.string ⟨(Lib.decDigits b).toArray⟩] rfl rfl ?_ ?_ (by decide) ?_ ?_ ?_ ?_
   ·exact Zb _ _ _
   ·simp[Value.oneCell']
   ·unfold maxLen;omega
   ·omega
   ·simp only[World.size_alloc];omega
   intro oa' cap' w4 ho' hg hd
   have HX4:=JoL ((HX3.out.alloc (.cells #[.string ⟨(Lib.decDigits b).toArray⟩] 9)).keep (hg.block _ (by simp;omega) (fun e=>by
    obtain⟨a,ha,hab⟩:=Option.map_eq_some_iff.1 e.symm
    have:=HLT.out a ha;omega)))
   have HW4:Hid (Below w.heap.size w w4):=JoL (JoC (Below.all HW3.out _) (HO3.out.alloc _) (by omega) hg (by simp only[World.size_alloc];omega))
   have hs4:w.heap.size+1≤w4.heap.size:=by have:=hg.size;simp only[World.size_alloc] at this;omega
   have HO4:Hid (JQ w4 (w.heap.size+1) 1 oa' (k+1) cap' (((List.range (k+1)).map fun i=>Lib.decDigits (B i).toNat).map Jew)):=JoL (by
    rw[HR1.out,List.map_append,List.map_append]
    simp only[List.map_cons,List.map_nil]
    rw[HBE.out]
    exact ho')
   clear hg hd ho' HX3 HW3 HO3 hs3 HLT
   go_wp2_with fail
   go_roundw
   case rel=>exact⟨k+1,oa',cap',by omega,by go_num,rfl,HO4,HX4,HW4,hs4⟩
   case measure=>simp[intOf];omega
  ·obtain rfl:k=4:=by omega
   go_wp2_with fail
   refine JoN (Jbh oa 4 cap _ _ 46 wr HO.out ?_ (by omega)) ?_
   ·refine Nat.le_trans (Xh 46 257 _ fun p hp=>?_) (by simp)
    obtain⟨i,-,rfl⟩:=List.mem_map.1 hp
    exact JdR _ (by have:=HU.out i;omega)
   rintro e w3 ⟨rfl,hb3⟩
   have HW3:=JoL (JoE HW.out hb3)
   go_wp2_with fail
   go_ret
   exact .mk rfl HW3.out
def grpN (B:Nat→Int)(k:Nat):Nat:=(Jkn B k).toNat
theorem Jh4 {B:Nat→Int}(hB:U8 B)(k:Nat):grpN B k<65536:=by have:=Jko hB k;unfold grpN;omega
theorem JkB {B:Nat→Int}(hB:U8 B)(k:Nat):Jkn B k=(grpN B k:Int):=by have:=Jko hB k;unfold grpN;omega
theorem Jny {B:Nat→Int}(hB:U8 B)(k:Nat)(h:k<8):zg (grpN B) k=(Jkn B k==0):=by
 rw[Jnw _ _ h,JkB hB k,Bool.eq_iff_iff]
 simp only[beq_iff_eq]
 omega
theorem Jjq (z:Nat→Bool)(hz:∃a b c d e f g h:Bool,z=zof [a,b,c,d,e,f,g,h]):(JF z).1≤(JF z).2∧(JF z).2≤8:=by
 obtain⟨a,b,c,d,e,f,g,h,rfl⟩:=hz
 exact JdK a b c d e f g h
theorem Jb0 (g:Nat→Nat):JfF g=if (JF (zg g)).1=(JF (zg g)).2 then Qz 58 ((List.range 8).map fun i=>Q8 16 (g i))
 else Qz 58 (((List.range 8).map fun i=>Q8 16 (g i)).take (JF (zg g)).1)++[58,58]++Qz 58 (((List.range 8).map fun i=>Q8 16 (g i)).drop (JF (zg g)).2):=by
 unfold JfF JhR
 split
 ·exact Zk _ _
 ·rw[Xv,Xv,Zk,Zk,List.map_take,List.map_drop];rfl
theorem JlW (B:Nat→Int)(hB:U8 B)(w:World)(henv:Env w):
 Calls Tryz.prog 72 #[adV true B] w (Jj w (.string ⟨(JfF (grpN B)).toArray⟩)):=by
 have HE:=JoL henv
 have HU:=JoL hB
 have HR:Hid (∀w,Calls Tryz.prog 68 #[adV true B] w (Jj w (.bool true))):=JoL fun w=>Qu true B w
 have HG:=JoL (fun k hk w=>Jgx true B hB k hk w)
 have HN:=JoL (fun w=>JhS true B hB (zg (grpN B)) (fun k hk=>Jny hB k hk) w)
 have HNB:=Jjq (zg (grpN B)) ⟨_,_,_,_,_,_,_,_,rfl⟩
 have HT:=JoL (Jb0 (grpN B))
 have HGL:=JoL (fun k=>Jh4 hB k)
 have HGE:=JoL (fun k=>JkB hB k)
 clear henv hB
 generalize JfF (grpN B)=T at*
 generalize JF (zg (grpN B))=ft at*
 obtain⟨f,t⟩:=ft
 simp only at HN HNB HT
 obtain⟨hft,ht8⟩:=HNB
 have HX:Hid (J6 (w.alloc (.cells (JoX true B) 27)) w.heap.size 27 true B):=JoL (J6.made w _ true B)
 have HW:Hid (Below w.heap.size w (w.alloc (.cells (JoX true B) 27))):=JoL (Below.all (JoO w.heap.size w) _)
 unfold adV at*
 go_enter Tryz.func72,Tryz.ntmps72
 go_wp2_with fail
 generalize hw1:w.alloc (.cells (JoX true B) 27)=w1 at*
 have hs1:w1.heap.size=w.heap.size+1:=by rw[←hw1];simp
 clear hw1
 refine JoN (HR.out _) ?_
 rintro e w2 ⟨rfl,hb2⟩
 have HX2:=JoL (HX.out.below hb2)
 have HW2:=JoL (JoE HW.out hb2)
 have hs2:w.heap.size+1≤w2.heap.size:=by have:=hb2.size;omega
 have hsx:=HX2.out.six
 clear hb2 HX HW hs1
 go_wp2_with fail
 clear hsx
 go_loopw [3,33] (fun u3 u33 wr=>∃(k:Nat) (oa:Option Addr) (cap:Nat),k≤8∧u33=.int .i64 k∧u3=.slice oa k cap∧Hid (JQ wr (w.heap.size+1) 1 oa k cap (((List.range k).map fun i=>Q8 16 (grpN B i)).map Jew))∧Hid (J6 wr w.heap.size 27 true B)∧Hid (Below w.heap.size w wr)∧w.heap.size+1≤wr.heap.size) (fun _ u33 _=>(8:Int)-intOf u33 |>.toNat)
 case atStart=>exact⟨0,none,0,by omega,rfl,rfl,JoL (JQ.nil _ _ _),HX2,HW2,hs2⟩
 case round=>
  obtain⟨k,oa,cap,hk,rfl,rfl,HO,HX,HW,hsr⟩:=hrel
  by_cases hlt:k<8
  ·have hpp:=HX.out.part
   have HR1:Hid (List.range (k+1)=List.range k++[k]):=JoL List.range_succ
   have HGk:=JoL (HG.out k hlt)
   have hgl:=HGL.out k
   rw[HGE.out k] at HGk
   have HBE:Hid (∃b,grpN B k=b):=JoL ⟨_,rfl⟩
   obtain⟨b,hbe⟩:=HBE.out
   clear HBE
   have HBE:=JoL hbe
   rw[hbe] at HGk hgl
   clear hbe
   go_wp2_with fail
   refine JoN (HGk.out _) ?_
   rintro e w3 ⟨rfl,hb3⟩
   have HO3:=JoL (HO.out.below hb3)
   have HX3:=JoL (HX.out.below hb3)
   have HW3:=JoL (JoE HW.out hb3)
   have hs3:w.heap.size+1≤w3.heap.size:=by have:=hb3.size;omega
   clear hb3 hpp HO HX HW hsr
   go_wp2_with fail
   refine JoN (Jnu b hgl w3 (HE.out.below HW3.out)) ?_
   rintro e w4 ⟨rfl,hb4⟩
   have HO4:=JoL (HO3.out.below hb4)
   have HX4:=JoL (HX3.out.below hb4)
   have HW4:=JoL (JoE HW3.out hb4)
   have hs4:w.heap.size+1≤w4.heap.size:=by have:=hb4.size;omega
   have HLT:=JoL (fun a (ha:oa=some a)=>(HO4.out.lt ha).1)
   clear hb4 HO3 HX3 HW3 hs3
   go_wp2_with (at_builtin;refine JC.of ?_)
   refine JC.mk ?_
   refine Qa _ rfl _ _ 76 rfl 9 (.string ⟨#[]⟩) 1 16 (w.heap.size+1) Tryz.underlying76 JfC rfl (by decide) oa k cap _ rfl (HO4.out.alloc _) ⟨w4.heap.size,0,none⟩ 1 1 [.string ⟨(Q8 16 b).toArray⟩] rfl rfl ?_ ?_ (by decide) ?_ ?_ ?_ ?_
   ·exact Zb _ _ _
   ·simp[Value.oneCell']
   ·unfold maxLen;omega
   ·omega
   ·simp only[World.size_alloc];omega
   intro oa' cap' w5 ho' hg hd
   have HX5:=JoL ((HX4.out.alloc (.cells #[.string ⟨(Q8 16 b).toArray⟩] 9)).keep (hg.block _ (by simp;omega) (fun e=>by
    obtain⟨a,ha,hab⟩:=Option.map_eq_some_iff.1 e.symm
    have:=HLT.out a ha;omega)))
   have HW5:Hid (Below w.heap.size w w5):=JoL (JoC (Below.all HW4.out _) (HO4.out.alloc _) (by omega) hg (by simp only[World.size_alloc];omega))
   have hs5:w.heap.size+1≤w5.heap.size:=by have:=hg.size;simp only[World.size_alloc] at this;omega
   have HO5:Hid (JQ w5 (w.heap.size+1) 1 oa' (k+1) cap' (((List.range (k+1)).map fun i=>Q8 16 (grpN B i)).map Jew)):=JoL (by
    rw[HR1.out,List.map_append,List.map_append]
    simp only[List.map_cons,List.map_nil]
    rw[HBE.out]
    exact ho')
   clear hg hd ho' HX4 HW4 HO4 hs4 HLT
   go_wp2_with fail
   go_roundw
   case rel=>exact⟨k+1,oa',cap',by omega,by go_num,rfl,HO5,HX5,HW5,hs5⟩
   case measure=>simp[intOf];omega
  ·obtain rfl:k=8:=by omega
   have hpp:=HX.out.part
   have HPL:Hid (∀p∈(List.range 8).map fun i=>Q8 16 (grpN B i),p.length≤4):=JoL fun p hp=>by
    obtain⟨i,-,rfl⟩:=List.mem_map.1 hp
    exact JcB _ (HGL.out i)
   have HPN:Hid (((List.range 8).map fun i=>Q8 16 (grpN B i)).length=8):=JoL (by simp)
   clear HGL HGE HG HU HR
   generalize ((List.range 8).map fun i=>Q8 16 (grpN B i))=P at*
   go_wp2_with fail
   refine JoN (HN.out _) ?_
   rintro e w3 ⟨rfl,hb3⟩
   have HO3:=JoL (HO.out.below hb3)
   have HW3:=JoL (JoE HW.out hb3)
   clear hb3 hpp HX HO HW HN
   by_cases hz:f=t
   ·have HT2:=HT.out
    rw[if_pos hz] at HT2
    have HT3:=JoL HT2
    have hz2:(f:Int)=t:=by omega
    clear HT2 HT hz
    go_wp2_with fail
    refine JoN (Jbh oa 8 cap _ _ 58 w3 HO3.out (Nat.le_trans (Xh 58 4 _ HPL.out) (by rw[HPN.out];decide)) (by omega)) ?_
    rintro e w4 ⟨rfl,hb4⟩
    have HW4:=JoL (JoE HW3.out hb4)
    go_wp2_with fail
    go_ret
    exact .mk (by rw[HT3.out];rfl) HW4.out
   ·have HT2:=HT.out
    rw[if_neg hz] at HT2
    have HT3:=JoL HT2
    have hz2:¬((f:Int)=t):=by omega
    have HT1:Hid (JQ w3 (w.heap.size+1) 1 oa f cap ((P.take f).map Jew)):=JoL (by rw[List.map_take];have:=HO3.out.take f (by omega);rwa [Nat.mul_one] at this)
    have HT4:Hid (JQ w3 (w.heap.size+1) 1 (Jy oa t cap 1) (8-t) (cap-t) ((P.drop t).map Jew)):=JoL (by rw[List.map_drop];have:=HO3.out.cut t (by omega);rwa [Nat.mul_one] at this)
    have hcap:=HO3.out.le
    have hct:=fun w=>Jdz (P:=Tryz.prog) 76 oa 8 cap 1 Tryz.underlying76 (by kernel_rfl) f (f:Int) rfl (by omega) w
    have hcu:=fun w=>Jdy (P:=Tryz.prog) 76 oa 8 cap 1 Tryz.underlying76 (by kernel_rfl) t (t:Int) rfl (by omega) w
    have hA:(Qz 58 (P.take f)).length≤1000:=Nat.le_trans (Xh 58 4 _ fun p hp=>HPL.out p (List.mem_of_mem_take hp)) (by rw[List.length_take,HPN.out];omega)
    have hC:(Qz 58 (P.drop t)).length≤1000:=Nat.le_trans (Xh 58 4 _ fun p hp=>HPL.out p (List.mem_of_mem_drop hp)) (by rw[List.length_drop,HPN.out];omega)
    have HJ1:=JoL (fun(x:JG w3)=>Jbh oa f cap _ _ 58 _ (HT1.out.later x) (by omega) (by omega))
    have HJ2:=JoL (fun(x:JG w3)=>Jbh _ (8-t) (cap-t) _ _ 58 _ (HT4.out.later x) (by omega) (by omega))
    generalize Qz 58 (P.take f)=A at*
    generalize Qz 58 (P.drop t)=C at*
    generalize Jy oa t cap 1=oc at*
    clear HT2 HT hz HT1 HT4 HO3 HPL HPN
    go_wp2_with fail
    have hl1:A.length+2≤9223372036854775807:=by omega
    have hl2:(A.length:Int)+2≤9223372036854775807:=by omega
    have hl3:A.length+2+C.length≤9223372036854775807:=by omega
    have hl4:(A.length:Int)+2+(C.length:Int)≤9223372036854775807:=by omega
    refine Jt (by kernel_rfl) (by kernel_rfl) ?_
    iterate 3 go_big_quiet_step (fail)
    go_big_quiet_step ((go_at_call 70;exact JH (HJ1.out _)))
    iterate 4 go_big_quiet_step (fail)
    go_big_quiet_step ((go_at_call 70;exact JH (HJ2.out _)))
    repeat go_big_quiet_step (fail)
    refine wpQuiet_nil ?_
    intro x
    go_wp2_with fail
    go_ret
    refine .mk ?_ (HW3.out.trans (x.below.mono HW3.out.size))
    rw[HT3.out,←JaI,←JaI];rfl
theorem Jjr (six:Bool)(B:Nat→Int)(hr:JW six B=false)(w:World):
 Calls Tryz.prog 72 #[adV six B] w (Jj w (.string ⟨([]:List UInt8).toArray⟩)):=by
 have HR:Hid (∀w,Calls Tryz.prog 68 #[adV six B] w (Jj w (.bool false))):=JoL fun w=>by rw[←hr];exact Qu six B w
 clear hr
 unfold adV at*
 go_enter Tryz.func72,Tryz.ntmps72
 go_wp2_with fail
 refine Calls.later (HR.out _) ?_
 intro x
 go_wp2_with fail
 go_ret
 exact .mk rfl (JoD (Below.all (JoO _ _) _))
def Qv (six:Bool)(B:Nat→Int):List UInt8:=if JW six B=true then (if six=true then JfF (grpN B) else Jh1 fun i=>(B i).toNat) else []
theorem JiO (six:Bool)(B:Nat→Int)(hB:U8 B)(w:World)(henv:Env w):
 Calls Tryz.prog 72 #[adV six B] w (Jj w (.string ⟨(Qv six B).toArray⟩)):=by
 unfold Qv
 by_cases h:JW six B=true
 ·rw[if_pos h]
  cases six
  ·exact JkA B hB h w henv
  ·exact JlW B hB w henv
 ·rw[if_neg h]
  exact Jjr six B (by simpa using h) w
theorem JgW (s:List UInt8):(∃(six:Bool) (B:Nat→Int),Xg s=some (six,B)∧JW six B=true∧U8 B∧Je4 (Xg s)=.tuple #[adV six B,.int .i64 0])∨(Xg s=none∧Je4 (Xg s)=.tuple #[adV false fun _=>0,.int .i64 40]):=by
 cases h:Xg s with
 |none=>exact .inr ⟨rfl,rfl⟩
 |some p=>
  obtain⟨six,B⟩:=p
  have:=JgS h
  exact .inl ⟨six,B,rfl,this.1,this.2,rfl⟩
end
section
open Go.Lib Go.RowKit
theorem Jh5 (b:Nat→Nat)(i:Nat):Jax ((List.range 4).map b) i=if i<4 then (b i:Int) else 0:=by
 unfold Jax
 rw[List.getD_eq_getElem?_getD]
 by_cases h:i<4
 ·rw[if_pos h,List.getElem?_map,List.getElem?_range h];rfl
 ·rw[if_neg h,List.getElem?_eq_none (by simp;omega)];rfl
theorem Jjs (g:Nat→Nat)(i:Nat)(h:i<16):JeZ ((List.range 8).map g) i=if i%2=0 then ((g (i/2)/256:Nat):Int) else ((g (i/2)%256:Nat):Int):=by
 unfold JeZ
 have:((List.range 8).map g).getD (i/2) 0=g (i/2):=by
  rw[List.getD_eq_getElem?_getD,List.getElem?_map,List.getElem?_range (by omega)];rfl
 rw[this]
theorem JgX {s:Bool}{B:Nat→Int}(hB:U8 B)(hr:JW s B=true):∃B':Nat→Int,Xg (Qv s B)=some (s,B')∧∀i,i<16→B' i=B i:=by
 unfold Qv
 rw[if_pos hr,JgT]
 cases s
 ·rw[if_neg (by simp),Jjp _ (fun i=>by have:=hB i;omega)]
  refine⟨_,rfl,fun i hi=>?_⟩
  rw[Jh5]
  by_cases h:i<4
  ·rw[if_pos h];have:=hB i;omega
  ·rw[if_neg h,XS.1 hr i (by omega) hi]
 ·rw[if_pos rfl]
  have h6:=Jjo (grpN B) (fun i=>Jh4 hB i)
  rw[JlT _ h6,h6]
  refine⟨_,rfl,fun i hi=>?_⟩
  rw[Jjs _ _ hi]
  have hg:grpN B (i/2)=(B (2*(i/2))*256+B (2*(i/2)+1)).toNat:=rfl
  have h1:=hB (2*(i/2))
  have h2:=hB (2*(i/2)+1)
  rw[hg]
  by_cases he:i%2=0
  ·rw[if_pos he]
   have:B i=B (2*(i/2)):=by rw[show 2*(i/2)=i by omega]
   rw[this];omega
  ·rw[if_neg he]
   have:B i=B (2*(i/2)+1):=by rw[show 2*(i/2)+1=i by omega]
   rw[this];omega
theorem JlX {g g':Nat→Nat}(h:∀k,k<8→g k=g' k):zg g=zg g':=by
 unfold zg
 rw[h 0 (by omega),h 1 (by omega),h 2 (by omega),h 3 (by omega),h 4 (by omega),h 5 (by omega),h 6 (by omega),h 7 (by omega)]
theorem Jh6 {g g':Nat→Nat}(h:∀k,k<8→g k=g' k):JfF g=JfF g':=by
 have e:(List.range 8).map (fun i=>Q8 16 (g i))=(List.range 8).map fun i=>Q8 16 (g' i):=List.map_congr_left fun i hi=>by rw[h i (List.mem_range.1 hi)]
 rw[Jb0,Jb0,JlX h,e]
theorem Jh7 {b b':Nat→Nat}(h:∀k,k<4→b k=b' k):Jh1 b=Jh1 b':=by
 unfold Jh1
 rw[List.map_congr_left fun i hi=>by rw[h i (List.mem_range.1 hi)]]
theorem X6 {s:Bool}{B A:Nat→Int}(h:∀i,i<16→B i=A i):JW s B=JW s A:=by
 cases s
 ·rw[Bool.eq_iff_iff,XS,XS]
  exact⟨fun h' i h1 h2=>(h i h2)▸h' i h1 h2,fun h' i h1 h2=>(h i h2).trans (h' i h1 h2)⟩
 ·rfl
theorem ZB {s:Bool}{B A:Nat→Int}(h:∀i,i<16→B i=A i):Qv s B=Qv s A:=by
 unfold Qv
 rw[X6 h,Jh6 (g:=grpN B) (g':=grpN A) (fun k hk=>by unfold grpN Jkn;rw[h (2*k) (by omega),h (2*k+1) (by omega)]),Jh7 (b:=fun i=>(B i).toNat) (b':=fun i=>(A i).toNat) (fun k hk=>by show(B k).toNat=(A k).toNat;rw[h k (by omega)])]
def Jnz (s:Bool)(B:Nat→Int)(t:Bool)(A:Nat→Int):Bool:=s==t&&eqL (b16 B) (b16 A)
theorem JlY {s t:Bool}{B A:Nat→Int}:Jnz s B t A=true↔s=t∧∀i,i<16→B i=A i:=by
 unfold Jnz
 rw[Bool.and_eq_true,JaE,JmA]
 simp
theorem JgY (x c:UInt8):∀L:List (List UInt8),x∈Qz c L→x=c∨∃p∈L,x∈p
 |[],h=>by simp[Qz] at h
 |[p],h=>.inr ⟨p,by simp,by simpa[Qz] using h⟩
 |p::q::l,h=>by
  rw[QA] at h
  rcases List.mem_append.1 h with h|h
  ·exact .inr ⟨p,by simp,h⟩
  ·rcases List.mem_cons.1 h with h|h
   ·exact .inl h
   ·rcases JgY x c (q::l) h with h|⟨r,hr,hx⟩
    ·exact .inl h
    ·exact .inr ⟨r,by simp at hr⊢;exact .inr hr,hx⟩
theorem Joa:∀b:Fin 256,(Lib.decDigits b).length≤3:=by decide+kernel
theorem Jbi (s:Bool)(B:Nat→Int)(hB:U8 B):(Qv s B).length≤100:=by
 unfold Qv
 split
 ·split
  ·have hp:∀p∈(List.range 8).map fun i=>Q8 16 (grpN B i),p.length≤4:=fun p hp=>by
    obtain⟨i,-,rfl⟩:=List.mem_map.1 hp
    exact JcB _ (Jh4 hB i)
   rw[Jb0]
   split
   ·exact Nat.le_trans (Xh 58 4 _ hp) (by simp)
   ·have h1:=Xh 58 4 (((List.range 8).map fun i=>Q8 16 (grpN B i)).take (JF (zg (grpN B))).1) (fun p h=>hp p (List.mem_of_mem_take h))
    have h2:=Xh 58 4 (((List.range 8).map fun i=>Q8 16 (grpN B i)).drop (JF (zg (grpN B))).2) (fun p h=>hp p (List.mem_of_mem_drop h))
    rw[List.length_take,List.length_map,List.length_range] at h1
    rw[List.length_drop,List.length_map,List.length_range] at h2
    simp only[List.length_append,List.length_cons,List.length_nil]
    have h3:min (JF (zg (grpN B))).1 8*(4+1)≤40:=by have:=Nat.min_le_right (JF (zg (grpN B))).1 8;omega
    have h4:(8-(JF (zg (grpN B))).2)*(4+1)≤40:=by omega
    omega
  ·refine Nat.le_trans (Xh 46 3 _ fun p hp=>?_) (by simp)
   obtain⟨i,-,rfl⟩:=List.mem_map.1 hp
   have:=hB i
   exact Joa ⟨(B i).toNat,by omega⟩
 ·simp
section
end
end
section
def Zo (p:Int):Nat:=if p=6 then 20 else if p=17 then 8 else if p=1∨p=58 then 4 else 0
def Jkc (l:List Int):Nat:=(l.getD 12 0/16).toNat*4
def ZC (p:Int)(l:List Int):Int:=
 if Zo p=0 then 70 else if l.length<Zo p then 10 else if 65535<l.length then 51
 else if p=6 then (if Jkc l<20 then 51 else if l.length<Jkc l then 10 else 0)
 else if p=17 then (if w2 l 4<8 then 51 else if (l.length:Int)<w2 l 4 then 10 else 0) else 0
structure Seg where
 proto:Int
 src:Int
 dst:Int
 seq:Int
 ack:Int
 flags:Int
 win:Int
 urg:Int
 opt:List Int
 type:Int
 code:Int
 data:List Int
def Job:Seg:=⟨0,0,0,0,0,0,0,0,[],0,0,[]⟩
def Jcw (p:Int)(l:List Int):Seg:=
 if p=6 then ⟨6,w2 l 0,w2 l 2,w4 l 4,w4 l 8,l.getD 13 0,w2 l 14,w2 l 18,(l.take (Jkc l)).drop 20,0,0,l.drop (Jkc l)⟩
 else if p=17 then ⟨17,w2 l 0,w2 l 2,0,0,0,0,0,[],0,0,(l.take (w2 l 4).toNat).drop 8⟩
 else ⟨p,0,0,0,0,0,0,0,[],l.getD 0 0,l.getD 1 0,l.drop 4⟩
def Qf (p:Int)(l:List Int):Seg:=if ZC p l=0 then Jcw p l else Job
def Jq (p a b f n c:Int)(data:List Int):List Int:=
 if p=6 then be2 a++be2 b++[0,0,0,0,0,0,0,0,80,f,0,0]++be2 c++[0,0]++data
 else if p=17 then be2 a++be2 b++be2 n++be2 c++data
 else [a,b]++be2 c++data
def JR (p:Int)(n:Int)(src dst:List Int):List Int:=
 if p=1 then [] else if src.length=4 then src++dst++[0,p]++be2 n else src++dst++[0,0]++be2 n++[0,0,0,p]
def JnA (p a b f n:Int)(data src dst:List Int):Int:=
 let c:Int:=sumOf (JR p n src dst++Jq p a b f n 0 data)
 if c=0∧p=17 then 65535 else c
def Xw (p a b f:Int)(data src dst:List Int):List Int:=
 let n:Int:=(Zo p+data.length:Nat)
 Jq p a b f n (JnA p a b f n data src dst) data
structure JcE where
 six:Bool
 src:Nat→Int
 dst:Nat→Int
 proto:Int
 len:Int
 frag:Bool
 more:Bool
 body:List Int
def XT (l:List Int):JlH:=Jaw 17 [] (l.getD 6 0) 0 ((l.drop 40).take (w2 l 4).toNat)
def JO (l:List Int):Int:=if Z8 l≠0 then Z8 l else if (l.length:Int)<40+w2 l 4 then 10 else match XT l with
 | .err e=>e
 | .done _ _ _=>0
def XP (l:List Int):Zx:=match XT l with
 | .err _=>[]
 | .done xs _ _=>xs
def XU (l:List Int):Int:=match XT l with
 | .err _=>0
 | .done _ p _=>p
def JnO (l:List Int):Nat:=match XT l with
 | .err _=>0
 | .done _ _ i=>i
def XV (l:List Int):List Int:=((l.drop 40).take (w2 l 4).toNat).drop (JnO l)
def Qm (l:List Int):JcE:=⟨false,JX ((l.drop 12).take 4),JX ((l.drop 16).take 4),l.getD 9 0,w2 l 2,decide (0<w2 l 6%8192),(w2 l 6/8192%2==1),JaC l⟩
def QW (l:List Int):JcE:=⟨true,JX ((l.drop 8).take 16),JX ((l.drop 24).take 16),XU l,40+w2 l 4,decide (0<JaD (XP l)),Zz (XP l),XV l⟩
def JS (p:Int):Bool:=p==6||p==17
def JY (p:Int):Bool:=p==1||p==58
structure Jh8 where
 err:Int
 src:Int
 dst:Int
 flags:Int
def Ju (p:Int)(l:List Int):Jh8:=let s:=Qf p l;⟨ZC p l,s.src,if JY p then s.type*256+s.code else s.dst,s.flags⟩
def JI (p:Int)(l:List Int):Jh8:=
 if JY p then (if l.length<2 then ⟨10,0,0,0⟩ else ⟨0,0,w2 l 0,0⟩)
 else (if l.length<4 then ⟨10,0,0,0⟩ else ⟨0,w2 l 0,w2 l 2,if p=6∧14≤l.length then l.getD 13 0 else 0⟩)
def JbQ (o:JcE):Jh8:=if (JS o.proto||JY o.proto)&&!o.frag then (if o.more then JI o.proto o.body else Ju o.proto o.body) else ⟨0,0,0,0⟩
structure Pk where
 six:Bool
 src:Nat→Int
 dst:Nat→Int
 proto:Int
 sp:Int
 dp:Int
 len:Int
 flags:Int
 frag:Bool
def pkZ:Pk:=⟨false,fun _=>0,fun _=>0,0,0,0,0,0,false⟩
def Jjt (o:JcE)(u:Jh8):Pk:=⟨o.six,o.src,o.dst,o.proto,u.src,u.dst,o.len,u.flags,o.frag⟩
def Qq (l:List Int):Int:=
 if 2048<l.length then 3 else if l.length=0 then 10
 else if l.getD 0 0/16=4 then (if JE l≠0 then JE l else (JbQ (Qm l)).err)
 else if l.getD 0 0/16=6 then (if JO l≠0 then JO l else (JbQ (QW l)).err) else 50
def Jkd (l:List Int):Pk:=
 if Qq l≠0 then pkZ else if l.getD 0 0/16=4 then Jjt (Qm l) (JbQ (Qm l)) else Jjt (QW l) (JbQ (QW l))
def JaO (k:Pk):Array Value:=#[.bool k.six,.int .u8 (k.src 0),.int .u8 (k.src 1),.int .u8 (k.src 2),.int .u8 (k.src 3),.int .u8 (k.src 4),.int .u8 (k.src 5),.int .u8 (k.src 6),.int .u8 (k.src 7),.int .u8 (k.src 8),.int .u8 (k.src 9),.int .u8 (k.src 10),.int .u8 (k.src 11),.int .u8 (k.src 12),.int .u8 (k.src 13),.int .u8 (k.src 14),.int .u8 (k.src 15),.bool k.six,.int .u8 (k.dst 0),.int .u8 (k.dst 1),.int .u8 (k.dst 2),.int .u8 (k.dst 3),.int .u8 (k.dst 4),.int .u8 (k.dst 5),.int .u8 (k.dst 6),.int .u8 (k.dst 7),.int .u8 (k.dst 8),.int .u8 (k.dst 9),.int .u8 (k.dst 10),.int .u8 (k.dst 11),.int .u8 (k.dst 12),.int .u8 (k.dst 13),.int .u8 (k.dst 14),.int .u8 (k.dst 15),.int .u8 k.proto,.int .u16 k.sp,.int .u16 k.dp,.int .i64 k.len,.int .u8 k.flags,.bool k.frag]
def pkR (l:List Int):Value:=.tuple #[.agg (JaO (Jkd l)),.int .i64 (Qq l)]
end
end Go.Proofs.YtkgjbipfhhjlpaaGreatDoor
namespace Go.Proofs.YtkgjbipfhhjlpaaGreatDoor.Bits
open Go.RowKit
theorem Jm7 {p:Prop}[Decidable p]{b:Bool}(h:b=true↔p):b=decide p:=by rw[Bool.eq_iff_iff,h];simp
def JW (n:Int):Bool:=decide (1≤n∧n≤8)
theorem Qu (n:Int)(w:World):Calls Tryz.prog 142 #[.int .i64 n] w (Jj w (.bool (JW n))):=by
 go_enter Tryz.func142,Tryz.ntmps142
 go_wp2
 all_goals go_ret
 all_goals refine .mk (JV (Jm7 ?_)) (by go_grown)
 all_goals simp
 all_goals omega
theorem JkC (v:Int)(n:Nat)(h0:0≤v)(h1:v<256^n)(hn1:1≤n)(hn:n≤8)(w:World):
 Calls Tryz.prog 176 #[.int .u64 v] w (fun e w'=>∃k:Int,e=.returned (.int .i64 k)∧1≤k∧k≤n∧Below w.heap.size w w'):=by
 go_enter Tryz.func176,Tryz.ntmps176
 go_wp2_with fail
 have hv:v/256<256^(n-1):=by
  obtain⟨m,rfl⟩:∃m,n=m+1:=⟨n-1,by omega⟩
  rw[Int.pow_succ] at h1
  simp only[Nat.add_sub_cancel]
  generalize (256:Int)^m=p at*
  omega
 have HV:=JoL hv
 clear hv h1
 go_loopw [0,3] (fun u0 u3 wr=>∃(x k:Int) (m:Nat),u0=.int .u64 x∧u3=.int .i64 k∧0≤x∧Hid (x<256^m)∧1≤k∧k+m=n∧Below w.heap.size w wr) (fun u0 _ _=>(intOf u0).toNat)
 case atStart=>exact⟨v/256,1,n-1,rfl,rfl,by omega,HV,by omega,by omega,JoO _ _⟩
 case round=>
  obtain⟨x,k,m,rfl,rfl,hx,HX,hk,hkm,hb⟩:=hrel
  by_cases hx0:0<x
  ·obtain⟨m,rfl⟩:∃m',m=m'+1:=by
    refine⟨m-1,?_⟩
    have:=HX.out
    rcases Nat.eq_zero_or_pos m with e|e
    ·subst e;simp at this;omega
    ·omega
   have hx2:x/256<256^m:=by
    have:=HX.out
    rw[Int.pow_succ] at this
    generalize (256:Int)^m=p at*
    omega
   have HX2:=JoL hx2
   clear hx2
   go_wp2_with fail
   go_roundw
   case rel=>exact⟨x/256,k+1,m,by go_num,by go_num,by omega,HX2,by omega,by omega,hb⟩
   case measure=>simp[intOf];omega
  ·go_wp2_with fail
   go_ret
   exact⟨k,rfl,hk,by omega,hb⟩
theorem ZD (v:Int)(n:Nat)(h0:0≤v)(h1:v<256^n)(hn1:1≤n)(hn:n≤8)(w:World):
 Calls Tryz.prog 124 #[.int .u64 v,.int .i64 n] w (Jj w (.bool true)):=by
 have hr:JW n=true:=by simp[JW];omega
 go_enter Tryz.func124,Tryz.ntmps124
 go_wp2_with (go_at_call 142;refine Calls.later (Qu _ _) ?_;intro x;rw[hr])
 refine JoN (JkC v n h0 h1 hn1 hn _) ?_
 rintro e w' ⟨k,rfl,hk1,hk2,hb⟩
 go_wp2_with fail
 go_ret
 refine .mk (JV ?_) (x.below.trans (hb.mono x.below.size))
 first|(simp;done)|(simp;omega)
def be4 (v:Int):List Int:=[v/16777216%256,v/65536%256,v/256%256,v%256]
theorem infoU8:(Tryz.prog.info? 5).map (fun i=>(i.zero,i.size,i.bytes))=some (some (.int .u8 0),1,1):=by kernel_rfl
theorem JnZ (w:World):(Instr.makeSlice 22 (.int .i64 1) (.int .i64 1)).run Tryz.prog w=.ok (.slice (some ⟨w.heap.size,0,none⟩) 1 1) (w.alloc (.cells #[.int .u8 0] 5)):=
 (run_make_row' 22 5 (.int .u8 0) 1 Tryz.underlying22 infoU8 rfl .i64 .i64 1 (by decide) (by decide) w).trans (by rw[show madeCells #[Value.int .u8 0] 1=#[.int .u8 0] from by kernel_rfl])
theorem Jn0 (w:World):(Instr.makeSlice 22 (.int .i64 4) (.int .i64 4)).run Tryz.prog w=.ok (.slice (some ⟨w.heap.size,0,none⟩) 4 4) (w.alloc (.cells #[.int .u8 0,.int .u8 0,.int .u8 0,.int .u8 0] 5)):=
 (run_make_row' 22 5 (.int .u8 0) 1 Tryz.underlying22 infoU8 rfl .i64 .i64 4 (by decide) (by decide) w).trans (by rw[show madeCells #[Value.int .u8 0] 4=#[.int .u8 0,.int .u8 0,.int .u8 0,.int .u8 0] from by kernel_rfl])
theorem JkD (v:Int)(h0:0≤v)(h1:v<256)(w:World):Calls Tryz.prog 125 #[.int .u64 v,.int .i64 1] w (JT w ([v])):=by
 have hm:=JnZ
 go_enter Tryz.func125,Tryz.ntmps125
 go_wp2_with fail
 refine wp_loop_rounds 2 ?_
 rw[rounds_succ]
 go_wp2_with fail
 rw[rounds_succ]
 go_wp2_with fail
 go_ret
 refine⟨_,_,rfl,?_,?_⟩
 ·refine JQ.made _ 1 1 5 _ (JoQ _) (JoQ 1) (JoQ 1) (by decide) ?_
  simp[List.take]
  all_goals omega
 ·exact(JoO _ _).alloc (JoQ _) _
theorem JkE (v:Int)(h0:0≤v)(h1:v<4294967296)(w:World):Calls Tryz.prog 125 #[.int .u64 v,.int .i64 4] w (JT w (be4 v)):=by
 have hm:=Jn0
 go_enter Tryz.func125,Tryz.ntmps125
 go_wp2_with fail
 refine wp_loop_rounds 5 ?_
 rw[rounds_succ]
 go_wp2_with fail
 rw[rounds_succ]
 go_wp2_with fail
 rw[rounds_succ]
 go_wp2_with fail
 rw[rounds_succ]
 go_wp2_with fail
 rw[rounds_succ]
 go_wp2_with fail
 go_ret
 refine⟨_,_,rfl,?_,?_⟩
 ·refine JQ.made _ 4 4 5 _ (JoQ _) (JoQ 4) (JoQ 4) (by decide) ?_
  simp[be4]
  all_goals omega
 ·exact(JoO _ _).alloc (JoQ _) _
end Go.Proofs.YtkgjbipfhhjlpaaGreatDoor.Bits
namespace Go.Proofs.YtkgjbipfhhjlpaaGreatDoor
section
open Bits
structure Ky where
 s:Bool
 S:Nat→Int
 t:Bool
 T:Nat→Int
 p:Int
 a:Int
 b:Int
structure Jex (k:Ky):Prop where
 S:U8 k.S
 T:U8 k.T
 p:0≤k.p∧k.p<256
 a:0≤k.a∧k.a<65536
 b:0≤k.b∧k.b<65536
def kyC (s:Bool)(S:Nat→Int)(t:Bool)(T:Nat→Int)(p a b:Int):Array Value:=(Jo3 s t p (.int .u16 a) (.int .u16 b) S T)
def kyV (k:Ky):Array Value:=kyC k.s k.S k.t k.T k.p k.a k.b
def kyZ:Ky:=⟨false,fun _=>0,false,fun _=>0,0,0,0⟩
def ZM (p a b:Int):Bool:=JS p||(a==0&&(JY p||b==0))
def Jv (k:Ky):Bool:=JW k.s k.S&&(JW k.t k.T&&(k.s==k.t&&ZM k.p k.a k.b))
def JK (k:Ky):List Int:=if Jv k then [if k.s then 6 else 4]++Jc k.s k.S++Jc k.t k.T++[k.p]++be2 k.a++be2 k.b else []
def Qw (k:Ky):List UInt8:=if Jv k then Qz 32 [Lib.decDigits k.p.toNat,Qv k.s k.S,Lib.decDigits k.a.toNat,Qv k.t k.T,Lib.decDigits k.b.toNat] else []
def JgZ (k m:Ky):Int:=Lib.compareBytes (Lib.bytesOf (JK k)) (Lib.bytesOf (JK m))
structure Sp where
 k:Ky
 f:Int
 n:Int
structure Jey (s:Sp):Prop where
 k:Jex s.k
 f:0≤s.f∧s.f<256
 n:-9223372036854775808≤s.n∧s.n≤9223372036854775807
def spV (s:Sp):Array Value:=#[.bool s.k.s,.int .u8 (s.k.S 0),.int .u8 (s.k.S 1),.int .u8 (s.k.S 2),.int .u8 (s.k.S 3),.int .u8 (s.k.S 4),.int .u8 (s.k.S 5),.int .u8 (s.k.S 6),.int .u8 (s.k.S 7),.int .u8 (s.k.S 8),.int .u8 (s.k.S 9),.int .u8 (s.k.S 10),.int .u8 (s.k.S 11),.int .u8 (s.k.S 12),.int .u8 (s.k.S 13),.int .u8 (s.k.S 14),.int .u8 (s.k.S 15),.bool s.k.t,.int .u8 (s.k.T 0),.int .u8 (s.k.T 1),.int .u8 (s.k.T 2),.int .u8 (s.k.T 3),.int .u8 (s.k.T 4),.int .u8 (s.k.T 5),.int .u8 (s.k.T 6),.int .u8 (s.k.T 7),.int .u8 (s.k.T 8),.int .u8 (s.k.T 9),.int .u8 (s.k.T 10),.int .u8 (s.k.T 11),.int .u8 (s.k.T 12),.int .u8 (s.k.T 13),.int .u8 (s.k.T 14),.int .u8 (s.k.T 15),.int .u8 s.k.p,.int .u16 s.k.a,.int .u16 s.k.b,.int .u8 s.f,.int .i64 s.n]
def JP (n:Nat):List Int:=List.replicate n 0
def JcF (s:Sp):Bool:=!(Jv s.k)||((s.k.s&&J8 s.k.p)||((s.f != 0&&s.k.p != 6)||decide (s.n<0)))
def Jo (s:Sp):List Int:=
 let d:=JP s.n.toNat
 let src:=Jc s.k.s s.k.S
 let dst:=Jc s.k.t s.k.T
 if JS s.k.p then Xw s.k.p s.k.a s.k.b s.f d src dst
 else if JY s.k.p then Xw s.k.p (s.k.b/256) (s.k.b%256) 0 d src dst else d
def JmD (s:Sp)(n:Nat):IpH:=⟨0,20+(n:Int),0,false,false,0,64,s.k.p,Jc false s.k.S,Jc false s.k.T,[]⟩
def JnB (s:Sp)(n:Nat):List Int:=be4 1610612736++be2 (n:Int)++[s.k.p,64]++Jc true s.k.S++Jc true s.k.T
def QH (s:Sp):List Int:=if s.k.s then JnB s (Jo s).length else ZP (JmD s (Jo s).length)
def QI (s:Sp):Int:=if JcF s then 2 else if 2048<s.n then 3 else if 2048<(QH s++Jo s).length then 3 else 0
def spL (s:Sp):List Int:=if QI s=0 then QH s++Jo s else []
open Go.RowKit
theorem Jju (a:Option Addr)(n c:Nat)(r:List Value):JbT (.slice a n c::r)=JbT r:=by rw[JbT];rfl
theorem JkF (f:Fn)(a b:Array Value)(r:List Value):JbT (.func f a b::r)=JbT r:=by rw[JbT];rfl
attribute [go_sem] Jju JkF
theorem Jb1 {w:World}{b off:Nat}{v0 v1 v2 v3:Value}(h0:w.cell? ⟨b,off,none⟩=some v0)(h1:w.cell? ⟨b,off+1,none⟩=some v1)(h2:w.cell? ⟨b,off+2,none⟩=some v2)(h3:w.cell? ⟨b,off+3,none⟩=some v3):Jb w b off 4=#[v0,v1,v2,v3]:=by
 unfold World.cell? at h0 h1 h2 h3
 unfold Jb
 cases hh:w.heap[b]? with
 |none=>rw[hh] at h0;simp at h0
 |some ob=>
  rw[hh] at h0 h1 h2 h3
  cases ob with
  |cells cs t fr=>
   simp only at h0 h1 h2 h3⊢
   have g0:cs[off]? =some v0:=by simpa using h0
   have g1:cs[off+1]? =some v1:=by simpa using h1
   have g2:cs[off+2]? =some v2:=by simpa using h2
   have g3:cs[off+3]? =some v3:=by simpa using h3
   have hs:off+3<cs.size:=(JoM g3).1
   apply Array.ext_getElem?
   intro j
   rw[Array.getElem?_extract]
   rcases j with _|_|_|_|j
   ·simp[g0];omega
   ·simp[g1];omega
   ·simp[g2];omega
   ·simp[g3];omega
   ·simp;omega
  |_=>simp at h0
theorem JfI (ev:Operand→Value)(w:World)(dst:Option Tmp)(t:TypeId)(pos:String)(after:Array Edge)(g:Option (Nat×Bool))(x:Operand):(execOp ev ⟨dst,.load 111 x,t,pos,after,g⟩).run Tryz.prog w=Q9 Tryz.prog 111 w (ev x):=QY _ ev w dst t pos after g x _
theorem Jg0 (w:World)(b off:Nat)(hs:(Jb w b off 4).size=4):Q9 Tryz.prog 111 w (.pointer (some ⟨b,off,none⟩))=.ok (.value (.agg (Jb w b off 4))) w:=
 Qc _ w none 0 "" #[] none _ _ 4 _ Tryz.underlying111 rfl (by kernel_rfl) (by decide) hs
theorem JfJ (ev:Operand→Value)(w:World)(dst:Option Tmp)(t:TypeId)(pos:String)(after:Array Edge)(g:Option (Nat×Bool))(x:Operand):(execOp ev ⟨dst,.load 113 x,t,pos,after,g⟩).run Tryz.prog w=Q9 Tryz.prog 113 w (ev x):=QY _ ev w dst t pos after g x _
theorem Jc0 (w:World)(b off:Nat)(hs:(Jb w b off 17).size=17):Q9 Tryz.prog 113 w (.pointer (some ⟨b,off,none⟩))=.ok (.value (.agg (Jb w b off 17))) w:=
 Qc _ w none 0 "" #[] none _ _ 17 _ Tryz.underlying113 rfl (by kernel_rfl) (by decide) hs
theorem JeG (ev:Operand→Value)(w:World)(dst:Option Tmp)(t:TypeId)(pos:String)(after:Array Edge)(g:Option (Nat×Bool))(x y:Operand):(execOp ev ⟨dst,.store 113 x y,t,pos,after,g⟩).run Tryz.prog w=ZQ Tryz.prog 113 w (ev x) (ev y):=Q2 _ ev w dst t pos after g x y _
theorem JfK (w:World)(b:Nat)(cs:Array Value)(hx:Jk w b 17=true)(hs:cs.size=17)(h1:JbT cs.toList=true):ZQ Tryz.prog 113 w (.pointer (some ⟨b,0,none⟩)) (.agg cs)=.ok .skip (w.setRow b cs):=
 Qh _ w none 0 "" #[] none _ _ _ 17 (by kernel_rfl) hx (by show Jdb _ (.agg cs)=true;rw[Xf,←Array.all_toList,X3 _ h1,hs];simp)
theorem JfL:(Tryz.prog.info? 113).map (·.size)=some 17:=by kernel_rfl
theorem Jb2 (ev:Operand→Value)(w:World)(dst:Option Tmp)(t:TypeId)(pos:String)(after:Array Edge)(g:Option (Nat×Bool))(x:Operand):(execOp ev ⟨dst,.load 118 x,t,pos,after,g⟩).run Tryz.prog w=Q9 Tryz.prog 118 w (ev x):=QY _ ev w dst t pos after g x _
theorem Jc1 (w:World)(b off:Nat)(hs:(Jb w b off 37).size=37):Q9 Tryz.prog 118 w (.pointer (some ⟨b,off,none⟩))=.ok (.value (.agg (Jb w b off 37))) w:=
 Qc _ w none 0 "" #[] none _ _ 37 _ Tryz.underlying118 rfl (by kernel_rfl) (by decide) hs
theorem Jbw (ev:Operand→Value)(w:World)(dst:Option Tmp)(t:TypeId)(pos:String)(after:Array Edge)(g:Option (Nat×Bool))(x y:Operand):(execOp ev ⟨dst,.store 118 x y,t,pos,after,g⟩).run Tryz.prog w=ZQ Tryz.prog 118 w (ev x) (ev y):=Q2 _ ev w dst t pos after g x y _
theorem Jb3 (w:World)(b:Nat)(cs:Array Value)(hx:Jk w b 37=true)(hs:cs.size=37)(h1:JbT cs.toList=true):ZQ Tryz.prog 118 w (.pointer (some ⟨b,0,none⟩)) (.agg cs)=.ok .skip (w.setRow b cs):=
 Qh _ w none 0 "" #[] none _ _ _ 37 (by kernel_rfl) hx (by show Jdb _ (.agg cs)=true;rw[Xf,←Array.all_toList,X3 _ h1,hs];simp)
theorem JiP:(Tryz.prog.info? 118).map (·.size)=some 37:=by kernel_rfl
theorem Jb4 (ev:Operand→Value)(w:World)(dst:Option Tmp)(t:TypeId)(pos:String)(after:Array Edge)(g:Option (Nat×Bool))(x:Operand):(execOp ev ⟨dst,.load 149 x,t,pos,after,g⟩).run Tryz.prog w=Q9 Tryz.prog 149 w (ev x):=QY _ ev w dst t pos after g x _
theorem QZ (w:World)(b off:Nat)(hs:(Jb w b off 12).size=12):Q9 Tryz.prog 149 w (.pointer (some ⟨b,off,none⟩))=.ok (.value (.agg (Jb w b off 12))) w:=
 Qc _ w none 0 "" #[] none _ _ 12 _ Tryz.underlying149 rfl (by kernel_rfl) (by decide) hs
theorem Jbx (ev:Operand→Value)(w:World)(dst:Option Tmp)(t:TypeId)(pos:String)(after:Array Edge)(g:Option (Nat×Bool))(x y:Operand):(execOp ev ⟨dst,.store 149 x y,t,pos,after,g⟩).run Tryz.prog w=ZQ Tryz.prog 149 w (ev x) (ev y):=Q2 _ ev w dst t pos after g x y _
theorem Jb5 (w:World)(b:Nat)(cs:Array Value)(hx:Jk w b 12=true)(hs:cs.size=12)(h1:JbT cs.toList=true):ZQ Tryz.prog 149 w (.pointer (some ⟨b,0,none⟩)) (.agg cs)=.ok .skip (w.setRow b cs):=
 Qh _ w none 0 "" #[] none _ _ _ 12 (by kernel_rfl) hx (by show Jdb _ (.agg cs)=true;rw[Xf,←Array.all_toList,X3 _ h1,hs];simp)
theorem JiQ:(Tryz.prog.info? 149).map (·.size)=some 12:=by kernel_rfl
theorem Jb6 (ev:Operand→Value)(w:World)(dst:Option Tmp)(t:TypeId)(pos:String)(after:Array Edge)(g:Option (Nat×Bool))(x:Operand):(execOp ev ⟨dst,.load 30 x,t,pos,after,g⟩).run Tryz.prog w=Q9 Tryz.prog 30 w (ev x):=QY _ ev w dst t pos after g x _
theorem Jc2 (w:World)(b off:Nat)(hs:(Jb w b off 37).size=37):Q9 Tryz.prog 30 w (.pointer (some ⟨b,off,none⟩))=.ok (.value (.agg (Jb w b off 37))) w:=
 Qc _ w none 0 "" #[] none _ _ 37 _ Tryz.underlying30 rfl (by kernel_rfl) (by decide) hs
theorem JeH (ev:Operand→Value)(w:World)(dst:Option Tmp)(t:TypeId)(pos:String)(after:Array Edge)(g:Option (Nat×Bool))(x y:Operand):(execOp ev ⟨dst,.store 30 x y,t,pos,after,g⟩).run Tryz.prog w=ZQ Tryz.prog 30 w (ev x) (ev y):=Q2 _ ev w dst t pos after g x y _
theorem JfM (w:World)(b:Nat)(cs:Array Value)(hx:Jk w b 37=true)(hs:cs.size=37)(h1:JbT cs.toList=true):ZQ Tryz.prog 30 w (.pointer (some ⟨b,0,none⟩)) (.agg cs)=.ok .skip (w.setRow b cs):=
 Qh _ w none 0 "" #[] none _ _ _ 37 (by kernel_rfl) hx (by show Jdb _ (.agg cs)=true;rw[Xf,←Array.all_toList,X3 _ h1,hs];simp)
theorem JlZ:(Tryz.prog.info? 30).map (·.size)=some 37:=by kernel_rfl
theorem JfN (ev:Operand→Value)(w:World)(dst:Option Tmp)(t:TypeId)(pos:String)(after:Array Edge)(g:Option (Nat×Bool))(x:Operand):(execOp ev ⟨dst,.load 32 x,t,pos,after,g⟩).run Tryz.prog w=Q9 Tryz.prog 32 w (ev x):=QY _ ev w dst t pos after g x _
theorem Jg1 (w:World)(b off:Nat)(hs:(Jb w b off 40).size=40):Q9 Tryz.prog 32 w (.pointer (some ⟨b,off,none⟩))=.ok (.value (.agg (Jb w b off 40))) w:=
 Qc _ w none 0 "" #[] none _ _ 40 _ Tryz.underlying32 rfl (by kernel_rfl) (by decide) hs
theorem JeI (ev:Operand→Value)(w:World)(dst:Option Tmp)(t:TypeId)(pos:String)(after:Array Edge)(g:Option (Nat×Bool))(x y:Operand):(execOp ev ⟨dst,.store 32 x y,t,pos,after,g⟩).run Tryz.prog w=ZQ Tryz.prog 32 w (ev x) (ev y):=Q2 _ ev w dst t pos after g x y _
theorem JfO (w:World)(b:Nat)(cs:Array Value)(hx:Jk w b 40=true)(hs:cs.size=40)(h1:JbT cs.toList=true):ZQ Tryz.prog 32 w (.pointer (some ⟨b,0,none⟩)) (.agg cs)=.ok .skip (w.setRow b cs):=
 Qh _ w none 0 "" #[] none _ _ _ 40 (by kernel_rfl) hx (by show Jdb _ (.agg cs)=true;rw[Xf,←Array.all_toList,X3 _ h1,hs];simp)
theorem Jl0:(Tryz.prog.info? 32).map (·.size)=some 40:=by kernel_rfl
theorem JfP (ev:Operand→Value)(w:World)(dst:Option Tmp)(t:TypeId)(pos:String)(after:Array Edge)(g:Option (Nat×Bool))(x:Operand):(execOp ev ⟨dst,.load 47 x,t,pos,after,g⟩).run Tryz.prog w=Q9 Tryz.prog 47 w (ev x):=QY _ ev w dst t pos after g x _
theorem Jg2 (w:World)(b off:Nat)(hs:(Jb w b off 39).size=39):Q9 Tryz.prog 47 w (.pointer (some ⟨b,off,none⟩))=.ok (.value (.agg (Jb w b off 39))) w:=
 Qc _ w none 0 "" #[] none _ _ 39 _ Tryz.underlying47 rfl (by kernel_rfl) (by decide) hs
theorem JeJ (ev:Operand→Value)(w:World)(dst:Option Tmp)(t:TypeId)(pos:String)(after:Array Edge)(g:Option (Nat×Bool))(x y:Operand):(execOp ev ⟨dst,.store 85 x y,t,pos,after,g⟩).run Tryz.prog w=ZQ Tryz.prog 85 w (ev x) (ev y):=Q2 _ ev w dst t pos after g x y _
theorem JfQ (w:World)(b:Nat)(cs:Array Value)(hx:Jk w b 42=true)(hs:cs.size=42)(h1:JbT cs.toList=true):ZQ Tryz.prog 85 w (.pointer (some ⟨b,0,none⟩)) (.agg cs)=.ok .skip (w.setRow b cs):=
 Qh _ w none 0 "" #[] none _ _ _ 42 (by kernel_rfl) hx (by show Jdb _ (.agg cs)=true;rw[Xf,←Array.all_toList,X3 _ h1,hs];simp)
theorem JiR:(Tryz.prog.info? 85).map (·.size)=some 42:=by kernel_rfl
attribute [go_sem ↓] JfI JfJ JeG Jb2 Jbw Jb4 Jbx Jb6 JeH JfN JeI JfP JeJ
attribute [go_sem] Jg0 Jc0 JfK Jc1 Jb3 QZ Jb5 Jc2 JfM Jg1 JfO Jg2 JfQ
end
end Go.Proofs.YtkgjbipfhhjlpaaGreatDoor
