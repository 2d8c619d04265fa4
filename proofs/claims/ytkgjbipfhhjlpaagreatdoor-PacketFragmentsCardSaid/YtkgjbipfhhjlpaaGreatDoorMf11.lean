import Derived.Test.YtkgjbipfhhjlpaaGreatDoorMf10
set_option linter.unusedVariables false
set_option linter.unusedSimpArgs false
set_option maxRecDepth 100000
set_option maxHeartbeats 32000000
namespace Go.Proofs.YtkgjbipfhhjlpaaGreatDoor
section
open Go.RowKit
section
variable {P:Program} {ops:Array Oper} {md:Region.Mode}
theorem Jv.of_same {C:World→Prop}{C':Value→World→Prop}{o:Oper}{a a':Act}(h:Jv P ops C C' o a)(he:execOp a'.eval o=execOp a.eval o)(hw:Region.wanted o (yielded ops a'.tmps)=Region.wanted o (yielded ops a.tmps)):Jv P ops C C' o a':=by
 unfold Jv at*;rw[he,hw];exact h
abbrev FC:=Option Nat→World→Prop
def wpZ (P:Program)(md:Region.Mode)(ops:Array Oper)(hd sq:List Nat)(f:Nat)(ob:Obj)(G:Nat→World→Prop)(top:List Nat)(Q:Exit→Act→World→Prop):Nat→Nat→FC→Option Nat→Array Bool→Act→Prop
 |0,k,C,fl,listed,a=>Region.ready md ops listed=[]∧∀w,C fl w→Q .normal a w
 |n+1,k,C,fl,listed,a=>Region.ready md ops listed≠[]∧∀i∈Region.ready md ops listed,∀oi,ops[i]? =some oi→
  ((i∈hd∧∃v,YieldsIn P ops (C fl) oi v a∧wpZ P md ops hd sq f ob G top Q n k C fl (listed.setIfInBounds i true) (a.put oi.dst v))∨
   (sq[k]? =some i∧∃C':Value→FC,Jv P ops (C fl) (fun v w=>C' v fl w) oi a∧(∀v fl,JfE G top (k+1) (C' v fl))∧∀v,(∃w,C' v fl w)→wpZ P md ops hd sq f ob G top Q n (k+1) (C' v) fl (listed.setIfInBounds i true) (a.put oi.dst v))∨
   (i=f∧f∉sq∧fl=none∧Jgh P ops oi ob∧(∀w,C none w→C (some w.heap.size) (w.alloc ob))∧∀b,wpZ P md ops hd sq f ob G top Q n k C (some b) (listed.setIfInBounds i true) (a.put oi.dst (QQ b))))
theorem Xr {hd sq:List Nat}{f:Nat}{ob:Obj}{G:Nat→World→Prop}{top:List Nat}{Q':Exit→Act→World→Prop}:
 ∀(n k:Nat) (C:FC) (fl:Option Nat) (listed:Array Bool) (a:Act) (w:World),C fl w→wpZ P md ops hd sq f ob G top Q' n k C fl listed a→wpAny P md ops Q' n listed a w
 |0,k,C,fl,listed,a,w,hw,h=>⟨h.1,h.2 w hw⟩
 |n+1,k,C,fl,listed,a,w,hw,h=>by
  refine⟨fun h0=>absurd h0 h.1,fun i hi=>?_⟩
  obtain⟨_,oi,hoi,_⟩:=mem_ready.1 hi
  rcases h.2 i hi oi hoi with ⟨-,v,hy,hk⟩|⟨-,C',⟨hm,ht⟩,-,hk⟩|⟨-,-,rfl,hm,hC,hk⟩
  ·refine wpOp_of_qOp (C:=C fl) (K:=fun a'=>a'=a.put oi.dst v) hw (fun a' w'' hw'' ha=>?_) (hy.qOp hoi rfl)
   subst ha
   exact Xr n k C fl _ _ _ hw'' hk
  ·unfold wpOp
   simp only[hoi,hm,if_true]
   refine .inl ?_
   unfold Oper.wp
   rcases ht w hw with ⟨v,w2,hw2,hr⟩|⟨f',args,hr,hc⟩
   ·rcases hr with hr|⟨hr,rfl⟩
    ·rw[hr];exact Xr n (k+1) _ fl _ _ _ hw2 (hk v ⟨w2,hw2⟩)
    ·rw[hr];exact Xr n (k+1) _ fl _ _ _ hw2 (hk undef ⟨w2,hw2⟩)
   ·rw[hr,Oper.upon_enter]
    refine hc.mono ?_
    rintro e w2 ⟨v,rfl,hw2⟩
    exact Xr n (k+1) _ fl _ _ _ hw2 (hk v ⟨w2,hw2⟩)
  ·unfold wpOp
   simp only[hoi,hm.wanted a,if_true]
   refine .inl ?_
   unfold Oper.wp
   rw[hm.run]
   exact Xr n k C _ _ _ _ (hC w hw) (hk _)
theorem Qn.other {sq:List Nat}{k i:Nat}{listed:Array Bool}(inv:Qn md ops sq k listed)(hi:i∈Region.ready md ops listed)(hns:i∉sq):Qn md ops sq k (listed.setIfInBounds i true):=by
 obtain⟨_,oi,hoi,hall⟩:=mem_ready.1 hi
 refine⟨by simp[inv.size],fun j oj hj hl e he hb=>?_,fun k' t ht hs=>?_,fun k' t ht hs=>getD_set_true (inv.done k' t ht hs)⟩
 ·by_cases hij:i=j
  ·subst hij
   obtain rfl:oj=oi:=Option.some.inj (hj.symm.trans hoi)
   exact getD_set_true (hall e he hb)
  ·rw[getD_set_ne false hij] at hl
   exact getD_set_true (inv.closed j oj hj hl e he hb)
 ·rw[getD_set_ne true (fun h=>hns (by rw[h];exact List.mem_of_getElem? hs))]
  exact inv.open' k' t ht hs
theorem Qn.row2 {sq:List Nat}(once:∀k k' t:Nat,sq[k]? =some t→sq[k']? =some t→k=k'){k i:Nat}{listed:Array Bool}(inv:Qn md ops sq k listed)(hi:i∈Region.ready md ops listed)(hk:sq[k]? =some i):Qn md ops sq (k+1) (listed.setIfInBounds i true):=by
 obtain⟨_,oi,hoi,hall⟩:=mem_ready.1 hi
 have hlt:i<ops.size:=(Jnw hoi).1
 refine⟨by simp[inv.size],fun j oj hj hl e he hb=>?_,fun k' t ht hs=>?_,fun k' t ht hs=>?_⟩
 ·by_cases hij:i=j
  ·subst hij
   obtain rfl:oj=oi:=Option.some.inj (hj.symm.trans hoi)
   exact getD_set_true (hall e he hb)
  ·rw[getD_set_ne false hij] at hl
   exact getD_set_true (inv.closed j oj hj hl e he hb)
 ·rw[getD_set_ne true (fun h=>by subst h;have:=once k k' i hk hs;omega)]
  exact inv.open' k' t (by omega) hs
 ·by_cases h:t=i
  ·subst h;have:=inv.size;simp;omega
  ·refine getD_set_true (inv.done k' t ?_ hs)
   rcases Nat.lt_or_ge k' k with h'|h'
   ·exact h'
   ·have:k'=k:=by omega
    subst this;rw[hk] at hs;exact absurd (Option.some.inj hs).symm h
theorem Jay {hd sq:List Nat}{f:Nat}{ob:Obj}{G:Nat→World→Prop}{top:List Nat}{Q:Exit→Act→World→Prop}{i:Nat}{oi:Oper}{v:Value}{a0:Act}(hi:ops[i]? =some oi)(hsel:∀(j:Nat) (o:Oper) cs b,ops[j]? =some o→o.op≠ .select cs b)
 (once:∀k k' t:Nat,sq[k]? =some t→sq[k']? =some t→k=k')(hap:∀j∈hd,j∉sq)(hin:i∈hd)(Inv:Nat→FC→Prop)
 (hInv:∀k C,Inv k C→∀fl a',execOp a'.eval oi=execOp a0.eval oi→Region.wanted oi (yielded ops a'.tmps)=Region.wanted oi (yielded ops a0.tmps)→YieldsIn P ops (C fl) oi v a')
 (hstep:∀k C C' listed j,Inv k C→Qn md ops sq k listed→listed.getD i true=false→j∈Region.ready md ops listed→sq[k]? =some j→(∀fl,JfE G top (k+1) (C' fl))→Inv (k+1) C'):
 ∀(n k:Nat) (C:FC) (fl:Option Nat) (listed:Array Bool) (a:Act),Inv k C→Qn md ops sq k listed→
  (∀j oj,ops[j]? =some oj→j≠i→listed.getD j true=false→(∀e∈oj.after,Region.binds md e=true→e.on≠i)→oi.apart ops oj=true)→
  i∈Region.ready md ops listed→execOp a.eval oi=execOp a0.eval oi→Region.wanted oi (yielded ops a.tmps)=Region.wanted oi (yielded ops a0.tmps)→
  wpZ P md ops hd sq f ob G top Q n k C fl (listed.setIfInBounds i true) (a.put oi.dst v)→wpZ P md ops hd sq f ob G top Q (n+1) k C fl listed a:=by
 intro n
 induction n with
 |zero=>
  intro k C fl listed a hk inv _ hr e1 e2 H
  refine⟨fun h=>(by rw[h] at hr;cases hr),fun j hj oj hoj=>?_⟩
  by_cases hji:j=i
  ·subst hji
   obtain rfl:oi=oj:=Option.some.inj (hi.symm.trans hoj)
   exact .inl ⟨hin,v,hInv k C hk fl a e1 e2,H⟩
  ·have h:=ready_mono hj hji
   rw[H.1] at h
   cases h
 |succ n ih=>
  intro k C fl listed a hk inv hfree hr e1 e2 H
  have hun:=(mem_ready.1 hr).1
  refine⟨fun h=>(by rw[h] at hr;cases hr),fun j hj oj hoj=>?_⟩
  by_cases hji:j=i
  ·subst hji
   obtain rfl:oi=oj:=Option.some.inj (hi.symm.trans hoj)
   exact .inl ⟨hin,v,hInv k C hk fl a e1 e2,H⟩
  ·have HJ:=H.2 j (ready_mono hj hji) oj hoj
   obtain⟨hjun,oj',hoj',hall⟩:=mem_ready.1 hj
   obtain rfl:oj=oj':=Option.some.inj (hoj.symm.trans hoj')
   have hnot:∀e∈oj.after,Region.binds md e=true→e.on≠i:=fun e he hb heq=>by
    have h1:=hall e he hb
    rw[heq,getD_both hun] at h1
    cases h1
   obtain⟨ap1,ap2,ap3⟩:=Oper.apart_spec (hfree j oj hoj hji hjun hnot)
   have hfree':∀k ok,ops[k]? =some ok→k≠i→(listed.setIfInBounds j true).getD k true=false→
    (∀e∈ok.after,Region.binds md e=true→e.on≠i)→oi.apart ops ok=true:=fun k ok hk hki hun hno=>by
    refine hfree k ok hk hki ?_ hno
    by_cases hjk:j=k
    ·subst hjk;exact hjun
    ·rw[getD_set_ne true hjk] at hun;exact hun
   have hs2:=fun u=>(execOp_put oi (fun cs b=>hsel i oi cs b hi) a oj.dst u ap3).trans e1
   have hw2:=fun u=>(wanted_put oi a oj.dst u ap3).trans e2
   have hsj:=fun cs b=>hsel j oj cs b hoj
   have go:∀k' C' fl' u,Inv k' C'→Qn md ops sq k' (listed.setIfInBounds j true)→wpZ P md ops hd sq f ob G top Q n k' C' fl' ((listed.setIfInBounds i true).setIfInBounds j true) ((a.put oi.dst v).put oj.dst u)→
    wpZ P md ops hd sq f ob G top Q (n+1) k' C' fl' (listed.setIfInBounds j true) (a.put oj.dst u):=fun k' C' fl' u h1 h2 h3=>by
    refine ih k' C' fl' (listed.setIfInBounds j true) (a.put oj.dst u) h1 h2 hfree' (ready_mono hr (Ne.symm hji)) (hs2 u) (hw2 u) ?_
    rw[Array.setIfInBounds_comm _ _ hji,←Act.put_comm a v u ap2]
    exact h3
   rcases HJ with ⟨hjn,u,hu,hK⟩|⟨hjk,C',hu,hkept,hK⟩|⟨hjf,hfs,hfl,hM,hC,hK⟩
   ·exact .inl ⟨hjn,u,Jnu hsj hu ap1,go k C fl u hk (inv.other hj (hap j hjn)) hK⟩
   ·exact .inr (.inl ⟨hjk,C',hu.of_unput hsj ap1,hkept,fun u hex=>go (k+1) (C' u) fl u (hstep k C (C' u) listed j hk inv hun hj hjk (fun fl=>hkept u fl)) (inv.row2 once hj hjk) (hK u hex)⟩)
   ·subst hjf
    refine .inr (.inr ⟨rfl,hfs,hfl,hM,hC,fun b=>go k C (some b) _ hk (inv.other hj hfs) (hK b)⟩)
def JmO (ob:Obj)(C:FC):Prop:=∀w,C none w→C (some w.heap.size) (w.alloc ob)
def Jaz (P:Program)(ops:Array Oper)(o:Oper)(v:Value)(a:Act):Prop:=Region.wanted o (yielded ops a.tmps)=true∧∀w,(execOp a.eval o).run P w=.ok (.value v) w
theorem Jaz.yields {o:Oper}{v:Value}{a:Act}(h:Jaz P ops o v a)(C:World→Prop):YieldsIn P ops C o v a:=Jav h.1 fun w _=>h.2 w
theorem Jaz.of_same {o:Oper}{v:Value}{a a':Act}(h:Jaz P ops o v a)(he:execOp a'.eval o=execOp a.eval o)(hw:Region.wanted o (yielded ops a'.tmps)=Region.wanted o (yielded ops a.tmps)):Jaz P ops o v a':=by
 unfold Jaz at*;rw[he,hw];exact h
def JaA (P:Program)(ops:Array Oper)(G:Nat→World→Prop)(top:List Nat)(pend:Bool)(F:Option Nat→Prop)(ob:Obj)(E:Nat→FC→Act→Prop):List (Kd×Oper)→Nat→FC→Act→Prop
 |[],k,C,a=>E k C a
 |(.w,o)::rest,k,C,a=>∃C':Value→FC,(∀fl,F fl→Jv P ops (C fl) (fun v w=>C' v fl w) o a)∧(∀v fl,JfE G top (k+1) (C' v fl))∧(pend=true→∀v,JmO ob (C' v))∧∀v,(∃fl w,C' v fl w)→JaA P ops G top pend F ob E rest (k+1) (C' v) (a.put o.dst v)
 |(_,o)::rest,k,C,a=>∃v,Jaz P ops o v a∧JaA P ops G top pend F ob E rest k C (a.put o.dst v)
def JmP:Kd→Bool
 | .w=>true
 | .q=>true
 |_=>false
def Jfj (md:Region.Mode)(ops:Array Oper):List (Kd×Nat)→Array Bool→Bool
 |[],_=>true
 |(.w,i)::r,listed=>decide (Region.ready md ops listed=[i])&&Jfj md ops r (listed.setIfInBounds i true)
 |(.q,i)::r,listed=>(Region.ready md ops listed).contains i&&(Region.free md ops listed i&&Jfj md ops r (listed.setIfInBounds i true))
 |_,_=>false
def X7:List (Kd×Nat)→Nat
 |[]=>0
 |(.w,_)::r=>X7 r+1
 |_::r=>X7 r
def QO:List (Kd×Nat)→List Nat
 |[]=>[]
 |(.w,i)::r=>i::QO r
 |_::r=>QO r
def XC:List (Kd×Nat)→Array Bool→Array Bool
 |[],listed=>listed
 |(_,i)::r,listed=>XC r (listed.setIfInBounds i true)
theorem JbJ {hd sq:List Nat}{f:Nat}{ob:Obj}{G:Nat→World→Prop}{top:List Nat}{Q:Exit→Act→World→Prop}{pend:Bool}{F:Option Nat→Prop}{E:Nat→FC→Act→Prop}{fl:Option Nat}{m:Nat}(hF:F fl)
 (hsel:∀(j:Nat) (o:Oper) cs b,ops[j]? =some o→o.op≠ .select cs b)(once:∀k k' t:Nat,sq[k]? =some t→sq[k']? =some t→k=k')(hap:∀j∈hd,j∉sq):
 ∀(l:List (Kd×Oper)) (is:List (Kd×Nat)) (k:Nat) (C:FC) (listed:Array Bool) (a:Act),is.map (fun p=>ops[p.2]?)=l.map (fun p=>some p.2)→is.map (·.1)=l.map (·.1)→(∀p∈is,p.1=.q→p.2∈hd)→(∀j t,(QO is)[j]? =some t→sq[k+j]? =some t)→Qn md ops sq k listed→
 Jfj md ops is listed=true→(∀k' C' a',E k' C' a'→k'=k+X7 is→Qn md ops sq k' (XC is listed)→wpZ P md ops hd sq f ob G top Q m k' C' fl (XC is listed) a')→
 JaA P ops G top pend F ob E l k C a→wpZ P md ops hd sq f ob G top Q (l.length+m) k C fl listed a
 |[],is,k,C,listed,a,h1,_,_,_,inv,_,hE,h=>by
  cases is with
  |cons i is=>cases h1
  |nil=>rw[List.length_nil,Nat.zero_add];exact hE k C a h rfl inv
 |(kk,o)::l,is,k,C,listed,a,h1,h2,h3,h4,inv,hB,hE,h=>by
  cases is with
  |nil=>cases h1
  |cons q is=>
   obtain⟨kd,i⟩:=q
   simp only[List.map_cons,List.cons.injEq] at h1 h2
   obtain⟨rfl,h2⟩:=h2
   have ha:i∈Region.ready md ops listed:=by
    cases kd<;>simp only[Jfj,Bool.and_eq_true,decide_eq_true_eq] at hB
    ·cases hB
    ·simpa using hB.1
    ·rw[hB.1];simp
    ·cases hB
    ·cases hB
   rw[show((kd,o)::l).length+m=(l.length+m)+1 by simp only[List.length_cons];omega]
   cases kd with
   |h=>cases hB
   |c=>cases hB
   |f=>cases hB
   |q=>
    simp only[Jfj,Bool.and_eq_true] at hB
    obtain⟨v,hv,hk⟩:=h
    have hin:=h3 (.q,i) (by simp) rfl
    refine Jay (a0:=a) h1.1 hsel once hap hin (fun _ _=>True) (fun _ _ _ fl a' e1 e2=>(hv.of_same e1 e2).yields _) (fun _ _ _ _ _ _ _ _ _ _ _=>trivial) (l.length+m) k C fl listed a trivial inv (Region.free_spec h1.1 hB.2.1) ha rfl rfl ?_
    exact JbJ hF hsel once hap l is k C _ _ h1.2 h2 (fun p hp=>h3 p (by simp[hp])) (fun j t ht=>h4 j t ht) (inv.other ha (hap i hin)) hB.2.2 hE hk
   |w=>
    simp only[Jfj,Bool.and_eq_true,decide_eq_true_eq] at hB
    obtain⟨C',e1,e2,e3,e4⟩:=h
    have hk0:sq[k]? =some i:=h4 0 i rfl
    refine⟨by rw[hB.1];simp,fun j hj oj hoj=>?_⟩
    rw[hB.1] at hj
    obtain rfl:j=i:=by simpa using hj
    obtain rfl:o=oj:=Option.some.inj (h1.1.symm.trans hoj)
    refine .inr (.inl ⟨hk0,C',e1 fl hF,e2,fun v hv=>?_⟩)
    obtain⟨w,hw⟩:=hv
    exact JbJ hF hsel once hap l is (k+1) (C' v) _ _ h1.2 h2 (fun p hp=>h3 p (by simp[hp])) (fun j t ht=>by have:=h4 (j+1) t (by simpa[QO] using ht);rwa [show k+(j+1)=k+1+j by omega] at this) (inv.row2 once ha hk0) hB.2
     (fun k' C' a' hE' hk' hi'=>hE k' C' a' hE' (by simp only[X7];omega) hi') (e4 v ⟨fl,w,hw⟩)
theorem Jeh {G:Nat→World→Prop}{top:List Nat}{F F':Option Nat→Prop}{ob:Obj}{E E':Nat→FC→Act→Prop}{d:Tmp}{x:Value}(hFF:∀fl,F' fl→F fl):∀(l:List (Kd×Oper)) (k:Nat) (C:FC) (a:Act),(∀p∈l,(∀cs b,p.2.op≠ .select cs b)∧d∉p.2.looksAt ops∧p.2.dst≠some d)→
 (∀k' C' a',E k' C' a'→E' k' C' (a'.put (some d) x))→JaA P ops G top true F ob E l k C a→JaA P ops G top false F' ob E' l k C (a.put (some d) x)
 |[],k,C,a,_,hE,h=>hE k C a h
 |(kk,o)::rest,k,C,a,hp,hE,h=>by
  obtain⟨s,p1,p2⟩:=hp (kk,o) (by simp)
  have hap:∀e,some d=some e→e∉o.looksAt ops:=fun e he=>by cases he;exact p1
  have he:=execOp_put o s a (some d) x hap
  have hw:=wanted_put (ops:=ops) o a (some d) x hap
  have hcm:∀v,(a.put (some d) x).put o.dst v=(a.put o.dst v).put (some d) x:=fun v=>Act.put_comm a x v (fun e h1 h2=>p2 (h2.trans h1.symm))
  have ih:=fun v k' C'=>Jeh (G:=G) (top:=top) (E:=E) (E':=E') (d:=d) (x:=x) (ob:=ob) hFF rest k' C' (a.put o.dst v) (fun p hp'=>hp p (by simp[hp'])) hE
  cases kk with
  |h=>obtain⟨v,h1,h2⟩:=h;exact⟨v,h1.of_same he hw,by rw[hcm];exact ih v k C h2⟩
  |q=>obtain⟨v,h1,h2⟩:=h;exact⟨v,h1.of_same he hw,by rw[hcm];exact ih v k C h2⟩
  |c=>obtain⟨v,h1,h2⟩:=h;exact⟨v,h1.of_same he hw,by rw[hcm];exact ih v k C h2⟩
  |f=>obtain⟨v,h1,h2⟩:=h;exact⟨v,h1.of_same he hw,by rw[hcm];exact ih v k C h2⟩
  |w=>obtain⟨C',h1,h2,h3,h4⟩:=h;exact⟨C',fun fl hf=>(h1 fl (hFF fl hf)).of_same he hw,h2,fun h=>by simp at h,fun v hv=>by rw[hcm];exact ih v (k+1) (C' v) (h4 v hv)⟩
def Jdm (md:Region.Mode)(ops:Array Oper)(f:Nat):List (Kd×Nat)→Array Bool→Bool
 |[],listed=>decide (Region.ready md ops listed=[f])
 |(.w,i)::r,listed=>decide (Region.ready md ops listed=[i,f])&&(Jfj md ops ((.w,i)::r) (listed.setIfInBounds f true)&&Jdm md ops f r (listed.setIfInBounds i true))
 |(.q,i)::r,listed=>(Region.ready md ops listed).contains i&&(Region.free md ops listed i&&Jdm md ops f r (listed.setIfInBounds i true))
 |_,_=>false
theorem Jcz:∀(l:List (Kd×Nat)) (f:Nat) (listed:Array Bool),(∀p∈l,p.2≠f)→XC l (listed.setIfInBounds f true)=(XC l listed).setIfInBounds f true
 |[],_,_,_=>rfl
 |(kd,i)::l,f,listed,h=>by
  simp only[XC]
  rw[Array.setIfInBounds_comm _ _ (fun e=>h (kd,i) (by simp) e.symm),Jcz l f _ (fun p hp=>h p (by simp[hp]))]
theorem Jdn {hd sq:List Nat}{f:Nat}{ob:Obj}{G:Nat→World→Prop}{top:List Nat}{Q:Exit→Act→World→Prop}{E:Nat→FC→Act→Prop}{EF:Nat→Nat→FC→Act→Prop}{of:Oper}{d:Tmp}{m:Nat}(hf:ops[f]? =some of)(hfd:of.dst=some d)(hM:Jgh P ops of ob)(hfs:f∉sq)
 (hsel:∀(j:Nat) (o:Oper) cs b,ops[j]? =some o→o.op≠ .select cs b)(once:∀k k' t:Nat,sq[k]? =some t→sq[k']? =some t→k=k')(hap:∀j∈hd,j∉sq)(hE:∀b k C a,E k C a→EF b k C (a.put (some d) (QQ b))):
 ∀(l:List (Kd×Oper)) (is:List (Kd×Nat)) (k:Nat) (C:FC) (listed:Array Bool) (a:Act),is.map (fun p=>ops[p.2]?)=l.map (fun p=>some p.2)→is.map (·.1)=l.map (·.1)→(∀p∈is,(p.1=.q→p.2∈hd)∧p.2≠f)→(∀j t,(QO is)[j]? =some t→sq[k+j]? =some t)→Qn md ops sq k listed→
 (∀p∈l,(∀cs b,p.2.op≠ .select cs b)∧d∉p.2.looksAt ops∧p.2.dst≠some d)→
 Jdm md ops f is listed=true→JmO ob C→(∀b k' C' a',EF b k' C' a'→k'=k+X7 is→Qn md ops sq k' ((XC is listed).setIfInBounds f true)→wpZ P md ops hd sq f ob G top Q m k' C' (some b) ((XC is listed).setIfInBounds f true) a')→
 JaA P ops G top true (fun _=>True) ob E l k C a→wpZ P md ops hd sq f ob G top Q (l.length+(m+1)) k C none listed a
 |[],is,k,C,listed,a,h1,_,_,_,inv,_,hB,hG,hK,h=>by
  cases is with
  |cons i is=>cases h1
  |nil=>
   simp only[Jdm,decide_eq_true_eq] at hB
   rw[List.length_nil,Nat.zero_add]
   refine⟨by rw[hB];simp,fun j hj oj hoj=>?_⟩
   have hjr:=hj
   rw[hB] at hj
   obtain rfl:j=f:=by simpa using hj
   obtain rfl:of=oj:=Option.some.inj (hf.symm.trans hoj)
   refine .inr (.inr ⟨rfl,hfs,rfl,hM,hG,fun b=>?_⟩)
   rw[hfd]
   exact hK b k C _ (hE b k C a h) rfl (inv.other hjr hfs)
 |(kk,o)::l,is,k,C,listed,a,h1,h2,h3,h4,inv,h5,hB,hG,hK,h=>by
  cases is with
  |nil=>cases h1
  |cons q is=>
   obtain⟨kd,i⟩:=q
   have h1a:=h1
   have h2a:=h2
   simp only[List.map_cons,List.cons.injEq] at h1 h2
   obtain⟨rfl,h2⟩:=h2
   rw[show((kd,o)::l).length+(m+1)=(l.length+(m+1))+1 by simp only[List.length_cons];omega]
   cases kd with
   |h=>cases hB
   |c=>cases hB
   |f=>cases hB
   |q=>
    simp only[Jdm,Bool.and_eq_true] at hB
    obtain⟨v,hv,hk⟩:=h
    have hin:=(h3 (.q,i) (by simp)).1 rfl
    have ha:i∈Region.ready md ops listed:=by simpa using hB.1
    refine Jay (a0:=a) h1.1 hsel once hap hin (fun _ _=>True) (fun _ _ _ fl a' e1 e2=>(hv.of_same e1 e2).yields _) (fun _ _ _ _ _ _ _ _ _ _ _=>trivial) (l.length+(m+1)) k C none listed a trivial inv (Region.free_spec h1.1 hB.2.1) ha rfl rfl ?_
    exact Jdn hf hfd hM hfs hsel once hap hE l is k C _ _ h1.2 h2 (fun p hp=>h3 p (by simp[hp])) (fun j t ht=>h4 j t ht) (inv.other ha (hap i hin)) (fun p hp=>h5 p (by simp[hp])) hB.2.2 hG hK hk
   |w=>
    have hall:=h
    simp only[Jdm,Bool.and_eq_true,decide_eq_true_eq] at hB
    obtain⟨hr,hBf,hB'⟩:=hB
    obtain⟨C',e1,e2,e3,e4⟩:=h
    have hk0:sq[k]? =some i:=h4 0 i rfl
    refine⟨by rw[hr];simp,fun j hj oj hoj=>?_⟩
    have hjr:=hj
    rw[hr] at hj
    have hj':j=i∨j=f:=by simpa using hj
    rcases hj' with rfl|rfl
    ·obtain rfl:o=oj:=Option.some.inj (h1.1.symm.trans hoj)
     refine .inr (.inl ⟨hk0,C',e1 none trivial,e2,fun v hv=>?_⟩)
     obtain⟨w,hw⟩:=hv
     exact Jdn hf hfd hM hfs hsel once hap hE l is (k+1) (C' v) _ _ h1.2 h2 (fun p hp=>h3 p (by simp[hp])) (fun j t ht=>by have:=h4 (j+1) t (by simpa[QO] using ht);rwa [show k+(j+1)=k+1+j by omega] at this) (inv.row2 once hjr hk0) (fun p hp=>h5 p (by simp[hp])) hB' (e3 rfl v)
      (fun b k' C' a' hE' hk' hi'=>hK b k' C' a' hE' (by simp only[X7];omega) hi') (e4 v ⟨none,w,hw⟩)
    ·obtain rfl:of=oj:=Option.some.inj (hf.symm.trans hoj)
     refine .inr (.inr ⟨rfl,hfs,rfl,hM,hG,fun b=>?_⟩)
     rw[hfd]
     have hne:∀p∈((Kd.w,i)::is),p.2≠j:=fun p hp=>(h3 p hp).2
     have hput:=Jeh (F':=fun fl=>fl=some b) (E':=EF b) (d:=d) (x:=QQ b) (fun _ _=>trivial) ((.w,o)::l) k C a h5 (fun k' C' a'=>hE b k' C' a') hall
     have:=JbJ (m:=m) (f:=j) (hd:=hd) (sq:=sq) (Q:=Q) (F:=fun fl=>fl=some b) (fl:=some b) rfl hsel once hap ((.w,o)::l) ((.w,i)::is) k C (listed.setIfInBounds j true) _ h1a h2a (fun p hp=>(h3 p hp).1) h4 (inv.other hjr hfs) hBf
      (fun k' C' a' hE' hk' hi'=>by rw[Jcz _ _ _ hne] at hi'⊢;exact hK b k' C' a' hE' hk' hi') hput
     rw[show((Kd.w,o)::l).length+m=l.length+(m+1) by simp only[List.length_cons];omega] at this
     exact this
theorem Jgu {C1 C2:World→Prop}{o:Oper}{a:Act}{w:World}{v:Value}(h:o.quietAt P a C1 w v)(hC:∀w',C1 w'→C2 w'):o.quietAt P a C2 w v:=by
 unfold Oper.quietAt at*
 generalize (execOp a.eval o).run P w=r at*
 cases r with
 |ok n w'=>
  cases n<;>simp only[Oper.quietUpon] at h⊢<;>first|exact h|exact⟨h.1,h.2.mono fun e w'' h'=>⟨h'.1,hC _ h'.2⟩⟩
 |halt x w'=>simp only[Oper.quietUpon] at h
def ZN (w:World)(ob:Obj):FC:=fun fl w'=>(∃x:JC w,w'=x.world)∧∀b,fl=some b→w.heap.size≤b∧w'.heap[b]? =some ob
theorem Jhf (w:World)(ob:Obj):JmO ob (ZN w ob):=fun w' h=>by
 obtain⟨⟨x,rfl⟩,-⟩:=h
 exact⟨⟨⟨_,Below.all x.below ob⟩,rfl⟩,fun b hb=>by cases hb;exact⟨x.below.size,heap_alloc_new _ _⟩⟩
theorem Jgv {w:World}{ob:Obj}{fl:Option Nat}{w' w2:World}(h:ZN w ob fl w')(hb:Zv w' w2):ZN w ob fl w2:=by
 obtain⟨⟨x,rfl⟩,h2⟩:=h
 obtain⟨y,rfl⟩:=hb
 refine⟨⟨⟨_,Jno x.below y.below⟩,rfl⟩,fun b hb=>⟨(h2 b hb).1,?_⟩⟩
 have:=(h2 b hb).2
 exact(y.below.block b (Jnw this).1).trans this
theorem Jgw {w:World}{ob:Obj}{fl:Option Nat}{o:Oper}{v:Value}{a:Act}(h:Qw P ops w o v a):YieldsIn P ops (ZN w ob fl) o v a:=by
 have h0:=h w (Jny _ _)
 rcases h0 with ⟨hw,-⟩|⟨hw,rfl⟩
 ·refine .inl ⟨hw,fun w' hw'=>?_⟩
  have hx:=hw'.1
  obtain⟨x,rfl⟩:=hx
  rcases h x.world x.below with ⟨-,hq⟩|⟨hf,-⟩
  ·exact Jgu (hq _ ⟨⟨_,Jny _ _⟩,rfl⟩) fun w2 h2=>Jgv hw' h2
  ·rw[hw] at hf;cases hf
 ·exact .inr ⟨hw,rfl⟩
theorem JcS {hd0 hd sq:List Nat}{f:Nat}{ob:Obj}{w0:World}{G:Nat→World→Prop}{top:List Nat}{Q:Exit→Act→World→Prop}{late grp:Nat→Nat}{aF:Act}{r:Nat}{fl:Option Nat}(hsel:Region.noSelect ops=true)
 (sh:Zx md ops hd0 sq late)(hsub:∀i∈hd0,i∈hd)(hap:∀j∈hd,j∉sq)(hgrp:∀i∈hd0,late i≤top.getD (grp i) 0)
 (hlate:∀i∈hd0,∀oi,ops[i]? =some oi→0<late i→Jef P ops (G (grp i)) oi aF):
 ∀(hs:List Nat) (l:List Oper) (listed:Array Bool) (a:Act),hs.map (fun i=>ops[i]?)=l.map some→(∀i∈hs,i∈hd0)→Qn md ops sq 0 listed→Ja3 a.tmps.size l=true→Z1 ops l=true→
 Jag md ops hs listed=true→(Qn md ops sq 0 (QG hs listed)→wpZ P md ops hd sq f ob G top Q r 0 (ZN w0 ob) fl (QG hs listed) aF)→(∀w1,Below w0.heap.size w0 w1→wpQuiet P ops (Zv w1) (fun a'=>a'=aF) l a)→wpZ P md ops hd sq f ob G top Q (hs.length+r) 0 (ZN w0 ob) fl listed a
 |[],l,listed,a,hl,_,inv,_,_,_,hb,h=>by
  cases l with
  |nil=>
   have h:a=aF:=h w0 (Jny _ _)
   subst h
   rw[List.length_nil,Nat.zero_add];exact hb inv
  |cons o l=>cases hl
 |i::hs,l,listed,a,hl,hk,inv,hd1,ho,hB,hb,h=>by
  cases l with
  |nil=>cases hl
  |cons o l=>
   simp only[List.map_cons,List.cons.injEq] at hl
   obtain⟨h0,hl'⟩:=hl
   simp only[Jag,Bool.and_eq_true] at hB
   obtain⟨⟨hr,hf⟩,hB'⟩:=hB
   have hin:=hk i (by simp)
   have hr':i∈Region.ready md ops listed:=by simpa using hr
   have hd1':=hd1
   rw[Ja3,Bool.and_eq_true] at hd1
   obtain⟨hd1,hd2⟩:=hd1
   rw[Z1,Bool.and_eq_true] at ho
   obtain⟨ho1,ho2⟩:=ho
   have hsame:=Z2 (Region.noSelect_spec hsel i o · · h0) (o::l) a (fun p hp d hpd=>by
    have:=List.all_eq_true.1 ho1 p hp
    rw[hpd] at this
    intro hc;simp only[Bool.not_eq_true'] at this;rw[List.contains_iff_mem.2 hc] at this;cases this) (h w0 (Jny _ _))
   have hfam:=Jgi (o::l) a hd1' h
   obtain⟨v,hy,-⟩:=hfam
   have hval:∀{C:World→Prop} {u:Value},wpQuiet P ops C (fun a'=>a'=aF) l (a.put o.dst u)→o.dst.isSome=true→∀d,o.dst=some d→aF.tmps.getD d undef=u:=fun {C u} h _ d hod=>by
    rw[hod] at hd1
    simp only[Bool.and_eq_true,decide_eq_true_eq,List.all_eq_true] at hd1
    have hne:∀p∈l,p.dst≠some d:=fun p hp e=>by have:=hd1.2 p hp;rw[e] at this;simp at this
    have:aF.tmps[d]? =some u:=by
     rw[ZY l _ hne h,hod]
     simp[Act.put,Array.getElem?_setIfInBounds,hd1.1]
    rw[Array.getD_eq_getD_getElem?,this];rfl
   obtain⟨d,hod⟩:∃d,o.dst=some d:=by
    cases ho':o.dst with
    |none=>rw[ho'] at hd1;cases hd1
    |some d=>exact⟨d,rfl⟩
   have H:∀w1,Below w0.heap.size w0 w1→YieldsIn P ops (Zv w1) o (aF.tmps.getD d undef) a∧wpQuiet P ops (Zv w1) (fun a'=>a'=aF) l (a.put o.dst (aF.tmps.getD d undef)):=fun w1 hb1=>by
    obtain⟨u,h1,h2⟩:=Q2 (h w1 hb1)
    have:=hval h2 (by rw[hod];rfl) d hod
    rw[this]
    exact⟨h1,h2⟩
   rw[show(i::hs).length+r=(hs.length+r)+1 by simp only[List.length_cons];omega]
   refine Jay (a0:=a) (v:=aF.tmps.getD d undef) h0 (Region.noSelect_spec hsel) sh.once hap (hsub i hin) (fun k C=>k≤late i∧∀fl a',execOp a'.eval o=execOp a.eval o→Region.wanted o (yielded ops a'.tmps)=Region.wanted o (yielded ops a.tmps)→YieldsIn P ops (C fl) o (aF.tmps.getD d undef) a')
    (fun k C hI fl a' e1 e2=>hI.2 fl a' e1 e2) (fun k C C' listed' j hI hinv hun hj hjk hkept=>?_) (hs.length+r) 0 (ZN w0 ob) fl listed a ⟨Nat.zero_le _,fun fl a' e1 e2=>(Jgw (fun w1 hb1=>(H w1 hb1).1)).of_same e1 e2⟩ inv (Region.free_spec h0 hf) hr' rfl rfl
    (JcS hsel sh hsub hap hgrp hlate hs l _ _ hl' (fun j hj=>hk j (by simp[hj])) (inv.other hr' (hap i (hsub i hin))) (by rw[Je5];exact hd2) ho2 hB' hb (fun w1 hb1=>(H w1 hb1).2))
   have hlt:k<late i:=by
    rcases Nat.lt_or_ge k (late i) with h'|h'
    ·exact h'
    ·exact absurd hj (Jgn sh hinv _ i rfl hin hun h' j (List.mem_of_getElem? hjk))
   obtain⟨d',hod',hw,hrun⟩:=hlate i hin o h0 (by omega)
   obtain rfl:d=d':=Option.some.inj (hod.symm.trans hod')
   refine⟨hlt,fun fl a' e1 e2=>?_⟩
   refine(Jdg hw (fun w hw'=>hrun w ?_)).of_same (e1.trans hsame.1.symm) (e2.trans hsame.2.symm)
   exact hkept fl (grp i) (by have:=hgrp i hin;omega) w hw'
def JY (l:List Oper):List (Kd×Nat)→List (Kd×Oper)
 |[]=>[]
 |(kd,i)::r=>match l[i]? with
  |some o=>(kd,o)::JY l r
  |none=>JY l r
theorem JaB {l:List Oper}:∀(is:List (Kd×Nat)),(is.all fun p=>decide (p.2<l.length))=true→is.map (fun p=>l[p.2]?)=(JY l is).map (fun p=>some p.2)∧is.map (·.1)=(JY l is).map (·.1)
 |[],_=>⟨rfl,rfl⟩
 |(kd,i)::r,h=>by
  simp only[List.all_cons,Bool.and_eq_true,decide_eq_true_eq] at h
  obtain⟨h1,h2⟩:=h
  obtain⟨e1,e2⟩:=JaB r h2
  have:l[i]? =some l[i]:=List.getElem?_eq_getElem h1
  simp only[JY,this,List.map_cons,e1,e2,and_self]
def XD:List (Kd×Nat)→List Nat
 |[]=>[]
 |(.q,i)::r=>i::XD r
 |_::r=>XD r
theorem JbK:∀(is:List (Kd×Nat)) (p:Kd×Nat),p∈is→p.1=.q→p.2∈XD is
 |(kd,i)::r,p,h,hk=>by
  rcases List.mem_cons.1 h with rfl|h
  ·simp only at hk;subst hk;simp[XD]
  ·have:=JbK r p h hk
   cases kd<;>simp only[XD]<;>first|exact this|exact List.mem_cons_of_mem _ this
theorem JaC:∀(a b:List (Kd×Nat)),QO (a++b)=QO a++QO b
 |[],b=>rfl
 |(kd,i)::a,b=>by cases kd<;>simp[QO,JaC a b]
theorem Jdo:∀(a:List (Kd×Nat)),X7 a=(QO a).length
 |[]=>rfl
 |(kd,i)::a=>by cases kd<;>simp[QO,X7,Jdo a]
theorem Jfk:∀(is:List (Kd×Nat)) (t:Nat),t∈QO is→∃p∈is,p.2=t
 |[],t,h=>by cases h
 |(kd,i)::r,t,h=>by
  have step:t∈QO r→∃p∈(kd,i)::r,p.2=t:=fun h=>by
   obtain⟨p,hp,e⟩:=Jfk r t h
   exact⟨p,List.mem_cons_of_mem _ hp,e⟩
  cases kd with
  |w=>
   rcases List.mem_cons.1 h with rfl|h
   ·exact⟨_,List.mem_cons_self ..,rfl⟩
   ·exact step h
  |h=>exact step h
  |q=>exact step h
  |c=>exact step h
  |f=>exact step h
def flB (l:List Oper)(hs:List Nat)(lates:List (Nat×Nat×Nat))(top:List Nat)(os:List Oper)(s1 s2:List (Kd×Nat))(f:Nat)(d:Tmp):Bool:=
 let late:=fun i=>((lates.lookup i).map (·.1)).getD 0
 let grp:=fun i=>((lates.lookup i).map (·.2)).getD 0
 let sq:=QO (s1++s2)
 let hd:=hs++XD (s1++s2)
 let L:=QG hs (Array.replicate l.toArray.size false)
 let L2:=(XC s1 L).setIfInBounds f true
 Region.noSelect l.toArray&&(Jl5 .any l.toArray hs sq late&&(hs.all (fun i=>decide (late i≤top.getD (grp i) 0))&&(Jag .any l.toArray hs (Array.replicate l.toArray.size false)&&(Z1 l.toArray os&&
  (hd.all (fun i=>!sq.contains i)&&(!sq.contains f&&(s1.all (fun p=>decide (p.2≠f)&&decide (p.2<l.length))&&(s2.all (fun p=>decide (p.2<l.length))&&((JY l s1).all (fun p=>!(p.2.looksAt l.toArray).contains d&&p.2.dst != some d)&&(Jdm .any l.toArray f s1 L&&(Jfj .any l.toArray s2 L2&&
  (decide (Region.ready .any l.toArray (XC s2 L2)=[])&&decide (hs.length+s1.length+1+s2.length=l.length)))))))))))))
theorem JG {id:Nat}{Q:Exit→Act→World→Prop}{a:Act}{w:World}{l:List Oper}(ms:List Kd)(lates:List (Nat×Nat×Nat))(G:Nat→World→Prop)(top:List Nat)(s1 s2:List (Kd×Nat))(f:Nat)(ob:Obj){d:Tmp}{of:Oper}(hm:P.follows .mixedOrders=true)(hms0:Nat.ble ms.length l.length=true)
 (hf:l[f]? =some of)(hfd:of.dst=some d)(hM:Jgh P l.toArray of ob)
 (hB:flB l (JV ms 0) lates top (Ju ms l) s1 s2 f d=true)(hd:Ja3 a.tmps.size (Ju ms l)=true)
 (h:∃aF:Act,(∀w1,Below w.heap.size w w1→wpQuiet P l.toArray (fun w'=>∃x:JC w1,w'=x.world) (fun a'=>a'=aF) (Ju ms l) a)∧
   (∀p∈lates,∀oi,l[p.1]? =some oi→Jef P l.toArray (G p.2.2) oi aF)∧
   JaA P l.toArray G top true (fun _=>True) ob (fun k C a'=>∀b,JaA P l.toArray G top false (fun fl=>fl=some b) ob (fun k C a''=>∀w',C (some b) w'→Q .normal a'' w') (JY l s2) k C (a'.put (some d) (QQ b))) (JY l s1) 0 (ZN w ob) aF):(Code.region id l.toArray true).wp P Q a w:=by
 have hms:ms.length≤l.length:=Nat.le_of_ble_eq_true hms0
 obtain⟨aF,H,hlate,hrun⟩:=h
 simp only[flB,Bool.and_eq_true,decide_eq_true_eq,List.all_eq_true] at hB
 obtain⟨hsel,hrow,hgrp,hheads,hon,hap,hfs,hs1,hs2,hds,hp1,hp2,hend,hlen⟩:=hB
 have sh:=JcR hrow
 have hap':∀j∈JV ms 0++XD (s1++s2),j∉QO (s1++s2):=fun j hj hc=>by
  have:=hap j hj
  rw[List.contains_iff_mem.2 hc] at this;cases this
 have hfs':f∉QO (s1++s2):=fun hc=>by rw[List.contains_iff_mem.2 hc] at hfs;cases hfs
 have hmap1:(JV ms 0).map (fun i=>l.toArray[i]?)=(Ju ms l).map some:=by
  have:=Zb (l0:=l) ms 0 (by omega)
  simpa using this
 obtain⟨m1,k1⟩:=JaB (l:=l) s1 (List.all_eq_true.2 fun p hp=>by simpa using(hs1 p hp).2)
 obtain⟨m2,k2⟩:=JaB (l:=l) s2 (List.all_eq_true.2 fun p hp=>by simpa using hs2 p hp)
 have l1:s1.length=(JY l s1).length:=by have:=congrArg List.length m1;simpa using this
 have l2:s2.length=(JY l s2).length:=by have:=congrArg List.length m2;simpa using this
 have sq1:∀j t,(QO s1)[j]? =some t→(QO (s1++s2))[0+j]? =some t:=fun j t h=>by
  rw[JaC,Nat.zero_add,List.getElem?_append_left (List.getElem?_eq_some_iff.1 h).1];exact h
 have sq2:∀j t,(QO s2)[j]? =some t→(QO (s1++s2))[0+X7 s1+j]? =some t:=fun j t h=>by
  rw[JaC,Jdo,Nat.zero_add,List.getElem?_append_right (by omega),show(QO s1).length+j-(QO s1).length=j by omega];exact h
 have inv0:Qn .any l.toArray (QO (s1++s2)) 0 (Array.replicate l.toArray.size false):=
  ⟨by simp,fun j oj _ hl=>(by rw[getD_replicate_false] at hl;cases hl),fun k' t _ hs=>by
    refine getD_in ?_ (getD_replicate_false _ _)
    obtain⟨p,hp,rfl⟩:=Jfk _ t (List.mem_of_getElem? hs)
    rcases List.mem_append.1 hp with hp|hp
    ·simpa using(hs1 p hp).2
    ·simpa using hs2 p hp,fun k' t hk hs=>by omega⟩
 have HZ:=fun hinv=>Jdn (P:=P) (md:=.any) (ops:=l.toArray) (hd:=JV ms 0++XD (s1++s2)) (sq:=QO (s1++s2)) (f:=f) (ob:=ob) (G:=G) (top:=top) (Q:=Q) (m:=(JY l s2).length+0)
  (E:=fun k C a'=>∀b,JaA P l.toArray G top false (fun fl=>fl=some b) ob (fun k C a''=>∀w',C (some b) w'→Q .normal a'' w') (JY l s2) k C (a'.put (some d) (QQ b)))
  (EF:=fun b k C a'=>JaA P l.toArray G top false (fun fl=>fl=some b) ob (fun k C a''=>∀w',C (some b) w'→Q .normal a'' w') (JY l s2) k C a')
  (by simpa using hf) hfd hM hfs' (Region.noSelect_spec hsel) sh.once hap' (fun b k C a h=>h b) (JY l s1) s1 0 (ZN w ob) (QG (JV ms 0) (Array.replicate l.toArray.size false)) aF (by simpa using m1) k1
  (fun p hp=>⟨fun hq=>List.mem_append.2 (.inr (JbK _ p (List.mem_append.2 (.inl hp)) hq)),(hs1 p hp).1⟩) sq1 hinv
  (fun p hp=>by
    have h1:=hds p hp
    simp only[Bool.not_eq_true',bne_iff_ne,ne_eq] at h1
    have hx:some p.2∈(JY l s1).map (fun p=>some p.2):=List.mem_map.2 ⟨p,hp,rfl⟩
    rw[←m1] at hx
    obtain⟨q,hq,hq2⟩:=List.mem_map.1 hx
    refine⟨fun cs b=>Region.noSelect_spec hsel q.2 p.2 cs b (by simpa using hq2),fun hc=>?_,h1.2⟩
    have h2:=h1.1
    rw[List.contains_iff_mem.2 hc] at h2;cases h2) hp1 (Jhf w ob)
  (fun b k' C' a' hE' hk' hi'=>by
    subst hk'
    exact JbJ (m:=0) (hd:=JV ms 0++XD (s1++s2)) (sq:=QO (s1++s2)) (Q:=Q) (F:=fun fl=>fl=some b) (fl:=some b) rfl (Region.noSelect_spec hsel) sh.once hap' (JY l s2) s2 _ C' _ a' (by simpa using m2) k2
     (fun p hp hq=>List.mem_append.2 (.inr (JbK _ p (List.mem_append.2 (.inr hp)) hq))) sq2 hi' hp2 (fun k2 C2 a2 hE2 _ _=>⟨hend,hE2⟩) hE') hrun
 have HF:=JcS (md:=.any) (hd:=JV ms 0++XD (s1++s2)) (f:=f) (ob:=ob) (w0:=w) (fl:=none) (r:=(JY l s1).length+((JY l s2).length+0+1)) (late:=fun i=>((lates.lookup i).map (·.1)).getD 0) (grp:=fun i=>((lates.lookup i).map (·.2)).getD 0) (Q:=Q) hsel sh
  (fun i hi=>List.mem_append.2 (.inl hi)) hap' hgrp
  (fun i hi oi hoi hpos=>by
    cases hlk:lates.lookup i with
    |none=>rw[hlk] at hpos;simp at hpos
    |some m=>
     have hmem:=Zi lates i m hlk
     have:=hlate (i,m) hmem oi (by simpa using hoi)
     simpa[hlk] using this)
  (JV ms 0) (Ju ms l) _ a hmap1 (fun i hi=>hi) inv0 hd hon hheads HZ H
 refine wp_region_any hm ?_
 have:=Xr (Q':=Q) _ 0 _ none _ _ _ ⟨⟨⟨_,(Jny w.heap.size w).drew⟩,rfl⟩,fun b hb=>by cases hb⟩ HF
 rw[show(JV ms 0).length+((JY l s1).length+((JY l s2).length+0+1))=l.toArray.size by simp only[List.size_toArray];omega] at this
 exact this
def scB (l:List Oper)(hs:List Nat)(lates:List (Nat×Nat×Nat))(top:List Nat)(os:List Oper)(s:List (Kd×Nat)):Bool:=
 let late:=fun i=>((lates.lookup i).map (·.1)).getD 0
 let grp:=fun i=>((lates.lookup i).map (·.2)).getD 0
 let sq:=QO s
 let hd:=hs++XD s
 let L:=QG hs (Array.replicate l.toArray.size false)
 Region.noSelect l.toArray&&(Jl5 .any l.toArray hs sq late&&(hs.all (fun i=>decide (late i≤top.getD (grp i) 0))&&(Jag .any l.toArray hs (Array.replicate l.toArray.size false)&&(Z1 l.toArray os&&
  (hd.all (fun i=>!sq.contains i)&&(s.all (fun p=>decide (p.2<l.length))&&(Jfj .any l.toArray s L&&(decide (Region.ready .any l.toArray (XC s L)=[])&&decide (hs.length+s.length=l.length)))))))))
theorem J0 {id:Nat}{Q:Exit→Act→World→Prop}{a:Act}{w:World}{l:List Oper}(ms:List Kd)(lates:List (Nat×Nat×Nat))(G:Nat→World→Prop)(top:List Nat)(s:List (Kd×Nat))(hm:P.follows .mixedOrders=true)(hms0:Nat.ble ms.length l.length=true)
 (hB:scB l (JV ms 0) lates top (Ju ms l) s=true)(hd:Ja3 a.tmps.size (Ju ms l)=true)
 (h:∃aF:Act,(∀w1,Below w.heap.size w w1→wpQuiet P l.toArray (fun w'=>∃x:JC w1,w'=x.world) (fun a'=>a'=aF) (Ju ms l) a)∧
   (∀p∈lates,∀oi,l[p.1]? =some oi→Jef P l.toArray (G p.2.2) oi aF)∧
   JaA P l.toArray G top false (fun fl=>fl=none) (.cells #[] 0) (fun k C a''=>∀w',C none w'→Q .normal a'' w') (JY l s) 0 (ZN w (.cells #[] 0)) aF):(Code.region id l.toArray true).wp P Q a w:=by
 have hms:ms.length≤l.length:=Nat.le_of_ble_eq_true hms0
 obtain⟨aF,H,hlate,hrun⟩:=h
 simp only[scB,Bool.and_eq_true,decide_eq_true_eq,List.all_eq_true] at hB
 obtain⟨hsel,hrow,hgrp,hheads,hon,hap,hs1,hp1,hend,hlen⟩:=hB
 have sh:=JcR hrow
 have hap':∀j∈JV ms 0++XD s,j∉QO s:=fun j hj hc=>by
  have:=hap j hj
  rw[List.contains_iff_mem.2 hc] at this;cases this
 have hmap1:(JV ms 0).map (fun i=>l.toArray[i]?)=(Ju ms l).map some:=by
  have:=Zb (l0:=l) ms 0 (by omega)
  simpa using this
 obtain⟨m1,k1⟩:=JaB (l:=l) s (List.all_eq_true.2 fun p hp=>by simpa using hs1 p hp)
 have l1:s.length=(JY l s).length:=by have:=congrArg List.length m1;simpa using this
 have inv0:Qn .any l.toArray (QO s) 0 (Array.replicate l.toArray.size false):=
  ⟨by simp,fun j oj _ hl=>(by rw[getD_replicate_false] at hl;cases hl),fun k' t _ hs=>by
    refine getD_in ?_ (getD_replicate_false _ _)
    obtain⟨p,hp,rfl⟩:=Jfk _ t (List.mem_of_getElem? hs)
    simpa using hs1 p hp,fun k' t hk hs=>by omega⟩
 have HZ:=fun hinv=>JbJ (P:=P) (md:=.any) (ops:=l.toArray) (f:=l.length) (G:=G) (top:=top) (m:=0) (hd:=JV ms 0++XD s) (sq:=QO s) (Q:=Q) (F:=fun fl=>fl=none) (fl:=none) (pend:=false) (ob:=.cells #[] 0) (E:=fun k C a''=>∀w',C none w'→Q .normal a'' w') rfl (Region.noSelect_spec hsel) sh.once hap' (JY l s) s 0 (ZN w (.cells #[] 0)) (QG (JV ms 0) (Array.replicate l.toArray.size false)) aF (by simpa using m1) k1
  (fun p hp hq=>List.mem_append.2 (.inr (JbK _ p hp hq))) (fun j t h=>by rw[Nat.zero_add];exact h) hinv hp1 (fun k2 C2 a2 hE2 _ _=>⟨hend,hE2⟩) hrun
 have HF:=JcS (md:=.any) (hd:=JV ms 0++XD s) (f:=l.length) (ob:=.cells #[] 0) (w0:=w) (fl:=none) (r:=(JY l s).length+0) (late:=fun i=>((lates.lookup i).map (·.1)).getD 0) (grp:=fun i=>((lates.lookup i).map (·.2)).getD 0) (Q:=Q) hsel sh
  (fun i hi=>List.mem_append.2 (.inl hi)) hap' hgrp
  (fun i hi oi hoi hpos=>by
    cases hlk:lates.lookup i with
    |none=>rw[hlk] at hpos;simp at hpos
    |some m=>
     have hmem:=Zi lates i m hlk
     have:=hlate (i,m) hmem oi (by simpa using hoi)
     simpa[hlk] using this)
  (JV ms 0) (Ju ms l) _ a hmap1 (fun i hi=>hi) inv0 hd hon hheads HZ H
 refine wp_region_any hm ?_
 have:=Xr (Q':=Q) _ 0 _ none _ _ _ ⟨⟨⟨_,(Jny w.heap.size w).drew⟩,rfl⟩,fun b hb=>by cases hb⟩ HF
 rw[show(JV ms 0).length+((JY l s).length+0)=l.toArray.size by simp only[List.size_toArray];omega] at this
 exact this
end
end
section
open Go.RowKit
theorem Jfl (z:Int)(k:Nat)(h0:0≤z)(h1:z<18446744073709551616)(hk:k≤63):bits .and .u64 z ((2^k-1:Nat):Int)=z%((2^k:Nat):Int):=by
 have h2:2^k≤2^63:=Nat.pow_le_pow_right (by omega) hk
 have h3:=Nat.two_pow_pos k
 have:=u64_and_nat z.toNat (2^k-1) (by omega) (by omega)
 rw[Nat.and_two_pow_sub_one_eq_mod,Int.toNat_of_nonneg h0] at this
 have e:((2^k:Nat):Int)=(((2^k-1:Nat):Int))+1:=by omega
 rw[this,Int.natCast_emod,Int.toNat_of_nonneg h0]
theorem Xs (k:Int)(w:World):Calls Tryz.prog 93 #[k] w fun e w'=>e=.returned (.bool (JP k))∧w=w':=by
 have H:Hid (JP k=(k==0||k==43||k==44||k==60)):=Jnv rfl
 generalize JP k=B at*
 go_enter Tryz.func93,Tryz.ntmps93
 go_wp2_with fail
 all_goals
  go_ret
  refine⟨?_,rfl⟩
  rw[H.out]
  simp_all
def JkO (d:List Int):Value:=.tuple #[.int .u16 (Q7 d/8),.int .u8 (Q7 d/2%4),.bool (Q7 d%2==1)]
theorem Jfm {d:List Int}(h:Jm d):0≤Q7 d∧Q7 d<65536:=by
 unfold Q7
 split
 ·exact⟨Int.le_refl 0,by decide⟩
 ·exact Zd h 0
theorem Jfn (k:Int)(oa:Option Addr)(cap:Nat)(d:List Int)(w:World)(hr:Jj w oa d.length cap d)(hn:d.length≤100000):
 Calls Tryz.prog 151 #[.agg #[.int .u8 k,.slice oa d.length cap]] w (Jk w (JkO d)):=by
 have HR:=Jnv hr
 have hb:=Jfm hr.byte
 have HV:Hid (Jk w (JkO d)=Jk w (.tuple #[.int .u16 (Q7 d/8),.int .u8 (Q7 d/2%4),.bool (Q7 d%2==1)])):=Jnv rfl
 have HG:Hid (∀w1,Jj w1 oa d.length cap d→∃err,Calls Tryz.prog 81 #[.slice oa d.length cap,.int .i64 0,.int .i64 2] w1 (Jk w1 (.tuple #[.int .u64 (Q7 d),.int .i64 err]))):=Jnv (fun w1 h1=>by
  by_cases h:d.length<2
  ·refine⟨10,?_⟩
   have:=Bits.get_short oa d.length cap 0 2 w1 (by omega) (by omega) (by omega) (by omega) (by omega)
   unfold Q7;rw[if_pos h];exact this
  ·refine⟨0,?_⟩
   have:=Bits.get_ok oa d.length cap d 0 2 w1 h1 (by omega) (by omega) (by omega) (by omega)
   unfold Q7;rw[if_neg h,←QM d 0 (by omega)];exact this)
 clear hr
 generalize Q7 d=s at*
 have a3:=Jfl (s/2) 2 (by omega) (by omega) (by omega)
 have a1:=Jfl s 1 (by omega) (by omega) (by omega)
 rw[show(((2^2-1:Nat)):Int)=3 from rfl,show(((2^2:Nat)):Int)=4 from rfl] at a3
 rw[show(((2^1-1:Nat)):Int)=1 from rfl,show(((2^1:Nat)):Int)=2 from rfl] at a1
 rw[HV.out]
 generalize d.length=n at*
 go_enter Tryz.func151,Tryz.ntmps151
 go_wp2_with fail
 obtain⟨err,hg⟩:=HG.out _ (HR.out.alloc _)
 refine Jnp hg ?_
 intro x
 go_wp2_with fail
 go_ret3
 exact .mk rfl x.below
theorem Jim (a b:Nat):decide ((a:Int)≤(b:Int))=decide (a≤b):=by rw[Bool.eq_iff_iff];simp
theorem Jei (k:Int)(oa:Option Addr)(cap:Nat)(d:List Int)(w:World)(hr:Jj w oa d.length cap d)(hn:d.length≤100000):
 Calls Tryz.prog 91 #[.agg #[.int .u8 k,.slice oa d.length cap]] w (Jk w (.bool (Qc k d))):=by
 have HR:=Jnv hr
 have hb:=Jfm hr.byte
 have HV:Hid (Qc k d=if k=44 then decide (d.length=6)&&decide (Q7 d/2%4=0) else JP k&&(decide (d.length%8=6)&&decide (d.length≤2046))):=Jnv rfl
 have HS:Hid (∀w1,Jj w1 oa d.length cap d→Calls Tryz.prog 151 #[.agg #[.int .u8 k,.slice oa d.length cap]] w1 (Jk w1 (.tuple #[.int .u16 (Q7 d/8),.int .u8 (Q7 d/2%4),.bool (Q7 d%2==1)]))):=Jnv (fun w1 h1=>Jfn k oa cap d w1 h1 hn)
 clear hr
 generalize Q7 d=s at*
 generalize Qc k d=V at*
 generalize d.length=n at*
 by_cases h4:k=44
 ·have HE:Hid (V=(decide (n=6)&&decide (s/2%4=0))):=Jnv (by rw[HV.out,if_pos h4])
  obtain rfl:=h4
  clear HV
  go_enter Tryz.func91,Tryz.ntmps91
  go_wp2_with fail
  refine Jnp (HS.out _ (HR.out.alloc _)) ?_
  intro x
  by_cases h6:n=6
  ·subst h6
   go_wp2_with fail
   go_ret
   refine .mk (JL ?_) x.below
   rw[HE.out];rfl
  ·have d6:((n:Int)==6)=false:=by simp;omega
   go_wp2_with fail
   go_ret
   refine .mk (JL ?_) x.below
   rw[HE.out,decide_eq_false h6];rfl
 ·have HE:Hid (V=(JP k&&(decide (n%8=6)&&decide (n≤2046)))):=Jnv (by rw[HV.out,if_neg h4])
  have h4':(k != 44)=true:=by simpa using h4
  clear HV HS h4
  generalize hB:JP k=B at*
  have HB:=Jnv hB
  clear hB
  cases B
  ·go_enter Tryz.func91,Tryz.ntmps91
   go_wp2_with (go_at_call 93;refine(Xs _ _).mono ?_;rintro e w' ⟨rfl,rfl⟩;rw[HB.out])
   go_ret
   refine .mk (JL ?_) (Below.all (Jny _ _) _)
   rw[HE.out];rfl
  ·have htm:Int.tmod (n:Int) 8=((n%8:Nat):Int):=by rw[Int.tmod_eq_emod_of_nonneg (by omega)];omega
   by_cases h8:n%8=6
   ·have d8:((n:Int)%8==6)=true:=by simp;omega
    have htm':(Int.tmod (n:Int) 8==6)=true:=by rw[htm,h8];rfl
    clear htm
    go_enter Tryz.func91,Tryz.ntmps91
    go_wp2_with (go_at_call 93;refine(Xs _ _).mono ?_;rintro e w' ⟨rfl,rfl⟩;rw[HB.out])
    go_ret
    refine .mk (JL ?_) (Below.all (Jny _ _) _)
    rw[HE.out,decide_eq_true h8,←Jim];rfl
   ·have d8:((n:Int)%8==6)=false:=by simp;omega
    have htm':(Int.tmod (n:Int) 8==6)=false:=by rw[htm];simp;omega
    clear htm
    go_enter Tryz.func91,Tryz.ntmps91
    go_wp2_with (go_at_call 93;refine(Xs _ _).mono ?_;rintro e w' ⟨rfl,rfl⟩;rw[HB.out])
    go_ret
    refine .mk (JL ?_) (Below.all (Jny _ _) _)
    rw[HE.out,decide_eq_false h8];rfl
theorem Jck (k:Int)(oa:Option Addr)(cap:Nat)(d:List Int)(w:World)(hr:Jj w oa d.length cap d)(hn:d.length≤100000):
 Calls Tryz.prog 92 #[.agg #[.int .u8 k,.slice oa d.length cap]] w (Jk w (.bool (X0 k d))):=by
 have HR:=Jnv hr
 have hb:=Jfm hr.byte
 have HV:Hid (X0 k d=(decide (k=44)&&decide (0<Q7 d/8))):=Jnv rfl
 have HS:Hid (∀w1,Jj w1 oa d.length cap d→Calls Tryz.prog 151 #[.agg #[.int .u8 k,.slice oa d.length cap]] w1 (Jk w1 (.tuple #[.int .u16 (Q7 d/8),.int .u8 (Q7 d/2%4),.bool (Q7 d%2==1)]))):=Jnv (fun w1 h1=>Jfn k oa cap d w1 h1 hn)
 clear hr
 generalize Q7 d=s at*
 generalize X0 k d=V at*
 generalize d.length=n at*
 by_cases h4:k=44
 ·have HE:Hid (V=decide (0<s/8)):=Jnv (by rw[HV.out,decide_eq_true h4];rfl)
  obtain rfl:=h4
  clear HV
  go_enter Tryz.func92,Tryz.ntmps92
  go_wp2_with fail
  refine Calls.later (HS.out _ (HR.out.alloc _)) ?_
  intro x
  go_wp2_with fail
  go_ret
  refine .mk (JL ?_) (Jnn (Below.all (Jny _ _) _))
  rw[HE.out]
 ·have HE:Hid (V=false):=Jnv (by rw[HV.out,decide_eq_false h4];rfl)
  have h4':(k==44)=false:=by simpa using h4
  clear HV h4
  go_enter Tryz.func92,Tryz.ntmps92
  go_wp2_with fail
  refine Calls.later (HS.out _ (HR.out.alloc _)) ?_
  intro x
  go_wp2_with fail
  go_ret
  refine .mk (JL HE.out.symm) (Jnn (Below.all (Jny _ _) _))
open Go.RowKit Bits
theorem Jdp {w:World}{b n:Nat}{cs cs':Array Value}{t:TypeId}{fr:Nat×Nat}(h:w.heap[b]? =some (.cells cs t fr))(hs:cs'.size=n:=by rfl):Jc (w.setRow b cs') b 0 n=cs':=by
 rw[Jn _ _ _ _ _ _ _ (setRow_heap _ _ _ _ _ _ h)];subst hs;simp
open Go.RowKit Bits
structure SxH where
 cls:Int
 flow:Int
 len:Int
 nxt:Int
 hops:Int
 src:List Int
 dst:List Int
structure Jm5 (h:SxH):Prop where
 cls:0≤h.cls∧h.cls<256
 flow:0≤h.flow∧h.flow<4294967296
 len:0≤h.len∧h.len<65536
 nxt:0≤h.nxt∧h.nxt<256
 hops:0≤h.hops∧h.hops<256
 src:h.src.length=16∧Jm h.src
 dst:h.dst.length=16∧Jm h.dst
def sxF (c f l n o:Int)(S D:Nat→Int):Array Value:=(JnP c (.int .u32 f) (.int .u16 l) n o S D)
def sxV (h:SxH):Array Value:=sxF h.cls h.flow h.len h.nxt h.hops (fun i=>h.src.getD i 0) (fun i=>h.dst.getD i 0)
def Z6 (h:SxH):Int:=if h.flow<1048576 then 0 else 51
def Jfo (h:SxH):List Int:=be4 (1610612736+h.cls*1048576+h.flow)++be2 h.len++[h.nxt,h.hops]++h.src++h.dst
def Jdq (h:SxH):List Int:=if h.flow<1048576 then Jfo h else []
structure Jhg (w:World)(b0:Nat)(ob:Obj)(p:Nat)(y:World)(L:List Int):Prop where
 wr:Wr y p L
 box:y.heap[b0]? =some ob
 out:Below w.heap.size w y
 lo:w.heap.size≤b0
 lt0:b0<p
theorem Jhg.below {w:World}{b0:Nat}{ob:Obj}{p:Nat}{y y':World}{L:List Int}(h:Jhg w b0 ob p y L)(hb:Below y.heap.size y y'):Jhg w b0 ob p y' L:=
 ⟨h.wr.below hb,(hb.block _ (Nat.lt_trans h.lt0 h.wr.lt)).trans h.box,Jno h.out hb,h.lo,h.lt0⟩
theorem Jhg.belowP {w:World}{b0:Nat}{ob:Obj}{p:Nat}{y y':World}{L L':List Int}(h:Jhg w b0 ob p y L)(hb:Below p y y')(hw:Wr y' p L'):Jhg w b0 ob p y' L':=
 ⟨hw,(hb.block _ h.lt0).trans h.box,h.out.trans (hb.mono (Nat.le_trans h.lo (Nat.le_of_lt h.lt0))),h.lo,h.lt0⟩
theorem Wr.new {w:World}{p:Nat}(hc:w.cell? ⟨p,0,none⟩=some (.slice none 0 0))(hf:w.frozen? ⟨p,0,none⟩=false)(hlt:p<w.heap.size):Wr w p []:=
 ⟨⟨none,0,hc,JI.nil _ _ _⟩,hf,hlt,by simp⟩
theorem Jgx (v:Int):Jm (be4 v):=Jfa v
theorem Jhh (c f:Int)(hc:0≤c∧c<256)(hf:0≤f∧f<1048576):bits .or .u64 (bits .or .u64 1610612736 (c*1048576)) f=1610612736+c*1048576+f:=by
 obtain⟨a,rfl⟩:∃a:Nat,c=a:=⟨c.toNat,by omega⟩
 obtain⟨b,rfl⟩:∃b:Nat,f=b:=⟨f.toNat,by omega⟩
 have h1:=JaW 28 6 (a*1048576) (by omega) (by omega)
 rw[show(((2^28*6:Nat)):Int)=1610612736 by decide,show((a*1048576:Nat):Int)=(a:Int)*1048576 by omega] at h1
 rw[h1]
 have h2:=JaW 20 (6*256+a) b (by omega) (by omega)
 rw[show((2^20*(6*256+a):Nat):Int)=((2^28*6+a*1048576:Nat):Int) by omega] at h2
 rw[h2];omega
theorem JjK (h:SxH)(w:World)(hk:Jm5 h):Calls Tryz.prog 55 #[.agg (sxV h)] w (Jq w (Jdq h) (Z6 h)):=by
 have HK:=Jnv hk
 have bc:=hk.cls
 have bl:=hk.len
 have bn:=hk.nxt
 have bh:=hk.hops
 have bf:=hk.flow
 have HSR:Hid (∀(y:World) (b:Nat) (t:TypeId),y.heap[b]? =some (.cells (sxV h) t (0,0))→Jj y (some ⟨b,5,none⟩) 16 16 h.src):=Jnv (fun y b t hy=>XB hy 5 16 h.src hk.src.1 hk.src.2 (by decide) (fun j hj=>by
  rcases j with _|_|_|_|_|_|_|_|_|_|_|_|_|_|_|_|j
  all_goals first|rfl|omega))
 have HDR:Hid (∀(y:World) (b:Nat) (t:TypeId),y.heap[b]? =some (.cells (sxV h) t (0,0))→Jj y (some ⟨b,21,none⟩) 16 16 h.dst):=Jnv (fun y b t hy=>XB hy 21 16 h.dst hk.dst.1 hk.dst.2 (by decide) (fun j hj=>by
  rcases j with _|_|_|_|_|_|_|_|_|_|_|_|_|_|_|_|j
  all_goals first|rfl|omega))
 clear hk
 by_cases hfl:h.flow<1048576
 rotate_left
 ·have HF:Hid (Jq w (Jdq h) (Z6 h)=Jq w [] 51):=Jnv (by unfold Jdq Z6;rw[if_neg hfl,if_neg hfl])
  have hd:decide (1048576≤h.flow)=true:=by simp;omega
  clear HK HSR HDR
  unfold sxV
  generalize (fun i=>h.src.getD i 0)=S at*
  generalize (fun i=>h.dst.getD i 0)=D at*
  unfold sxF
  go_enter Tryz.func55,Tryz.ntmps55
  go_wp2_with fail
  go_ret2
  show Jq w (Jdq h) (Z6 h) _ _
  rw[HF.out]
  exact⟨none,0,rfl,JI.nil _ _ _,Below.all (Jny _ _) _⟩
 have HF:Hid (Jq w (Jdq h) (Z6 h)=Jq w (Jfo h) 0):=Jnv (by unfold Jdq Z6;rw[if_pos hfl,if_pos hfl])
 have HBY:Hid (Jfo h=be4 (1610612736+h.cls*1048576+h.flow)++be2 h.len++[h.nxt,h.hops]++h.src++h.dst):=Jnv rfl
 have HOR:=Jnv (Jhh h.cls h.flow bc ⟨bf.1,hfl⟩)
 have hd:decide (1048576≤h.flow)=false:=by simp;omega
 obtain⟨ob,hob⟩:∃ob,ob=Obj.cells (sxV h) 118:=⟨_,rfl⟩
 have hbox:(w.alloc (.cells (sxV h) 118)).heap[w.heap.size]? =some (.cells (sxV h) 118 (0,0)):=heap_alloc_new w _
 have ST0:Hid (Jhg w w.heap.size (.cells (sxV h) 118 (0,0)) (w.heap.size+1) ((w.alloc (.cells (sxV h) 118)).alloc (.cells #[JnE] 137)) []):=Jnv ⟨Wr.new (by have:=World.size_alloc w (.cells (sxV h) 118);go_cell) (by go_cell) (by simp),(heap_alloc_old _ _ (by simp)).trans hbox,Below.all (Below.all (Jny _ _) _) _,JnA _,by omega⟩
 clear hbox hob
 clear ob
 unfold sxV at*
 generalize (fun i=>h.src.getD i 0)=S at*
 generalize (fun i=>h.dst.getD i 0)=D at*
 unfold sxF at*
 go_enter Tryz.func55,Tryz.ntmps55
 go_wp2_with fail
 rw[HOR.out]
 generalize hy0:((w.alloc (.cells (JnP (.int .u8 h.cls) (.int .u32 h.flow) (.int .u16 h.len) (.int .u8 h.nxt) (.int .u8 h.hops) S D) 118)).alloc (.cells #[JnE] 137))=y0 at*
 clear hy0
 refine Jnx (JkF _ [] _ (by omega) (by omega) _ ST0.out.wr (by decide)) ?_
 rintro e y1 ⟨rfl,hw1,hb1⟩
 have ST1:=Jnv (ST0.out.belowP hb1 hw1)
 have hr:=ST1.out.box
 have hc2:y1.cell? ⟨w.heap.size,2,none⟩=some (.int .u16 h.len):=cell_of_row _ _ 2 _ _ (0,0) hr
 clear hr hb1 hw1 ST0
 go_wp2_with fail
 refine Jnx (JkH _ _ _ (by omega) (by omega) _ ST1.out.wr (by simp[be4])) ?_
 rintro e y2 ⟨rfl,hw2,hb2⟩
 have ST2:=Jnv (ST1.out.belowP hb2 hw2)
 have hr:=ST2.out.box
 have hc3:y2.cell? ⟨w.heap.size,3,none⟩=some (.int .u8 h.nxt):=cell_of_row _ _ 3 _ _ (0,0) hr
 have hc4:y2.cell? ⟨w.heap.size,4,none⟩=some (.int .u8 h.hops):=cell_of_row _ _ 4 _ _ (0,0) hr
 clear hr hb2 hw2 ST1 hc2
 have hlt2:w.heap.size+1<y2.heap.size:=ST2.out.wr.lt
 go_wp2_with fail
 have HRL:=Jnv (XB (heap_alloc_new y2 (.cells #[.int .u8 h.nxt,.int .u8 h.hops] 5)) 0 2 [h.nxt,h.hops] rfl (by intro v hv;simp only[List.mem_cons,List.not_mem_nil,or_false] at hv;rcases hv with rfl|rfl;exact bn;exact bh) (by decide) (fun j hj=>by
  rcases j with _|_|j
  ·rfl
  ·rfl
  ·omega))
 have st2:=ST2.out.below (Below.all (Jny _ _) (.cells #[.int .u8 h.nxt,.int .u8 h.hops] 5))
 refine Jnx (Jdh _ _ _ _ _ [h.nxt,h.hops] _ st2.wr HRL.out (by simp[be4,be2])) ?_
 rintro e y3 ⟨rfl,hw3,hb3⟩
 have ST3:=Jnv (st2.belowP hb3 hw3)
 clear hb3 hw3 ST2 st2 hc3 hc4 hlt2 HRL
 go_wp2_with fail
 refine Jnx (Jdh _ _ _ _ _ h.src _ ST3.out.wr (HSR.out _ _ _ ST3.out.box) (by simp[be4,be2,HK.out.src.1])) ?_
 rintro e y4 ⟨rfl,hw4,hb4⟩
 have ST4:=Jnv (ST3.out.belowP hb4 hw4)
 clear hb4 hw4 ST3
 go_wp2_with fail
 refine Jnx (Jdh _ _ _ _ _ h.dst _ ST4.out.wr (HDR.out _ _ _ ST4.out.box) (by simp[be4,be2,HK.out.src.1,HK.out.dst.1])) ?_
 rintro e y5 ⟨rfl,hw5,hb5⟩
 have ST5:=Jnv (ST4.out.belowP hb5 hw5)
 clear hb5 hw5 ST4
 go_wp2_with fail
 refine Jnx (Bits.bytes_any _ _ _ ST5.out.wr (by simp[be4,be2,HK.out.src.1,HK.out.dst.1])) ?_
 rintro e y6 ⟨oa,cap,rfl,ho,hb⟩
 have HO:=Jnv (ho.mono ST5.out.out.size)
 have HB:Hid (Below w.heap.size w y6):=Jnv (Jno ST5.out.out hb)
 clear ho hb ST5
 rw[List.nil_append,←HBY.out] at HO⊢
 generalize hlf:(Jfo h).length=lf at*
 go_wp2_with fail
 go_ret2
 show Jq w (Jdq h) (Z6 h) _ _
 rw[HF.out]
 exact⟨oa,cap,by rw[hlf];rfl,by rw[hlf];exact HO.out,HB.out⟩
open Go.RowKit Bits
theorem JcA {w:World}{g off n cap:Nat}{l:List Int}(h:Jj w (some ⟨g,off,none⟩) n cap l)(i m:Nat)(hm:i+m≤n)(hp:0<n):Jc w g (off+i) m=((List.range m).map fun k=>Value.int .u8 (l.getD (i+k) 0)).toArray:=by
 obtain⟨g',off',e,hlt,hc⟩:=h.here hp
 cases e
 unfold Jc
 cases hh:w.heap[g]? with
 |none=>have:=hc 0 (by omega);simp[World.cell?,hh] at this
 |some ob=>
  cases ob with
  |cells cs t fr=>
   simp only
   have hg:∀k,k<m→cs[off+(i+k)]? =some (.int .u8 (l.getD (i+k) 0)):=fun k hk=>by
    rw[←cell_of_row w g (off+(i+k)) cs t fr hh];exact hc (i+k) (by omega)
   apply Array.ext_getElem?
   intro j
   rw[Array.getElem?_extract]
   by_cases hj:j<m
   ·have hjj:=hg j hj
    have hs:off+(i+j)<cs.size:=(Jnw hjj).1
    rw[←Nat.add_assoc] at hjj hs
    rw[if_pos (by omega),hjj]
    simp[hj]
   ·rw[if_neg (by omega)]
    simp[hj]
  |_=>have:=hc 0 (by omega);simp[World.cell?,hh] at this
theorem Jdr {P:Program}(t e:TypeId)(ht:P.underlying t=some (.array 16 e))(a:Option Addr)(n c:Nat)(h:16≤n)(w:World):(Instr.arrayAt t (.slice a n c)).run P w=.ok (.pointer a) w:=by
 have h':¬n<16:=by omega
 simp[Instr.arrayAt,Sem.run_bind,run_underlying ht,h',Result.andThen]
def sxZ:Array Value:=sxF 0 0 0 0 0 (fun _=>0) (fun _=>0)
def sxA (l:List Int):Array Value:=sxF (w4 l 0/1048576%256) (w4 l 0%1048576) (w2 l 4) (l.getD 6 0) (l.getD 7 0) (atB l 8) (atB l 24)
def sxR (l:List Int):Value:=if ZR l=0 then .tuple #[.agg (sxA l),.int .i64 0] else .tuple #[.agg sxZ,.int .i64 (ZR l)]
theorem Jhi {w w':World}{l:List Int}{err:Int}{tmps:Array Value}(b:Nat)(cs:Array Value)(hp:tmps.getD 2 undef=.pointer (some ⟨b,0,none⟩))(h3:tmps.getD 3 undef=.int .i64 err)(hc:Jc w' b 0 37=cs)(hs:cs.size=37)(hv:sxR l=.tuple #[.agg cs,.int .i64 err])(hb:Below w.heap.size w w'):
 bodyPost Tryz.prog Tryz.f114 (Jk w (sxR l)) .ret { tmps:=tmps,defers:=[] } w':=
 bodyPost_ret (v:=.tuple #[.agg cs,.int .i64 err]) (QF rfl _ _ b 37 _ _ Tryz.underlying118 rfl JhJ hp h3 cs hc hs) rfl (.mk hv.symm hb)
theorem Jhj (oa:Option Addr)(n cap:Nat)(l:List Int)(w:World)(hr:Jj w oa n cap l)(hn2:n≤100000):
 Calls Tryz.prog 114 #[.slice oa n cap] w (Jk w (sxR l)):=by
 have hlen:=hr.len
 have HR:=Jnv hr
 have HB:=Jnv (Below.all (Jny w.heap.size w) (.cells sxZ 118))
 have hbx:(w.alloc (.cells sxZ 118)).heap[w.heap.size]? =some (.cells sxZ 118 (0,0)):=heap_alloc_new w _
 have HC:=Jnv hbx
 clear hbx
 by_cases h40:n<40
 ·have h40':decide ((n:Int)<40)=true:=by simp;omega
  have HE:Hid (sxR l=.tuple #[.agg sxZ,.int .i64 10]):=Jnv (by unfold sxR ZR;rw[hlen,if_pos h40,if_neg (by decide)])
  unfold sxZ sxF at HB HC
  clear hr
  go_enter Tryz.func114,Tryz.ntmps114
  go_wp2_with fail
  exact Jhi w.heap.size sxZ rfl rfl (by rw[Jn _ _ _ _ _ _ _ HC.out];rfl) rfl HE.out HB.out
 have h40':decide ((n:Int)<40)=false:=by simp;omega
 obtain⟨g,off,rfl,hgl,hc⟩:=hr.here (by omega)
 have hb4:=Jls hr.byte 0
 have hb2:=Zd hr.byte 4
 have HG4:Hid (∀w1,Jj w1 (some ⟨g,off,none⟩) n cap l→Calls Tryz.prog 81 #[.slice (some ⟨g,off,none⟩) n cap,.int .i64 0,.int .i64 4] w1 (Jk w1 (.tuple #[.int .u64 (w4 l 0),.int .i64 0]))):=Jnv (fun w1 h1=>by
  have:=get_ok (some ⟨g,off,none⟩) n cap l 0 4 w1 h1 (by decide) (by decide) (by omega) (by omega)
  rwa [Jcf l 0 (by omega)] at this)
 have HG2:Hid (∀w1,Jj w1 (some ⟨g,off,none⟩) n cap l→Calls Tryz.prog 81 #[.slice (some ⟨g,off,none⟩) n cap,.int .i64 4,.int .i64 2] w1 (Jk w1 (.tuple #[.int .u64 (w2 l 4),.int .i64 0]))):=Jnv (fun w1 h1=>by
  have:=get_ok (some ⟨g,off,none⟩) n cap l 4 2 w1 h1 (by decide) (by decide) (by omega) (by omega)
  rwa [QM l 4 (by omega)] at this)
 have HER:Hid (ZR l=if w4 l 0/268435456≠6 then 50 else 0):=Jnv (by unfold ZR;rw[hlen,if_neg h40])
 have HA:Hid (sxA l=sxF (w4 l 0/1048576%256) (w4 l 0%1048576) (w2 l 4) (l.getD 6 0) (l.getD 7 0) (atB l 8) (atB l 24)):=Jnv rfl
 have HP8:Hid (∀w1,Jj w1 (some ⟨g,off,none⟩) n cap l→Jc w1 g (off+8) 16=(Jn8 (.int .u8 (atB l 8 0)) (.int .u8 (atB l 8 1)) (.int .u8 (atB l 8 2)) (.int .u8 (atB l 8 3)) (.int .u8 (atB l 8 4)) (.int .u8 (atB l 8 5)) (.int .u8 (atB l 8 6)) (.int .u8 (atB l 8 7)) (.int .u8 (atB l 8 8)) (.int .u8 (atB l 8 9)) (.int .u8 (atB l 8 10)) (.int .u8 (atB l 8 11)) (.int .u8 (atB l 8 12)) (.int .u8 (atB l 8 13)) (.int .u8 (atB l 8 14)) (.int .u8 (atB l 8 15)):Array Value)):=Jnv (fun w1 h1=>JcA h1 8 16 (by omega) (by omega))
 have HP24:Hid (∀w1,Jj w1 (some ⟨g,off,none⟩) n cap l→Jc w1 g (off+24) 16=(Jn8 (.int .u8 (atB l 24 0)) (.int .u8 (atB l 24 1)) (.int .u8 (atB l 24 2)) (.int .u8 (atB l 24 3)) (.int .u8 (atB l 24 4)) (.int .u8 (atB l 24 5)) (.int .u8 (atB l 24 6)) (.int .u8 (atB l 24 7)) (.int .u8 (atB l 24 8)) (.int .u8 (atB l 24 9)) (.int .u8 (atB l 24 10)) (.int .u8 (atB l 24 11)) (.int .u8 (atB l 24 12)) (.int .u8 (atB l 24 13)) (.int .u8 (atB l 24 14)) (.int .u8 (atB l 24 15)):Array Value)):=Jnv (fun w1 h1=>JcA h1 24 16 (by omega) (by omega))
 obtain⟨b6,e6⟩:∃v,l.getD 6 0=v:=⟨_,rfl⟩
 obtain⟨b7,e7⟩:∃v,l.getD 7 0=v:=⟨_,rfl⟩
 have HB6:=Jnv e6
 have HB7:=Jnv e7
 rw[e6,e7] at HA
 clear e6 e7
 obtain⟨v4,e4⟩:∃v,w4 l 0=v:=⟨_,rfl⟩
 obtain⟨v2,e2⟩:∃v,w2 l 4=v:=⟨_,rfl⟩
 rw[e4] at hb4 HG4 HER HA
 rw[e2] at hb2 HG2 HA
 generalize atB l 8=S at*
 generalize atB l 24=D at*
 have hand:=Jfl v4 20 hb4.1 (by omega) (by omega)
 rw[show(((2^20-1:Nat)):Int)=1048575 from rfl,show(((2^20:Nat)):Int)=1048576 from rfl] at hand
 unfold sxZ sxF at HB HC
 have HR0:=Jnv (HR.out.alloc (.cells Joq 118))
 clear hr hc e4 e2
 go_enter Tryz.func114,Tryz.ntmps114
 go_wp2_with fail
 generalize (w.alloc (.cells Joq 118))=y0 at*
 refine Jnx (HG4.out _ HR0.out) ?_
 rintro e y1 ⟨rfl,hb⟩
 have HR1:=Jnv (HR0.out.below hb)
 have HB1:=Jnv (Jno HB.out hb)
 have HC1:=Jnv ((hb.block _ (Jnw HC.out).1).trans HC.out)
 clear hb HB HC HR0 HG4
 go_wp2_with fail
 refine Jnx (HG2.out _ HR1.out) ?_
 rintro e y2 ⟨rfl,hb⟩
 have HR2:=Jnv (HR1.out.below hb)
 have HB2:=Jnv (Jno HB1.out hb)
 have HC2:=Jnv ((hb.block _ (Jnw HC1.out).1).trans HC1.out)
 clear hb HB1 HC1 HR1 HG2
 have hrf:Jl y2 w.heap.size 37=true:=by rw[Jd _ _ _ _ _ HC2.out];rfl
 by_cases h6:v4/268435456=6
 rotate_left
 ·have h6':(v4/268435456 != 6)=true:=by simpa using h6
  have HE:Hid (sxR l=.tuple #[.agg sxZ,.int .i64 50]):=Jnv (by unfold sxR;rw[HER.out,if_pos h6,if_neg (by decide)])
  go_wp2_with fail
  exact Jhi w.heap.size sxZ rfl rfl (Jdp HC2.out) rfl HE.out (below_setRow HB2.out (JnA _) _)
 have h6':(v4/268435456 != 6)=false:=by simpa using h6
 have HE:Hid (sxR l=.tuple #[.agg (sxA l),.int .i64 0]):=Jnv (by
  have e0:ZR l=0:=by rw[HER.out];simp[h6]
  unfold sxR;rw[if_pos e0])
 clear HER
 have hle:=HR2.out.le
 have hs1:=fun w=>Qm (P:=Tryz.prog) 22 (some ⟨g,off,none⟩) n cap 1 elemBytes sizeBytes 8 24 8 24 rfl rfl (by omega) (by omega) w
 have hs2:=fun w=>Qm (P:=Tryz.prog) 22 (some ⟨g,off,none⟩) n cap 1 elemBytes sizeBytes 24 40 24 40 rfl rfl (by omega) (by omega) w
 rw[show Jp (some ⟨g,off,none⟩) 8 cap 1=some ⟨g,off+8,none⟩ by unfold Jp;rw[if_neg (by omega)];rfl] at hs1
 rw[show Jp (some ⟨g,off,none⟩) 24 cap 1=some ⟨g,off+24,none⟩ by unfold Jp;rw[if_neg (by omega)];rfl] at hs2
 have harr8:=Jdr (P:=Tryz.prog) 25 _ Tryz.underlying25 (some ⟨g,off+8,none⟩) 16 (cap-8) (by omega)
 have harr24:=Jdr (P:=Tryz.prog) 25 _ Tryz.underlying25 (some ⟨g,off+24,none⟩) 16 (cap-24) (by omega)
 clear hle
 go_wp2_with fail
 refine Zz 23 (by kernel_rfl) (by kernel_rfl) ?_
 obtain⟨g',off',hop,hgx,hcx⟩:=HR2.out.here (by omega)
 cases hop
 have hc6:=hcx 6 (by omega)
 have hc7:=hcx 7 (by omega)
 rw[HB6.out] at hc6
 rw[HB7.out] at hc7
 have hp8:=HP8.out y2 HR2.out
 have hp24:=HP24.out y2 HR2.out
 clear hcx
 simp only[List.take_succ_cons,List.take_zero]
 repeat go_big_quiet_step (fail)
 refine wpQuiet_nil ?_
 intro x
 simp only[List.drop_succ_cons,List.drop_zero]
 have HB3:=Jnv (Jno HB2.out x.below)
 have HC3:=Jnv ((x.below.block _ (Jnw HC2.out).1).trans HC2.out)
 clear hs1 hs2 harr8 harr24 hc6 hc7 hp8 hp24 HB2 HC2 hrf HR2 hand
 have hrf:Jl x.world w.heap.size 37=true:=by rw[Jd _ _ _ _ _ HC3.out];rfl
 generalize x.world=y3 at*
 go_wp2_with fail
 exact Jhi w.heap.size (sxA l) rfl rfl (by rw[HA.out];exact Jdp HC3.out) rfl HE.out (below_setRow HB3.out (JnA _) _)
end
end Go.Proofs.YtkgjbipfhhjlpaaGreatDoor
