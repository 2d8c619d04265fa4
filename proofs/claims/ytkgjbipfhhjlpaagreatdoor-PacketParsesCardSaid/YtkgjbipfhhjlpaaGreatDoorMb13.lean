import Derived.Test.YtkgjbipfhhjlpaaGreatDoorMb12
set_option linter.unusedVariables false
set_option linter.unusedSimpArgs false
set_option maxRecDepth 100000
set_option maxHeartbeats 32000000
namespace Go.Proofs.YtkgjbipfhhjlpaaGreatDoor
section
open Go.RowKit
section
variable {P:Program} {ops:Array Oper} {md:Region.Mode}
theorem Jv.of_same {C:World→Prop}{C':Value→World→Prop}{o:Oper}{a a':Act}(h:Jv P ops C C' o a)(he:execOp a'.eval o=execOp a.eval o)(hw:Region.wanted o (yielded ops a'.tmps)=Region.wanted o (yielded ops a.tmps)):Jv P ops C C' o a':=by
 unfold Jv at*;rw[he,hw];exact h
abbrev FC:=Option Nat→World→Prop
def wpZ (P:Program)(md:Region.Mode)(ops:Array Oper)(hd sq:List Nat)(f:Nat)(ob:Obj)(G:Nat→World→Prop)(top:List Nat)(Q:Exit→Act→World→Prop):Nat→Nat→FC→Option Nat→Array Bool→Act→Prop
 |0,k,C,fl,listed,a=>Region.ready md ops listed=[]∧∀w,C fl w→Q .normal a w
 |n+1,k,C,fl,listed,a=>Region.ready md ops listed≠[]∧∀i∈Region.ready md ops listed,∀oi,ops[i]? =some oi→
  ((i∈hd∧∃v,YieldsIn P ops (C fl) oi v a∧wpZ P md ops hd sq f ob G top Q n k C fl (listed.setIfInBounds i true) (a.put oi.dst v))∨
   (sq[k]? =some i∧∃C':Value→FC,Jv P ops (C fl) (fun v w=>C' v fl w) oi a∧(∀v fl,JkL G top (k+1) (C' v fl))∧∀v,(∃w,C' v fl w)→wpZ P md ops hd sq f ob G top Q n (k+1) (C' v) fl (listed.setIfInBounds i true) (a.put oi.dst v))∨
   (i=f∧f∉sq∧fl=none∧Jhs P ops oi ob∧(∀w,C none w→C (some w.heap.size) (w.alloc ob))∧∀b,wpZ P md ops hd sq f ob G top Q n k C (some b) (listed.setIfInBounds i true) (a.put oi.dst (Q6 b))))
theorem XY {hd sq:List Nat}{f:Nat}{ob:Obj}{G:Nat→World→Prop}{top:List Nat}{Q':Exit→Act→World→Prop}:
 ∀(n k:Nat) (C:FC) (fl:Option Nat) (listed:Array Bool) (a:Act) (w:World),C fl w→wpZ P md ops hd sq f ob G top Q' n k C fl listed a→wpAny P md ops Q' n listed a w
 |0,k,C,fl,listed,a,w,hw,h=>⟨h.1,h.2 w hw⟩
 |n+1,k,C,fl,listed,a,w,hw,h=>by
  refine⟨fun h0=>absurd h0 h.1,fun i hi=>?_⟩
  obtain⟨_,oi,hoi,_⟩:=mem_ready.1 hi
  rcases h.2 i hi oi hoi with ⟨-,v,hy,hk⟩|⟨-,C',⟨hm,ht⟩,-,hk⟩|⟨-,-,rfl,hm,hC,hk⟩
  ·refine wpOp_of_qOp (C:=C fl) (K:=fun a'=>a'=a.put oi.dst v) hw (fun a' w'' hw'' ha=>?_) (hy.qOp hoi rfl)
   subst ha
   exact XY n k C fl _ _ _ hw'' hk
  ·unfold wpOp
   simp only[hoi,hm,if_true]
   refine .inl ?_
   unfold Oper.wp
   rcases ht w hw with ⟨v,w2,hw2,hr⟩|⟨f',args,hr,hc⟩
   ·rcases hr with hr|⟨hr,rfl⟩
    ·rw[hr];exact XY n (k+1) _ fl _ _ _ hw2 (hk v ⟨w2,hw2⟩)
    ·rw[hr];exact XY n (k+1) _ fl _ _ _ hw2 (hk undef ⟨w2,hw2⟩)
   ·rw[hr,Oper.upon_enter]
    refine hc.mono ?_
    rintro e w2 ⟨v,rfl,hw2⟩
    exact XY n (k+1) _ fl _ _ _ hw2 (hk v ⟨w2,hw2⟩)
  ·unfold wpOp
   simp only[hoi,hm.wanted a,if_true]
   refine .inl ?_
   unfold Oper.wp
   rw[hm.run]
   exact XY n k C _ _ _ _ (hC w hw) (hk _)
theorem QM.other {sq:List Nat}{k i:Nat}{listed:Array Bool}(inv:QM md ops sq k listed)(hi:i∈Region.ready md ops listed)(hns:i∉sq):QM md ops sq k (listed.setIfInBounds i true):=by
 obtain⟨_,oi,hoi,hall⟩:=mem_ready.1 hi
 refine⟨by simp[inv.size],fun j oj hj hl e he hb=>?_,fun k' t ht hs=>?_,fun k' t ht hs=>getD_set_true (inv.done k' t ht hs)⟩
 ·by_cases hij:i=j
  ·subst hij
   obtain rfl:oj=oi:=Option.some.inj (hj.symm.trans hoi)
   exact getD_set_true (hall e he hb)
  ·rw[getD_set_ne false hij] at hl
   exact getD_set_true (inv.closed j oj hj hl e he hb)
 ·rw[getD_set_ne true (fun h=>hns (by rw[h];exact List.mem_of_getElem? hs))]
  exact inv.open' k' t ht hs
theorem QM.row2 {sq:List Nat}(once:∀k k' t:Nat,sq[k]? =some t→sq[k']? =some t→k=k'){k i:Nat}{listed:Array Bool}(inv:QM md ops sq k listed)(hi:i∈Region.ready md ops listed)(hk:sq[k]? =some i):QM md ops sq (k+1) (listed.setIfInBounds i true):=by
 obtain⟨_,oi,hoi,hall⟩:=mem_ready.1 hi
 have hlt:i<ops.size:=(Jpb hoi).1
 refine⟨by simp[inv.size],fun j oj hj hl e he hb=>?_,fun k' t ht hs=>?_,fun k' t ht hs=>?_⟩
 ·by_cases hij:i=j
  ·subst hij
   obtain rfl:oj=oi:=Option.some.inj (hj.symm.trans hoi)
   exact getD_set_true (hall e he hb)
  ·rw[getD_set_ne false hij] at hl
   exact getD_set_true (inv.closed j oj hj hl e he hb)
 ·rw[getD_set_ne true (fun h=>by subst h;have:=once k k' i hk hs;omega)]
  exact inv.open' k' t (by omega) hs
 ·by_cases h:t=i
  ·subst h;have:=inv.size;simp;omega
  ·refine getD_set_true (inv.done k' t ?_ hs)
   rcases Nat.lt_or_ge k' k with h'|h'
   ·exact h'
   ·have:k'=k:=by omega
    subst this;rw[hk] at hs;exact absurd (Option.some.inj hs).symm h
theorem Jd3 {hd sq:List Nat}{f:Nat}{ob:Obj}{G:Nat→World→Prop}{top:List Nat}{Q:Exit→Act→World→Prop}{i:Nat}{oi:Oper}{v:Value}{a0:Act}(hi:ops[i]? =some oi)(hsel:∀(j:Nat) (o:Oper) cs b,ops[j]? =some o→o.op≠ .select cs b)
 (once:∀k k' t:Nat,sq[k]? =some t→sq[k']? =some t→k=k')(hap:∀j∈hd,j∉sq)(hin:i∈hd)(Inv:Nat→FC→Prop)
 (hInv:∀k C,Inv k C→∀fl a',execOp a'.eval oi=execOp a0.eval oi→Region.wanted oi (yielded ops a'.tmps)=Region.wanted oi (yielded ops a0.tmps)→YieldsIn P ops (C fl) oi v a')
 (hstep:∀k C C' listed j,Inv k C→QM md ops sq k listed→listed.getD i true=false→j∈Region.ready md ops listed→sq[k]? =some j→(∀fl,JkL G top (k+1) (C' fl))→Inv (k+1) C'):
 ∀(n k:Nat) (C:FC) (fl:Option Nat) (listed:Array Bool) (a:Act),Inv k C→QM md ops sq k listed→
  (∀j oj,ops[j]? =some oj→j≠i→listed.getD j true=false→(∀e∈oj.after,Region.binds md e=true→e.on≠i)→oi.apart ops oj=true)→
  i∈Region.ready md ops listed→execOp a.eval oi=execOp a0.eval oi→Region.wanted oi (yielded ops a.tmps)=Region.wanted oi (yielded ops a0.tmps)→
  wpZ P md ops hd sq f ob G top Q n k C fl (listed.setIfInBounds i true) (a.put oi.dst v)→wpZ P md ops hd sq f ob G top Q (n+1) k C fl listed a:=by
 intro n
 induction n with
 |zero=>
  intro k C fl listed a hk inv _ hr e1 e2 H
  refine⟨fun h=>(by rw[h] at hr;cases hr),fun j hj oj hoj=>?_⟩
  by_cases hji:j=i
  ·subst hji
   obtain rfl:oi=oj:=Option.some.inj (hi.symm.trans hoj)
   exact .inl ⟨hin,v,hInv k C hk fl a e1 e2,H⟩
  ·have h:=ready_mono hj hji
   rw[H.1] at h
   cases h
 |succ n ih=>
  intro k C fl listed a hk inv hfree hr e1 e2 H
  have hun:=(mem_ready.1 hr).1
  refine⟨fun h=>(by rw[h] at hr;cases hr),fun j hj oj hoj=>?_⟩
  by_cases hji:j=i
  ·subst hji
   obtain rfl:oi=oj:=Option.some.inj (hi.symm.trans hoj)
   exact .inl ⟨hin,v,hInv k C hk fl a e1 e2,H⟩
  ·have HJ:=H.2 j (ready_mono hj hji) oj hoj
   obtain⟨hjun,oj',hoj',hall⟩:=mem_ready.1 hj
   obtain rfl:oj=oj':=Option.some.inj (hoj.symm.trans hoj')
   have hnot:∀e∈oj.after,Region.binds md e=true→e.on≠i:=fun e he hb heq=>by
    have h1:=hall e he hb
    rw[heq,getD_both hun] at h1
    cases h1
   obtain⟨ap1,ap2,ap3⟩:=Oper.apart_spec (hfree j oj hoj hji hjun hnot)
   have hfree':∀k ok,ops[k]? =some ok→k≠i→(listed.setIfInBounds j true).getD k true=false→
    (∀e∈ok.after,Region.binds md e=true→e.on≠i)→oi.apart ops ok=true:=fun k ok hk hki hun hno=>by
    refine hfree k ok hk hki ?_ hno
    by_cases hjk:j=k
    ·subst hjk;exact hjun
    ·rw[getD_set_ne true hjk] at hun;exact hun
   have hs2:=fun u=>(execOp_put oi (fun cs b=>hsel i oi cs b hi) a oj.dst u ap3).trans e1
   have hw2:=fun u=>(wanted_put oi a oj.dst u ap3).trans e2
   have hsj:=fun cs b=>hsel j oj cs b hoj
   have go:∀k' C' fl' u,Inv k' C'→QM md ops sq k' (listed.setIfInBounds j true)→wpZ P md ops hd sq f ob G top Q n k' C' fl' ((listed.setIfInBounds i true).setIfInBounds j true) ((a.put oi.dst v).put oj.dst u)→
    wpZ P md ops hd sq f ob G top Q (n+1) k' C' fl' (listed.setIfInBounds j true) (a.put oj.dst u):=fun k' C' fl' u h1 h2 h3=>by
    refine ih k' C' fl' (listed.setIfInBounds j true) (a.put oj.dst u) h1 h2 hfree' (ready_mono hr (Ne.symm hji)) (hs2 u) (hw2 u) ?_
    rw[Array.setIfInBounds_comm _ _ hji,←Act.put_comm a v u ap2]
    exact h3
   rcases HJ with ⟨hjn,u,hu,hK⟩|⟨hjk,C',hu,hkept,hK⟩|⟨hjf,hfs,hfl,hM,hC,hK⟩
   ·exact .inl ⟨hjn,u,Jo9 hsj hu ap1,go k C fl u hk (inv.other hj (hap j hjn)) hK⟩
   ·exact .inr (.inl ⟨hjk,C',hu.of_unput hsj ap1,hkept,fun u hex=>go (k+1) (C' u) fl u (hstep k C (C' u) listed j hk inv hun hj hjk (fun fl=>hkept u fl)) (inv.row2 once hj hjk) (hK u hex)⟩)
   ·subst hjf
    refine .inr (.inr ⟨rfl,hfs,hfl,hM,hC,fun b=>go k C (some b) _ hk (inv.other hj hfs) (hK b)⟩)
def Jou (ob:Obj)(C:FC):Prop:=∀w,C none w→C (some w.heap.size) (w.alloc ob)
def JbD (P:Program)(ops:Array Oper)(o:Oper)(v:Value)(a:Act):Prop:=Region.wanted o (yielded ops a.tmps)=true∧∀w,(execOp a.eval o).run P w=.ok (.value v) w
theorem JbD.yields {o:Oper}{v:Value}{a:Act}(h:JbD P ops o v a)(C:World→Prop):YieldsIn P ops C o v a:=JaE h.1 fun w _=>h.2 w
theorem JbD.of_same {o:Oper}{v:Value}{a a':Act}(h:JbD P ops o v a)(he:execOp a'.eval o=execOp a.eval o)(hw:Region.wanted o (yielded ops a'.tmps)=Region.wanted o (yielded ops a.tmps)):JbD P ops o v a':=by
 unfold JbD at*;rw[he,hw];exact h
def JaI (P:Program)(ops:Array Oper)(G:Nat→World→Prop)(top:List Nat)(pend:Bool)(F:Option Nat→Prop)(ob:Obj)(E:Nat→FC→Act→Prop):List (Kd×Oper)→Nat→FC→Act→Prop
 |[],k,C,a=>E k C a
 |(.w,o)::rest,k,C,a=>∃C':Value→FC,(∀fl,F fl→Jv P ops (C fl) (fun v w=>C' v fl w) o a)∧(∀v fl,JkL G top (k+1) (C' v fl))∧(pend=true→∀v,Jou ob (C' v))∧∀v,(∃fl w,C' v fl w)→JaI P ops G top pend F ob E rest (k+1) (C' v) (a.put o.dst v)
 |(_,o)::rest,k,C,a=>∃v,JbD P ops o v a∧JaI P ops G top pend F ob E rest k C (a.put o.dst v)
def Jov:Kd→Bool
 | .w=>true
 | .q=>true
 |_=>false
def Jgq (md:Region.Mode)(ops:Array Oper):List (Kd×Nat)→Array Bool→Bool
 |[],_=>true
 |(.w,i)::r,listed=>decide (Region.ready md ops listed=[i])&&Jgq md ops r (listed.setIfInBounds i true)
 |(.q,i)::r,listed=>(Region.ready md ops listed).contains i&&(Region.free md ops listed i&&Jgq md ops r (listed.setIfInBounds i true))
 |_,_=>false
def Zl:List (Kd×Nat)→Nat
 |[]=>0
 |(.w,_)::r=>Zl r+1
 |_::r=>Zl r
def XG:List (Kd×Nat)→List Nat
 |[]=>[]
 |(.w,i)::r=>i::XG r
 |_::r=>XG r
def Zx:List (Kd×Nat)→Array Bool→Array Bool
 |[],listed=>listed
 |(_,i)::r,listed=>Zx r (listed.setIfInBounds i true)
theorem Jb7 {hd sq:List Nat}{f:Nat}{ob:Obj}{G:Nat→World→Prop}{top:List Nat}{Q:Exit→Act→World→Prop}{pend:Bool}{F:Option Nat→Prop}{E:Nat→FC→Act→Prop}{fl:Option Nat}{m:Nat}(hF:F fl)
 (hsel:∀(j:Nat) (o:Oper) cs b,ops[j]? =some o→o.op≠ .select cs b)(once:∀k k' t:Nat,sq[k]? =some t→sq[k']? =some t→k=k')(hap:∀j∈hd,j∉sq):
 ∀(l:List (Kd×Oper)) (is:List (Kd×Nat)) (k:Nat) (C:FC) (listed:Array Bool) (a:Act),is.map (fun p=>ops[p.2]?)=l.map (fun p=>some p.2)→is.map (·.1)=l.map (·.1)→(∀p∈is,p.1=.q→p.2∈hd)→(∀j t,(XG is)[j]? =some t→sq[k+j]? =some t)→QM md ops sq k listed→
 Jgq md ops is listed=true→(∀k' C' a',E k' C' a'→k'=k+Zl is→QM md ops sq k' (Zx is listed)→wpZ P md ops hd sq f ob G top Q m k' C' fl (Zx is listed) a')→
 JaI P ops G top pend F ob E l k C a→wpZ P md ops hd sq f ob G top Q (l.length+m) k C fl listed a
 |[],is,k,C,listed,a,h1,_,_,_,inv,_,hE,h=>by
  cases is with
  |cons i is=>cases h1
  |nil=>rw[List.length_nil,Nat.zero_add];exact hE k C a h rfl inv
 |(kk,o)::l,is,k,C,listed,a,h1,h2,h3,h4,inv,hB,hE,h=>by
  cases is with
  |nil=>cases h1
  |cons q is=>
   obtain⟨kd,i⟩:=q
   simp only[List.map_cons,List.cons.injEq] at h1 h2
   obtain⟨rfl,h2⟩:=h2
   have ha:i∈Region.ready md ops listed:=by
    cases kd<;>simp only[Jgq,Bool.and_eq_true,decide_eq_true_eq] at hB
    ·cases hB
    ·simpa using hB.1
    ·rw[hB.1];simp
    ·cases hB
    ·cases hB
   rw[show((kd,o)::l).length+m=(l.length+m)+1 by simp only[List.length_cons];omega]
   cases kd with
   |h=>cases hB
   |c=>cases hB
   |f=>cases hB
   |q=>
    simp only[Jgq,Bool.and_eq_true] at hB
    obtain⟨v,hv,hk⟩:=h
    have hin:=h3 (.q,i) (by simp) rfl
    refine Jd3 (a0:=a) h1.1 hsel once hap hin (fun _ _=>True) (fun _ _ _ fl a' e1 e2=>(hv.of_same e1 e2).yields _) (fun _ _ _ _ _ _ _ _ _ _ _=>trivial) (l.length+m) k C fl listed a trivial inv (Region.free_spec h1.1 hB.2.1) ha rfl rfl ?_
    exact Jb7 hF hsel once hap l is k C _ _ h1.2 h2 (fun p hp=>h3 p (by simp[hp])) (fun j t ht=>h4 j t ht) (inv.other ha (hap i hin)) hB.2.2 hE hk
   |w=>
    simp only[Jgq,Bool.and_eq_true,decide_eq_true_eq] at hB
    obtain⟨C',e1,e2,e3,e4⟩:=h
    have hk0:sq[k]? =some i:=h4 0 i rfl
    refine⟨by rw[hB.1];simp,fun j hj oj hoj=>?_⟩
    rw[hB.1] at hj
    obtain rfl:j=i:=by simpa using hj
    obtain rfl:o=oj:=Option.some.inj (h1.1.symm.trans hoj)
    refine .inr (.inl ⟨hk0,C',e1 fl hF,e2,fun v hv=>?_⟩)
    obtain⟨w,hw⟩:=hv
    exact Jb7 hF hsel once hap l is (k+1) (C' v) _ _ h1.2 h2 (fun p hp=>h3 p (by simp[hp])) (fun j t ht=>by have:=h4 (j+1) t (by simpa[XG] using ht);rwa [show k+(j+1)=k+1+j by omega] at this) (inv.row2 once ha hk0) hB.2
     (fun k' C' a' hE' hk' hi'=>hE k' C' a' hE' (by simp only[Zl];omega) hi') (e4 v ⟨fl,w,hw⟩)
theorem Jff {G:Nat→World→Prop}{top:List Nat}{F F':Option Nat→Prop}{ob:Obj}{E E':Nat→FC→Act→Prop}{d:Tmp}{x:Value}(hFF:∀fl,F' fl→F fl):∀(l:List (Kd×Oper)) (k:Nat) (C:FC) (a:Act),(∀p∈l,(∀cs b,p.2.op≠ .select cs b)∧d∉p.2.looksAt ops∧p.2.dst≠some d)→
 (∀k' C' a',E k' C' a'→E' k' C' (a'.put (some d) x))→JaI P ops G top true F ob E l k C a→JaI P ops G top false F' ob E' l k C (a.put (some d) x)
 |[],k,C,a,_,hE,h=>hE k C a h
 |(kk,o)::rest,k,C,a,hp,hE,h=>by
  obtain⟨s,p1,p2⟩:=hp (kk,o) (by simp)
  have hap:∀e,some d=some e→e∉o.looksAt ops:=fun e he=>by cases he;exact p1
  have he:=execOp_put o s a (some d) x hap
  have hw:=wanted_put (ops:=ops) o a (some d) x hap
  have hcm:∀v,(a.put (some d) x).put o.dst v=(a.put o.dst v).put (some d) x:=fun v=>Act.put_comm a x v (fun e h1 h2=>p2 (h2.trans h1.symm))
  have ih:=fun v k' C'=>Jff (G:=G) (top:=top) (E:=E) (E':=E') (d:=d) (x:=x) (ob:=ob) hFF rest k' C' (a.put o.dst v) (fun p hp'=>hp p (by simp[hp'])) hE
  cases kk with
  |h=>obtain⟨v,h1,h2⟩:=h;exact⟨v,h1.of_same he hw,by rw[hcm];exact ih v k C h2⟩
  |q=>obtain⟨v,h1,h2⟩:=h;exact⟨v,h1.of_same he hw,by rw[hcm];exact ih v k C h2⟩
  |c=>obtain⟨v,h1,h2⟩:=h;exact⟨v,h1.of_same he hw,by rw[hcm];exact ih v k C h2⟩
  |f=>obtain⟨v,h1,h2⟩:=h;exact⟨v,h1.of_same he hw,by rw[hcm];exact ih v k C h2⟩
  |w=>obtain⟨C',h1,h2,h3,h4⟩:=h;exact⟨C',fun fl hf=>(h1 fl (hFF fl hf)).of_same he hw,h2,fun h=>by simp at h,fun v hv=>by rw[hcm];exact ih v (k+1) (C' v) (h4 v hv)⟩
def Jd4 (md:Region.Mode)(ops:Array Oper)(f:Nat):List (Kd×Nat)→Array Bool→Bool
 |[],listed=>decide (Region.ready md ops listed=[f])
 |(.w,i)::r,listed=>decide (Region.ready md ops listed=[i,f])&&(Jgq md ops ((.w,i)::r) (listed.setIfInBounds f true)&&Jd4 md ops f r (listed.setIfInBounds i true))
 |(.q,i)::r,listed=>(Region.ready md ops listed).contains i&&(Region.free md ops listed i&&Jd4 md ops f r (listed.setIfInBounds i true))
 |_,_=>false
theorem Jc2:∀(l:List (Kd×Nat)) (f:Nat) (listed:Array Bool),(∀p∈l,p.2≠f)→Zx l (listed.setIfInBounds f true)=(Zx l listed).setIfInBounds f true
 |[],_,_,_=>rfl
 |(kd,i)::l,f,listed,h=>by
  simp only[Zx]
  rw[Array.setIfInBounds_comm _ _ (fun e=>h (kd,i) (by simp) e.symm),Jc2 l f _ (fun p hp=>h p (by simp[hp]))]
theorem Jd5 {hd sq:List Nat}{f:Nat}{ob:Obj}{G:Nat→World→Prop}{top:List Nat}{Q:Exit→Act→World→Prop}{E:Nat→FC→Act→Prop}{EF:Nat→Nat→FC→Act→Prop}{of:Oper}{d:Tmp}{m:Nat}(hf:ops[f]? =some of)(hfd:of.dst=some d)(hM:Jhs P ops of ob)(hfs:f∉sq)
 (hsel:∀(j:Nat) (o:Oper) cs b,ops[j]? =some o→o.op≠ .select cs b)(once:∀k k' t:Nat,sq[k]? =some t→sq[k']? =some t→k=k')(hap:∀j∈hd,j∉sq)(hE:∀b k C a,E k C a→EF b k C (a.put (some d) (Q6 b))):
 ∀(l:List (Kd×Oper)) (is:List (Kd×Nat)) (k:Nat) (C:FC) (listed:Array Bool) (a:Act),is.map (fun p=>ops[p.2]?)=l.map (fun p=>some p.2)→is.map (·.1)=l.map (·.1)→(∀p∈is,(p.1=.q→p.2∈hd)∧p.2≠f)→(∀j t,(XG is)[j]? =some t→sq[k+j]? =some t)→QM md ops sq k listed→
 (∀p∈l,(∀cs b,p.2.op≠ .select cs b)∧d∉p.2.looksAt ops∧p.2.dst≠some d)→
 Jd4 md ops f is listed=true→Jou ob C→(∀b k' C' a',EF b k' C' a'→k'=k+Zl is→QM md ops sq k' ((Zx is listed).setIfInBounds f true)→wpZ P md ops hd sq f ob G top Q m k' C' (some b) ((Zx is listed).setIfInBounds f true) a')→
 JaI P ops G top true (fun _=>True) ob E l k C a→wpZ P md ops hd sq f ob G top Q (l.length+(m+1)) k C none listed a
 |[],is,k,C,listed,a,h1,_,_,_,inv,_,hB,hG,hK,h=>by
  cases is with
  |cons i is=>cases h1
  |nil=>
   simp only[Jd4,decide_eq_true_eq] at hB
   rw[List.length_nil,Nat.zero_add]
   refine⟨by rw[hB];simp,fun j hj oj hoj=>?_⟩
   have hjr:=hj
   rw[hB] at hj
   obtain rfl:j=f:=by simpa using hj
   obtain rfl:of=oj:=Option.some.inj (hf.symm.trans hoj)
   refine .inr (.inr ⟨rfl,hfs,rfl,hM,hG,fun b=>?_⟩)
   rw[hfd]
   exact hK b k C _ (hE b k C a h) rfl (inv.other hjr hfs)
 |(kk,o)::l,is,k,C,listed,a,h1,h2,h3,h4,inv,h5,hB,hG,hK,h=>by
  cases is with
  |nil=>cases h1
  |cons q is=>
   obtain⟨kd,i⟩:=q
   have h1a:=h1
   have h2a:=h2
   simp only[List.map_cons,List.cons.injEq] at h1 h2
   obtain⟨rfl,h2⟩:=h2
   rw[show((kd,o)::l).length+(m+1)=(l.length+(m+1))+1 by simp only[List.length_cons];omega]
   cases kd with
   |h=>cases hB
   |c=>cases hB
   |f=>cases hB
   |q=>
    simp only[Jd4,Bool.and_eq_true] at hB
    obtain⟨v,hv,hk⟩:=h
    have hin:=(h3 (.q,i) (by simp)).1 rfl
    have ha:i∈Region.ready md ops listed:=by simpa using hB.1
    refine Jd3 (a0:=a) h1.1 hsel once hap hin (fun _ _=>True) (fun _ _ _ fl a' e1 e2=>(hv.of_same e1 e2).yields _) (fun _ _ _ _ _ _ _ _ _ _ _=>trivial) (l.length+(m+1)) k C none listed a trivial inv (Region.free_spec h1.1 hB.2.1) ha rfl rfl ?_
    exact Jd5 hf hfd hM hfs hsel once hap hE l is k C _ _ h1.2 h2 (fun p hp=>h3 p (by simp[hp])) (fun j t ht=>h4 j t ht) (inv.other ha (hap i hin)) (fun p hp=>h5 p (by simp[hp])) hB.2.2 hG hK hk
   |w=>
    have hall:=h
    simp only[Jd4,Bool.and_eq_true,decide_eq_true_eq] at hB
    obtain⟨hr,hBf,hB'⟩:=hB
    obtain⟨C',e1,e2,e3,e4⟩:=h
    have hk0:sq[k]? =some i:=h4 0 i rfl
    refine⟨by rw[hr];simp,fun j hj oj hoj=>?_⟩
    have hjr:=hj
    rw[hr] at hj
    have hj':j=i∨j=f:=by simpa using hj
    rcases hj' with rfl|rfl
    ·obtain rfl:o=oj:=Option.some.inj (h1.1.symm.trans hoj)
     refine .inr (.inl ⟨hk0,C',e1 none trivial,e2,fun v hv=>?_⟩)
     obtain⟨w,hw⟩:=hv
     exact Jd5 hf hfd hM hfs hsel once hap hE l is (k+1) (C' v) _ _ h1.2 h2 (fun p hp=>h3 p (by simp[hp])) (fun j t ht=>by have:=h4 (j+1) t (by simpa[XG] using ht);rwa [show k+(j+1)=k+1+j by omega] at this) (inv.row2 once hjr hk0) (fun p hp=>h5 p (by simp[hp])) hB' (e3 rfl v)
      (fun b k' C' a' hE' hk' hi'=>hK b k' C' a' hE' (by simp only[Zl];omega) hi') (e4 v ⟨none,w,hw⟩)
    ·obtain rfl:of=oj:=Option.some.inj (hf.symm.trans hoj)
     refine .inr (.inr ⟨rfl,hfs,rfl,hM,hG,fun b=>?_⟩)
     rw[hfd]
     have hne:∀p∈((Kd.w,i)::is),p.2≠j:=fun p hp=>(h3 p hp).2
     have hput:=Jff (F':=fun fl=>fl=some b) (E':=EF b) (d:=d) (x:=Q6 b) (fun _ _=>trivial) ((.w,o)::l) k C a h5 (fun k' C' a'=>hE b k' C' a') hall
     have:=Jb7 (m:=m) (f:=j) (hd:=hd) (sq:=sq) (Q:=Q) (F:=fun fl=>fl=some b) (fl:=some b) rfl hsel once hap ((.w,o)::l) ((.w,i)::is) k C (listed.setIfInBounds j true) _ h1a h2a (fun p hp=>(h3 p hp).1) h4 (inv.other hjr hfs) hBf
      (fun k' C' a' hE' hk' hi'=>by rw[Jc2 _ _ _ hne] at hi'⊢;exact hK b k' C' a' hE' hk' hi') hput
     rw[show((Kd.w,o)::l).length+m=l.length+(m+1) by simp only[List.length_cons];omega] at this
     exact this
theorem JhI {C1 C2:World→Prop}{o:Oper}{a:Act}{w:World}{v:Value}(h:o.quietAt P a C1 w v)(hC:∀w',C1 w'→C2 w'):o.quietAt P a C2 w v:=by
 unfold Oper.quietAt at*
 generalize (execOp a.eval o).run P w=r at*
 cases r with
 |ok n w'=>
  cases n<;>simp only[Oper.quietUpon] at h⊢<;>first|exact h|exact⟨h.1,h.2.mono fun e w'' h'=>⟨h'.1,hC _ h'.2⟩⟩
 |halt x w'=>simp only[Oper.quietUpon] at h
def JaJ (w:World)(ob:Obj):FC:=fun fl w'=>(∃x:Jz w,w'=x.world)∧∀b,fl=some b→w.heap.size≤b∧w'.heap[b]? =some ob
theorem JiG (w:World)(ob:Obj):Jou ob (JaJ w ob):=fun w' h=>by
 obtain⟨⟨x,rfl⟩,-⟩:=h
 exact⟨⟨⟨_,Below.all x.below ob⟩,rfl⟩,fun b hb=>by cases hb;exact⟨x.below.size,heap_alloc_new _ _⟩⟩
theorem JhJ {w:World}{ob:Obj}{fl:Option Nat}{w' w2:World}(h:JaJ w ob fl w')(hb:ZJ w' w2):JaJ w ob fl w2:=by
 obtain⟨⟨x,rfl⟩,h2⟩:=h
 obtain⟨y,rfl⟩:=hb
 refine⟨⟨⟨_,Jo3 x.below y.below⟩,rfl⟩,fun b hb=>⟨(h2 b hb).1,?_⟩⟩
 have:=(h2 b hb).2
 exact(y.below.block b (Jpb this).1).trans this
theorem JhK {w:World}{ob:Obj}{fl:Option Nat}{o:Oper}{v:Value}{a:Act}(h:QG P ops w o v a):YieldsIn P ops (JaJ w ob fl) o v a:=by
 have h0:=h w (Jpd _ _)
 rcases h0 with ⟨hw,-⟩|⟨hw,rfl⟩
 ·refine .inl ⟨hw,fun w' hw'=>?_⟩
  have hx:=hw'.1
  obtain⟨x,rfl⟩:=hx
  rcases h x.world x.below with ⟨-,hq⟩|⟨hf,-⟩
  ·exact JhI (hq _ ⟨⟨_,Jpd _ _⟩,rfl⟩) fun w2 h2=>JhJ hw' h2
  ·rw[hw] at hf;cases hf
 ·exact .inr ⟨hw,rfl⟩
theorem Jgr {hd0 hd sq:List Nat}{f:Nat}{ob:Obj}{w0:World}{G:Nat→World→Prop}{top:List Nat}{Q:Exit→Act→World→Prop}{late grp:Nat→Nat}{aF:Act}{r:Nat}{fl:Option Nat}(hsel:Region.noSelect ops=true)
 (sh:ZK md ops hd0 sq late)(hsub:∀i∈hd0,i∈hd)(hap:∀j∈hd,j∉sq)(hgrp:∀i∈hd0,late i≤top.getD (grp i) 0)
 (hlate:∀i∈hd0,∀oi,ops[i]? =some oi→0<late i→JhB P ops (G (grp i)) oi aF):
 ∀(hs:List Nat) (l:List Oper) (listed:Array Bool) (a:Act),hs.map (fun i=>ops[i]?)=l.map some→(∀i∈hs,i∈hd0)→QM md ops sq 0 listed→Jap a.tmps.size l=true→Zv ops l=true→
 JaF md ops hs listed=true→(QM md ops sq 0 (Xh hs listed)→wpZ P md ops hd sq f ob G top Q r 0 (JaJ w0 ob) fl (Xh hs listed) aF)→(∀w1,Below w0.heap.size w0 w1→wpQuiet P ops (ZJ w1) (fun a'=>a'=aF) l a)→wpZ P md ops hd sq f ob G top Q (hs.length+r) 0 (JaJ w0 ob) fl listed a
 |[],l,listed,a,hl,_,inv,_,_,_,hb,h=>by
  cases l with
  |nil=>
   have h:a=aF:=h w0 (Jpd _ _)
   subst h
   rw[List.length_nil,Nat.zero_add];exact hb inv
  |cons o l=>cases hl
 |i::hs,l,listed,a,hl,hk,inv,hd1,ho,hB,hb,h=>by
  cases l with
  |nil=>cases hl
  |cons o l=>
   simp only[List.map_cons,List.cons.injEq] at hl
   obtain⟨h0,hl'⟩:=hl
   simp only[JaF,Bool.and_eq_true] at hB
   obtain⟨⟨hr,hf⟩,hB'⟩:=hB
   have hin:=hk i (by simp)
   have hr':i∈Region.ready md ops listed:=by simpa using hr
   have hd1':=hd1
   rw[Jap,Bool.and_eq_true] at hd1
   obtain⟨hd1,hd2⟩:=hd1
   rw[Zv,Bool.and_eq_true] at ho
   obtain⟨ho1,ho2⟩:=ho
   have hsame:=Zj (Region.noSelect_spec hsel i o · · h0) (o::l) a (fun p hp d hpd=>by
    have:=List.all_eq_true.1 ho1 p hp
    rw[hpd] at this
    intro hc;simp only[Bool.not_eq_true'] at this;rw[List.contains_iff_mem.2 hc] at this;cases this) (h w0 (Jpd _ _))
   have hfam:=Jht (o::l) a hd1' h
   obtain⟨v,hy,-⟩:=hfam
   have hval:∀{C:World→Prop} {u:Value},wpQuiet P ops C (fun a'=>a'=aF) l (a.put o.dst u)→o.dst.isSome=true→∀d,o.dst=some d→aF.tmps.getD d undef=u:=fun {C u} h _ d hod=>by
    rw[hod] at hd1
    simp only[Bool.and_eq_true,decide_eq_true_eq,List.all_eq_true] at hd1
    have hne:∀p∈l,p.dst≠some d:=fun p hp e=>by have:=hd1.2 p hp;rw[e] at this;simp at this
    have:aF.tmps[d]? =some u:=by
     rw[Zu l _ hne h,hod]
     simp[Act.put,Array.getElem?_setIfInBounds,hd1.1]
    rw[Array.getD_eq_getD_getElem?,this];rfl
   obtain⟨d,hod⟩:∃d,o.dst=some d:=by
    cases ho':o.dst with
    |none=>rw[ho'] at hd1;cases hd1
    |some d=>exact⟨d,rfl⟩
   have H:∀w1,Below w0.heap.size w0 w1→YieldsIn P ops (ZJ w1) o (aF.tmps.getD d undef) a∧wpQuiet P ops (ZJ w1) (fun a'=>a'=aF) l (a.put o.dst (aF.tmps.getD d undef)):=fun w1 hb1=>by
    obtain⟨u,h1,h2⟩:=QV (h w1 hb1)
    have:=hval h2 (by rw[hod];rfl) d hod
    rw[this]
    exact⟨h1,h2⟩
   rw[show(i::hs).length+r=(hs.length+r)+1 by simp only[List.length_cons];omega]
   refine Jd3 (a0:=a) (v:=aF.tmps.getD d undef) h0 (Region.noSelect_spec hsel) sh.once hap (hsub i hin) (fun k C=>k≤late i∧∀fl a',execOp a'.eval o=execOp a.eval o→Region.wanted o (yielded ops a'.tmps)=Region.wanted o (yielded ops a.tmps)→YieldsIn P ops (C fl) o (aF.tmps.getD d undef) a')
    (fun k C hI fl a' e1 e2=>hI.2 fl a' e1 e2) (fun k C C' listed' j hI hinv hun hj hjk hkept=>?_) (hs.length+r) 0 (JaJ w0 ob) fl listed a ⟨Nat.zero_le _,fun fl a' e1 e2=>(JhK (fun w1 hb1=>(H w1 hb1).1)).of_same e1 e2⟩ inv (Region.free_spec h0 hf) hr' rfl rfl
    (Jgr hsel sh hsub hap hgrp hlate hs l _ _ hl' (fun j hj=>hk j (by simp[hj])) (inv.other hr' (hap i (hsub i hin))) (by rw[Jdo];exact hd2) ho2 hB' hb (fun w1 hb1=>(H w1 hb1).2))
   have hlt:k<late i:=by
    rcases Nat.lt_or_ge k (late i) with h'|h'
    ·exact h'
    ·exact absurd hj (Jhz sh hinv _ i rfl hin hun h' j (List.mem_of_getElem? hjk))
   obtain⟨d',hod',hw,hrun⟩:=hlate i hin o h0 (by omega)
   obtain rfl:d=d':=Option.some.inj (hod.symm.trans hod')
   refine⟨hlt,fun fl a' e1 e2=>?_⟩
   refine(JdW hw (fun w hw'=>hrun w ?_)).of_same (e1.trans hsame.1.symm) (e2.trans hsame.2.symm)
   exact hkept fl (grp i) (by have:=hgrp i hin;omega) w hw'
def Qa (l:List Oper):List (Kd×Nat)→List (Kd×Oper)
 |[]=>[]
 |(kd,i)::r=>match l[i]? with
  |some o=>(kd,o)::Qa l r
  |none=>Qa l r
theorem Jb8 {l:List Oper}:∀(is:List (Kd×Nat)),(is.all fun p=>decide (p.2<l.length))=true→is.map (fun p=>l[p.2]?)=(Qa l is).map (fun p=>some p.2)∧is.map (·.1)=(Qa l is).map (·.1)
 |[],_=>⟨rfl,rfl⟩
 |(kd,i)::r,h=>by
  simp only[List.all_cons,Bool.and_eq_true,decide_eq_true_eq] at h
  obtain⟨h1,h2⟩:=h
  obtain⟨e1,e2⟩:=Jb8 r h2
  have:l[i]? =some l[i]:=List.getElem?_eq_getElem h1
  simp only[Qa,this,List.map_cons,e1,e2,and_self]
def XP:List (Kd×Nat)→List Nat
 |[]=>[]
 |(.q,i)::r=>i::XP r
 |_::r=>XP r
theorem Jb9:∀(is:List (Kd×Nat)) (p:Kd×Nat),p∈is→p.1=.q→p.2∈XP is
 |(kd,i)::r,p,h,hk=>by
  rcases List.mem_cons.1 h with rfl|h
  ·simp only at hk;subst hk;simp[XP]
  ·have:=Jb9 r p h hk
   cases kd<;>simp only[XP]<;>first|exact this|exact List.mem_cons_of_mem _ this
theorem JaK:∀(a b:List (Kd×Nat)),XG (a++b)=XG a++XG b
 |[],b=>rfl
 |(kd,i)::a,b=>by cases kd<;>simp[XG,JaK a b]
theorem Jd6:∀(a:List (Kd×Nat)),Zl a=(XG a).length
 |[]=>rfl
 |(kd,i)::a=>by cases kd<;>simp[XG,Zl,Jd6 a]
theorem JiH:∀(is:List (Kd×Nat)) (t:Nat),t∈XG is→∃p∈is,p.2=t
 |[],t,h=>by cases h
 |(kd,i)::r,t,h=>by
  have step:t∈XG r→∃p∈(kd,i)::r,p.2=t:=fun h=>by
   obtain⟨p,hp,e⟩:=JiH r t h
   exact⟨p,List.mem_cons_of_mem _ hp,e⟩
  cases kd with
  |w=>
   rcases List.mem_cons.1 h with rfl|h
   ·exact⟨_,List.mem_cons_self ..,rfl⟩
   ·exact step h
  |h=>exact step h
  |q=>exact step h
  |c=>exact step h
  |f=>exact step h
def flB (l:List Oper)(hs:List Nat)(lates:List (Nat×Nat×Nat))(top:List Nat)(os:List Oper)(s1 s2:List (Kd×Nat))(f:Nat)(d:Tmp):Bool:=
 let late:=fun i=>((lates.lookup i).map (·.1)).getD 0
 let grp:=fun i=>((lates.lookup i).map (·.2)).getD 0
 let sq:=XG (s1++s2)
 let hd:=hs++XP (s1++s2)
 let L:=Xh hs (Array.replicate l.toArray.size false)
 let L2:=(Zx s1 L).setIfInBounds f true
 Region.noSelect l.toArray&&(Jn9 .any l.toArray hs sq late&&(hs.all (fun i=>decide (late i≤top.getD (grp i) 0))&&(JaF .any l.toArray hs (Array.replicate l.toArray.size false)&&(Zv l.toArray os&&
  (hd.all (fun i=>!sq.contains i)&&(!sq.contains f&&(s1.all (fun p=>decide (p.2≠f)&&decide (p.2<l.length))&&(s2.all (fun p=>decide (p.2<l.length))&&((Qa l s1).all (fun p=>!(p.2.looksAt l.toArray).contains d&&p.2.dst != some d)&&(Jd4 .any l.toArray f s1 L&&(Jgq .any l.toArray s2 L2&&
  (decide (Region.ready .any l.toArray (Zx s2 L2)=[])&&decide (hs.length+s1.length+1+s2.length=l.length)))))))))))))
theorem JQ {id:Nat}{Q:Exit→Act→World→Prop}{a:Act}{w:World}{l:List Oper}(ms:List Kd)(lates:List (Nat×Nat×Nat))(G:Nat→World→Prop)(top:List Nat)(s1 s2:List (Kd×Nat))(f:Nat)(ob:Obj){d:Tmp}{of:Oper}(hm:P.follows .mixedOrders=true)(hms0:Nat.ble ms.length l.length=true)
 (hf:l[f]? =some of)(hfd:of.dst=some d)(hM:Jhs P l.toArray of ob)
 (hB:flB l (Qm ms 0) lates top (JB ms l) s1 s2 f d=true)(hd:Jap a.tmps.size (JB ms l)=true)
 (h:∃aF:Act,(∀w1,Below w.heap.size w w1→wpQuiet P l.toArray (fun w'=>∃x:Jz w1,w'=x.world) (fun a'=>a'=aF) (JB ms l) a)∧
   (∀p∈lates,∀oi,l[p.1]? =some oi→JhB P l.toArray (G p.2.2) oi aF)∧
   JaI P l.toArray G top true (fun _=>True) ob (fun k C a'=>∀b,JaI P l.toArray G top false (fun fl=>fl=some b) ob (fun k C a''=>∀w',C (some b) w'→Q .normal a'' w') (Qa l s2) k C (a'.put (some d) (Q6 b))) (Qa l s1) 0 (JaJ w ob) aF):(Code.region id l.toArray true).wp P Q a w:=by
 have hms:ms.length≤l.length:=Nat.le_of_ble_eq_true hms0
 obtain⟨aF,H,hlate,hrun⟩:=h
 simp only[flB,Bool.and_eq_true,decide_eq_true_eq,List.all_eq_true] at hB
 obtain⟨hsel,hrow,hgrp,hheads,hon,hap,hfs,hs1,hs2,hds,hp1,hp2,hend,hlen⟩:=hB
 have sh:=Jgf hrow
 have hap':∀j∈Qm ms 0++XP (s1++s2),j∉XG (s1++s2):=fun j hj hc=>by
  have:=hap j hj
  rw[List.contains_iff_mem.2 hc] at this;cases this
 have hfs':f∉XG (s1++s2):=fun hc=>by rw[List.contains_iff_mem.2 hc] at hfs;cases hfs
 have hmap1:(Qm ms 0).map (fun i=>l.toArray[i]?)=(JB ms l).map some:=by
  have:=ZU (l0:=l) ms 0 (by omega)
  simpa using this
 obtain⟨m1,k1⟩:=Jb8 (l:=l) s1 (List.all_eq_true.2 fun p hp=>by simpa using(hs1 p hp).2)
 obtain⟨m2,k2⟩:=Jb8 (l:=l) s2 (List.all_eq_true.2 fun p hp=>by simpa using hs2 p hp)
 have l1:s1.length=(Qa l s1).length:=by have:=congrArg List.length m1;simpa using this
 have l2:s2.length=(Qa l s2).length:=by have:=congrArg List.length m2;simpa using this
 have sq1:∀j t,(XG s1)[j]? =some t→(XG (s1++s2))[0+j]? =some t:=fun j t h=>by
  rw[JaK,Nat.zero_add,List.getElem?_append_left (List.getElem?_eq_some_iff.1 h).1];exact h
 have sq2:∀j t,(XG s2)[j]? =some t→(XG (s1++s2))[0+Zl s1+j]? =some t:=fun j t h=>by
  rw[JaK,Jd6,Nat.zero_add,List.getElem?_append_right (by omega),show(XG s1).length+j-(XG s1).length=j by omega];exact h
 have inv0:QM .any l.toArray (XG (s1++s2)) 0 (Array.replicate l.toArray.size false):=
  ⟨by simp,fun j oj _ hl=>(by rw[getD_replicate_false] at hl;cases hl),fun k' t _ hs=>by
    refine getD_in ?_ (getD_replicate_false _ _)
    obtain⟨p,hp,rfl⟩:=JiH _ t (List.mem_of_getElem? hs)
    rcases List.mem_append.1 hp with hp|hp
    ·simpa using(hs1 p hp).2
    ·simpa using hs2 p hp,fun k' t hk hs=>by omega⟩
 have HZ:=fun hinv=>Jd5 (P:=P) (md:=.any) (ops:=l.toArray) (hd:=Qm ms 0++XP (s1++s2)) (sq:=XG (s1++s2)) (f:=f) (ob:=ob) (G:=G) (top:=top) (Q:=Q) (m:=(Qa l s2).length+0)
  (E:=fun k C a'=>∀b,JaI P l.toArray G top false (fun fl=>fl=some b) ob (fun k C a''=>∀w',C (some b) w'→Q .normal a'' w') (Qa l s2) k C (a'.put (some d) (Q6 b)))
  (EF:=fun b k C a'=>JaI P l.toArray G top false (fun fl=>fl=some b) ob (fun k C a''=>∀w',C (some b) w'→Q .normal a'' w') (Qa l s2) k C a')
  (by simpa using hf) hfd hM hfs' (Region.noSelect_spec hsel) sh.once hap' (fun b k C a h=>h b) (Qa l s1) s1 0 (JaJ w ob) (Xh (Qm ms 0) (Array.replicate l.toArray.size false)) aF (by simpa using m1) k1
  (fun p hp=>⟨fun hq=>List.mem_append.2 (.inr (Jb9 _ p (List.mem_append.2 (.inl hp)) hq)),(hs1 p hp).1⟩) sq1 hinv
  (fun p hp=>by
    have h1:=hds p hp
    simp only[Bool.not_eq_true',bne_iff_ne,ne_eq] at h1
    have hx:some p.2∈(Qa l s1).map (fun p=>some p.2):=List.mem_map.2 ⟨p,hp,rfl⟩
    rw[←m1] at hx
    obtain⟨q,hq,hq2⟩:=List.mem_map.1 hx
    refine⟨fun cs b=>Region.noSelect_spec hsel q.2 p.2 cs b (by simpa using hq2),fun hc=>?_,h1.2⟩
    have h2:=h1.1
    rw[List.contains_iff_mem.2 hc] at h2;cases h2) hp1 (JiG w ob)
  (fun b k' C' a' hE' hk' hi'=>by
    subst hk'
    exact Jb7 (m:=0) (hd:=Qm ms 0++XP (s1++s2)) (sq:=XG (s1++s2)) (Q:=Q) (F:=fun fl=>fl=some b) (fl:=some b) rfl (Region.noSelect_spec hsel) sh.once hap' (Qa l s2) s2 _ C' _ a' (by simpa using m2) k2
     (fun p hp hq=>List.mem_append.2 (.inr (Jb9 _ p (List.mem_append.2 (.inr hp)) hq))) sq2 hi' hp2 (fun k2 C2 a2 hE2 _ _=>⟨hend,hE2⟩) hE') hrun
 have HF:=Jgr (md:=.any) (hd:=Qm ms 0++XP (s1++s2)) (f:=f) (ob:=ob) (w0:=w) (fl:=none) (r:=(Qa l s1).length+((Qa l s2).length+0+1)) (late:=fun i=>((lates.lookup i).map (·.1)).getD 0) (grp:=fun i=>((lates.lookup i).map (·.2)).getD 0) (Q:=Q) hsel sh
  (fun i hi=>List.mem_append.2 (.inl hi)) hap' hgrp
  (fun i hi oi hoi hpos=>by
    cases hlk:lates.lookup i with
    |none=>rw[hlk] at hpos;simp at hpos
    |some m=>
     have hmem:=Jab lates i m hlk
     have:=hlate (i,m) hmem oi (by simpa using hoi)
     simpa[hlk] using this)
  (Qm ms 0) (JB ms l) _ a hmap1 (fun i hi=>hi) inv0 hd hon hheads HZ H
 refine wp_region_any hm ?_
 have:=XY (Q':=Q) _ 0 _ none _ _ _ ⟨⟨⟨_,(Jpd w.heap.size w).drew⟩,rfl⟩,fun b hb=>by cases hb⟩ HF
 rw[show(Qm ms 0).length+((Qa l s1).length+((Qa l s2).length+0+1))=l.toArray.size by simp only[List.size_toArray];omega] at this
 exact this
def scB (l:List Oper)(hs:List Nat)(lates:List (Nat×Nat×Nat))(top:List Nat)(os:List Oper)(s:List (Kd×Nat)):Bool:=
 let late:=fun i=>((lates.lookup i).map (·.1)).getD 0
 let grp:=fun i=>((lates.lookup i).map (·.2)).getD 0
 let sq:=XG s
 let hd:=hs++XP s
 let L:=Xh hs (Array.replicate l.toArray.size false)
 Region.noSelect l.toArray&&(Jn9 .any l.toArray hs sq late&&(hs.all (fun i=>decide (late i≤top.getD (grp i) 0))&&(JaF .any l.toArray hs (Array.replicate l.toArray.size false)&&(Zv l.toArray os&&
  (hd.all (fun i=>!sq.contains i)&&(s.all (fun p=>decide (p.2<l.length))&&(Jgq .any l.toArray s L&&(decide (Region.ready .any l.toArray (Zx s L)=[])&&decide (hs.length+s.length=l.length)))))))))
theorem JV {id:Nat}{Q:Exit→Act→World→Prop}{a:Act}{w:World}{l:List Oper}(ms:List Kd)(lates:List (Nat×Nat×Nat))(G:Nat→World→Prop)(top:List Nat)(s:List (Kd×Nat))(hm:P.follows .mixedOrders=true)(hms0:Nat.ble ms.length l.length=true)
 (hB:scB l (Qm ms 0) lates top (JB ms l) s=true)(hd:Jap a.tmps.size (JB ms l)=true)
 (h:∃aF:Act,(∀w1,Below w.heap.size w w1→wpQuiet P l.toArray (fun w'=>∃x:Jz w1,w'=x.world) (fun a'=>a'=aF) (JB ms l) a)∧
   (∀p∈lates,∀oi,l[p.1]? =some oi→JhB P l.toArray (G p.2.2) oi aF)∧
   JaI P l.toArray G top false (fun fl=>fl=none) (.cells #[] 0) (fun k C a''=>∀w',C none w'→Q .normal a'' w') (Qa l s) 0 (JaJ w (.cells #[] 0)) aF):(Code.region id l.toArray true).wp P Q a w:=by
 have hms:ms.length≤l.length:=Nat.le_of_ble_eq_true hms0
 obtain⟨aF,H,hlate,hrun⟩:=h
 simp only[scB,Bool.and_eq_true,decide_eq_true_eq,List.all_eq_true] at hB
 obtain⟨hsel,hrow,hgrp,hheads,hon,hap,hs1,hp1,hend,hlen⟩:=hB
 have sh:=Jgf hrow
 have hap':∀j∈Qm ms 0++XP s,j∉XG s:=fun j hj hc=>by
  have:=hap j hj
  rw[List.contains_iff_mem.2 hc] at this;cases this
 have hmap1:(Qm ms 0).map (fun i=>l.toArray[i]?)=(JB ms l).map some:=by
  have:=ZU (l0:=l) ms 0 (by omega)
  simpa using this
 obtain⟨m1,k1⟩:=Jb8 (l:=l) s (List.all_eq_true.2 fun p hp=>by simpa using hs1 p hp)
 have l1:s.length=(Qa l s).length:=by have:=congrArg List.length m1;simpa using this
 have inv0:QM .any l.toArray (XG s) 0 (Array.replicate l.toArray.size false):=
  ⟨by simp,fun j oj _ hl=>(by rw[getD_replicate_false] at hl;cases hl),fun k' t _ hs=>by
    refine getD_in ?_ (getD_replicate_false _ _)
    obtain⟨p,hp,rfl⟩:=JiH _ t (List.mem_of_getElem? hs)
    simpa using hs1 p hp,fun k' t hk hs=>by omega⟩
 have HZ:=fun hinv=>Jb7 (P:=P) (md:=.any) (ops:=l.toArray) (f:=l.length) (G:=G) (top:=top) (m:=0) (hd:=Qm ms 0++XP s) (sq:=XG s) (Q:=Q) (F:=fun fl=>fl=none) (fl:=none) (pend:=false) (ob:=.cells #[] 0) (E:=fun k C a''=>∀w',C none w'→Q .normal a'' w') rfl (Region.noSelect_spec hsel) sh.once hap' (Qa l s) s 0 (JaJ w (.cells #[] 0)) (Xh (Qm ms 0) (Array.replicate l.toArray.size false)) aF (by simpa using m1) k1
  (fun p hp hq=>List.mem_append.2 (.inr (Jb9 _ p hp hq))) (fun j t h=>by rw[Nat.zero_add];exact h) hinv hp1 (fun k2 C2 a2 hE2 _ _=>⟨hend,hE2⟩) hrun
 have HF:=Jgr (md:=.any) (hd:=Qm ms 0++XP s) (f:=l.length) (ob:=.cells #[] 0) (w0:=w) (fl:=none) (r:=(Qa l s).length+0) (late:=fun i=>((lates.lookup i).map (·.1)).getD 0) (grp:=fun i=>((lates.lookup i).map (·.2)).getD 0) (Q:=Q) hsel sh
  (fun i hi=>List.mem_append.2 (.inl hi)) hap' hgrp
  (fun i hi oi hoi hpos=>by
    cases hlk:lates.lookup i with
    |none=>rw[hlk] at hpos;simp at hpos
    |some m=>
     have hmem:=Jab lates i m hlk
     have:=hlate (i,m) hmem oi (by simpa using hoi)
     simpa[hlk] using this)
  (Qm ms 0) (JB ms l) _ a hmap1 (fun i hi=>hi) inv0 hd hon hheads HZ H
 refine wp_region_any hm ?_
 have:=XY (Q':=Q) _ 0 _ none _ _ _ ⟨⟨⟨_,(Jpd w.heap.size w).drew⟩,rfl⟩,fun b hb=>by cases hb⟩ HF
 rw[show(Qm ms 0).length+((Qa l s).length+0)=l.toArray.size by simp only[List.size_toArray];omega] at this
 exact this
end
end
section
open Go.RowKit
theorem Jgs (z:Int)(k:Nat)(h0:0≤z)(h1:z<18446744073709551616)(hk:k≤63):bits .and .u64 z ((2^k-1:Nat):Int)=z%((2^k:Nat):Int):=by
 have h2:2^k≤2^63:=Nat.pow_le_pow_right (by omega) hk
 have h3:=Nat.two_pow_pos k
 have:=u64_and_nat z.toNat (2^k-1) (by omega) (by omega)
 rw[Nat.and_two_pow_sub_one_eq_mod,Int.toNat_of_nonneg h0] at this
 have e:((2^k:Nat):Int)=(((2^k-1:Nat):Int))+1:=by omega
 rw[this,Int.natCast_emod,Int.toNat_of_nonneg h0]
theorem XD (k:Int)(w:World):Calls Tryz.prog 93 #[k] w fun e w'=>e=.returned (.bool (JJ k))∧w=w':=by
 have H:Hid (JJ k=(k==0||k==43||k==44||k==60)):=Jpa rfl
 generalize JJ k=B at*
 go_enter Tryz.func93,Tryz.ntmps93
 go_wp2_with fail
 all_goals
  go_ret
  refine⟨?_,rfl⟩
  rw[H.out]
  simp_all
theorem Jd7 (k:Int)(w:World):Calls Tryz.prog 192 #[k] w fun e w'=>e=.returned (.bool (JJ k))∧w=w':=by
 have H:Hid (JJ k=(k==0||k==43||k==44||k==60)):=Jpa rfl
 generalize JJ k=B at*
 go_enter Tryz.func192,Tryz.ntmps192
 go_wp2_with fail
 all_goals
  go_ret
  refine⟨?_,rfl⟩
  rw[H.out]
  simp_all
def JmS (d:List Int):Value:=.tuple #[.int .u16 (QP d/8),.int .u8 (QP d/2%4),.bool (QP d%2==1)]
theorem Jgt {d:List Int}(h:Jl d):0≤QP d∧QP d<65536:=by
 unfold QP
 split
 ·exact⟨Int.le_refl 0,by decide⟩
 ·exact QB h 0
theorem Jgu (k:Int)(oa:Option Addr)(cap:Nat)(d:List Int)(w:World)(hr:Ji w oa d.length cap d)(hn:d.length≤100000):
 Calls Tryz.prog 151 #[.agg #[.int .u8 k,.slice oa d.length cap]] w (Jh w (JmS d)):=by
 have HR:=Jpa hr
 have hb:=Jgt hr.byte
 have HV:Hid (Jh w (JmS d)=Jh w (.tuple #[.int .u16 (QP d/8),.int .u8 (QP d/2%4),.bool (QP d%2==1)])):=Jpa rfl
 have HG:Hid (∀w1,Ji w1 oa d.length cap d→∃err,Calls Tryz.prog 81 #[.slice oa d.length cap,.int .i64 0,.int .i64 2] w1 (Jh w1 (.tuple #[.int .u64 (QP d),.int .i64 err]))):=Jpa (fun w1 h1=>by
  by_cases h:d.length<2
  ·refine⟨10,?_⟩
   have:=Bits.get_short oa d.length cap 0 2 w1 (by omega) (by omega) (by omega) (by omega) (by omega)
   unfold QP;rw[if_pos h];exact this
  ·refine⟨0,?_⟩
   have:=Bits.get_ok oa d.length cap d 0 2 w1 h1 (by omega) (by omega) (by omega) (by omega)
   unfold QP;rw[if_neg h,←JY d 0 (by omega)];exact this)
 clear hr
 generalize QP d=s at*
 have a3:=Jgs (s/2) 2 (by omega) (by omega) (by omega)
 have a1:=Jgs s 1 (by omega) (by omega) (by omega)
 rw[show(((2^2-1:Nat)):Int)=3 from rfl,show(((2^2:Nat)):Int)=4 from rfl] at a3
 rw[show(((2^1-1:Nat)):Int)=1 from rfl,show(((2^1:Nat)):Int)=2 from rfl] at a1
 rw[HV.out]
 generalize d.length=n at*
 go_enter Tryz.func151,Tryz.ntmps151
 go_wp2_with fail
 obtain⟨err,hg⟩:=HG.out _ (HR.out.alloc _)
 refine Jo4 hg ?_
 intro x
 go_wp2_with fail
 go_ret3
 exact .mk rfl x.below
theorem Jj7 (a b:Nat):decide ((a:Int)≤(b:Int))=decide (a≤b):=by rw[Bool.eq_iff_iff];simp
theorem Jfg (k:Int)(oa:Option Addr)(cap:Nat)(d:List Int)(w:World)(hr:Ji w oa d.length cap d)(hn:d.length≤100000):
 Calls Tryz.prog 91 #[.agg #[.int .u8 k,.slice oa d.length cap]] w (Jh w (.bool (JX k d))):=by
 have HR:=Jpa hr
 have hb:=Jgt hr.byte
 have HV:Hid (JX k d=if k=44 then decide (d.length=6)&&decide (QP d/2%4=0) else JJ k&&(decide (d.length%8=6)&&decide (d.length≤2046))):=Jpa rfl
 have HS:Hid (∀w1,Ji w1 oa d.length cap d→Calls Tryz.prog 151 #[.agg #[.int .u8 k,.slice oa d.length cap]] w1 (Jh w1 (.tuple #[.int .u16 (QP d/8),.int .u8 (QP d/2%4),.bool (QP d%2==1)]))):=Jpa (fun w1 h1=>Jgu k oa cap d w1 h1 hn)
 clear hr
 generalize QP d=s at*
 generalize JX k d=V at*
 generalize d.length=n at*
 by_cases h4:k=44
 ·have HE:Hid (V=(decide (n=6)&&decide (s/2%4=0))):=Jpa (by rw[HV.out,if_pos h4])
  obtain rfl:=h4
  clear HV
  go_enter Tryz.func91,Tryz.ntmps91
  go_wp2_with fail
  refine Jo4 (HS.out _ (HR.out.alloc _)) ?_
  intro x
  by_cases h6:n=6
  ·subst h6
   go_wp2_with fail
   go_ret
   refine .mk (JK ?_) x.below
   rw[HE.out];rfl
  ·have d6:((n:Int)==6)=false:=by simp;omega
   go_wp2_with fail
   go_ret
   refine .mk (JK ?_) x.below
   rw[HE.out,decide_eq_false h6];rfl
 ·have HE:Hid (V=(JJ k&&(decide (n%8=6)&&decide (n≤2046)))):=Jpa (by rw[HV.out,if_neg h4])
  have h4':(k != 44)=true:=by simpa using h4
  clear HV HS h4
  generalize hB:JJ k=B at*
  have HB:=Jpa hB
  clear hB
  cases B
  ·go_enter Tryz.func91,Tryz.ntmps91
   go_wp2_with (go_at_call 93;refine(XD _ _).mono ?_;rintro e w' ⟨rfl,rfl⟩;rw[HB.out])
   go_ret
   refine .mk (JK ?_) (Below.all (Jpd _ _) _)
   rw[HE.out];rfl
  ·have htm:Int.tmod (n:Int) 8=((n%8:Nat):Int):=by rw[Int.tmod_eq_emod_of_nonneg (by omega)];omega
   by_cases h8:n%8=6
   ·have d8:((n:Int)%8==6)=true:=by simp;omega
    have htm':(Int.tmod (n:Int) 8==6)=true:=by rw[htm,h8];rfl
    clear htm
    go_enter Tryz.func91,Tryz.ntmps91
    go_wp2_with (go_at_call 93;refine(XD _ _).mono ?_;rintro e w' ⟨rfl,rfl⟩;rw[HB.out])
    go_ret
    refine .mk (JK ?_) (Below.all (Jpd _ _) _)
    rw[HE.out,decide_eq_true h8,←Jj7];rfl
   ·have d8:((n:Int)%8==6)=false:=by simp;omega
    have htm':(Int.tmod (n:Int) 8==6)=false:=by rw[htm];simp;omega
    clear htm
    go_enter Tryz.func91,Tryz.ntmps91
    go_wp2_with (go_at_call 93;refine(XD _ _).mono ?_;rintro e w' ⟨rfl,rfl⟩;rw[HB.out])
    go_ret
    refine .mk (JK ?_) (Below.all (Jpd _ _) _)
    rw[HE.out,decide_eq_false h8];rfl
theorem JcK (k:Int)(oa:Option Addr)(cap:Nat)(d:List Int)(w:World)(hr:Ji w oa d.length cap d)(hn:d.length≤100000):
 Calls Tryz.prog 92 #[.agg #[.int .u8 k,.slice oa d.length cap]] w (Jh w (.bool (Qw k d))):=by
 have HR:=Jpa hr
 have hb:=Jgt hr.byte
 have HV:Hid (Qw k d=(decide (k=44)&&decide (0<QP d/8))):=Jpa rfl
 have HS:Hid (∀w1,Ji w1 oa d.length cap d→Calls Tryz.prog 151 #[.agg #[.int .u8 k,.slice oa d.length cap]] w1 (Jh w1 (.tuple #[.int .u16 (QP d/8),.int .u8 (QP d/2%4),.bool (QP d%2==1)]))):=Jpa (fun w1 h1=>Jgu k oa cap d w1 h1 hn)
 clear hr
 generalize QP d=s at*
 generalize Qw k d=V at*
 generalize d.length=n at*
 by_cases h4:k=44
 ·have HE:Hid (V=decide (0<s/8)):=Jpa (by rw[HV.out,decide_eq_true h4];rfl)
  obtain rfl:=h4
  clear HV
  go_enter Tryz.func92,Tryz.ntmps92
  go_wp2_with fail
  refine Calls.later (HS.out _ (HR.out.alloc _)) ?_
  intro x
  go_wp2_with fail
  go_ret
  refine .mk (JK ?_) (Jo2 (Below.all (Jpd _ _) _))
  rw[HE.out]
 ·have HE:Hid (V=false):=Jpa (by rw[HV.out,decide_eq_false h4];rfl)
  have h4':(k==44)=false:=by simpa using h4
  clear HV h4
  go_enter Tryz.func92,Tryz.ntmps92
  go_wp2_with fail
  refine Calls.later (HS.out _ (HR.out.alloc _)) ?_
  intro x
  go_wp2_with fail
  go_ret
  refine .mk (JK HE.out.symm) (Jo2 (Below.all (Jpd _ _) _))
end
section
open Go.RowKit Bits
theorem Jdr (n:Nat){P:Program}{ops:Array Oper}{Q:Exit→Act→World→Prop}{op:Op}{ty:TypeId}{pos:String}{after:Array Edge}{g:Option (Nat×Bool)}{rest:List Oper}{a:Act}{w:World}
 (h:Jt (wpList P ops Q (⟨some n,op,ty,pos,after,g⟩::rest) a w)):wpList P ops Q (⟨some n,op,ty,pos,after,g⟩::rest) a w:=h.of
theorem Jjy (l:List Int)(hb:∀v∈l,0≤v∧v<256)(j:Nat)(h:j<l.length):(((strOfNums l).data.toList.getD j 0).toNat:Int)=l.getD j 0:=by
 have hv:=hb l[j] (List.getElem_mem h)
 rw[strOfNums_data,List.getD_eq_getElem?_getD,List.getElem?_map,List.getElem?_eq_getElem h,List.getD_eq_getElem?_getD,List.getElem?_eq_getElem h]
 simp only[Option.map_some,Option.getD_some]
 rw[UInt8.toNat_ofNat',Nat.mod_eq_of_lt (by omega)]
 omega
section
variable {P:Program}
theorem JiI (src dst e:TypeId)(w:World)(hs:P.underlying src=some .string)(hd:P.underlying dst=some (.slice e))(he:P.underlying e=some (.int .u8))(l:List Int)(hl:∀v∈l,0≤v∧v<256)(hn:l.length≤1000000):
 ∃cap w',(convert src dst (.string (strOfNums l))).run P w=.ok (.slice (some ⟨w.heap.size,0,none⟩) l.length cap) w'∧Below w.heap.size w w'∧Ji w' (some ⟨w.heap.size,0,none⟩) l.length cap l:=by
 have h:=Lib.run_convert_string_bytes w src dst e (strOfNums l) hs hd he
 rw[strOfNums_size] at h
 refine⟨_,_,h,?_,?_⟩
 ·exact⟨rfl,rfl,rfl,by rw[Lib.bytesWorld_size];omega,fun b hb=>Lib.bytesWorld_at_old w e _ b hb⟩
 ·refine⟨rfl,?_,?_,hl,.inr ⟨_,0,rfl,by rw[Lib.bytesWorld_size];omega,fun j hj=>?_⟩⟩
  ·exact grownCap_ge _ _ _ _
  ·exact grownCap_le_maxLen _ _ _ _ (by unfold maxLen;omega)
  ·rw[Nat.zero_add,Lib.bytesWorld_cell _ _ _ _ (by rw[strOfNums_size];exact hj),Jjy l hl j hj]
theorem X7 (w:World){ops:Array Oper}{rest:List Oper}{o:Oper}{a:Act}{Q:Exit→Act→World→Prop}
 (hg:o.guard=none)(src dst:TypeId)(x:Operand)(hop:o.op=Op.convert src dst x)(e:TypeId)(hs:P.underlying src=some .string)(hd:P.underlying dst=some (.slice e))(he:P.underlying e=some (.int .u8))
 (l:List Int)(hx:a.eval x=.string (strOfNums l))(hl:∀v∈l,0≤v∧v<256)(hn:l.length≤1000000)
 (h:∀cap w',Below w.heap.size w w'→Ji w' (some ⟨w.heap.size,0,none⟩) l.length cap l→wpList P ops Q rest (a.put o.dst (.slice (some ⟨w.heap.size,0,none⟩) l.length cap)) w'):
 wpList P ops Q (o::rest) a w:=by
 refine wpList_plain hg fun K hK'=>?_
 obtain⟨cap,w',hrun,h2,h3⟩:=JiI (P:=P) src dst e w hs hd he l hl hn
 unfold Oper.wp
 simp[execOp,hop,hx,hrun,Result.andThen]
 exact hK' _ _ (h cap w' h2 h3)
end
end
section
open Go.RowKit Bits
theorem XZ {w:World}{b n:Nat}{cs cs':Array Value}{t:TypeId}{fr:Nat×Nat}(h:w.heap[b]? =some (.cells cs t fr))(hs:cs'.size=n:=by rfl):Jf (w.setRow b cs') b 0 n=cs':=by
 rw[Jq _ _ _ _ _ _ _ (setRow_heap _ _ _ _ _ _ h)];subst hs;simp
def Jds:Array Value:=#[(),Jpg,Jpg,false,false,Jpg,(),(),Jpi,Jpi,Jpi]
def JmT (err:Int):Value:=.tuple #[.agg Jds,.int .i64 0,.int .i64 err]
def Jmf (l:List Int):Array Value:=#[.int .u8 (l.getD 1 0),.int .u16 (w2 l 2),.int .u16 (w2 l 4),.bool (w2 l 6/16384%2==1),.bool (w2 l 6/8192%2==1),.int .u16 (w2 l 6%8192),.int .u8 (l.getD 8 0),.int .u8 (l.getD 9 0),
 .string (strOfNums ((l.drop 12).take 4)),.string (strOfNums ((l.drop 16).take 4)),.string (strOfNums ((l.drop 20).take (ipHl l-20)))]
def Jmg (l:List Int):Value:=if Qe l=0 then .tuple #[.agg (Jmf l),.int .i64 (ipHl l:Int),.int .i64 0] else JmT (Qe l)
theorem X0 {w w':World}{l:List Int}{err:Int}{tmps:Array Value}(b:Nat)(he:Qe l=err)(h0:err≠0)(hp:tmps.getD 2 undef=.pointer (some ⟨b,0,none⟩))(h3:tmps.getD 3 undef=.int .i64 0)(h4:tmps.getD 4 undef=.int .i64 err)(hc:Jf w' b 0 11=Jds)(hb:Below w.heap.size w w'):
 bodyPost Tryz.prog Tryz.f83 (Jh w (Jmg l)) .ret { tmps:=tmps,defers:=[] } w':=
 bodyPost_ret (v:=JmT err) (QW rfl _ _ b 11 _ _ _ Tryz.underlying106 rfl Jhn hp h3 h4 Jds hc rfl) rfl (.mk (by unfold Jmg;rw[if_neg (by rw[he];exact h0),he]) hb)
theorem Jj8 {w w':World}{l:List Int}{nv:Int}{tmps:Array Value}(b:Nat)(he:Qe l=0)(hp:tmps.getD 2 undef=.pointer (some ⟨b,0,none⟩))(h3:tmps.getD 3 undef=.int .i64 nv)(hn:nv=ipHl l)(h4:tmps.getD 4 undef=.int .i64 0)(hc:Jf w' b 0 11=Jmf l)(hb:Below w.heap.size w w'):
 bodyPost Tryz.prog Tryz.f83 (Jh w (Jmg l)) .ret { tmps:=tmps,defers:=[] } w':=
 bodyPost_ret (v:=.tuple #[.agg (Jmf l),.int .i64 nv,.int .i64 0]) (QW rfl _ _ b 11 _ _ _ Tryz.underlying106 rfl Jhn hp h3 h4 (Jmf l) hc rfl) rfl (.mk (by unfold Jmg;rw[if_pos he,hn]) hb)
structure Jjz (w y:World):Prop where
 a:y.heap[w.heap.size]? =some (.cells Jds 106 (0,0))
 b:y.heap[w.heap.size+1]? =some (.cells Jds 106 (0,0))
 out:Below w.heap.size w y
theorem Jjz.below {w y y':World}(h:Jjz w y)(hb:Below y.heap.size y y'):Jjz w y':=
 ⟨(hb.block _ (Jpb h.a).1).trans h.a,(hb.block _ (Jpb h.b).1).trans h.b,Jo3 h.out hb⟩
theorem Jjz.part {w y:World}(h:Jjz w y):Jf y (w.heap.size+1) 0 11=Jds:=by rw[Jq _ _ _ _ _ _ _ h.b];rfl
theorem Jjz.rf {w y:World}(h:Jjz w y):Jg y w.heap.size 11=true:=by rw[Jc _ _ _ _ _ h.a];rfl
theorem Jjz.no {w y:World}(h:Jjz w y):Jf (y.setRow w.heap.size Jds) w.heap.size 0 11=Jds:=XZ h.a
theorem Jjz.part0 {w y:World}(h:Jjz w y):Jf y w.heap.size 0 11=Jds:=by rw[Jq _ _ _ _ _ _ _ h.a];rfl
theorem Jjz.start (w:World):Jjz w ((w.alloc (.cells Jds 106)).alloc (.cells Jds 106)):=
 ⟨(heap_alloc_old _ _ (by simp)).trans (heap_alloc_new w _),by have:=heap_alloc_new (w.alloc (.cells Jds 106)) (.cells Jds 106);simpa using this,Below.all (Below.all (Jpd _ _) _) _⟩
theorem Jc3 (oa:Option Addr)(n cap:Nat)(l:List Int)(w:World)(hr:Ji w oa n cap l)(hn2:n≤100000):
 Calls Tryz.prog 83 #[.slice oa n cap] w (Jh w (Jmg l)):=by
 have hlen:=hr.len
 have HR:=Jpa hr
 have HT:=Jpa (Jjz.start w)
 by_cases h20:n<20
 ·have h20':((n:Int)<20):=by omega
  have HE:Hid (Qe l=10):=Jpa (by unfold Qe;rw[hlen,if_pos h20])
  have hpt:=HT.out.part
  have hrf:=HT.out.rf
  have HN:=Jpa HT.out.part0
  have HB:=Jpa HT.out.out
  unfold Jds at hpt hrf HN HB
  clear hr HT
  go_enter Tryz.func83,Tryz.ntmps83
  go_wp2_with fail
  exact X0 w.heap.size HE.out (by decide) rfl rfl rfl HN.out HB.out
 have h20':¬((n:Int)<20):=by omega
 obtain⟨g,off,rfl,hgl,hc⟩:=hr.here (by omega)
 have hc0:=hc 0 (by omega)
 rw[Nat.add_zero] at hc0
 have hx0:=hr.getD 0
 obtain⟨x0,e0⟩:∃x:Nat,l.getD 0 0=x:=⟨(l.getD 0 0).toNat,by omega⟩
 rw[e0] at hc0 hx0
 have hx0':x0<256:=by omega
 have HHL:Hid (ipHl l=x0%16*4):=Jpa (by unfold ipHl;rw[e0];omega)
 have HER:Hid (Qe l=if x0/16≠4 then 50 else if x0%16*4<20 then 51 else if n<x0%16*4 then 10 else if 32768≤w2 l 6∨w2 l 2<((x0%16*4:Nat):Int) then 51 else if Xz (l.take (x0%16*4))=false then 52 else 0):=Jpa (by
  unfold Qe
  rw[HHL.out,e0,hlen,if_neg (show¬n<20 by omega)]
  by_cases h:x0/16=4
  ·rw[if_neg (show¬(x0:Int)/16≠4 by omega),if_neg (show¬x0/16≠4 by omega)]
  ·rw[if_pos (show(x0:Int)/16≠4 by omega),if_pos h])
 have HG:Hid (∀(i:Nat) (w1:World),i+2≤n→Ji w1 (some ⟨g,off,none⟩) n cap l→Calls Tryz.prog 88 #[.slice (some ⟨g,off,none⟩) n cap,.int .i64 i,.int .i64 2] w1 (Jh w1 (.tuple #[.int .u64 (w2 l i),.int .i64 0]))):=Jpa (fun i w1 hi h1=>by
  have:=Za (some ⟨g,off,none⟩) n cap l i 2 w1 h1 (by decide) (by decide) hi (by omega)
  rwa [JY l i (by omega)] at this)
 have hb2:=QB hr.byte 2
 have hb4:=QB hr.byte 4
 have hb6:=QB hr.byte 6
 obtain⟨w2a,e2⟩:∃v,w2 l 2=v:=⟨_,rfl⟩
 obtain⟨w4a,e4⟩:∃v,w2 l 4=v:=⟨_,rfl⟩
 obtain⟨w6a,e6⟩:∃v,w2 l 6=v:=⟨_,rfl⟩
 have HW2:=Jpa e2
 have HW4:=Jpa e4
 have HW6:=Jpa e6
 rw[e2] at hb2 HER
 rw[e4] at hb4
 rw[e6] at hb6 HER
 clear hr hc e0 e2 e4 e6
 have hpt:=HT.out.part
 have hrf:=HT.out.rf
 have HN:=Jpa HT.out.part0
 have HB:=Jpa HT.out.out
 unfold Jds at hpt hrf HN HB
 have htd:Int.tdiv (x0:Int) 16=((x0/16:Nat):Int):=by rw[Int.tdiv_eq_ediv_of_nonneg (by omega)];omega
 have htm:Int.tmod (x0:Int) 16=((x0%16:Nat):Int):=by rw[Int.tmod_eq_emod_of_nonneg (by omega)];omega
 go_enter Tryz.func83,Tryz.ntmps83
 by_cases hv:x0/16=4
 rotate_left
 ·have hv2:(((x0:Int)/16) != 4)=true:=by simp;omega
  have HE:Hid (Qe l=50):=Jpa (by rw[HER.out,if_pos hv])
  clear HER htd htm
  go_wp2_with fail
  exact X0 w.heap.size HE.out (by decide) rfl rfl rfl HN.out HB.out
 have hv2:(((x0:Int)/16) != 4)=false:=by simp;omega
 have HER1:Hid (Qe l=if x0%16*4<20 then 51 else if n<x0%16*4 then 10 else if 32768≤w6a∨w2a<((x0%16*4:Nat):Int) then 51 else if Xz (l.take (x0%16*4))=false then 52 else 0):=Jpa (by rw[HER.out,if_neg (by omega)])
 clear HER
 obtain⟨k,hk⟩:∃k:Nat,x0%16*4=k:=⟨_,rfl⟩
 rw[hk] at HER1 HHL
 have hkm:(x0:Int)%16*4=k:=by omega
 by_cases h51:k<20
 ·have h51':decide ((k:Int)<20)=true:=by simp;omega
  have HE:Hid (Qe l=51):=Jpa (by rw[HER1.out,if_pos h51])
  clear HER1 hk
  go_wp2_with fail
  exact X0 w.heap.size HE.out (by decide) rfl rfl rfl HN.out HB.out
 have HER2:Hid (Qe l=if n<k then 10 else if 32768≤w6a∨w2a<(k:Int) then 51 else if Xz (l.take k)=false then 52 else 0):=Jpa (by rw[HER1.out,if_neg h51])
 clear HER1
 have h51':decide ((k:Int)<20)=false:=by simp;omega
 by_cases hln:n<k
 ·have HE:Hid (Qe l=10):=Jpa (by rw[HER2.out,if_pos hln])
  clear HER2 hk
  go_wp2_with fail
  exact X0 w.heap.size HE.out (by decide) rfl rfl rfl HN.out HB.out
 have HER3:Hid (Qe l=if 32768≤w6a∨w2a<(k:Int) then 51 else if Xz (l.take k)=false then 52 else 0):=Jpa (by rw[HER2.out,if_neg hln])
 have hk2:k≤n:=by omega
 clear HER2 hk hln
 go_wp2_with fail
 have HT0:=Jpa (HT.out)
 unfold Jds at HT0
 have HR0:=Jpa (HR.out.below (Below.all (Below.all (Jpd _ _) (.cells Jds 106)) (.cells Jds 106)))
 unfold Jds at HR0
 clear hpt hrf HN HB HT
 generalize ((w.alloc (Obj.cells (Jp9 false false (.string { data:=#[] }) (.string { data:=#[] }) (.string { data:=#[] })) 106)).alloc (Obj.cells (Jp9 false false (.string { data:=#[] }) (.string { data:=#[] }) (.string { data:=#[] })) 106))=y0 at*
 refine Jpc (HG.out 2 _ (by omega) HR0.out) ?_
 rintro e y1 ⟨rfl,hb⟩
 have HT1:=Jpa (HT0.out.below hb)
 have HR1:=Jpa (HR0.out.below hb)
 rw[HW2.out]
 clear hb HT0 HR0
 go_wp2_with fail
 refine Jpc (HG.out 4 _ (by omega) HR1.out) ?_
 rintro e y2 ⟨rfl,hb⟩
 have HT2:=Jpa (HT1.out.below hb)
 have HR2:=Jpa (HR1.out.below hb)
 rw[HW4.out]
 clear hb HT1 HR1
 go_wp2_with fail
 refine Jpc (HG.out 6 _ (by omega) HR2.out) ?_
 rintro e y3 ⟨rfl,hb⟩
 have HT3:=Jpa (HT2.out.below hb)
 have HR3:=Jpa (HR2.out.below hb)
 rw[HW6.out]
 clear hb HT2 HR2 HG
 have hpt:=HT3.out.part
 have hrf:=HT3.out.rf
 have HN:=Jpa HT3.out.no
 have HB:=Jpa (below_setRow HT3.out.out (Jpf _) Jds)
 unfold Jds at hpt hrf HN HB
 by_cases hA:32768≤w6a
 ·have HE:Hid (Qe l=51):=Jpa (by rw[HER3.out,if_pos (.inl hA)])
  have hA':decide (32768≤w6a)=true:=decide_eq_true hA
  go_wp2_with fail
  exact X0 w.heap.size HE.out (by decide) rfl rfl rfl HN.out HB.out
 by_cases hB2:w2a<(k:Int)
 ·have HE:Hid (Qe l=51):=Jpa (by rw[HER3.out,if_pos (.inr hB2)])
  go_wp2_with fail
  exact X0 w.heap.size HE.out (by decide) rfl rfl rfl HN.out HB.out
 have HER4:Hid (Qe l=if Xz (l.take k)=false then 52 else 0):=Jpa (by rw[HER3.out,if_neg (by omega)])
 clear HER3
 have hcut:=fun w=>Jdz (P:=Tryz.prog) 22 (some ⟨g,off,none⟩) n cap 1 elemBytes sizeBytes k (k:Int) rfl (by have:=HR3.out.le;omega) w
 have HWH:=Jpa (Jj1 (some ⟨g,off,none⟩) k cap (l.take k) y3 (HR3.out.take k hk2) (by omega))
 go_wp2_with fail
 refine Jpc HWH.out ?_
 rintro e y4 ⟨rfl,hb⟩
 have HT4:=Jpa (HT3.out.below hb)
 have HR4:=Jpa (HR3.out.below hb)
 clear hb HT3 HR3 hpt hrf HN HB HWH
 cases hwh:Xz (l.take k)
 ·have HE:Hid (Qe l=52):=Jpa (by rw[HER4.out,if_pos hwh])
  have hpt:=HT4.out.part
  have hrf:=HT4.out.rf
  have HN:=Jpa HT4.out.no
  have HB:=Jpa (below_setRow HT4.out.out (Jpf _) Jds)
  unfold Jds at hpt hrf HN HB
  clear hwh
  go_wp2_with fail
  exact X0 w.heap.size HE.out (by decide) rfl rfl rfl HN.out HB.out
 have HE:Hid (Qe l=0):=Jpa (by rw[HER4.out,if_neg (by rw[hwh];decide)])
 clear HER4 hwh hcut
 go_wp2_with fail
 have hle4:=HR4.out.le
 have hs1:=fun w=>JW (P:=Tryz.prog) 22 (some ⟨g,off,none⟩) n cap 1 elemBytes sizeBytes 12 16 12 16 rfl rfl (by omega) (by omega) w
 have hs2:=fun w=>JW (P:=Tryz.prog) 22 (some ⟨g,off,none⟩) n cap 1 elemBytes sizeBytes 16 20 16 20 rfl rfl (by omega) (by omega) w
 have hs3:=fun w=>JW (P:=Tryz.prog) 22 (some ⟨g,off,none⟩) n cap 1 elemBytes sizeBytes 20 k 20 (k:Int) rfl rfl (by omega) (by omega) w
 have HV1:Hid (∀w1,Ji w1 (some ⟨g,off,none⟩) n cap l→(convert 22 9 (.slice (Jk (some ⟨g,off,none⟩) 12 cap 1) (16-12) (cap-12))).run Tryz.prog w1=.ok (.string (strOfNums ((l.drop 12).take 4))) w1):=Jpa (fun w1 h1=>JR 22 5 Tryz.underlying22 Tryz.underlying5 ((h1.cut 12 (by omega)).take 4 (by omega)) 9 Tryz.underlying9)
 have HV2:Hid (∀w1,Ji w1 (some ⟨g,off,none⟩) n cap l→(convert 22 9 (.slice (Jk (some ⟨g,off,none⟩) 16 cap 1) (20-16) (cap-16))).run Tryz.prog w1=.ok (.string (strOfNums ((l.drop 16).take 4))) w1):=Jpa (fun w1 h1=>JR 22 5 Tryz.underlying22 Tryz.underlying5 ((h1.cut 16 (by omega)).take 4 (by omega)) 9 Tryz.underlying9)
 have HV3:Hid (∀w1,Ji w1 (some ⟨g,off,none⟩) n cap l→(convert 22 9 (.slice (Jk (some ⟨g,off,none⟩) 20 cap 1) (k-20) (cap-20))).run Tryz.prog w1=.ok (.string (strOfNums ((l.drop 20).take (k-20)))) w1):=Jpa (fun w1 h1=>JR 22 5 Tryz.underlying22 Tryz.underlying5 ((h1.cut 20 (by omega)).take (k-20) (by omega)) 9 Tryz.underlying9)
 have HA:Hid (Qe l=0→Jmf l=#[.int .u8 (l.getD 1 0),.int .u16 w2a,.int .u16 w4a,.bool (w6a/16384%2==1),.bool (w6a/8192%2==1),.int .u16 (w6a%8192),.int .u8 (l.getD 8 0),.int .u8 (l.getD 9 0),
  .string (strOfNums ((l.drop 12).take 4)),.string (strOfNums ((l.drop 16).take 4)),.string (strOfNums ((l.drop 20).take (k-20)))]):=Jpa (fun _=>by
  unfold Jmf
  rw[HW2.out,HW4.out,HW6.out,HHL.out])
 generalize Jk (some ⟨g,off,none⟩) 12 cap 1=a1 at*
 generalize Jk (some ⟨g,off,none⟩) 16 cap 1=a2 at*
 generalize Jk (some ⟨g,off,none⟩) 20 cap 1=a3 at*
 generalize strOfNums ((l.drop 12).take 4)=s1 at*
 generalize strOfNums ((l.drop 16).take 4)=s2 at*
 generalize strOfNums ((l.drop 20).take (k-20))=s3 at*
 clear hle4
 refine Jgd 36 [(35,1)] (Jos y4 fun _ w'=>∃x:Jz y4,w'=x.world.setRow w.heap.size (JpN (.int .u8 (l.getD 1 0)) (.int .u16 w2a) (.int .u16 w4a) (.bool (w6a/16384%2==1)) (.bool (w6a/8192%2==1)) (.int .u16 (w6a%8192)) (.int .u8 (l.getD 8 0)) (.int .u8 (l.getD 9 0)) (.string s1) (.string s2) (.string s3))) (by kernel_rfl) (by kernel_rfl) (by kernel_rfl) rfl ?_
 obtain⟨g',off',hop,hgx,hcx⟩:=HR4.out.here (by omega)
 cases hop
 have hc1:=hcx 1 (by omega)
 have hc8:=hcx 8 (by omega)
 have hc9:=hcx 9 (by omega)
 have hv1:=fun x:Jz y4=>HV1.out x.world (HR4.out.later x)
 have hv2:=fun x:Jz y4=>HV2.out x.world (HR4.out.later x)
 have hv3:=fun x:Jz y4=>HV3.out x.world (HR4.out.later x)
 clear hcx
 simp only[List.take_succ_cons,List.take_zero]
 repeat go_big_quiet_step (fail)
 refine wpQuiet_nil ?_
 simp only[List.drop_succ_cons,List.drop_zero]
 clear hs1 hs2 hs3 hv1 hv2 hv3 hc1 hc8 hc9
 refine⟨?_,?_⟩
 ·intro p hp oi d hoi hd k' _ _
  obtain rfl:=List.mem_singleton.1 hp
  cases hoi
  cases hd
  exact JaE rfl (fun w2 _=>by kernel_rfl)
 refine Jhu (fun w'=>w'.setRow w.heap.size (JpN (.int .u8 (l.getD 1 0)) (.int .u16 w2a) (.int .u16 w4a) (.bool (w6a/16384%2==1)) (.bool (w6a/8192%2==1)) (.int .u16 (w6a%8192)) (.int .u8 (l.getD 8 0)) (.int .u8 (l.getD 9 0)) (.string s1) (.string s2) (.string s3))) rfl ?_ ?_ ?_
 ·rintro w' ⟨x,rfl⟩
  exact(JaB _ _ _ _ _ _ _ _ _).trans (Jbh x.world w.heap.size _ (HT4.out.below x.below).rf rfl rfl)
 ·rintro w' ⟨x,rfl⟩
  exact⟨x,rfl⟩
 refine Jb4 (.int .i64 (k:Int)) rfl (fun w' _=>by kernel_rfl) (fun w' h=>h) ?_
 refine Jb4 (.int .i64 0) rfl (fun w' _=>by kernel_rfl) (fun w' h=>h) ?_
 refine⟨rfl,?_⟩
 rintro w' ⟨x,rfl⟩
 have HT5:=Jpa (HT4.out.below x.below)
 clear HT4 HR4
 generalize x.world=y5 at*
 go_wp2_with fail
 refine Jj8 w.heap.size HE.out rfl rfl ?_ rfl ?_ (below_setRow HT5.out.out (Jpf _) _)
 ·rw[HHL.out]
 ·rw[HA.out HE.out]
  exact XZ HT5.out.a
end
end Go.Proofs.YtkgjbipfhhjlpaaGreatDoor
