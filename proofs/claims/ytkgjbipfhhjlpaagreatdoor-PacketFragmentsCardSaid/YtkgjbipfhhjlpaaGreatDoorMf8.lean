import Derived.Test.YtkgjbipfhhjlpaaGreatDoorMf7
set_option linter.unusedVariables false
set_option linter.unusedSimpArgs false
set_option maxRecDepth 100000
set_option maxHeartbeats 32000000
namespace Go.Proofs.YtkgjbipfhhjlpaaGreatDoor
section
open Go.RowKit
section
variable {P:Program} {ops:Array Oper} {md:Region.Mode}
structure Jcc (B lo hi:Nat)(w1 w2:World):Prop where
 os:w2.os=w1.os
 tape:w2.tape=w1.tape
 output:w2.output=w1.output
 size:w1.heap.size≤w2.heap.size
 low:∀k,k<B→w2.heap[k]? =w1.heap[k]?
 own:∀k,lo≤k→k<hi→w2.heap[k]? =w1.heap[k]?
theorem Jcc.trans {B lo hi:Nat}{a b c:World}(h:Jcc B lo hi a b)(k:Jcc B lo hi b c):Jcc B lo hi a c:=
 ⟨k.os.trans h.os,k.tape.trans h.tape,k.output.trans h.output,Nat.le_trans h.size k.size,fun i hi=>(k.low i hi).trans (h.low i hi),fun i h1 h2=>(k.own i h1 h2).trans (h.own i h1 h2)⟩
theorem Jcc.refl (B lo hi:Nat)(w:World):Jcc B lo hi w w:=⟨rfl,rfl,rfl,JnA _,fun _ _=>rfl,fun _ _ _=>rfl⟩
theorem Jcc.of_below {B lo hi:Nat}{w1 w2:World}(h:Below w1.heap.size w1 w2)(hB:B≤w1.heap.size)(hh:hi≤w1.heap.size):Jcc B lo hi w1 w2:=
 ⟨h.os,h.tape,h.output,h.size,fun k hk=>h.block k (by omega),fun k _ hk=>h.block k (by omega)⟩
structure Jl4 (lo hi:Nat)(w1 w2:World):Prop where
 os:w2.os=w1.os
 tape:w2.tape=w1.tape
 output:w2.output=w1.output
 size:w1.heap.size≤w2.heap.size
 block:∀k,k<w1.heap.size→(k<lo∨hi≤k)→w2.heap[k]? =w1.heap[k]?
theorem Jl4.keeps {B lo hi l2 h2:Nat}{w1 w2:World}(h:Jl4 lo hi w1 w2)(hB:B≤lo)(hw:B≤w1.heap.size)(hh:h2≤w1.heap.size)(ha:h2≤lo∨hi≤l2):Jcc B l2 h2 w1 w2:=
 ⟨h.os,h.tape,h.output,h.size,fun k hk=>h.block k (by omega) (by omega),fun k h1 h2=>h.block k (by omega) (by omega)⟩
theorem Jl4.below {B lo hi:Nat}{w1 w2:World}(h:Jl4 lo hi w1 w2)(hB:B≤lo)(hw:B≤w1.heap.size):Below B w1 w2:=⟨h.os,h.tape,h.output,h.size,fun k hk=>h.block k (by omega) (by omega)⟩
structure Mk where
 lo:Nat
 hi:Nat
 fact:World→Prop
def JhM (B:Nat)(w':World)(g:Mk):Prop:=B≤g.lo∧g.lo≤g.hi∧g.hi≤w'.heap.size∧∀w'',Jcc B g.lo g.hi w' w''→g.fact w''
def Jm3 (g h:Mk):Prop:=g.hi≤h.lo∨h.hi≤g.lo
structure Jak (B:Nat)(w':World)(gs:List Mk):Prop where
 live:∀g∈gs,JhM B w' g
 away:gs.Pairwise Jm3
theorem Jak.nil (B:Nat)(w':World):Jak B w' []:=⟨by simp,.nil⟩
theorem Jak.now {B:Nat}{w':World}{g:Mk}{gs:List Mk}(h:Jak B w' (g::gs)):g.fact w':=(h.live g (by simp)).2.2.2 w' (Jcc.refl _ _ _ _)
theorem Jak.rest {B:Nat}{w':World}{g:Mk}{gs:List Mk}(h:Jak B w' (g::gs)):Jak B w' gs:=⟨fun k hk=>h.live k (by simp[hk]),(List.pairwise_cons.1 h.away).2⟩
theorem JhM.below {B:Nat}{w' w'':World}{g:Mk}(h:JhM B w' g)(hB:B≤w'.heap.size)(hb:Below w'.heap.size w' w''):JhM B w'' g:=
 ⟨h.1,h.2.1,Nat.le_trans h.2.2.1 hb.size,fun w3 h3=>h.2.2.2 w3 ((Jcc.of_below hb hB h.2.2.1).trans h3)⟩
theorem Jak.below {B:Nat}{w' w'':World}{gs:List Mk}(h:Jak B w' gs)(hB:B≤w'.heap.size)(hb:Below w'.heap.size w' w''):Jak B w'' gs:=⟨fun g hg=>(h.live g hg).below hB hb,h.away⟩
theorem Jak.only {B lo hi:Nat}{w' w'':World}{gs:List Mk}(h:Jak B w' gs)(hB:B≤w'.heap.size)(hlo:B≤lo)(ho:Jl4 lo hi w' w'')(ha:∀g∈gs,g.hi≤lo∨hi≤g.lo):Jak B w'' gs:=
 ⟨fun g hg=>⟨(h.live g hg).1,(h.live g hg).2.1,Nat.le_trans (h.live g hg).2.2.1 ho.size,fun w3 h3=>(h.live g hg).2.2.2 w3 ((ho.keeps hlo hB (h.live g hg).2.2.1 (ha g hg)).trans h3)⟩,h.away⟩
theorem Jak.perm {B:Nat}{w':World}{a b:Mk}{gs:List Mk}(h:Jak B w' (a::b::gs)):Jak B w' (b::a::gs):=by
 obtain⟨hl,ha⟩:=h
 rw[List.pairwise_cons,List.pairwise_cons] at ha
 refine⟨fun g hg=>hl g (by simp only[List.mem_cons] at hg⊢;rcases hg with h|h|h<;>simp[h]),?_⟩
 rw[List.pairwise_cons,List.pairwise_cons]
 refine⟨fun g hg=>?_,fun g hg=>ha.1 g (by simp[hg]),ha.2.2⟩
 rcases List.mem_cons.1 hg with rfl|hg
 ·exact(ha.1 b (by simp)).symm
 ·exact ha.2.1 g hg
def Jhb (B:Nat)(R:Nat→Nat→Value→World→Prop):Prop:=∀lo hi v w1 w2,R lo hi v w1→hi≤w1.heap.size→Jcc B lo hi w1 w2→R lo hi v w2
theorem Jak.add {B lo:Nat}{w':World}{gs:List Mk}{R:Nat→Nat→Value→World→Prop}{v:Value}(h:Jak B w' gs)(hs:Jhb B R)(hB:B≤lo)(hlo:lo≤w'.heap.size)(hR:R lo w'.heap.size v w')(hold:∀g∈gs,g.hi≤lo):Jak B w' (⟨lo,w'.heap.size,R lo w'.heap.size v⟩::gs):=by
 refine⟨fun g hg=>?_,List.pairwise_cons.2 ⟨fun g hg=>.inr (hold g hg),h.away⟩⟩
 rcases List.mem_cons.1 hg with rfl|hg
 ·exact⟨hB,hlo,JnA _,fun w3 h3=>hs _ _ _ _ _ hR (JnA _) h3⟩
 ·exact h.live g hg
theorem Jak.two {B:Nat}{w':World}{g h:Mk}{gs:List Mk}(k:Jak B w' (g::h::gs)):g.hi≤h.lo∨h.hi≤g.lo:=(List.pairwise_cons.1 k.away).1 h (by simp)
theorem Jak.fact2 {B:Nat}{w':World}{g h:Mk}{gs:List Mk}(k:Jak B w' (g::h::gs)):h.fact w':=k.rest.now
def Q6 (P:Program)(ops:Array Oper)(w:World)(gs:List Mk)(o:Oper)(v:Value)(a:Act):Prop:=∀w1,Below w.heap.size w w1→Jak w.heap.size w1 gs→YieldsIn P ops (Zv w1) o v a
def JcK (P:Program)(ops:Array Oper)(w:World)(gs:List Mk)(o:Oper)(R:Nat→Nat→Value→World→Prop)(a:Act):Prop:=
 Region.wanted o (yielded ops a.tmps)=true∧∀w1,Below w.heap.size w w1→Jak w.heap.size w1 gs→
  (∃v w2,(execOp a.eval o).run P w1=.ok (.value v) w2∧Below w1.heap.size w1 w2∧R w1.heap.size w2.heap.size v w2)∨
  (∃f args,(execOp a.eval o).run P w1=.ok (.enter f args) w1∧Calls P f args w1 (fun e w2=>∃v,e=.returned v∧Below w1.heap.size w1 w2∧R w1.heap.size w2.heap.size v w2))
def Jcd (P:Program)(ops:Array Oper)(w:World)(gs:List Mk)(lo hi:Nat)(o:Oper)(R:Nat→Nat→Value→World→Prop)(a:Act):Prop:=
 Region.wanted o (yielded ops a.tmps)=true∧∀w1,Below w.heap.size w w1→Jak w.heap.size w1 gs→
  ∃f args,(execOp a.eval o).run P w1=.ok (.enter f args) w1∧Calls P f args w1 (fun e w2=>∃v,e=.returned v∧Jl4 lo hi w1 w2∧R w1.heap.size w2.heap.size v w2)
theorem Q6.of_same {w:World}{gs:List Mk}{o:Oper}{v:Value}{a a':Act}(h:Q6 P ops w gs o v a)(he:execOp a'.eval o=execOp a.eval o)(hw:Region.wanted o (yielded ops a'.tmps)=Region.wanted o (yielded ops a.tmps)):Q6 P ops w gs o v a':=fun w1 hb hl=>(h w1 hb hl).of_same he hw
theorem JcK.of_same {w:World}{gs:List Mk}{o:Oper}{R:Nat→Nat→Value→World→Prop}{a a':Act}(h:JcK P ops w gs o R a)(he:execOp a'.eval o=execOp a.eval o)(hw:Region.wanted o (yielded ops a'.tmps)=Region.wanted o (yielded ops a.tmps)):JcK P ops w gs o R a':=by
 unfold JcK at*;rw[he,hw];exact h
theorem Jcd.of_same {w:World}{gs:List Mk}{lo hi:Nat}{o:Oper}{R:Nat→Nat→Value→World→Prop}{a a':Act}(h:Jcd P ops w gs lo hi o R a)(he:execOp a'.eval o=execOp a.eval o)(hw:Region.wanted o (yielded ops a'.tmps)=Region.wanted o (yielded ops a.tmps)):Jcd P ops w gs lo hi o R a':=by
 unfold Jcd at*;rw[he,hw];exact h
inductive Kd
 |h
 |q
 |w
 |c
 |f
def wpY (P:Program)(md:Region.Mode)(ops:Array Oper)(w:World)(n:Nat)(kd:Nat→Kd)(L:Array Bool→Act→List Mk→Option Mk→Prop):Nat→Array Bool→Act→List Mk→Option Mk→Prop
 |0,listed,a,gs,fl=>L listed a gs fl
 |k+1,listed,a,gs,fl=>Region.ready md ops listed≠[]∧∀i∈Region.ready md ops listed,i<n∧∀oi,ops[i]? =some oi→
  match kd i with
  | .h=>∃v,Q6 P ops w gs oi v a∧wpY P md ops w n kd L k (listed.setIfInBounds i true) (a.put oi.dst v) gs fl
  | .q=>∃v,Q6 P ops w gs oi v a∧wpY P md ops w n kd L k (listed.setIfInBounds i true) (a.put oi.dst v) gs fl
  | .w=>∃R,JcK P ops w gs oi R a∧Jhb w.heap.size R∧∀lo hi v,w.heap.size≤lo→lo≤hi→(∃w',R lo hi v w')→wpY P md ops w n kd L k (listed.setIfInBounds i true) (a.put oi.dst v) (⟨lo,hi,R lo hi v⟩::gs) fl
  | .c=>∃g gs' R,gs=g::gs'∧Jcd P ops w gs g.lo g.hi oi R a∧Jhb w.heap.size R∧∀lo hi v,w.heap.size≤lo→lo≤hi→(∃w',R lo hi v w')→wpY P md ops w n kd L k (listed.setIfInBounds i true) (a.put oi.dst v) (⟨lo,hi,R lo hi v⟩::gs') fl
  | .f=>fl=none∧∃ob,Jgh P ops oi ob∧∀b,w.heap.size≤b→wpY P md ops w n kd L k (listed.setIfInBounds i true) (a.put oi.dst (QQ b)) gs (some ⟨b,b+1,fun w'=>w'.heap[b]? =some ob⟩)
theorem ZI {w:World}{n g:Nat}{kd:Nat→Kd}{L:Array Bool→Act→List Mk→Option Mk→Prop}{Q':Exit→Act→World→Prop}
 (hL:∀listed a gs fl w',Below w.heap.size w w'→Jak w.heap.size w' (fl.toList++gs)→L listed a gs fl→wpAny P md ops Q' g listed a w'):
 ∀(f:Nat) (listed:Array Bool) (a:Act) (gs:List Mk) (fl:Option Mk) (w':World),Below w.heap.size w w'→Jak w.heap.size w' (fl.toList++gs)→wpY P md ops w n kd L f listed a gs fl→wpAny P md ops Q' (f+g) listed a w'
 |0,listed,a,gs,fl,w',hw,hl,h=>by rw[Nat.zero_add];exact hL _ _ _ _ _ hw hl h
 |f+1,listed,a,gs,fl,w',hw,hl,h=>by
  rw[show f+1+g=(f+g)+1 by omega]
  refine⟨fun h0=>absurd h0 h.1,fun i hi=>?_⟩
  obtain⟨_,oi,hoi,_⟩:=mem_ready.1 hi
  have H:=(h.2 i hi).2 oi hoi
  have hgs:Jak w.heap.size w' gs:=by
   cases fl with
   |none=>exact hl
   |some m=>exact hl.rest
  have quiet:∀v,Q6 P ops w gs oi v a→wpY P md ops w n kd L f (listed.setIfInBounds i true) (a.put oi.dst v) gs fl→wpOp P ops Q' i (wpAny P md ops Q' (f+g) (listed.setIfInBounds i true)) a w':=fun v hy hk=>by
   refine wpOp_of_qOp (C:=Zv w') (K:=fun a'=>a'=a.put oi.dst v) ⟨⟨w',Jny _ _⟩,rfl⟩ (fun a' w'' hw'' ha=>?_) ((hy w' hw hgs).qOp hoi rfl)
   obtain⟨x,rfl⟩:=hw''
   subst ha
   exact ZI hL f _ _ gs fl _ (Jno hw x.below) (hl.below hw.size x.below) hk
  cases hkd:kd i with
  |h=>simp only[hkd] at H;obtain⟨v,hy,hk⟩:=H;exact quiet v hy hk
  |q=>simp only[hkd] at H;obtain⟨v,hy,hk⟩:=H;exact quiet v hy hk
  |w=>
   simp only[hkd] at H
   obtain⟨R,hm,hs,hk⟩:=H
   have go:∀v w2,Below w'.heap.size w' w2→R w'.heap.size w2.heap.size v w2→wpAny P md ops Q' (f+g) (listed.setIfInBounds i true) (a.put oi.dst v) w2:=fun v w2 hb hR=>by
    have hl2:=hl.below hw.size hb
    have hold:∀g∈fl.toList++gs,g.hi≤w'.heap.size:=fun g hg=>(hl.live g hg).2.2.1
    have hadd:=hl2.add hs hw.size hb.size hR hold
    refine ZI hL f _ _ _ fl _ (Jno hw hb) ?_ (hk w'.heap.size w2.heap.size v hw.size hb.size ⟨w2,hR⟩)
    cases fl with
    |none=>exact hadd
    |some m=>exact hadd.perm
   unfold wpOp
   simp only[hoi,hm.1,if_true]
   refine .inl ?_
   unfold Oper.wp
   rcases hm.2 w' hw hgs with ⟨v,w2,hr,hb,hR⟩|⟨f',args,hr,hc⟩
   ·rw[hr]
    exact go v w2 hb hR
   ·rw[hr,Oper.upon_enter]
    refine hc.mono ?_
    rintro e w2 ⟨v,rfl,hb,hR⟩
    exact go v w2 hb hR
  |c=>
   simp only[hkd] at H
   obtain⟨g0,gs',R,rfl,hm,hs,hk⟩:=H
   unfold wpOp
   simp only[hoi,hm.1,if_true]
   refine .inl ?_
   unfold Oper.wp
   obtain⟨f',args,hr,hc⟩:=hm.2 w' hw hgs
   rw[hr,Oper.upon_enter]
   refine hc.mono ?_
   rintro e w2 ⟨v,rfl,ho,hR⟩
   have h0:=hgs.live g0 (by simp)
   have hl':Jak w.heap.size w' (fl.toList++gs'):=by
    cases fl with
    |none=>exact hl.rest
    |some m=>exact hl.perm.rest
   have haw:∀g∈fl.toList++gs',g.hi≤g0.lo∨g0.hi≤g.lo:=by
    cases fl with
    |none=>intro g hg;exact((List.pairwise_cons.1 hl.away).1 g hg).symm
    |some m=>intro g hg;exact((List.pairwise_cons.1 hl.perm.away).1 g hg).symm
   have hl2:=hl'.only hw.size h0.1 ho haw
   have hold:∀g∈fl.toList++gs',g.hi≤w'.heap.size:=fun g hg=>(hl'.live g hg).2.2.1
   have hadd:=hl2.add hs hw.size ho.size hR hold
   have hb:Below w.heap.size w w2:=hw.trans (ho.below h0.1 hw.size)
   refine ZI hL f _ _ _ fl _ hb ?_ (hk w'.heap.size w2.heap.size v hw.size ho.size ⟨w2,hR⟩)
   cases fl with
   |none=>exact hadd
   |some m=>exact hadd.perm
  |f=>
   simp only[hkd] at H
   obtain⟨rfl,ob,hm,hk⟩:=H
   unfold wpOp
   simp only[hoi,hm.wanted a,if_true]
   refine .inl ?_
   unfold Oper.wp
   rw[hm.run]
   have hnew:(w'.alloc ob).heap[w'.heap.size]? =some ob:=heap_alloc_new w' ob
   have hb:Below w'.heap.size w' (w'.alloc ob):=Below.all (Jny _ _) ob
   refine ZI hL f _ _ _ _ _ (Jno hw hb) ?_ (hk _ hw.size)
   have hl2:=hl.below hw.size hb
   refine⟨fun g hg=>?_,List.pairwise_cons.2 ⟨fun g hg=>.inr (hl.live g hg).2.2.1,hl2.away⟩⟩
   rcases List.mem_cons.1 hg with rfl|hg
   ·exact⟨hw.size,Nat.le_succ _,by simp,fun w3 h3=>(h3.own _ (JnA _) (Nat.lt_succ_self _)).trans hnew⟩
   ·exact hl2.live g hg
theorem Jjv {w:World}{n i:Nat}{oi:Oper}{v:Value}{kd:Nat→Kd}{L:Array Bool→Act→List Mk→Option Mk→Prop}(hi:ops[i]? =some oi)(hal:kd i=.h)(hsel:∀(j:Nat) (o:Oper) cs b,ops[j]? =some o→o.op≠ .select cs b)
 (hs:Region.sinkB md ops n=true)(hc:Region.chainB md ops n=true)(hn:n<ops.size)(hin:i<n)
 (hdone:∀listed a gs fl,L listed a gs fl→∀j∈Region.ready md ops listed,n≤j):
 ∀(f:Nat) (listed:Array Bool) (a:Act) (gs:List Mk) (fl:Option Mk),HeadInv md ops n listed→
  (∀j oj,ops[j]? =some oj→j≠i→listed.getD j true=false→(∀e∈oj.after,Region.binds md e=true→e.on≠i)→oi.apart ops oj=true)→
  i∈Region.ready md ops listed→Qw P ops w oi v a→
  wpY P md ops w n kd L f (listed.setIfInBounds i true) (a.put oi.dst v) gs fl→wpY P md ops w n kd L (f+1) listed a gs fl:=by
 intro f
 induction f with
 |zero=>
  intro listed a gs fl inv _ hr hy H
  have hun:=(mem_ready.1 hr).1
  refine⟨fun h=>(by rw[h] at hr;cases hr),fun j hj=>?_⟩
  have hjn:j<n:=by
   rcases Nat.lt_or_ge j n with h|h
   ·exact h
   ·exact absurd hj (tail_waits hs hc hn inv _ i rfl hin hun j h)
  refine⟨hjn,fun oj hoj=>?_⟩
  by_cases hji:j=i
  ·subst hji
   obtain rfl:oi=oj:=Option.some.inj (hi.symm.trans hoj)
   simp only[hal]
   exact⟨v,fun w1 hb _=>hy w1 hb,H⟩
  ·have:=hdone _ _ _ _ H j (ready_mono hj hji)
   omega
 |succ f ih=>
  intro listed a gs fl inv hfree hr hy H
  have hun:=(mem_ready.1 hr).1
  refine⟨fun h=>(by rw[h] at hr;cases hr),fun j hj=>?_⟩
  have hjn:j<n:=by
   rcases Nat.lt_or_ge j n with h|h
   ·exact h
   ·exact absurd hj (tail_waits hs hc hn inv _ i rfl hin hun j h)
  refine⟨hjn,fun oj hoj=>?_⟩
  by_cases hji:j=i
  ·subst hji
   obtain rfl:oi=oj:=Option.some.inj (hi.symm.trans hoj)
   simp only[hal]
   exact⟨v,fun w1 hb _=>hy w1 hb,H⟩
  ·have HJ:=(H.2 j (ready_mono hj hji)).2 oj hoj
   obtain⟨hjun,oj',hoj',hall⟩:=mem_ready.1 hj
   obtain rfl:oj=oj':=Option.some.inj (hoj.symm.trans hoj')
   have hnot:∀e∈oj.after,Region.binds md e=true→e.on≠i:=fun e he hb heq=>by
    have h1:=hall e he hb
    rw[heq,getD_both hun] at h1
    cases h1
   obtain⟨ap1,ap2,ap3⟩:=Oper.apart_spec (hfree j oj hoj hji hjun hnot)
   have hfree':∀k ok,ops[k]? =some ok→k≠i→(listed.setIfInBounds j true).getD k true=false→
    (∀e∈ok.after,Region.binds md e=true→e.on≠i)→oi.apart ops ok=true:=fun k ok hk hki hun hno=>by
    refine hfree k ok hk hki ?_ hno
    by_cases hjk:j=k
    ·subst hjk;exact hjun
    ·rw[getD_set_ne true hjk] at hun;exact hun
   have he:=(execOp_put oj (fun cs b=>hsel j oj cs b hoj) a oi.dst v ap1).symm
   have hw:=(wanted_put oj a oi.dst v ap1).symm
   have go:∀(u:Value) gs' fl',wpY P md ops w n kd L f ((listed.setIfInBounds i true).setIfInBounds j true) ((a.put oi.dst v).put oj.dst u) gs' fl'→wpY P md ops w n kd L (f+1) (listed.setIfInBounds j true) (a.put oj.dst u) gs' fl':=fun u gs' fl' h=>by
    refine ih (listed.setIfInBounds j true) (a.put oj.dst u) gs' fl' (inv.set hj hjn) hfree' (ready_mono hr (Ne.symm hji)) (hy.of_put (fun cs b=>hsel i oi cs b hi) ap3) ?_
    rw[Array.setIfInBounds_comm _ _ hji,←Act.put_comm a v u ap2]
    exact h
   cases hkd:kd j with
   |h=>
    simp only[hkd] at HJ⊢
    obtain⟨u,hu,hk⟩:=HJ
    exact⟨u,hu.of_same he hw,go u gs fl hk⟩
   |q=>
    simp only[hkd] at HJ⊢
    obtain⟨u,hu,hk⟩:=HJ
    exact⟨u,hu.of_same he hw,go u gs fl hk⟩
   |w=>
    simp only[hkd] at HJ⊢
    obtain⟨R,hm,hst,hk⟩:=HJ
    exact⟨R,hm.of_same he hw,hst,fun lo hi' u h1 h2 h3=>go _ _ _ (hk lo hi' u h1 h2 h3)⟩
   |c=>
    simp only[hkd] at HJ⊢
    obtain⟨g,gs',R,hg,hm,hst,hk⟩:=HJ
    exact⟨g,gs',R,hg,hm.of_same he hw,hst,fun lo hi' u h1 h2 h3=>go _ _ _ (hk lo hi' u h1 h2 h3)⟩
   |f=>
    simp only[hkd] at HJ⊢
    obtain⟨hf,ob,hm,hk⟩:=HJ
    exact⟨hf,ob,hm,fun b hb=>go _ _ _ (hk b hb)⟩
def Jag (md:Region.Mode)(ops:Array Oper):List Nat→Array Bool→Bool
 |[],_=>true
 |i::l,listed=>(Region.ready md ops listed).contains i&&Region.free md ops listed i&&Jag md ops l (listed.setIfInBounds i true)
def QG:List Nat→Array Bool→Array Bool
 |[],listed=>listed
 |i::l,listed=>QG l (listed.setIfInBounds i true)
theorem Jgj {w:World}{n r:Nat}{kd:Nat→Kd}{L:Array Bool→Act→List Mk→Option Mk→Prop}{Lq:Act→Prop}(hsel:Region.noSelect ops=true)(hs:Region.sinkB md ops n=true)(hc:Region.chainB md ops n=true)(hn:n<ops.size)
 (hdone:∀listed a gs fl,L listed a gs fl→∀j∈Region.ready md ops listed,n≤j):
 ∀(hd:List Nat) (l:List Oper) (listed:Array Bool) (a:Act),hd.map (fun i=>ops[i]?)=l.map some→(∀i∈hd,i<n∧kd i=.h)→HeadInv md ops n listed→
 Jag md ops hd listed=true→(∀a',Lq a'→wpY P md ops w n kd L r (QG hd listed) a' [] none)→Jjq P ops w Lq l a→wpY P md ops w n kd L (hd.length+r) listed a [] none
 |[],l,listed,a,hl,_,_,_,hb,h=>by
  cases l with
  |nil=>rw[List.length_nil,Nat.zero_add];exact hb a h
  |cons o l=>cases hl
 |i::hd,l,listed,a,hl,hk,inv,hB,hb,h=>by
  cases l with
  |nil=>cases hl
  |cons o l=>
   simp only[List.map_cons,List.cons.injEq] at hl
   obtain⟨h0,hl'⟩:=hl
   simp only[Jag,Bool.and_eq_true] at hB
   obtain⟨⟨hr,hf⟩,hB'⟩:=hB
   obtain⟨hin,hkd⟩:=hk i (by simp)
   have hr':i∈Region.ready md ops listed:=by simpa using hr
   obtain⟨v,hy,hK⟩:=h
   rw[show(i::hd).length+r=(hd.length+r)+1 by simp only[List.length_cons];omega]
   exact Jjv h0 hkd (Region.noSelect_spec hsel) hs hc hn hin hdone (hd.length+r) listed a [] none inv (Region.free_spec h0 hf) hr' hy
    (Jgj hsel hs hc hn hdone hd l _ _ hl' (fun j hj=>hk j (by simp[hj])) (inv.set hr' hin) hB' hb hK)
def Jbk (P:Program)(ops:Array Oper)(w:World)(E:Act→List Mk→Prop):List (Kd×Oper)→Act→List Mk→Prop
 |[],a,gs=>E a gs
 |(.w,o)::rest,a,gs=>∃R,JcK P ops w gs o R a∧Jhb w.heap.size R∧∀lo hi v,w.heap.size≤lo→lo≤hi→(∃w',R lo hi v w')→Jbk P ops w E rest (a.put o.dst v) (⟨lo,hi,R lo hi v⟩::gs)
 |(.c,o)::rest,a,gs=>∃g gs' R,gs=g::gs'∧Jcd P ops w gs g.lo g.hi o R a∧Jhb w.heap.size R∧∀lo hi v,w.heap.size≤lo→lo≤hi→(∃w',R lo hi v w')→Jbk P ops w E rest (a.put o.dst v) (⟨lo,hi,R lo hi v⟩::gs')
 |(_,o)::rest,a,gs=>∃v,Q6 P ops w gs o v a∧Jbk P ops w E rest (a.put o.dst v) gs
theorem Za {w:World}{E E':Act→List Mk→Prop}(hE:∀a gs,E a gs→E' a gs):∀(l:List (Kd×Oper)) (a:Act) (gs:List Mk),Jbk P ops w E l a gs→Jbk P ops w E' l a gs
 |[],a,gs,h=>hE a gs h
 |(.w,o)::rest,a,gs,⟨R,h1,h2,h3⟩=>⟨R,h1,h2,fun lo hi v a b c=>Za hE rest _ _ (h3 lo hi v a b c)⟩
 |(.c,o)::rest,a,gs,⟨g,gs',R,h0,h1,h2,h3⟩=>⟨g,gs',R,h0,h1,h2,fun lo hi v a b c=>Za hE rest _ _ (h3 lo hi v a b c)⟩
 |(.h,o)::rest,a,gs,⟨v,h1,h2⟩=>⟨v,h1,Za hE rest _ _ h2⟩
 |(.q,o)::rest,a,gs,⟨v,h1,h2⟩=>⟨v,h1,Za hE rest _ _ h2⟩
 |(.f,o)::rest,a,gs,⟨v,h1,h2⟩=>⟨v,h1,Za hE rest _ _ h2⟩
theorem Jce {w:World}{E:Act→List Mk→Prop}{o:Oper}{rest:List (Kd×Oper)}{a:Act}{gs:List Mk}(R:Nat→Nat→Value→World→Prop)(h:JcK P ops w gs o R a)(hs:Jhb w.heap.size R)
 (k:∀lo hi v,w.heap.size≤lo→lo≤hi→(∃w',R lo hi v w')→Jbk P ops w E rest (a.put o.dst v) (⟨lo,hi,R lo hi v⟩::gs)):Jbk P ops w E ((.w,o)::rest) a gs:=⟨R,h,hs,k⟩
theorem Jbl {w:World}{E:Act→List Mk→Prop}{o:Oper}{rest:List (Kd×Oper)}{a:Act}{gs:List Mk}(v:Value)(h:Q6 P ops w gs o v a)
 (k:Jbk P ops w E rest (a.put o.dst v) gs):Jbk P ops w E ((.q,o)::rest) a gs:=⟨v,h,k⟩
theorem JcK.call {w:World}{gs:List Mk}{o:Oper}{R:Nat→Nat→Value→World→Prop}{a:Act}(f:FuncId)(args:Array Value)(hw:Region.wanted o (yielded ops a.tmps)=true)(he:∀w1,(execOp a.eval o).run P w1=.ok (.enter f args) w1)
 (h:∀w1,Below w.heap.size w w1→Jak w.heap.size w1 gs→Calls P f args w1 (fun e w2=>∃v,e=.returned v∧Below w1.heap.size w1 w2∧R w1.heap.size w2.heap.size v w2)):JcK P ops w gs o R a:=
 ⟨hw,fun w1 hb hl=>.inr ⟨f,args,he w1,h w1 hb hl⟩⟩
theorem Q6.value {w:World}{gs:List Mk}{o:Oper}{v:Value}{a:Act}(hw:Region.wanted o (yielded ops a.tmps)=true)(he:∀w1,Below w.heap.size w w1→Jak w.heap.size w1 gs→(execOp a.eval o).run P w1=.ok (.value v) w1):Q6 P ops w gs o v a:=
 fun w1 hb hl=>.inl ⟨hw,fun w2 hw2=>by
  obtain⟨x,rfl⟩:=hw2
  unfold Oper.quietAt
  rw[he _ (Jno hb x.below) (hl.below hb.size x.below)]
  exact⟨rfl,rfl⟩⟩
theorem Q6.plain {w:World}{gs:List Mk}{o:Oper}{v:Value}{a:Act}(hw:Region.wanted o (yielded ops a.tmps)=true)(he:∀w1,(execOp a.eval o).run P w1=.ok (.value v) w1):Q6 P ops w gs o v a:=Q6.value hw fun w1 _ _=>he w1
theorem Jgk {w:World}{E:Act→List Mk→Prop}{d:Tmp}{x:Value}:∀(l:List (Kd×Oper)) (a:Act) (gs:List Mk),(∀p∈l,(∀cs b,p.2.op≠ .select cs b)∧d∉p.2.looksAt ops∧p.2.dst≠some d)→
 Jbk P ops w (fun a' gs'=>E (a'.put (some d) x) gs') l a gs→Jbk P ops w E l (a.put (some d) x) gs
 |[],a,gs,_,h=>h
 |(k,o)::rest,a,gs,hp,h=>by
  obtain⟨s,p1,p2⟩:=hp (k,o) (by simp)
  have hap:∀e,some d=some e→e∉o.looksAt ops:=fun e he=>by cases he;exact p1
  have he:=execOp_put o s a (some d) x hap
  have hw:=wanted_put (ops:=ops) o a (some d) x hap
  have hcm:∀v,(a.put (some d) x).put o.dst v=(a.put o.dst v).put (some d) x:=fun v=>Act.put_comm a x v (fun e h1 h2=>p2 (h2.trans h1.symm))
  have ih:=fun v gs'=>Jgk (w:=w) (E:=E) (d:=d) (x:=x) rest (a.put o.dst v) gs' (fun p hp'=>hp p (by simp[hp']))
  cases k with
  |h=>obtain⟨v,h1,h2⟩:=h;exact⟨v,h1.of_same he hw,by rw[hcm];exact ih v _ h2⟩
  |q=>obtain⟨v,h1,h2⟩:=h;exact⟨v,h1.of_same he hw,by rw[hcm];exact ih v _ h2⟩
  |f=>obtain⟨v,h1,h2⟩:=h;exact⟨v,h1.of_same he hw,by rw[hcm];exact ih v _ h2⟩
  |w=>obtain⟨R,h1,h2,h3⟩:=h;exact⟨R,h1.of_same he hw,h2,fun lo hi v q1 q2 q3=>by rw[hcm];exact ih v _ (h3 lo hi v q1 q2 q3)⟩
  |c=>obtain⟨g,gs',R,h0,h1,h2,h3⟩:=h;exact⟨g,gs',R,h0,h1.of_same he hw,h2,fun lo hi v q1 q2 q3=>by rw[hcm];exact ih v _ (h3 lo hi v q1 q2 q3)⟩
def Jjw (ops:Array Oper)(n:Nat):List Nat→Array Bool→Bool
 |[],listed=>Region.seqB .any ops (ops.size-n) n listed
 |i::l,listed=>decide (Region.ready .any ops listed=[i])&&Jjw ops n l (listed.setIfInBounds i true)
def Jgl (ops:Array Oper)(n f:Nat):List Nat→Array Bool→Bool
 |[],listed=>decide (Region.ready .any ops listed=[f])&&Region.seqB .any ops (ops.size-n) n (listed.setIfInBounds f true)
 |i::l,listed=>decide (Region.ready .any ops listed=[i,f])&&(Jjw ops n l ((listed.setIfInBounds f true).setIfInBounds i true)&&(decide (Region.ready .any ops (listed.setIfInBounds f true)=[i])&&Jgl ops n f l (listed.setIfInBounds i true)))
def JdY:Kd→Bool
 | .q=>true
 | .w=>true
 | .c=>true
 |_=>false
theorem Jee {w:World}{n:Nat}{kd:Nat→Kd}{L:Array Bool→Act→List Mk→Option Mk→Prop}{fl:Option Mk}{E:Act→List Mk→Prop}
 (hL:∀listed a gs,Region.seqB .any ops (ops.size-n) n listed=true→E a gs→L listed a gs fl):
 ∀(l:List (Kd×Oper)) (sq:List Nat) (listed:Array Bool) (a:Act) (gs:List Mk),sq.map (fun i=>ops[i]?)=l.map (fun p=>some p.2)→sq.map kd=l.map (·.1)→(∀i∈sq,i<n)→(∀p∈l,JdY p.1=true)→Jjw ops n sq listed=true→
 Jbk P ops w E l a gs→wpY P .any ops w n kd L l.length listed a gs fl
 |[],sq,listed,a,gs,h1,_,_,_,hB,h=>by
  cases sq with
  |nil=>exact hL listed a gs hB h
  |cons i sq=>cases h1
 |(k,o)::l,sq,listed,a,gs,h1,h2,h3,h5,hB,h=>by
  cases sq with
  |nil=>cases h1
  |cons i sq=>
   simp only[List.map_cons,List.cons.injEq] at h1 h2
   simp only[Jjw,Bool.and_eq_true,decide_eq_true_eq] at hB
   obtain⟨hr,hB'⟩:=hB
   have ih:=fun v gs'=>Jee (w:=w) hL l sq (listed.setIfInBounds i true) (a.put o.dst v) gs' h1.2 h2.2 (fun j hj=>h3 j (by simp[hj])) (fun p hp=>h5 p (by simp[hp])) hB'
   refine⟨by rw[hr];simp,fun j hj=>?_⟩
   rw[hr] at hj
   obtain rfl:j=i:=by simpa using hj
   refine⟨h3 j (by simp),fun oj hoj=>?_⟩
   obtain rfl:o=oj:=Option.some.inj (h1.1.symm.trans hoj)
   have hk5:=h5 (k,o) (by simp)
   simp only[h2.1]
   cases k with
   |h=>cases hk5
   |f=>cases hk5
   |q=>obtain⟨v,e1,e2⟩:=h;exact⟨v,e1,ih v _ e2⟩
   |w=>obtain⟨R,e1,e2,e3⟩:=h;exact⟨R,e1,e2,fun lo hi v q1 q2 q3=>ih v _ (e3 lo hi v q1 q2 q3)⟩
   |c=>obtain⟨g,gs',R,e0,e1,e2,e3⟩:=h;exact⟨g,gs',R,e0,e1,e2,fun lo hi v q1 q2 q3=>ih v _ (e3 lo hi v q1 q2 q3)⟩
theorem Jdd {w:World}{n f:Nat}{kd:Nat→Kd}{L:Array Bool→Act→List Mk→Option Mk→Prop}{of:Oper}{d:Tmp}{ob:Obj}(hf:ops[f]? =some of)(hfd:of.dst=some d)(hM:Jgh P ops of ob)(hkf:kd f=.f)(hfn:f<n){E:Act→List Mk→Prop}{EF:Nat→Act→List Mk→Prop}
 (hE:∀b,w.heap.size≤b→∀a gs,E a gs→EF b (a.put (some d) (QQ b)) gs)
 (hL:∀b listed a gs,Region.seqB .any ops (ops.size-n) n listed=true→EF b a gs→L listed a gs (some ⟨b,b+1,fun w'=>w'.heap[b]? =some ob⟩)):
 ∀(l:List (Kd×Oper)) (sq:List Nat) (listed:Array Bool) (a:Act) (gs:List Mk),sq.map (fun i=>ops[i]?)=l.map (fun p=>some p.2)→sq.map kd=l.map (·.1)→(∀i∈sq,i<n∧i≠f)→(∀p∈l,JdY p.1=true∧(∀cs b,p.2.op≠ .select cs b)∧d∉p.2.looksAt ops∧p.2.dst≠some d)→Jgl ops n f sq listed=true→
 Jbk P ops w E l a gs→wpY P .any ops w n kd L (l.length+1) listed a gs none
 |[],sq,listed,a,gs,h1,_,_,_,hB,h=>by
  cases sq with
  |cons i sq=>cases h1
  |nil=>
   simp only[Jgl,Bool.and_eq_true,decide_eq_true_eq] at hB
   refine⟨by rw[hB.1];simp,fun j hj=>?_⟩
   rw[hB.1] at hj
   obtain rfl:j=f:=by simpa using hj
   refine⟨hfn,fun oj hoj=>?_⟩
   obtain rfl:of=oj:=Option.some.inj (hf.symm.trans hoj)
   simp only[hkf]
   refine⟨trivial,ob,hM,fun b hb=>?_⟩
   rw[hfd]
   exact hL b _ _ _ hB.2 (hE b hb a gs h)
 |(k,o)::l,sq,listed,a,gs,h1,h2,h3,h5,hB,h=>by
  cases sq with
  |nil=>cases h1
  |cons i sq=>
   have hall:=h
   have h1a:=h1
   have h2a:=h2
   simp only[List.map_cons,List.cons.injEq] at h1 h2
   simp only[Jgl,Bool.and_eq_true,decide_eq_true_eq] at hB
   obtain⟨hr,hBf,hrf,hB'⟩:=hB
   have ih:=fun v gs'=>Jdd (w:=w) hf hfd hM hkf hfn hE hL l sq (listed.setIfInBounds i true) (a.put o.dst v) gs' h1.2 h2.2 (fun j hj=>h3 j (by simp[hj])) (fun p hp=>h5 p (by simp[hp])) hB'
   refine⟨by rw[hr];simp,fun j hj=>?_⟩
   rw[hr] at hj
   have hj':j=i∨j=f:=by simpa using hj
   rcases hj' with rfl|rfl
   ·refine⟨(h3 j (by simp)).1,fun oj hoj=>?_⟩
    obtain rfl:o=oj:=Option.some.inj (h1.1.symm.trans hoj)
    have hk5:=(h5 (k,o) (by simp)).1
    simp only[h2.1]
    cases k with
    |h=>cases hk5
    |f=>cases hk5
    |q=>obtain⟨v,e1,e2⟩:=h;exact⟨v,e1,ih v _ e2⟩
    |w=>obtain⟨R,e1,e2,e3⟩:=h;exact⟨R,e1,e2,fun lo hi v q1 q2 q3=>ih v _ (e3 lo hi v q1 q2 q3)⟩
    |c=>obtain⟨g,gs',R,e0,e1,e2,e3⟩:=h;exact⟨g,gs',R,e0,e1,e2,fun lo hi v q1 q2 q3=>ih v _ (e3 lo hi v q1 q2 q3)⟩
   ·refine⟨hfn,fun oj hoj=>?_⟩
    obtain rfl:of=oj:=Option.some.inj (hf.symm.trans hoj)
    simp only[hkf]
    refine⟨trivial,ob,hM,fun b hb=>?_⟩
    rw[hfd]
    have hrow:Jbk P ops w (EF b) ((k,o)::l) (a.put (some d) (QQ b)) gs:=Jgk (E:=EF b) _ _ _ (fun p hp=>(h5 p hp).2) (Za (fun a' gs'=>hE b hb a' gs') _ _ _ hall)
    refine Jee (E:=EF b) (fun listed a gs hs he=>hL b listed a gs hs he) ((k,o)::l) (i::sq) _ _ gs h1a h2a (fun m hm=>(h3 m hm).1) (fun p hp=>(h5 p hp).1) ?_ hrow
    simp only[Jjw,Bool.and_eq_true,decide_eq_true_eq]
    exact⟨hrf,hBf⟩
def Ju:List Kd→List Oper→List Oper
 | .h::ms,o::l=>o::Ju ms l
 | .q::ms,_::l=>Ju ms l
 | .w::ms,_::l=>Ju ms l
 | .c::ms,_::l=>Ju ms l
 | .f::ms,_::l=>Ju ms l
 |_,_=>[]
def Xd:List Kd→List Oper→List (Kd×Oper)
 | .h::ms,_::l=>Xd ms l
 | .q::ms,o::l=>(.q,o)::Xd ms l
 | .w::ms,o::l=>(.w,o)::Xd ms l
 | .c::ms,o::l=>(.c,o)::Xd ms l
 | .f::ms,_::l=>Xd ms l
 |_,_=>[]
def JV:List Kd→Nat→List Nat
 |[],_=>[]
 | .h::ms,i=>i::JV ms (i+1)
 |_::ms,i=>JV ms (i+1)
def Z3:List Kd→Nat→List Nat
 |[],_=>[]
 | .q::ms,i=>i::Z3 ms (i+1)
 | .w::ms,i=>i::Z3 ms (i+1)
 | .c::ms,i=>i::Z3 ms (i+1)
 |_::ms,i=>Z3 ms (i+1)
theorem Zb {l0:List Oper}:∀(ms:List Kd) (k:Nat),k+ms.length≤l0.length→(JV ms k).map (fun i=>l0[i]?)=(Ju ms (l0.drop k)).map some
 |[],k,_=>by cases l0.drop k<;>rfl
 |m::ms,k,h=>by
  simp only[List.length_cons] at h
  have hk:k<l0.length:=by omega
  rw[List.drop_eq_getElem_cons hk]
  have ih:=Zb (l0:=l0) ms (k+1) (by omega)
  cases m<;>simp only[JV,Ju,List.map_cons,ih,List.getElem?_eq_getElem hk]
theorem Jde {l0:List Oper}:∀(ms:List Kd) (k:Nat),k+ms.length≤l0.length→(Z3 ms k).map (fun i=>l0[i]?)=(Xd ms (l0.drop k)).map (fun p=>some p.2)
 |[],k,_=>by cases l0.drop k<;>rfl
 |m::ms,k,h=>by
  simp only[List.length_cons] at h
  have hk:k<l0.length:=by omega
  rw[List.drop_eq_getElem_cons hk]
  have ih:=Jde (l0:=l0) ms (k+1) (by omega)
  cases m<;>simp only[Z3,Xd,List.map_cons,ih,List.getElem?_eq_getElem hk]
theorem Jgm:∀(ms:List Kd) (k i:Nat),i∈JV ms k→k≤i∧i<k+ms.length∧ms[i-k]? =some .h
 |m::ms,k,i,h=>by
  have step:i∈JV ms (k+1)→k≤i∧i<k+(m::ms).length∧(m::ms)[i-k]? =some .h:=fun h=>by
   obtain⟨h1,h2,h3⟩:=Jgm ms (k+1) i h
   refine⟨by omega,by simp only[List.length_cons];omega,?_⟩
   rw[show i-k=(i-(k+1))+1 by omega,List.getElem?_cons_succ];exact h3
  cases m with
  |h=>
   rcases List.mem_cons.1 h with rfl|h
   ·exact⟨JnA _,by simp,by simp⟩
   ·exact step h
  |q=>exact step h
  |w=>exact step h
  |c=>exact step h
  |f=>exact step h
theorem Je8:∀(ms:List Kd) (k i:Nat),i∈Z3 ms k→k≤i∧i<k+ms.length∧(ms[i-k]?).map JdY=some true
 |m::ms,k,i,h=>by
  have step:i∈Z3 ms (k+1)→k≤i∧i<k+(m::ms).length∧((m::ms)[i-k]?).map JdY=some true:=fun h=>by
   obtain⟨h1,h2,h3⟩:=Je8 ms (k+1) i h
   refine⟨by omega,by simp only[List.length_cons];omega,?_⟩
   rw[show i-k=(i-(k+1))+1 by omega,List.getElem?_cons_succ];exact h3
  cases m with
  |h=>exact step h
  |f=>exact step h
  |q=>
   rcases List.mem_cons.1 h with rfl|h
   ·exact⟨JnA _,by simp,by simp[JdY]⟩
   ·exact step h
  |w=>
   rcases List.mem_cons.1 h with rfl|h
   ·exact⟨JnA _,by simp,by simp[JdY]⟩
   ·exact step h
  |c=>
   rcases List.mem_cons.1 h with rfl|h
   ·exact⟨JnA _,by simp,by simp[JdY]⟩
   ·exact step h
theorem JhN (kd:Nat→Kd):∀(ms:List Kd) (l:List Oper) (k:Nat),ms.length≤l.length→(∀j m,ms[j]? =some m→kd (k+j)=m)→(Z3 ms k).map kd=(Xd ms l).map (·.1)
 |[],l,k,_,_=>by cases l<;>rfl
 |m::ms,[],k,h,_=>by simp at h
 |m::ms,o::l,k,h,hk=>by
  have ih:=JhN kd ms l (k+1) (by simpa using h) (fun j m' hm=>by rw[show k+1+j=k+(j+1) by omega];exact hk (j+1) m' (by simpa using hm))
  have h0:=hk 0 m (by simp)
  rw[Nat.add_zero] at h0
  cases m<;>simp only[Z3,Xd,List.map_cons,ih,h0]
theorem Jdf:∀(ms:List Kd) (l:List Oper),∀p∈Xd ms l,JdY p.1=true∧p.2∈l
 |[],l,p,h=>by cases l<;>cases h
 |m::ms,[],p,h=>by cases m<;>cases h
 |m::ms,o::l,p,h=>by
  have step:p∈Xd ms l→JdY p.1=true∧p.2∈o::l:=fun h=>⟨(Jdf ms l p h).1,List.mem_cons_of_mem _ (Jdf ms l p h).2⟩
  cases m with
  |h=>exact step h
  |f=>exact step h
  |q=>
   rcases List.mem_cons.1 h with rfl|h
   ·exact⟨rfl,by simp⟩
   ·exact step h
  |w=>
   rcases List.mem_cons.1 h with rfl|h
   ·exact⟨rfl,by simp⟩
   ·exact step h
  |c=>
   rcases List.mem_cons.1 h with rfl|h
   ·exact⟨rfl,by simp⟩
   ·exact step h
def Jmi (l:List Oper)(ms:List Kd)(f:Nat)(d:Tmp):Bool:=
 let L:=QG (JV ms 0) (Array.replicate l.toArray.size false)
 Region.noSelect l.toArray&&(decide (ms.length<l.toArray.size)&&(Region.sinkB .any l.toArray ms.length&&(Region.chainB .any l.toArray ms.length&&(Jag .any l.toArray (JV ms 0) (Array.replicate l.toArray.size false)&&
  (decide ((JV ms 0).length+(Xd ms l).length+1=ms.length)&&((match ms[f]? with|some .f=>true|_=>false)&&((Xd ms l).all (fun p=>!(p.2.looksAt l.toArray).contains d&&p.2.dst != some d)&&Jgl l.toArray ms.length f (Z3 ms 0) L)))))))
theorem ZC {id:Nat}{Q:Exit→Act→World→Prop}{a:Act}{w:World}{l:List Oper}(ms:List Kd)(f:Nat)(ob:Obj){d:Tmp}{o:Oper}(hm:P.follows .mixedOrders=true)(ho:l[f]? =some o)(hod:o.dst=some d)(hM:Jgh P l.toArray o ob)(hB:Jmi l ms f d=true)(hd:Ja3 a.tmps.size (Ju ms l)=true)
 (h:∃aF:Act,(∀w1,Below w.heap.size w w1→wpQuiet P l.toArray (fun w'=>∃x:JC w1,w'=x.world) (fun a'=>a'=aF) (Ju ms l) a)∧
   Jbk P l.toArray w (fun a' gs=>∀b w',Below w.heap.size w w'→w.heap.size≤b→w'.heap[b]? =some ob→Jak w.heap.size w' (⟨b,b+1,fun w'=>w'.heap[b]? =some ob⟩::gs)→wpList P l.toArray Q (l.drop ms.length) (a'.put (some d) (QQ b)) w') (Xd ms l) aF []):(Code.region id l.toArray true).wp P Q a w:=by
 obtain⟨aF,H,K⟩:=h
 simp only[Jmi,Bool.and_eq_true,decide_eq_true_eq] at hB
 obtain⟨hsel,hn,hs,hc,hheads,hlen,hmf,hap,hrows⟩:=hB
 have hn':ms.length<l.length:=by simpa using hn
 have hdl:(l.drop ms.length).length=l.toArray.size-ms.length:=by simp
 have inv0:HeadInv .any l.toArray ms.length (Array.replicate l.toArray.size false):=
  ⟨by simp,fun j oj _ hl=>(by rw[getD_replicate_false] at hl;cases hl),fun t _ ht=>getD_in (by simpa using ht) (getD_replicate_false _ _)⟩
 let kd:Nat→Kd:=fun i=>(ms[i]?).getD .h
 let LL:Array Bool→Act→List Mk→Option Mk→Prop:=fun listed a' gs fl=>Region.seqB .any l.toArray (l.toArray.size-ms.length) ms.length listed=true∧∀w',Below w.heap.size w w'→Jak w.heap.size w' (fl.toList++gs)→wpList P l.toArray Q (l.drop ms.length) a' w'
 have hkd:∀j m,ms[j]? =some m→kd (0+j)=m:=fun j m h=>by simp only[kd,Nat.zero_add,h,Option.getD_some]
 have hmsf:ms[f]? =some .f:=by
  cases hx:ms[f]? with
  |none=>rw[hx] at hmf;cases hmf
  |some m=>rw[hx] at hmf;cases m<;>first|rfl|cases hmf
 have hfl:f<ms.length:=(List.getElem?_eq_some_iff.1 hmsf).1
 have hkf:kd f=.f:=by simp only[kd,hmsf,Option.getD_some]
 have hmap1:(JV ms 0).map (fun i=>l.toArray[i]?)=(Ju ms l).map some:=by
  have:=Zb (l0:=l) ms 0 (by omega)
  simpa using this
 have hmap2:(Z3 ms 0).map (fun i=>l.toArray[i]?)=(Xd ms l).map (fun p=>some p.2):=by
  have:=Jde (l0:=l) ms 0 (by omega)
  simpa using this
 have ho':l.toArray[f]? =some o:=by simpa using ho
 have KX:=fun(a':Act) (ha:a'=aF)=>Jdd (P:=P) (w:=w) (n:=ms.length) (kd:=kd) (L:=LL) ho' hod hM hkf hfl
  (EF:=fun b a' gs=>∀w',Below w.heap.size w w'→w.heap.size≤b→w'.heap[b]? =some ob→Jak w.heap.size w' (⟨b,b+1,fun w'=>w'.heap[b]? =some ob⟩::gs)→wpList P l.toArray Q (l.drop ms.length) a' w')
  (fun b hb a gs hE w' h1 h2 h3 h4=>hE b w' h1 h2 h3 h4)
  (fun b listed a gs h1 h2=>⟨h1,fun w' hw hok=>h2 w' hw (hok.live ⟨b,b+1,fun w'=>w'.heap[b]? =some ob⟩ (List.mem_cons_self ..)).1 (Jak.now (g:=⟨b,b+1,fun w'=>w'.heap[b]? =some ob⟩) hok) hok⟩)
  (Xd ms l) (Z3 ms 0) (QG (JV ms 0) (Array.replicate l.toArray.size false)) a' [] hmap2 (JhN kd ms l 0 (by omega) hkd)
  (fun i hi=>by
    have:=(Je8 ms 0 i hi)
    refine⟨by omega,fun e=>?_⟩
    subst e
    rw[Nat.sub_zero,hmsf] at this
    simp[JdY] at this)
  (fun p hp=>by
    have h1:=List.all_eq_true.1 hap p hp
    simp only[Bool.and_eq_true,Bool.not_eq_true',bne_iff_ne,ne_eq] at h1
    obtain⟨hmem,hx⟩:=Jdf ms l p hp
    obtain⟨j,hj⟩:=List.getElem?_of_mem hx
    refine⟨hmem,fun cs b=>Region.noSelect_spec hsel j p.2 cs b (by simpa using hj),fun hc=>?_,h1.2⟩
    have h2:=h1.1
    rw[List.contains_iff_mem.2 hc] at h2;cases h2) hrows (ha▸K)
 have HF:=Jgj (md:=.any) (r:=(Xd ms l).length+1) (kd:=kd) (L:=LL) hsel hs hc hn (fun listed a' gs fl hL=>seqB_ready hL.1)
  (JV ms 0) (Ju ms l) _ a hmap1 (fun i hi=>by
    obtain⟨h1,h2,h3⟩:=Jgm ms 0 i hi
    refine⟨by omega,?_⟩
    simp only[kd]
    rw[Nat.sub_zero] at h3
    rw[h3];rfl) inv0 hheads KX (Jgi (Ju ms l) a hd H)
 refine wp_region_any hm ?_
 have:=ZI (Q':=Q) (g:=l.toArray.size-ms.length) (fun listed a' gs fl w' hw' hl hL=>by
  have:=wpAny_of_seq (md:=.any) (Q':=Q) (l.drop ms.length) ms.length listed a' w' (fun j=>by simp[List.getElem?_drop]) (by rw[hdl];exact hL.1) (hL.2 w' hw' hl)
  rwa [hdl] at this) _ _ _ [] none _ (Jny w.heap.size w).drew (Jak.nil _ _) HF
 rw[show(JV ms 0).length+((Xd ms l).length+1)+(l.toArray.size-ms.length)=l.toArray.size by omega] at this
 exact this
end
end
section
open Go.RowKit
section
variable {P:Program} {ops:Array Oper} {md:Region.Mode}
def Jv (P:Program)(ops:Array Oper)(C:World→Prop)(C':Value→World→Prop)(o:Oper)(a:Act):Prop:=
 Region.wanted o (yielded ops a.tmps)=true∧∀w,C w→
  (∃v w2,C' v w2∧((execOp a.eval o).run P w=.ok (.value v) w2∨((execOp a.eval o).run P w=.ok .skip w2∧v=undef)))∨
  (∃f args,(execOp a.eval o).run P w=.ok (.enter f args) w∧Calls P f args w (fun e w2=>∃v,e=.returned v∧C' v w2))
theorem Jv.of_unput {C:World→Prop}{C':Value→World→Prop}{oi oj:Oper}{u:Value}{a:Act}(hsi:∀cs b,oi.op≠ .select cs b)(h:Jv P ops C C' oi (a.put oj.dst u))(hap:∀d,oj.dst=some d→d∉oi.looksAt ops):Jv P ops C C' oi a:=by
 have he:=(execOp_put oi hsi a oj.dst u hap).symm
 have hw:=(wanted_put oi a oj.dst u hap).symm
 unfold Jv at*
 rw[he,hw]
 exact h
def JfE (G:Nat→World→Prop)(top:List Nat)(k:Nat)(C:World→Prop):Prop:=∀g,k≤top.getD g 0→∀w,C w→G g w
def wpH (P:Program)(md:Region.Mode)(ops:Array Oper)(hd sq:List Nat)(G:Nat→World→Prop)(top:List Nat)(Q:Exit→Act→World→Prop):Nat→Nat→(World→Prop)→Array Bool→Act→Prop
 |0,k,C,listed,a=>k=sq.length∧Region.ready md ops listed=[]∧∀w,C w→Q .normal a w
 |f+1,k,C,listed,a=>Region.ready md ops listed≠[]∧∀i∈Region.ready md ops listed,∀oi,ops[i]? =some oi→
  ((i∈hd∧∃v,YieldsIn P ops C oi v a∧wpH P md ops hd sq G top Q f k C (listed.setIfInBounds i true) (a.put oi.dst v))∨
   (sq[k]? =some i∧∃C':Value→World→Prop,Jv P ops C C' oi a∧(∀v,JfE G top (k+1) (C' v))∧∀v,(∃w,C' v w)→wpH P md ops hd sq G top Q f (k+1) (C' v) (listed.setIfInBounds i true) (a.put oi.dst v)))
theorem ZJ {hd sq:List Nat}{G:Nat→World→Prop}{top:List Nat}{Q':Exit→Act→World→Prop}:
 ∀(f k:Nat) (C:World→Prop) (listed:Array Bool) (a:Act) (w:World),C w→wpH P md ops hd sq G top Q' f k C listed a→wpAny P md ops Q' f listed a w
 |0,k,C,listed,a,w,hw,h=>⟨h.2.1,h.2.2 w hw⟩
 |f+1,k,C,listed,a,w,hw,h=>by
  refine⟨fun h0=>absurd h0 h.1,fun i hi=>?_⟩
  obtain⟨_,oi,hoi,_⟩:=mem_ready.1 hi
  rcases h.2 i hi oi hoi with ⟨-,v,hy,hk⟩|⟨-,C',⟨hm,ht⟩,-,hk⟩
  ·refine wpOp_of_qOp (C:=C) (K:=fun a'=>a'=a.put oi.dst v) hw (fun a' w'' hw'' ha=>?_) (hy.qOp hoi rfl)
   subst ha
   exact ZJ f k C _ _ _ hw'' hk
  ·unfold wpOp
   simp only[hoi,hm,if_true]
   refine .inl ?_
   unfold Oper.wp
   rcases ht w hw with ⟨v,w2,hw2,hr⟩|⟨f',args,hr,hc⟩
   ·rcases hr with hr|⟨hr,rfl⟩
    ·rw[hr];exact ZJ f (k+1) _ _ _ _ hw2 (hk v ⟨w2,hw2⟩)
    ·rw[hr];exact ZJ f (k+1) _ _ _ _ hw2 (hk undef ⟨w2,hw2⟩)
   ·rw[hr,Oper.upon_enter]
    refine hc.mono ?_
    rintro e w2 ⟨v,rfl,hw2⟩
    exact ZJ f (k+1) _ _ _ _ hw2 (hk v ⟨w2,hw2⟩)
structure Qn (md:Region.Mode)(ops:Array Oper)(sq:List Nat)(k:Nat)(listed:Array Bool):Prop where
 size:listed.size=ops.size
 closed:∀j oj,ops[j]? =some oj→listed.getD j false=true→∀e∈oj.after,Region.binds md e=true→listed.getD e.on false=true
 open':∀k' t,k≤k'→sq[k']? =some t→listed.getD t true=false
 done:∀k' t,k'<k→sq[k']? =some t→listed.getD t false=true
def Jl5 (md:Region.Mode)(ops:Array Oper)(hd sq:List Nat)(late:Nat→Nat):Bool:=
 (hd.all fun i=>!sq.contains i)&&(((List.range sq.length).all fun k=>(List.range sq.length).all fun k'=>k==k'||sq[k]? != sq[k']?)&&
 (((List.range sq.length).all fun k=>k==0||Region.waitsFor md ops (sq.getD k 0) (sq.getD (k-1) 0))&&
 (hd.all fun i=>decide (i<ops.size)&&((List.range ops.size).any fun j=>Region.waitsFor md ops j i&&(if hd.contains j then decide (i<j)&&decide (late j≤late i) else (List.range (late i+1)).any fun k=>sq[k]? ==some j)))))
structure Zx (md:Region.Mode)(ops:Array Oper)(hd sq:List Nat)(late:Nat→Nat):Prop where
 apart:∀i∈hd,i∉sq
 once:∀k k' t:Nat,sq[k]? =some t→sq[k']? =some t→k=k'
 next:∀k t t':Nat,sq[k+1]? =some t→sq[k]? =some t'→Region.waitsFor md ops t t'=true
 wait:∀i∈hd,i<ops.size∧∃j,j<ops.size∧Region.waitsFor md ops j i=true∧((j∈hd∧i<j∧late j≤late i)∨(∃k,k≤late i∧sq[k]? =some j))
theorem JcR {hd sq:List Nat}{late:Nat→Nat}(h:Jl5 md ops hd sq late=true):Zx md ops hd sq late:=by
 simp only[Jl5,Bool.and_eq_true,List.all_eq_true,List.mem_range,Bool.or_eq_true,List.contains_iff_mem,Bool.not_eq_true',beq_iff_eq,bne_iff_ne,decide_eq_true_eq,List.any_eq_true] at h
 obtain⟨h2,h3,h4,h5⟩:=h
 refine⟨fun i hi hs=>?_,fun k k' t hk hk'=>?_,fun k t t' hk hk'=>?_,fun i hi=>?_⟩
 ·have:=h2 i hi
  rw[List.contains_iff_mem.2 hs] at this;cases this
 ·have l1:=(List.getElem?_eq_some_iff.1 hk).1
  have l2:=(List.getElem?_eq_some_iff.1 hk').1
  rcases h3 k l1 k' l2 with h|h
  ·exact h
  ·exact absurd (hk.trans hk'.symm) h
 ·have l1:=(List.getElem?_eq_some_iff.1 hk).1
  rcases h4 (k+1) l1 with h|h
  ·omega
  ·rw[Nat.add_sub_cancel,List.getD_eq_getElem?_getD,List.getD_eq_getElem?_getD,hk,hk'] at h
   exact h
 ·obtain⟨hlt,j,hj,hw,hc⟩:=h5 i hi
  refine⟨hlt,j,hj,hw,?_⟩
  by_cases hjh:j∈hd
  ·rw[if_pos (by simpa using hjh)] at hc
   simp only[Bool.and_eq_true,decide_eq_true_eq] at hc
   exact .inl ⟨hjh,hc.1,hc.2⟩
  ·rw[if_neg (by simpa using hjh)] at hc
   simp only[List.any_eq_true,List.mem_range,beq_iff_eq] at hc
   obtain⟨k,hk,hs⟩:=hc
   exact .inr ⟨k,by omega,hs⟩
theorem Qn.head {hd sq:List Nat}{late:Nat→Nat}(sh:Zx md ops hd sq late){k i:Nat}{listed:Array Bool}(inv:Qn md ops sq k listed)(hi:i∈Region.ready md ops listed)(hin:i∈hd):Qn md ops sq k (listed.setIfInBounds i true):=by
 obtain⟨_,oi,hoi,hall⟩:=mem_ready.1 hi
 have hns:=sh.apart i hin
 refine⟨by simp[inv.size],fun j oj hj hl e he hb=>?_,fun k' t ht hs=>?_,fun k' t ht hs=>getD_set_true (inv.done k' t ht hs)⟩
 ·by_cases hij:i=j
  ·subst hij
   obtain rfl:oj=oi:=Option.some.inj (hj.symm.trans hoi)
   exact getD_set_true (hall e he hb)
  ·rw[getD_set_ne false hij] at hl
   exact getD_set_true (inv.closed j oj hj hl e he hb)
 ·rw[getD_set_ne true (fun h=>hns (by rw[h];exact List.mem_of_getElem? hs))]
  exact inv.open' k' t ht hs
theorem Qn.row {hd sq:List Nat}{late:Nat→Nat}(sh:Zx md ops hd sq late){k i:Nat}{listed:Array Bool}(inv:Qn md ops sq k listed)(hi:i∈Region.ready md ops listed)(hk:sq[k]? =some i):Qn md ops sq (k+1) (listed.setIfInBounds i true):=by
 obtain⟨_,oi,hoi,hall⟩:=mem_ready.1 hi
 have hlt:i<ops.size:=(Jnw hoi).1
 refine⟨by simp[inv.size],fun j oj hj hl e he hb=>?_,fun k' t ht hs=>?_,fun k' t ht hs=>?_⟩
 ·by_cases hij:i=j
  ·subst hij
   obtain rfl:oj=oi:=Option.some.inj (hj.symm.trans hoi)
   exact getD_set_true (hall e he hb)
  ·rw[getD_set_ne false hij] at hl
   exact getD_set_true (inv.closed j oj hj hl e he hb)
 ·rw[getD_set_ne true (fun h=>by subst h;have:=sh.once k k' i hk hs;omega)]
  exact inv.open' k' t (by omega) hs
 ·by_cases h:t=i
  ·subst h;have:=inv.size;simp;omega
  ·refine getD_set_true (inv.done k' t ?_ hs)
   rcases Nat.lt_or_ge k' k with h'|h'
   ·exact h'
   ·have:k'=k:=by omega
    subst this;rw[hk] at hs;exact absurd (Option.some.inj hs).symm h
theorem JkB {hd sq:List Nat}{late:Nat→Nat}(sh:Zx md ops hd sq late){k:Nat}{listed:Array Bool}(inv:Qn md ops sq k listed){t:Nat}(hs:t∈sq)(hr:t∈Region.ready md ops listed):sq[k]? =some t:=by
 obtain⟨hun,ot,hot,hall⟩:=mem_ready.1 hr
 obtain⟨k',hk'⟩:=List.getElem?_of_mem hs
 rcases Nat.lt_trichotomy k' k with h|h|h
 ·have h1:=inv.done k' t h hk'
  rw[getD_both hun] at h1;cases h1
 ·subst h;exact hk'
 ·exfalso
  obtain⟨m,rfl⟩:∃m,k'=m+1:=⟨k'-1,by omega⟩
  have hl:m<sq.length:=by have:=(List.getElem?_eq_some_iff.1 hk').1;omega
  have h0:sq[m]? =some sq[m]:=List.getElem?_eq_getElem hl
  obtain⟨o',ho',e,he,hb,hon⟩:=Region.waitsFor_spec (sh.next m t sq[m] hk' h0)
  obtain rfl:o'=ot:=Option.some.inj (ho'.symm.trans hot)
  have h2:=hall e he hb
  rw[hon,getD_both (inv.open' m sq[m] (by omega) h0)] at h2
  cases h2
theorem Jgn {hd sq:List Nat}{late:Nat→Nat}(sh:Zx md ops hd sq late){k:Nat}{listed:Array Bool}(inv:Qn md ops sq k listed):
 ∀(d i:Nat),ops.size-i=d→i∈hd→listed.getD i true=false→late i≤k→∀t,t∈sq→t∉Region.ready md ops listed:=by
 intro d
 induction d using Nat.strongRecOn with
 |_ d ih=>
  intro i hd0 hi hun hk t ht hr
  have htk:=JkB sh inv ht hr
  obtain⟨_,ot,hot,hall⟩:=mem_ready.1 hr
  obtain⟨hil,j,hjs,hwj,hcond⟩:=sh.wait i hi
  obtain⟨oj,hoj,e,he,hb,hon⟩:=Region.waitsFor_spec hwj
  rcases hcond with ⟨hjh,hij,hlj⟩|⟨k',hk',hsj⟩
  ·cases hl:listed.getD j false with
   |true=>
    have h2:=inv.closed j oj hoj hl e he hb
    rw[hon,getD_both hun] at h2
    cases h2
   |false=>exact ih (ops.size-j) (by omega) j rfl hjh (getD_in (by rw[inv.size];exact hjs) hl) (by omega) t ht hr
  ·by_cases hjt:j=t
   ·subst hjt
    obtain rfl:oj=ot:=Option.some.inj (hoj.symm.trans hot)
    have h2:=hall e he hb
    rw[hon,getD_both hun] at h2
    cases h2
   ·have hlt:k'<k:=by
     rcases Nat.lt_or_ge k' k with h|h
     ·exact h
     ·exfalso
      have:k'=k:=by omega
      subst this;rw[htk] at hsj;exact hjt (Option.some.inj hsj).symm
    have h2:=inv.closed j oj hoj (inv.done k' j hlt hsj) e he hb
    rw[hon,getD_both hun] at h2
    cases h2
theorem Jjx {hd sq:List Nat}{G:Nat→World→Prop}{top:List Nat}{Q:Exit→Act→World→Prop}{late:Nat→Nat}{i:Nat}{oi:Oper}{v:Value}(hi:ops[i]? =some oi)(hsel:∀(j:Nat) (o:Oper) cs b,ops[j]? =some o→o.op≠ .select cs b)
 (sh:Zx md ops hd sq late)(hin:i∈hd)(grp:Nat)(hgrp:late i≤top.getD grp 0):
 ∀(f k:Nat) (C:World→Prop) (listed:Array Bool) (a:Act),k≤late i→Qn md ops sq k listed→
  (∀j oj,ops[j]? =some oj→j≠i→listed.getD j true=false→(∀e∈oj.after,Region.binds md e=true→e.on≠i)→oi.apart ops oj=true)→
  i∈Region.ready md ops listed→YieldsIn P ops C oi v a→(k<late i→YieldsIn P ops (G grp) oi v a∧∀(C':World→Prop),(∀w,C' w→G grp w)→∀a',execOp a'.eval oi=execOp a.eval oi→Region.wanted oi (yielded ops a'.tmps)=Region.wanted oi (yielded ops a.tmps)→YieldsIn P ops C' oi v a')→
  wpH P md ops hd sq G top Q f k C (listed.setIfInBounds i true) (a.put oi.dst v)→wpH P md ops hd sq G top Q (f+1) k C listed a:=by
 intro f
 induction f with
 |zero=>
  intro k C listed a hk inv _ hr hy _ H
  refine⟨fun h=>(by rw[h] at hr;cases hr),fun j hj oj hoj=>?_⟩
  by_cases hji:j=i
  ·subst hji
   obtain rfl:oi=oj:=Option.some.inj (hi.symm.trans hoj)
   exact .inl ⟨hin,v,hy,H⟩
  ·have h:=ready_mono hj hji
   rw[H.2.1] at h
   cases h
 |succ f ih=>
  intro k C listed a hk inv hfree hr hy hyG H
  have hun:=(mem_ready.1 hr).1
  refine⟨fun h=>(by rw[h] at hr;cases hr),fun j hj oj hoj=>?_⟩
  by_cases hji:j=i
  ·subst hji
   obtain rfl:oi=oj:=Option.some.inj (hi.symm.trans hoj)
   exact .inl ⟨hin,v,hy,H⟩
  ·have HJ:=H.2 j (ready_mono hj hji) oj hoj
   obtain⟨hjun,oj',hoj',hall⟩:=mem_ready.1 hj
   obtain rfl:oj=oj':=Option.some.inj (hoj.symm.trans hoj')
   have hnot:∀e∈oj.after,Region.binds md e=true→e.on≠i:=fun e he hb heq=>by
    have h1:=hall e he hb
    rw[heq,getD_both hun] at h1
    cases h1
   obtain⟨ap1,ap2,ap3⟩:=Oper.apart_spec (hfree j oj hoj hji hjun hnot)
   have hfree':∀k ok,ops[k]? =some ok→k≠i→(listed.setIfInBounds j true).getD k true=false→
    (∀e∈ok.after,Region.binds md e=true→e.on≠i)→oi.apart ops ok=true:=fun k ok hk hki hun hno=>by
    refine hfree k ok hk hki ?_ hno
    by_cases hjk:j=k
    ·subst hjk;exact hjun
    ·rw[getD_set_ne true hjk] at hun;exact hun
   have hs2:=fun u=>execOp_put oi (fun cs b=>hsel i oi cs b hi) a oj.dst u ap3
   have hw2:=fun u=>wanted_put oi a oj.dst u ap3
   rcases HJ with ⟨hjn,u,hu,hK⟩|⟨hjk,C',hu,hkept,hK⟩
   ·refine .inl ⟨hjn,u,Jnu (fun cs b=>hsel j oj cs b hoj) hu ap1,?_⟩
    refine ih k C (listed.setIfInBounds j true) (a.put oj.dst u) hk (inv.head sh hj hjn) hfree' (ready_mono hr (Ne.symm hji)) (Jnt (fun cs b=>hsel i oi cs b hi) hy ap3) (fun hlt=>⟨Jnt (fun cs b=>hsel i oi cs b hi) (hyG hlt).1 ap3,fun C2 h2 a' e1 e2=>(hyG hlt).2 C2 h2 a' (e1.trans (hs2 u)) (e2.trans (hw2 u))⟩) ?_
    rw[Array.setIfInBounds_comm _ _ hji,←Act.put_comm a v u ap2]
    exact hK
   ·have hlt:k<late i:=by
     rcases Nat.lt_or_ge k (late i) with h|h
     ·exact h
     ·exact absurd hj (Jgn sh inv _ i rfl hin hun h j (List.mem_of_getElem? hjk))
    refine .inr ⟨hjk,C',hu.of_unput (fun cs b=>hsel _ oj cs b hoj) ap1,hkept,fun u hex=>?_⟩
    refine ih (k+1) (C' u) (listed.setIfInBounds j true) (a.put oj.dst u) hlt (inv.row sh hj hjk) hfree' (ready_mono hr (Ne.symm hji)) ((hyG hlt).2 (C' u) (hkept u grp (by omega)) _ (hs2 u) (hw2 u)) (fun hlt2=>⟨Jnt (fun cs b=>hsel i oi cs b hi) (hyG hlt).1 ap3,fun C2 h2 a' e1 e2=>(hyG hlt).2 C2 h2 a' (e1.trans (hs2 u)) (e2.trans (hw2 u))⟩) ?_
    rw[Array.setIfInBounds_comm _ _ hji,←Act.put_comm a v u ap2]
    exact hK u hex
def Jjy (P:Program)(ops:Array Oper)(G:Nat→World→Prop)(top:List Nat)(Q:Exit→Act→World→Prop):List Oper→Nat→(World→Prop)→Act→Prop
 |[],_,C,a=>∀w,C w→Q .normal a w
 |o::rest,k,C,a=>∃C':Value→World→Prop,Jv P ops C C' o a∧(∀v,JfE G top (k+1) (C' v))∧∀v,(∃w,C' v w)→Jjy P ops G top Q rest (k+1) (C' v) (a.put o.dst v)
def sqB (md:Region.Mode)(ops:Array Oper):List Nat→Array Bool→Bool
 |[],listed=>decide (Region.ready md ops listed=[])
 |i::l,listed=>decide (Region.ready md ops listed=[i])&&sqB md ops l (listed.setIfInBounds i true)
theorem Jgo {hd sq:List Nat}{G:Nat→World→Prop}{top:List Nat}{Q:Exit→Act→World→Prop}:∀(l:List Oper) (rest:List Nat) (k:Nat) (C:World→Prop) (listed:Array Bool) (a:Act),sq.drop k=rest→k+l.length=sq.length→rest.map (fun i=>ops[i]?)=l.map some→sqB md ops rest listed=true→
 Jjy P ops G top Q l k C a→wpH P md ops hd sq G top Q l.length k C listed a
 |[],rest,k,C,listed,a,hd0,hlen,h1,hB,h=>by
  cases rest with
  |cons i r=>cases h1
  |nil=>exact⟨by simpa using hlen,by simpa[sqB] using hB,h⟩
 |o::l,rest,k,C,listed,a,hd0,hlen,h1,hB,h=>by
  cases rest with
  |nil=>cases h1
  |cons i r=>
   simp only[List.map_cons,List.cons.injEq] at h1
   simp only[sqB,Bool.and_eq_true,decide_eq_true_eq] at hB
   obtain⟨hr,hB'⟩:=hB
   obtain⟨C',e1,e2,e3⟩:=h
   have hk:sq[k]? =some i:=by
    have:=congrArg List.head? hd0
    rwa [List.head?_drop] at this
   have hk2:sq.drop (k+1)=r:=by
    have:=congrArg List.tail hd0
    rwa [List.tail_drop] at this
   refine⟨by rw[hr];simp,fun j hj oj hoj=>?_⟩
   rw[hr] at hj
   obtain rfl:j=i:=by simpa using hj
   obtain rfl:o=oj:=Option.some.inj (h1.1.symm.trans hoj)
   exact .inr ⟨hk,C',e1,e2,fun v hv=>Jgo l r (k+1) (C' v) _ _ hk2 (by simp only[List.length_cons] at hlen;omega) h1.2 hB' (e3 v hv)⟩
def Jef (P:Program)(ops:Array Oper)(Gg:World→Prop)(o:Oper)(aF:Act):Prop:=∃d,o.dst=some d∧Region.wanted o (yielded ops aF.tmps)=true∧∀w,Gg w→(execOp aF.eval o).run P w=.ok (.value (aF.tmps.getD d undef)) w
theorem Jdg {C:World→Prop}{o:Oper}{v:Value}{a:Act}(hw:Region.wanted o (yielded ops a.tmps)=true)(hr:∀w,C w→(execOp a.eval o).run P w=.ok (.value v) w):YieldsIn P ops C o v a:=Jav hw hr
theorem JhO {hd sq:List Nat}{G:Nat→World→Prop}{top:List Nat}{Q:Exit→Act→World→Prop}{late grp:Nat→Nat}{aF:Act}{C0:World→Prop}{r:Nat}(hsel:Region.noSelect ops=true)
 (sh:Zx md ops hd sq late)(hgrp:∀i∈hd,late i≤top.getD (grp i) 0)
 (hlate:∀i∈hd,∀oi,ops[i]? =some oi→0<late i→Jef P ops (G (grp i)) oi aF):
 ∀(hs:List Nat) (l:List Oper) (listed:Array Bool) (a:Act),hs.map (fun i=>ops[i]?)=l.map some→(∀i∈hs,i∈hd)→Qn md ops sq 0 listed→Ja3 a.tmps.size l=true→Z1 ops l=true→
 Jag md ops hs listed=true→wpH P md ops hd sq G top Q r 0 C0 (QG hs listed) aF→wpQuiet P ops C0 (fun a'=>a'=aF) l a→wpH P md ops hd sq G top Q (hs.length+r) 0 C0 listed a
 |[],l,listed,a,hl,_,_,_,_,_,hb,h=>by
  cases l with
  |nil=>
   have h:a=aF:=h
   subst h
   rw[List.length_nil,Nat.zero_add];exact hb
  |cons o l=>cases hl
 |i::hs,l,listed,a,hl,hk,inv,hd1,ho,hB,hb,h=>by
  cases l with
  |nil=>cases hl
  |cons o l=>
   simp only[List.map_cons,List.cons.injEq] at hl
   obtain⟨h0,hl'⟩:=hl
   simp only[Jag,Bool.and_eq_true] at hB
   obtain⟨⟨hr,hf⟩,hB'⟩:=hB
   have hin:=hk i (by simp)
   have hr':i∈Region.ready md ops listed:=by simpa using hr
   rw[Ja3,Bool.and_eq_true] at hd1
   obtain⟨hd1,hd2⟩:=hd1
   rw[Z1,Bool.and_eq_true] at ho
   obtain⟨ho1,ho2⟩:=ho
   have hsame:=Z2 (Region.noSelect_spec hsel i o · · h0) (o::l) a (fun p hp d hpd=>by
    have:=List.all_eq_true.1 ho1 p hp
    rw[hpd] at this
    intro hc;simp only[Bool.not_eq_true'] at this;rw[List.contains_iff_mem.2 hc] at this;cases this) h
   obtain⟨v,hy,hK⟩:=Q2 h
   rw[show(i::hs).length+r=(hs.length+r)+1 by simp only[List.length_cons];omega]
   refine Jjx (late:=late) h0 (Region.noSelect_spec hsel) sh hin (grp i) (hgrp i hin) (hs.length+r) 0 C0 listed a (Nat.zero_le _) inv (Region.free_spec h0 hf) hr' hy (fun hlt=>?_)
    (JhO hsel sh hgrp hlate hs l _ _ hl' (fun j hj=>hk j (by simp[hj])) (inv.head sh hr' hin) (by rw[Je5];exact hd2) ho2 hB' hb hK)
   obtain⟨d,hod,hw,hrun⟩:=hlate i hin o h0 hlt
   have hv:aF.tmps.getD d undef=v:=by
    rw[hod] at hd1
    simp only[Bool.and_eq_true,decide_eq_true_eq,List.all_eq_true] at hd1
    have hne:∀p∈l,p.dst≠some d:=fun p hp e=>by have:=hd1.2 p hp;rw[e] at this;simp at this
    have:aF.tmps[d]? =some v:=by
     rw[ZY l _ hne hK,hod]
     simp[Act.put,Array.getElem?_setIfInBounds,hd1.1]
    rw[Array.getD_eq_getD_getElem?,this];rfl
   rw[hv] at hrun
   have key:∀(C':World→Prop),(∀w,C' w→G (grp i) w)→YieldsIn P ops C' o v a:=fun C' hC'=>(Jdg hw (fun w hw'=>hrun w (hC' w hw'))).of_same hsame.1.symm hsame.2.symm
   exact⟨key _ (fun _ h=>h),fun C' hC' a' e1 e2=>(key C' hC').of_same e1 e2⟩
def Jjz (l:List Oper)(hd sq:List Nat)(lates:List (Nat×Nat×Nat))(top:List Nat)(os rs:List Oper):Bool:=
 let late:=fun i=>((lates.lookup i).map (·.1)).getD 0
 let grp:=fun i=>((lates.lookup i).map (·.2)).getD 0
 Region.noSelect l.toArray&&(Jl5 .any l.toArray hd sq late&&(hd.all (fun i=>decide (late i≤top.getD (grp i) 0))&&(Jag .any l.toArray hd (Array.replicate l.toArray.size false)&&(Z1 l.toArray os&&
  (sqB .any l.toArray sq (QG hd (Array.replicate l.toArray.size false))&&decide (hd.length+sq.length=l.length))))))
theorem Zi:∀(l:List (Nat×Nat×Nat)) (i:Nat) (m:Nat×Nat),l.lookup i=some m→(i,m)∈l
 |[],i,m,h=>by cases h
 |(q1,q2)::r,i,m,h=>by
  rw[List.lookup_cons] at h
  by_cases e:(i==q1)=true
  ·simp only[e] at h
   have e':i=q1:=by simpa using e
   obtain rfl:q2=m:=Option.some.inj h
   subst e';exact List.mem_cons_self ..
  ·simp only[show(i==q1)=false by simpa using e] at h
   exact List.mem_cons_of_mem _ (Zi r i m h)
theorem Xy {id:Nat}{Q:Exit→Act→World→Prop}{a:Act}{w:World}{l:List Oper}(ms:List Kd)(lates:List (Nat×Nat×Nat))(G:Nat→World→Prop)(top:List Nat)(hm:P.follows .mixedOrders=true)(hms:ms.length=l.length)
 (hB:Jjz l (JV ms 0) (Z3 ms 0) lates top (Ju ms l) ((Xd ms l).map (·.2))=true)(hd:Ja3 a.tmps.size (Ju ms l)=true)
 (h:wpQuiet P l.toArray (fun w'=>∃x:JC w,w'=x.world) (fun aF=>(∀p∈lates,∀oi,l[p.1]? =some oi→Jef P l.toArray (G p.2.2) oi aF)∧
   Jjy P l.toArray G top Q ((Xd ms l).map (·.2)) 0 (fun w'=>∃x:JC w,w'=x.world) aF) (Ju ms l) a):(Code.region id l.toArray true).wp P Q a w:=by
 simp only[Jjz,Bool.and_eq_true,decide_eq_true_eq,List.all_eq_true] at hB
 obtain⟨hsel,hrow,hgrp,hheads,hon,hsq,hlen⟩:=hB
 obtain⟨aF,⟨hlate,hrun⟩,hq⟩:=Jbj _ _ h
 have sh:=JcR hrow
 have hmap1:(JV ms 0).map (fun i=>l.toArray[i]?)=(Ju ms l).map some:=by
  have:=Zb (l0:=l) ms 0 (by omega)
  simpa using this
 have hmap2:(Z3 ms 0).map (fun i=>l.toArray[i]?)=((Xd ms l).map (·.2)).map some:=by
  have:=Jde (l0:=l) ms 0 (by omega)
  rw[List.map_map]
  simpa[Function.comp_def] using this
 have hl2:(Z3 ms 0).length=((Xd ms l).map (·.2)).length:=by
  have:=congrArg List.length hmap2
  simpa using this
 have inv0:Qn .any l.toArray (Z3 ms 0) 0 (Array.replicate l.toArray.size false):=
  ⟨by simp,fun j oj _ hl=>(by rw[getD_replicate_false] at hl;cases hl),fun k' t _ hs=>by
    have:=(Je8 ms 0 t (List.mem_of_getElem? hs)).2.1
    exact getD_in (by simp;omega) (getD_replicate_false _ _),fun k' t hk hs=>by omega⟩
 have HT:=Jgo (P:=P) (md:=.any) (ops:=l.toArray) (hd:=JV ms 0) (sq:=Z3 ms 0) (G:=G) (top:=top) (Q:=Q) ((Xd ms l).map (·.2)) (Z3 ms 0) 0 (fun w'=>∃x:JC w,w'=x.world) (QG (JV ms 0) (Array.replicate l.toArray.size false)) aF (by simp) (by omega) hmap2 hsq hrun
 have HF:=JhO (md:=.any) (r:=((Xd ms l).map (·.2)).length) (late:=fun i=>((lates.lookup i).map (·.1)).getD 0) (grp:=fun i=>((lates.lookup i).map (·.2)).getD 0) (Q:=Q) (C0:=fun w'=>∃x:JC w,w'=x.world) hsel sh hgrp
  (fun i hi oi hoi hpos=>by
    cases hlk:lates.lookup i with
    |none=>rw[hlk] at hpos;simp at hpos
    |some m=>
     have hmem:=Zi lates i m hlk
     have:=hlate (i,m) hmem oi (by simpa using hoi)
     simpa[hlk] using this)
  (JV ms 0) (Ju ms l) _ a hmap1 (fun i hi=>hi) inv0 hd hon hheads HT hq
 refine wp_region_any hm ?_
 have:=ZJ (Q':=Q) _ 0 _ _ _ _ ⟨⟨_,(Jny w.heap.size w).drew⟩,rfl⟩ HF
 rw[←hl2,hlen,show l.length=l.toArray.size by simp] at this
 exact this
end
end
end Go.Proofs.YtkgjbipfhhjlpaaGreatDoor
