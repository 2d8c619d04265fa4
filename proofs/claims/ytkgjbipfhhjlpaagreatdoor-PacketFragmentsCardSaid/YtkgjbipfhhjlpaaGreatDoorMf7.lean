import Derived.Test.YtkgjbipfhhjlpaaGreatDoorMf6
set_option linter.unusedVariables false
set_option linter.unusedSimpArgs false
set_option maxRecDepth 100000
set_option maxHeartbeats 32000000
namespace Go.Proofs.YtkgjbipfhhjlpaaGreatDoor
section
open Go.RowKit
section
variable {P:Program} {ops:Array Oper} {md:Region.Mode}
structure ZD where
 lo:Nat
 hi:Nat
 fact:World→Prop
def Jba (R:Nat→Nat→Value→World→Prop):Prop:=∀lo hi v w1 w2,R lo hi v w1→hi≤w1.heap.size→Below w1.heap.size w1 w2→R lo hi v w2
def JfD (P:Program)(ops:Array Oper)(w:World)(o:Oper)(R:Nat→Nat→Value→World→Prop)(a:Act):Prop:=
 Region.wanted o (yielded ops a.tmps)=true∧∀w1,Below w.heap.size w w1→
  (∃v w2,(execOp a.eval o).run P w1=.ok (.value v) w2∧Below w1.heap.size w1 w2∧R w1.heap.size w2.heap.size v w2)∨
  (∃f args,(execOp a.eval o).run P w1=.ok (.enter f args) w1∧Calls P f args w1 (fun e w2=>∃v,e=.returned v∧Below w1.heap.size w1 w2∧R w1.heap.size w2.heap.size v w2))
def Jaj (w':World)(gs:List ZD):Prop:=∀g∈gs,g.hi≤w'.heap.size∧∀w'',Below w'.heap.size w' w''→g.fact w''
def wpW (P:Program)(md:Region.Mode)(ops:Array Oper)(w:World)(n:Nat)(mk:Nat→Option (Nat→Nat→Value→World→Prop))(L:Array Bool→Act→List ZD→Prop):Nat→Array Bool→Act→List ZD→Prop
 |0,listed,a,gs=>L listed a gs
 |f+1,listed,a,gs=>Region.ready md ops listed≠[]∧∀i∈Region.ready md ops listed,i<n∧∀oi,ops[i]? =some oi→
  ((mk i=none→∃v,Qw P ops w oi v a∧wpW P md ops w n mk L f (listed.setIfInBounds i true) (a.put oi.dst v) gs)∧
   (∀R,mk i=some R→JfD P ops w oi R a∧Jba R∧∀lo hi v,w.heap.size≤lo→lo≤hi→(∀p∈gs,p.hi≤lo)→(∃w',R lo hi v w')→wpW P md ops w n mk L f (listed.setIfInBounds i true) (a.put oi.dst v) (⟨lo,hi,R lo hi v⟩::gs)))
theorem Jaj.below {w' w'':World}{gs:List ZD}(h:Jaj w' gs)(hb:Below w'.heap.size w' w''):Jaj w'' gs:=
 fun g hg=>⟨Nat.le_trans (h g hg).1 hb.size,fun w3 h3=>(h g hg).2 w3 (Jno hb h3)⟩
theorem ZZ {w:World}{n g:Nat}{mk:Nat→Option (Nat→Nat→Value→World→Prop)}{L:Array Bool→Act→List ZD→Prop}{Q':Exit→Act→World→Prop}
 (hL:∀listed a gs w',Below w.heap.size w w'→Jaj w' gs→L listed a gs→wpAny P md ops Q' g listed a w'):
 ∀(f:Nat) (listed:Array Bool) (a:Act) (gs:List ZD) (w':World),Below w.heap.size w w'→Jaj w' gs→wpW P md ops w n mk L f listed a gs→wpAny P md ops Q' (f+g) listed a w'
 |0,listed,a,gs,w',hw,hl,h=>by rw[Nat.zero_add];exact hL _ _ _ _ hw hl h
 |f+1,listed,a,gs,w',hw,hl,h=>by
  rw[show f+1+g=(f+g)+1 by omega]
  refine⟨fun h0=>absurd h0 h.1,fun i hi=>?_⟩
  obtain⟨_,oi,hoi,_⟩:=mem_ready.1 hi
  obtain⟨h1,h2⟩:=(h.2 i hi).2 oi hoi
  cases hmk:mk i with
  |none=>
   obtain⟨v,hy,hk⟩:=h1 hmk
   refine wpOp_of_qOp (C:=Zv w') (K:=fun a'=>a'=a.put oi.dst v) ⟨⟨w',Jny _ _⟩,rfl⟩ (fun a' w'' hw'' ha=>?_) ((hy w' hw).qOp hoi rfl)
   obtain⟨x,rfl⟩:=hw''
   subst ha
   exact ZZ hL f _ _ gs _ (Jno hw x.below) (hl.below x.below) hk
  |some R=>
   obtain⟨hm,hs,hk⟩:=h2 R hmk
   have go:∀v w2,Below w'.heap.size w' w2→R w'.heap.size w2.heap.size v w2→wpAny P md ops Q' (f+g) (listed.setIfInBounds i true) (a.put oi.dst v) w2:=fun v w2 hb hR=>by
    refine ZZ hL f _ _ _ _ (Jno hw hb) ?_ (hk w'.heap.size w2.heap.size v hw.size hb.size (fun p hp=>(hl p hp).1) ⟨w2,hR⟩)
    intro p hp
    rcases List.mem_cons.1 hp with rfl|hp
    ·exact⟨JnA _,fun w3 h3=>hs _ _ _ _ _ hR (JnA _) h3⟩
    ·exact hl.below hb p hp
   unfold wpOp
   simp only[hoi,hm.1,if_true]
   refine .inl ?_
   unfold Oper.wp
   rcases hm.2 w' hw with ⟨v,w2,hr,hb,hR⟩|⟨f',args,hr,hc⟩
   ·rw[hr]
    exact go v w2 hb hR
   ·rw[hr,Oper.upon_enter]
    refine hc.mono ?_
    rintro e w2 ⟨v,rfl,hb,hR⟩
    exact go v w2 hb hR
theorem JfD.of_same {w:World}{o:Oper}{R:Nat→Nat→Value→World→Prop}{a a':Act}(h:JfD P ops w o R a)(he:execOp a'.eval o=execOp a.eval o)(hw:Region.wanted o (yielded ops a'.tmps)=Region.wanted o (yielded ops a.tmps)):JfD P ops w o R a':=by
 unfold JfD at*
 rw[he,hw]
 exact h
theorem JfD.of_unput {w:World}{oi oj:Oper}{R:Nat→Nat→Value→World→Prop}{u:Value}{a:Act}(hsi:∀cs b,oi.op≠ .select cs b)(h:JfD P ops w oi R (a.put oj.dst u))(hap:∀d,oj.dst=some d→d∉oi.looksAt ops):JfD P ops w oi R a:=
 h.of_same (execOp_put oi hsi a oj.dst u hap).symm (wanted_put oi a oj.dst u hap).symm
theorem Jjr {w:World}{n i:Nat}{oi:Oper}{v:Value}{mk:Nat→Option (Nat→Nat→Value→World→Prop)}{L:Array Bool→Act→List ZD→Prop}(hi:ops[i]? =some oi)(hal:mk i=none)(hsel:∀(j:Nat) (o:Oper) cs b,ops[j]? =some o→o.op≠ .select cs b)
 (hs:Region.sinkB md ops n=true)(hc:Region.chainB md ops n=true)(hn:n<ops.size)(hin:i<n)
 (hdone:∀listed a gs,L listed a gs→∀j∈Region.ready md ops listed,n≤j):
 ∀(f:Nat) (listed:Array Bool) (a:Act) (gs:List ZD),HeadInv md ops n listed→
  (∀j oj,ops[j]? =some oj→j≠i→listed.getD j true=false→(∀e∈oj.after,Region.binds md e=true→e.on≠i)→oi.apart ops oj=true)→
  i∈Region.ready md ops listed→Qw P ops w oi v a→
  wpW P md ops w n mk L f (listed.setIfInBounds i true) (a.put oi.dst v) gs→wpW P md ops w n mk L (f+1) listed a gs:=by
 intro f
 induction f with
 |zero=>
  intro listed a gs inv _ hr hy H
  have hun:=(mem_ready.1 hr).1
  refine⟨fun h=>(by rw[h] at hr;cases hr),fun j hj=>?_⟩
  have hjn:j<n:=by
   rcases Nat.lt_or_ge j n with h|h
   ·exact h
   ·exact absurd hj (tail_waits hs hc hn inv _ i rfl hin hun j h)
  refine⟨hjn,fun oj hoj=>?_⟩
  by_cases hji:j=i
  ·subst hji
   obtain rfl:oi=oj:=Option.some.inj (hi.symm.trans hoj)
   exact⟨fun _=>⟨v,hy,H⟩,fun ob h=>by rw[hal] at h;cases h⟩
  ·have:=hdone _ _ _ H j (ready_mono hj hji)
   omega
 |succ f ih=>
  intro listed a gs inv hfree hr hy H
  have hun:=(mem_ready.1 hr).1
  refine⟨fun h=>(by rw[h] at hr;cases hr),fun j hj=>?_⟩
  have hjn:j<n:=by
   rcases Nat.lt_or_ge j n with h|h
   ·exact h
   ·exact absurd hj (tail_waits hs hc hn inv _ i rfl hin hun j h)
  refine⟨hjn,fun oj hoj=>?_⟩
  by_cases hji:j=i
  ·subst hji
   obtain rfl:oi=oj:=Option.some.inj (hi.symm.trans hoj)
   exact⟨fun _=>⟨v,hy,H⟩,fun ob h=>by rw[hal] at h;cases h⟩
  ·obtain⟨H1,H2⟩:=(H.2 j (ready_mono hj hji)).2 oj hoj
   obtain⟨hjun,oj',hoj',hall⟩:=mem_ready.1 hj
   obtain rfl:oj=oj':=Option.some.inj (hoj.symm.trans hoj')
   have hnot:∀e∈oj.after,Region.binds md e=true→e.on≠i:=fun e he hb heq=>by
    have h1:=hall e he hb
    rw[heq,getD_both hun] at h1
    cases h1
   obtain⟨ap1,ap2,ap3⟩:=Oper.apart_spec (hfree j oj hoj hji hjun hnot)
   have hfree':∀k ok,ops[k]? =some ok→k≠i→(listed.setIfInBounds j true).getD k true=false→
    (∀e∈ok.after,Region.binds md e=true→e.on≠i)→oi.apart ops ok=true:=fun k ok hk hki hun hno=>by
    refine hfree k ok hk hki ?_ hno
    by_cases hjk:j=k
    ·subst hjk;exact hjun
    ·rw[getD_set_ne true hjk] at hun;exact hun
   have go:∀(u:Value) gs',wpW P md ops w n mk L f ((listed.setIfInBounds i true).setIfInBounds j true) ((a.put oi.dst v).put oj.dst u) gs'→wpW P md ops w n mk L (f+1) (listed.setIfInBounds j true) (a.put oj.dst u) gs':=fun u gs' h=>by
    refine ih (listed.setIfInBounds j true) (a.put oj.dst u) gs' (inv.set hj hjn) hfree' (ready_mono hr (Ne.symm hji)) (hy.of_put (fun cs b=>hsel i oi cs b hi) ap3) ?_
    rw[Array.setIfInBounds_comm _ _ hji,←Act.put_comm a v u ap2]
    exact h
   refine⟨fun hj0=>?_,fun R hR=>?_⟩
   ·obtain⟨u,hu,hk⟩:=H1 hj0
    exact⟨u,hu.of_unput (fun cs b=>hsel j oj cs b hoj) ap1,go u gs hk⟩
   ·obtain⟨hm,hst,hk⟩:=H2 R hR
    exact⟨hm.of_unput (fun cs b=>hsel j oj cs b hoj) ap1,hst,fun lo hi' u h1 h2 h3 h4=>go _ _ (hk lo hi' u h1 h2 h3 h4)⟩
theorem Jjs {w:World}{n m r:Nat}{mk:Nat→Option (Nat→Nat→Value→World→Prop)}{L:Array Bool→Act→List ZD→Prop}{Lq:Act→Prop}(hsel:Region.noSelect ops=true)(hs:Region.sinkB md ops n=true)(hc:Region.chainB md ops n=true)(hn:n<ops.size)(hmn:m≤n)
 (hal:∀i,i<m→mk i=none)(hdone:∀listed a gs,L listed a gs→∀j∈Region.ready md ops listed,n≤j):
 ∀(l:List Oper) (k:Nat) (listed:Array Bool) (a:Act),(∀j,j<l.length→l[j]? =ops[k+j]?)→k+l.length=m→HeadInv md ops n listed→
 ZX md ops l.length k listed=true→(∀a',Lq a'→wpW P md ops w n mk L r (Zw l.length k listed) a' [])→Jjq P ops w Lq l a→wpW P md ops w n mk L (l.length+r) listed a []
 |[],k,listed,a,_,hk,_,hB,hb,h=>by
  rw[List.length_nil,Nat.zero_add];exact hb a h
 |o::l,k,listed,a,hl,hk,inv,hB,hb,h=>by
  have h0:ops[k]? =some o:=by simpa using(hl 0 (by simp)).symm
  simp only[List.length_cons,ZX,Bool.and_eq_true] at hB
  obtain⟨⟨hr,hf⟩,hB'⟩:=hB
  have hkm:k<m:=by simp only[List.length_cons] at hk;omega
  have hr':k∈Region.ready md ops listed:=by simpa using hr
  obtain⟨v,hy,hK⟩:=h
  rw[show(o::l).length+r=(l.length+r)+1 by simp only[List.length_cons];omega]
  exact Jjr h0 (hal k hkm) (Region.noSelect_spec hsel) hs hc hn (by omega) hdone (l.length+r) listed a [] inv (Region.free_spec h0 hf) hr' hy
   (Jjs hsel hs hc hn hmn hal hdone l (k+1) _ _ (fun j hj=>by have:=hl (j+1) (by simp;omega);simpa[Nat.add_assoc,Nat.add_comm 1 j] using this) (by simp only[List.length_cons] at hk;omega) (inv.set hr' (by omega)) hB' hb hK)
theorem Jbb {id:Nat}{Q:Exit→Act→World→Prop}{a:Act}{w:World}{l:List Oper}(m n r:Nat)(mk:Nat→Option (Nat→Nat→Value→World→Prop))(aF:Act)(hm:P.follows .mixedOrders=true)
 (hB:(Region.noSelect l.toArray&&(decide (n<l.toArray.size∧m≤n)&&(Region.sinkB .any l.toArray n&&(Region.chainB .any l.toArray n&&ZX .any l.toArray m 0 (Array.replicate l.toArray.size false)))))=true)
 (hmk:∀i,i<m→mk i=none)(hd:Ja3 a.tmps.size (l.take m)=true)(hr:m+r=n)
 (H:∀w1,Below w.heap.size w w1→wpQuiet P l.toArray (Zv w1) (fun a'=>a'=aF) (l.take m) a)
 (K:wpW P .any l.toArray w n mk (fun listed a' gs=>Region.seqB .any l.toArray (l.toArray.size-n) n listed=true∧∀w',Below w.heap.size w w'→Jaj w' gs→wpList P l.toArray Q (l.drop n) a' w') r (Zw m 0 (Array.replicate l.toArray.size false)) aF []):
 (Code.region id l.toArray true).wp P Q a w:=by
 simp only[Bool.and_eq_true,decide_eq_true_eq] at hB
 obtain⟨hsel,⟨hn,hmn⟩,hs,hc,hlex⟩:=hB
 have hn':n<l.length:=by simpa using hn
 have htl:(l.take m).length=m:=by simp;omega
 have hdl:(l.drop n).length=l.toArray.size-n:=by simp
 have inv0:HeadInv .any l.toArray n (Array.replicate l.toArray.size false):=
  ⟨by simp,fun j oj _ hl=>(by rw[getD_replicate_false] at hl;cases hl),fun t _ ht=>getD_in (by simpa using ht) (getD_replicate_false _ _)⟩
 let LL:Array Bool→Act→List ZD→Prop:=fun listed a' gs=>Region.seqB .any l.toArray (l.toArray.size-n) n listed=true∧∀w',Below w.heap.size w w'→Jaj w' gs→wpList P l.toArray Q (l.drop n) a' w'
 have HF:=Jjs (md:=.any) (m:=m) (r:=r) (mk:=mk) (L:=LL) hsel hs hc hn hmn hmk (fun listed a' gs hL=>seqB_ready hL.1)
  (l.take m) 0 _ a (fun j hj=>by
    have hj':j<m:=by rw[htl] at hj;exact hj
    simp[hj']) (by simpa using htl) inv0 (by rw[htl];exact hlex) (fun a' ha=>by subst ha;rw[htl];exact K) (Jgi (l.take m) a hd H)
 refine wp_region_any hm ?_
 have:=ZZ (Q':=Q) (g:=l.toArray.size-n) (fun listed a' gs w' hw' hl hL=>by
  have:=wpAny_of_seq (md:=.any) (Q':=Q) (l.drop n) n listed a' w' (fun j=>by simp[List.getElem?_drop]) (by rw[hdl];exact hL.1) (hL.2 w' hw' hl)
  rwa [hdl] at this) _ _ _ [] _ (Jny w.heap.size w).drew (fun p hp=>by cases hp) HF
 rw[htl,show m+r+(l.toArray.size-n)=l.toArray.size by omega] at this
 exact this
theorem JcQ (a:Act)(d e:Tmp)(v u:Value)(h:d≠e):(a.put (some d) v).put (some e) u=(a.put (some e) u).put (some d) v:=by
 first
  |rw[Act.put_comm _ _ _ (fun x he h2=>h (Option.some.inj (he.trans h2.symm)))]
  |rw[Act.put_comm _ _ _ (fun x he h2=>h (Option.some.inj (h2.trans he.symm)))]
  |rw[Act.put_comm _ _ _ (fun x he h2=>h.symm (Option.some.inj (he.trans h2.symm)))]
def JbH (ob:Obj)(lo hi:Nat)(v:Value)(w':World):Prop:=v=QQ lo∧hi=lo+1∧w'.heap[lo]? =some ob
theorem Z0 (ob:Obj):Jba (JbH ob):=fun lo hi v w1 w2 h hh hb=>⟨h.1,h.2.1,(hb.block _ (by have:=h.2.1;omega)).trans h.2.2⟩
theorem Jca {w:World}{o:Oper}{ob:Obj}(M:Jgh P ops o ob)(a:Act):JfD P ops w o (JbH ob) a:=
 ⟨M.wanted a,fun w1 _=>.inl ⟨_,_,M.run a w1,Below.all (Jny _ _) ob,rfl,by simp,heap_alloc_new w1 ob⟩⟩
def JmW (ops:Array Oper)(m:Nat):Bool:=
 let L:=Zw m 0 (Array.replicate ops.size false)
 decide (Region.ready .any ops L=[m,m+2])&&(decide (Region.ready .any ops (L.setIfInBounds m true)=[m+1,m+2])&&(decide (Region.ready .any ops ((L.setIfInBounds m true).setIfInBounds (m+1) true)=[m+2])&&
  (decide (Region.ready .any ops ((L.setIfInBounds m true).setIfInBounds (m+2) true)=[m+1])&&(decide (Region.ready .any ops (L.setIfInBounds (m+2) true)=[m])&&(decide (Region.ready .any ops ((L.setIfInBounds (m+2) true).setIfInBounds m true)=[m+1])&&
    Region.seqB .any ops (ops.size-(m+3)) (m+3) (((L.setIfInBounds m true).setIfInBounds (m+1) true).setIfInBounds (m+2) true))))))
theorem Je6 {id:Nat}{Q:Exit→Act→World→Prop}{a:Act}{w:World}{l:List Oper}(m:Nat)(R:Nat→Nat→Value→World→Prop)(ob:Obj){o1 o2 o3:Oper}{d1 d2 d3:Tmp}(V2:Value→Value)(hm:P.follows .mixedOrders=true)
 (hB:(Region.noSelect l.toArray&&(decide (m+3<l.toArray.size∧m≤m+3)&&(Region.sinkB .any l.toArray (m+3)&&(Region.chainB .any l.toArray (m+3)&&ZX .any l.toArray m 0 (Array.replicate l.toArray.size false)))))=true)
 (hC:JmW l.toArray m=true)(h1:l[m]? =some o1)(h2:l[m+1]? =some o2)(h3:l[m+2]? =some o3)(e1:o1.dst=some d1)(e2:o2.dst=some d2)(e3:o3.dst=some d3)(n12:d1≠d2)(n13:d1≠d3)(n23:d2≠d3)
 (s1:∀cs b,o1.op≠ .select cs b)(s2:∀cs b,o2.op≠ .select cs b)(p1:(o1.looksAt l.toArray).contains d3=false)(p2:(o2.looksAt l.toArray).contains d3=false)
 (hd:Ja3 a.tmps.size (l.take m)=true)(hR:Jba R)(M3:Jgh P l.toArray o3 ob)
 (h:∃aF:Act,(∀w1,Below w.heap.size w w1→wpQuiet P l.toArray (fun w'=>∃x:JC w1,w'=x.world) (fun a'=>a'=aF) (l.take m) a)∧JfD P l.toArray w o1 R aF∧
   (∀lo hi v1 w1,R lo hi v1 w1→Qw P l.toArray w o2 (V2 v1) (aF.put (some d1) v1))∧
   (∀lo hi v1 g w',Below w.heap.size w w'→w.heap.size≤lo→lo≤hi→w.heap.size≤g→(hi≤g∨g<lo)→R lo hi v1 w'→w'.heap[g]? =some ob→
     wpList P l.toArray Q (l.drop (m+3)) (((aF.put (some d1) v1).put (some d2) (V2 v1)).put (some d3) (QQ g)) w')):(Code.region id l.toArray true).wp P Q a w:=by
 obtain⟨aF,H,M1,Y2,K⟩:=h
 simp only[JmW,Bool.and_eq_true,decide_eq_true_eq] at hC
 obtain⟨r0,r1,r12,r13,r3,r31,hseq⟩:=hC
 let mk:Nat→Option (Nat→Nat→Value→World→Prop):=fun i=>if i=m then some R else if i=m+2 then some (JbH ob) else none
 have k1:mk m=some R:=by simp[mk]
 have k2:mk (m+1)=none:=by simp[mk]
 have k3:mk (m+2)=some (JbH ob):=by simp[mk]
 have o1':l.toArray[m]? =some o1:=by simpa using h1
 have o2':l.toArray[m+1]? =some o2:=by simpa using h2
 have o3':l.toArray[m+2]? =some o3:=by simpa using h3
 have q1:∀d,o3.dst=some d→d∉o1.looksAt l.toArray:=fun d hd0=>by
  rw[e3] at hd0;cases hd0
  intro hc;rw[List.contains_iff_mem.2 hc] at p1;cases p1
 have q2:∀d,o3.dst=some d→d∉o2.looksAt l.toArray:=fun d hd0=>by
  rw[e3] at hd0;cases hd0
  intro hc;rw[List.contains_iff_mem.2 hc] at p2;cases p2
 refine Jbb m (m+3) 3 mk aF hm hB (fun i hi=>by simp only[mk];rw[if_neg (by omega),if_neg (by omega)]) hd rfl H ?_
 have W1':∀x,JfD P l.toArray w o1 R (aF.put o3.dst x):=fun x=>M1.of_same (execOp_put o1 s1 aF o3.dst x q1) (wanted_put o1 aF o3.dst x q1)
 have Y2':∀lo hi v1 x,(∃w',R lo hi v1 w')→Qw P l.toArray w o2 (V2 v1) ((aF.put (some d1) v1).put o3.dst x):=fun lo hi v1 x h=>h.elim fun w' h=>(Y2 lo hi v1 w' h).of_put s2 q2
 have fin:∀lo hi v1 lo3 hi3 v3 w' (gs:List ZD),Below w.heap.size w w'→w.heap.size≤lo→lo≤hi→w.heap.size≤lo3→(hi≤lo3∨hi3≤lo)→Jaj w' gs→(⟨lo,hi,R lo hi v1⟩:ZD)∈gs→(⟨lo3,hi3,JbH ob lo3 hi3 v3⟩:ZD)∈gs→
  wpList P l.toArray Q (l.drop (m+3)) (((aF.put (some d1) v1).put (some d2) (V2 v1)).put (some d3) v3) w':=fun lo hi v1 lo3 hi3 v3 w' gs hw g1 g2 g3 g4 hal hg1 hg3=>by
  have f1:=(hal _ hg1).2 w' (Jny _ _)
  obtain⟨rfl,ehi,hh⟩:=(hal _ hg3).2 w' (Jny _ _)
  exact K lo hi v1 lo3 w' hw g1 g2 g3 (by omega) f1 hh
 refine⟨by rw[r0];simp,fun i hi=>?_⟩
 rw[r0] at hi
 rcases List.mem_cons.1 hi with rfl|hi
 ·refine⟨by omega,fun oi hoi=>⟨fun h=>(by rw[k1] at h;cases h),fun R' hR'=>?_⟩⟩
  obtain rfl:o1=oi:=Option.some.inj (o1'.symm.trans hoi)
  obtain rfl:R=R':=Option.some.inj (k1.symm.trans hR')
  refine⟨M1,hR,fun lo hi v1 g1 g2 _ hex=>⟨by rw[r1];simp,fun j hj=>?_⟩⟩
  rw[r1] at hj
  rcases List.mem_cons.1 hj with rfl|hj
  ·refine⟨by omega,fun oj hoj=>⟨fun _=>⟨V2 v1,?_,?_⟩,fun R' h=>by rw[k2] at h;cases h⟩⟩
   ·obtain rfl:o2=oj:=Option.some.inj (o2'.symm.trans hoj)
    rw[e1];exact hex.elim fun w' h=>Y2 lo hi v1 w' h
   ·obtain rfl:o2=oj:=Option.some.inj (o2'.symm.trans hoj)
    refine⟨by rw[r12];simp,fun j hj=>?_⟩
    rw[r12] at hj
    obtain rfl:j=i+2:=by simpa using hj
    refine⟨by omega,fun oj hoj=>⟨fun h=>(by rw[k3] at h;cases h),fun R' hR'=>?_⟩⟩
    obtain rfl:o3=oj:=Option.some.inj (o3'.symm.trans hoj)
    obtain rfl:JbH ob=R':=Option.some.inj (k3.symm.trans hR')
    refine⟨Jca M3 _,Z0 ob,fun lo3 hi3 v3 g3 g4 g5 _=>⟨hseq,fun w' hw hal=>?_⟩⟩
    rw[e1,e2,e3]
    exact fin lo hi v1 lo3 hi3 v3 w' _ hw g1 g2 g3 (.inl (g5 (⟨lo,hi,R lo hi v1⟩:ZD) (by simp))) hal (by simp) (by simp)
  ·obtain rfl:j=i+2:=by simpa using hj
   refine⟨by omega,fun oj hoj=>⟨fun h=>(by rw[k3] at h;cases h),fun R' hR'=>?_⟩⟩
   obtain rfl:o3=oj:=Option.some.inj (o3'.symm.trans hoj)
   obtain rfl:JbH ob=R':=Option.some.inj (k3.symm.trans hR')
   refine⟨Jca M3 _,Z0 ob,fun lo3 hi3 v3 g3 g4 g5 _=>⟨by rw[r13];simp,fun j hj=>?_⟩⟩
   rw[r13] at hj
   obtain rfl:j=i+1:=by simpa using hj
   refine⟨by omega,fun oj hoj=>⟨fun _=>⟨V2 v1,?_,?_⟩,fun R' h=>by rw[k2] at h;cases h⟩⟩
   ·obtain rfl:o2=oj:=Option.some.inj (o2'.symm.trans hoj)
    rw[e1];exact Y2' lo hi v1 v3 hex
   ·obtain rfl:o2=oj:=Option.some.inj (o2'.symm.trans hoj)
    refine⟨by rw[Array.setIfInBounds_comm _ _ (by omega)];exact hseq,fun w' hw hal=>?_⟩
    rw[e1,e2,e3,JcQ _ d3 d2 _ _ (Ne.symm n23)]
    exact fin lo hi v1 lo3 hi3 v3 w' _ hw g1 g2 g3 (.inl (g5 (⟨lo,hi,R lo hi v1⟩:ZD) (by simp))) hal (by simp) (by simp)
 ·obtain rfl:i=m+2:=by simpa using hi
  refine⟨by omega,fun oi hoi=>⟨fun h=>(by rw[k3] at h;cases h),fun R' hR'=>?_⟩⟩
  obtain rfl:o3=oi:=Option.some.inj (o3'.symm.trans hoi)
  obtain rfl:JbH ob=R':=Option.some.inj (k3.symm.trans hR')
  refine⟨Jca M3 _,Z0 ob,fun lo3 hi3 v3 g3 g4 _ _=>⟨by rw[r3];simp,fun j hj=>?_⟩⟩
  rw[r3] at hj
  obtain rfl:j=m:=by simpa using hj
  refine⟨by omega,fun oj hoj=>⟨fun h=>(by rw[k1] at h;cases h),fun R' hR'=>?_⟩⟩
  obtain rfl:o1=oj:=Option.some.inj (o1'.symm.trans hoj)
  obtain rfl:R=R':=Option.some.inj (k1.symm.trans hR')
  refine⟨W1' v3,hR,fun lo hi v1 g1 g2 g5 hex=>⟨by rw[r31];simp,fun j' hj'=>?_⟩⟩
  rw[r31] at hj'
  obtain rfl:j'=j+1:=by simpa using hj'
  refine⟨by omega,fun oj hoj=>⟨fun _=>⟨V2 v1,?_,?_⟩,fun R' h=>by rw[k2] at h;cases h⟩⟩
  ·obtain rfl:o2=oj:=Option.some.inj (o2'.symm.trans hoj)
   rw[e1,e3,JcQ _ d3 d1 _ _ (Ne.symm n13)]
   have:=Y2' lo hi v1 v3 hex
   rwa [e3] at this
  ·obtain rfl:o2=oj:=Option.some.inj (o2'.symm.trans hoj)
   refine⟨by
    rw[Array.setIfInBounds_comm (i:=j+2) (j:=j) _ _ (by omega),Array.setIfInBounds_comm (i:=j+2) (j:=j+1) _ _ (by omega)]
    exact hseq,fun w' hw hal=>?_⟩
   rw[e1,e2,e3,JcQ aF d3 d1 _ _ (Ne.symm n13),JcQ _ d3 d2 _ _ (Ne.symm n23)]
   exact fin lo hi v1 lo3 hi3 v3 w' _ hw g1 g2 g3 (.inr (g5 (⟨lo3,hi3,JbH ob lo3 hi3 v3⟩:ZD) (by simp))) hal (by simp) (by simp)
end
end
section
open Go.RowKit
section
variable {P:Program} {ops:Array Oper} {md:Region.Mode}
def JmX (ops:Array Oper)(m:Nat):Bool:=
 let L:=Zw m 0 (Array.replicate ops.size false)
 decide (Region.ready .any ops L=[m])&&Region.seqB .any ops (ops.size-(m+1)) (m+1) (L.setIfInBounds m true)
theorem Je7 {id:Nat}{Q:Exit→Act→World→Prop}{a:Act}{w:World}{l:List Oper}(m:Nat)(R:Nat→Nat→Value→World→Prop){o1:Oper}{d1:Tmp}(hm:P.follows .mixedOrders=true)
 (hB:(Region.noSelect l.toArray&&(decide (m+1<l.toArray.size∧m≤m+1)&&(Region.sinkB .any l.toArray (m+1)&&(Region.chainB .any l.toArray (m+1)&&ZX .any l.toArray m 0 (Array.replicate l.toArray.size false)))))=true)
 (hC:JmX l.toArray m=true)(h1:l[m]? =some o1)(e1:o1.dst=some d1)
 (hd:Ja3 a.tmps.size (l.take m)=true)(hR:Jba R)
 (h:∃aF:Act,(∀w1,Below w.heap.size w w1→wpQuiet P l.toArray (fun w'=>∃x:JC w1,w'=x.world) (fun a'=>a'=aF) (l.take m) a)∧JfD P l.toArray w o1 R aF∧
   (∀lo hi v1 w',Below w.heap.size w w'→w.heap.size≤lo→lo≤hi→R lo hi v1 w'→wpList P l.toArray Q (l.drop (m+1)) (aF.put (some d1) v1) w')):(Code.region id l.toArray true).wp P Q a w:=by
 obtain⟨aF,H,M1,K⟩:=h
 simp only[JmX,Bool.and_eq_true,decide_eq_true_eq] at hC
 obtain⟨r0,hseq⟩:=hC
 let mk:Nat→Option (Nat→Nat→Value→World→Prop):=fun i=>if i=m then some R else none
 have k1:mk m=some R:=by simp[mk]
 have o1':l.toArray[m]? =some o1:=by simpa using h1
 refine Jbb m (m+1) 1 mk aF hm hB (fun i hi=>by simp only[mk];rw[if_neg (by omega)]) hd rfl H ?_
 refine⟨by rw[r0];simp,fun i hi=>?_⟩
 rw[r0] at hi
 obtain rfl:i=m:=by simpa using hi
 refine⟨by omega,fun oi hoi=>⟨fun h=>(by rw[k1] at h;cases h),fun R' hR'=>?_⟩⟩
 obtain rfl:o1=oi:=Option.some.inj (o1'.symm.trans hoi)
 obtain rfl:R=R':=Option.some.inj (k1.symm.trans hR')
 refine⟨M1,hR,fun lo hi v1 g1 g2 _ hex=>⟨hseq,fun w' hw hal=>?_⟩⟩
 rw[e1]
 exact K lo hi v1 w' hw g1 g2 ((hal (⟨lo,hi,R lo hi v1⟩:ZD) (by simp)).2 w' (Jny _ _))
end
end
section
open Go.RowKit
section
variable {P:Program} {ops:Array Oper} {md:Region.Mode}
def XW (P:Program)(ops:Array Oper)(w:World)(gs:List ZD)(o:Oper)(v:Value)(a:Act):Prop:=∀w1,Below w.heap.size w w1→Jaj w1 gs→YieldsIn P ops (Zv w1) o v a
def Jbh (P:Program)(ops:Array Oper)(w:World)(gs:List ZD)(o:Oper)(R:Nat→Nat→Value→World→Prop)(a:Act):Prop:=
 Region.wanted o (yielded ops a.tmps)=true∧∀w1,Below w.heap.size w w1→Jaj w1 gs→
  (∃v w2,(execOp a.eval o).run P w1=.ok (.value v) w2∧Below w1.heap.size w1 w2∧R w1.heap.size w2.heap.size v w2)∨
  (∃f args,(execOp a.eval o).run P w1=.ok (.enter f args) w1∧Calls P f args w1 (fun e w2=>∃v,e=.returned v∧Below w1.heap.size w1 w2∧R w1.heap.size w2.heap.size v w2))
def wpX (P:Program)(md:Region.Mode)(ops:Array Oper)(w:World)(n:Nat)(wd:Nat→Bool)(L:Array Bool→Act→List ZD→Prop):Nat→Array Bool→Act→List ZD→Prop
 |0,listed,a,gs=>L listed a gs
 |f+1,listed,a,gs=>Region.ready md ops listed≠[]∧∀i∈Region.ready md ops listed,i<n∧∀oi,ops[i]? =some oi→
  ((wd i=false→∃v,XW P ops w gs oi v a∧wpX P md ops w n wd L f (listed.setIfInBounds i true) (a.put oi.dst v) gs)∧
   (wd i=true→∃R,Jbh P ops w gs oi R a∧Jba R∧∀lo hi v,w.heap.size≤lo→lo≤hi→(∀p∈gs,p.hi≤lo)→(∃w',R lo hi v w')→wpX P md ops w n wd L f (listed.setIfInBounds i true) (a.put oi.dst v) (⟨lo,hi,R lo hi v⟩::gs)))
theorem Jcb {w:World}{n g:Nat}{wd:Nat→Bool}{L:Array Bool→Act→List ZD→Prop}{Q':Exit→Act→World→Prop}
 (hL:∀listed a gs w',Below w.heap.size w w'→Jaj w' gs→L listed a gs→wpAny P md ops Q' g listed a w'):
 ∀(f:Nat) (listed:Array Bool) (a:Act) (gs:List ZD) (w':World),Below w.heap.size w w'→Jaj w' gs→wpX P md ops w n wd L f listed a gs→wpAny P md ops Q' (f+g) listed a w'
 |0,listed,a,gs,w',hw,hl,h=>by rw[Nat.zero_add];exact hL _ _ _ _ hw hl h
 |f+1,listed,a,gs,w',hw,hl,h=>by
  rw[show f+1+g=(f+g)+1 by omega]
  refine⟨fun h0=>absurd h0 h.1,fun i hi=>?_⟩
  obtain⟨_,oi,hoi,_⟩:=mem_ready.1 hi
  obtain⟨h1,h2⟩:=(h.2 i hi).2 oi hoi
  cases hmk:wd i with
  |false=>
   obtain⟨v,hy,hk⟩:=h1 hmk
   refine wpOp_of_qOp (C:=Zv w') (K:=fun a'=>a'=a.put oi.dst v) ⟨⟨w',Jny _ _⟩,rfl⟩ (fun a' w'' hw'' ha=>?_) ((hy w' hw hl).qOp hoi rfl)
   obtain⟨x,rfl⟩:=hw''
   subst ha
   exact Jcb hL f _ _ gs _ (Jno hw x.below) (hl.below x.below) hk
  |true=>
   obtain⟨R,hm,hs,hk⟩:=h2 hmk
   have go:∀v w2,Below w'.heap.size w' w2→R w'.heap.size w2.heap.size v w2→wpAny P md ops Q' (f+g) (listed.setIfInBounds i true) (a.put oi.dst v) w2:=fun v w2 hb hR=>by
    refine Jcb hL f _ _ _ _ (Jno hw hb) ?_ (hk w'.heap.size w2.heap.size v hw.size hb.size (fun p hp=>(hl p hp).1) ⟨w2,hR⟩)
    intro p hp
    rcases List.mem_cons.1 hp with rfl|hp
    ·exact⟨JnA _,fun w3 h3=>hs _ _ _ _ _ hR (JnA _) h3⟩
    ·exact hl.below hb p hp
   unfold wpOp
   simp only[hoi,hm.1,if_true]
   refine .inl ?_
   unfold Oper.wp
   rcases hm.2 w' hw hl with ⟨v,w2,hr,hb,hR⟩|⟨f',args,hr,hc⟩
   ·rw[hr]
    exact go v w2 hb hR
   ·rw[hr,Oper.upon_enter]
    refine hc.mono ?_
    rintro e w2 ⟨v,rfl,hb,hR⟩
    exact go v w2 hb hR
theorem XW.of_unput {w:World}{gs:List ZD}{oi oj:Oper}{v u:Value}{a:Act}(hsi:∀cs b,oi.op≠ .select cs b)(h:XW P ops w gs oi v (a.put oj.dst u))(hap:∀d,oj.dst=some d→d∉oi.looksAt ops):XW P ops w gs oi v a:=
 fun w1 hb hl=>(h w1 hb hl).of_same (execOp_put oi hsi a oj.dst u hap).symm (wanted_put oi a oj.dst u hap).symm
theorem Jbh.of_unput {w:World}{gs:List ZD}{oi oj:Oper}{R:Nat→Nat→Value→World→Prop}{u:Value}{a:Act}(hsi:∀cs b,oi.op≠ .select cs b)(h:Jbh P ops w gs oi R (a.put oj.dst u))(hap:∀d,oj.dst=some d→d∉oi.looksAt ops):Jbh P ops w gs oi R a:=by
 have he:=(execOp_put oi hsi a oj.dst u hap).symm
 have hw:=(wanted_put oi a oj.dst u hap).symm
 unfold Jbh at*
 rw[he,hw]
 exact h
theorem Jjt {w:World}{n i:Nat}{oi:Oper}{v:Value}{wd:Nat→Bool}{L:Array Bool→Act→List ZD→Prop}(hi:ops[i]? =some oi)(hal:wd i=false)(hsel:∀(j:Nat) (o:Oper) cs b,ops[j]? =some o→o.op≠ .select cs b)
 (hs:Region.sinkB md ops n=true)(hc:Region.chainB md ops n=true)(hn:n<ops.size)(hin:i<n)
 (hdone:∀listed a gs,L listed a gs→∀j∈Region.ready md ops listed,n≤j):
 ∀(f:Nat) (listed:Array Bool) (a:Act) (gs:List ZD),HeadInv md ops n listed→
  (∀j oj,ops[j]? =some oj→j≠i→listed.getD j true=false→(∀e∈oj.after,Region.binds md e=true→e.on≠i)→oi.apart ops oj=true)→
  i∈Region.ready md ops listed→Qw P ops w oi v a→
  wpX P md ops w n wd L f (listed.setIfInBounds i true) (a.put oi.dst v) gs→wpX P md ops w n wd L (f+1) listed a gs:=by
 intro f
 induction f with
 |zero=>
  intro listed a gs inv _ hr hy H
  have hun:=(mem_ready.1 hr).1
  refine⟨fun h=>(by rw[h] at hr;cases hr),fun j hj=>?_⟩
  have hjn:j<n:=by
   rcases Nat.lt_or_ge j n with h|h
   ·exact h
   ·exact absurd hj (tail_waits hs hc hn inv _ i rfl hin hun j h)
  refine⟨hjn,fun oj hoj=>?_⟩
  by_cases hji:j=i
  ·subst hji
   obtain rfl:oi=oj:=Option.some.inj (hi.symm.trans hoj)
   exact⟨fun _=>⟨v,fun w1 hb _=>hy w1 hb,H⟩,fun h=>by rw[hal] at h;cases h⟩
  ·have:=hdone _ _ _ H j (ready_mono hj hji)
   omega
 |succ f ih=>
  intro listed a gs inv hfree hr hy H
  have hun:=(mem_ready.1 hr).1
  refine⟨fun h=>(by rw[h] at hr;cases hr),fun j hj=>?_⟩
  have hjn:j<n:=by
   rcases Nat.lt_or_ge j n with h|h
   ·exact h
   ·exact absurd hj (tail_waits hs hc hn inv _ i rfl hin hun j h)
  refine⟨hjn,fun oj hoj=>?_⟩
  by_cases hji:j=i
  ·subst hji
   obtain rfl:oi=oj:=Option.some.inj (hi.symm.trans hoj)
   exact⟨fun _=>⟨v,fun w1 hb _=>hy w1 hb,H⟩,fun h=>by rw[hal] at h;cases h⟩
  ·obtain⟨H1,H2⟩:=(H.2 j (ready_mono hj hji)).2 oj hoj
   obtain⟨hjun,oj',hoj',hall⟩:=mem_ready.1 hj
   obtain rfl:oj=oj':=Option.some.inj (hoj.symm.trans hoj')
   have hnot:∀e∈oj.after,Region.binds md e=true→e.on≠i:=fun e he hb heq=>by
    have h1:=hall e he hb
    rw[heq,getD_both hun] at h1
    cases h1
   obtain⟨ap1,ap2,ap3⟩:=Oper.apart_spec (hfree j oj hoj hji hjun hnot)
   have hfree':∀k ok,ops[k]? =some ok→k≠i→(listed.setIfInBounds j true).getD k true=false→
    (∀e∈ok.after,Region.binds md e=true→e.on≠i)→oi.apart ops ok=true:=fun k ok hk hki hun hno=>by
    refine hfree k ok hk hki ?_ hno
    by_cases hjk:j=k
    ·subst hjk;exact hjun
    ·rw[getD_set_ne true hjk] at hun;exact hun
   have go:∀(u:Value) gs',wpX P md ops w n wd L f ((listed.setIfInBounds i true).setIfInBounds j true) ((a.put oi.dst v).put oj.dst u) gs'→wpX P md ops w n wd L (f+1) (listed.setIfInBounds j true) (a.put oj.dst u) gs':=fun u gs' h=>by
    refine ih (listed.setIfInBounds j true) (a.put oj.dst u) gs' (inv.set hj hjn) hfree' (ready_mono hr (Ne.symm hji)) (hy.of_put (fun cs b=>hsel i oi cs b hi) ap3) ?_
    rw[Array.setIfInBounds_comm _ _ hji,←Act.put_comm a v u ap2]
    exact h
   refine⟨fun hj0=>?_,fun hj1=>?_⟩
   ·obtain⟨u,hu,hk⟩:=H1 hj0
    exact⟨u,hu.of_unput (fun cs b=>hsel j oj cs b hoj) ap1,go u gs hk⟩
   ·obtain⟨R,hm,hst,hk⟩:=H2 hj1
    exact⟨R,hm.of_unput (fun cs b=>hsel j oj cs b hoj) ap1,hst,fun lo hi' u h1 h2 h3 h4=>go _ _ (hk lo hi' u h1 h2 h3 h4)⟩
theorem Jju {w:World}{n m r:Nat}{wd:Nat→Bool}{L:Array Bool→Act→List ZD→Prop}{Lq:Act→Prop}(hsel:Region.noSelect ops=true)(hs:Region.sinkB md ops n=true)(hc:Region.chainB md ops n=true)(hn:n<ops.size)(hmn:m≤n)
 (hal:∀i,i<m→wd i=false)(hdone:∀listed a gs,L listed a gs→∀j∈Region.ready md ops listed,n≤j):
 ∀(l:List Oper) (k:Nat) (listed:Array Bool) (a:Act),(∀j,j<l.length→l[j]? =ops[k+j]?)→k+l.length=m→HeadInv md ops n listed→
 ZX md ops l.length k listed=true→(∀a',Lq a'→wpX P md ops w n wd L r (Zw l.length k listed) a' [])→Jjq P ops w Lq l a→wpX P md ops w n wd L (l.length+r) listed a []
 |[],k,listed,a,_,hk,_,hB,hb,h=>by
  rw[List.length_nil,Nat.zero_add];exact hb a h
 |o::l,k,listed,a,hl,hk,inv,hB,hb,h=>by
  have h0:ops[k]? =some o:=by simpa using(hl 0 (by simp)).symm
  simp only[List.length_cons,ZX,Bool.and_eq_true] at hB
  obtain⟨⟨hr,hf⟩,hB'⟩:=hB
  have hkm:k<m:=by simp only[List.length_cons] at hk;omega
  have hr':k∈Region.ready md ops listed:=by simpa using hr
  obtain⟨v,hy,hK⟩:=h
  rw[show(o::l).length+r=(l.length+r)+1 by simp only[List.length_cons];omega]
  exact Jjt h0 (hal k hkm) (Region.noSelect_spec hsel) hs hc hn (by omega) hdone (l.length+r) listed a [] inv (Region.free_spec h0 hf) hr' hy
   (Jju hsel hs hc hn hmn hal hdone l (k+1) _ _ (fun j hj=>by have:=hl (j+1) (by simp;omega);simpa[Nat.add_assoc,Nat.add_comm 1 j] using this) (by simp only[List.length_cons] at hk;omega) (inv.set hr' (by omega)) hB' hb hK)
def JbI (P:Program)(ops:Array Oper)(w:World)(Q:Exit→Act→World→Prop)(tl:List Oper):List (Bool×Oper)→Act→List ZD→Prop
 |[],a,gs=>∀w',Below w.heap.size w w'→Jaj w' gs→wpList P ops Q tl a w'
 |(false,o)::rest,a,gs=>∃v,XW P ops w gs o v a∧JbI P ops w Q tl rest (a.put o.dst v) gs
 |(true,o)::rest,a,gs=>∃R,Jbh P ops w gs o R a∧Jba R∧∀lo hi v,w.heap.size≤lo→lo≤hi→(∀p∈gs,p.hi≤lo)→(∃w',R lo hi v w')→JbI P ops w Q tl rest (a.put o.dst v) (⟨lo,hi,R lo hi v⟩::gs)
def JkA (ops:Array Oper)(n:Nat):Nat→Nat→Array Bool→Bool
 |0,_,listed=>Region.seqB .any ops (ops.size-n) n listed
 |f+1,k,listed=>decide (Region.ready .any ops listed=[k])&&JkA ops n f (k+1) (listed.setIfInBounds k true)
theorem Jbi {w:World}{Q:Exit→Act→World→Prop}{n:Nat}{wd:Nat→Bool}{tl:List Oper}(L:Array Bool→Act→List ZD→Prop)
 (hL:∀listed a gs,Region.seqB .any ops (ops.size-n) n listed=true→(∀w',Below w.heap.size w w'→Jaj w' gs→wpList P ops Q tl a w')→L listed a gs):
 ∀(l:List (Bool×Oper)) (k:Nat) (listed:Array Bool) (a:Act) (gs:List ZD),(∀j,j<l.length→(l[j]?).map (·.2)=ops[k+j]?∧(l[j]?).map (·.1)=some (wd (k+j)))→k+l.length=n→JkA ops n l.length k listed=true→
 JbI P ops w Q tl l a gs→wpX P .any ops w n wd L l.length listed a gs
 |[],k,listed,a,gs,_,hk,hB,h=>hL listed a gs hB h
 |(b,o)::l,k,listed,a,gs,hl,hk,hB,h=>by
  simp only[List.length_cons,JkA,Bool.and_eq_true,decide_eq_true_eq] at hB
  obtain⟨hr,hB'⟩:=hB
  obtain⟨h0,h1⟩:=hl 0 (by simp)
  have e0:ops[k]? =some o:=by simpa using h0.symm
  have e1:wd k=b:=by simpa using h1.symm
  have hnext:∀j,j<l.length→(l[j]?).map (·.2)=ops[k+1+j]?∧(l[j]?).map (·.1)=some (wd (k+1+j)):=fun j hj=>by
   have:=hl (j+1) (by simp;omega)
   rw[show k+1+j=k+(j+1) by omega]
   simpa using this
  refine⟨by rw[hr];simp,fun i hi=>?_⟩
  rw[hr] at hi
  obtain rfl:i=k:=by simpa using hi
  refine⟨by simp only[List.length_cons] at hk;omega,fun oi hoi=>?_⟩
  obtain rfl:o=oi:=Option.some.inj (e0.symm.trans hoi)
  cases b with
  |false=>
   refine⟨fun _=>?_,fun h=>by rw[e1] at h;cases h⟩
   obtain⟨v,hy,hk2⟩:=h
   exact⟨v,hy,Jbi L hL l (i+1) _ _ _ hnext (by simp only[List.length_cons] at hk;omega) hB' hk2⟩
  |true=>
   refine⟨fun h=>(by rw[e1] at h;cases h),fun _=>?_⟩
   obtain⟨R,hm,hst,hk2⟩:=h
   exact⟨R,hm,hst,fun lo hi v g1 g2 g3 g4=>Jbi L hL l (i+1) _ _ _ hnext (by simp only[List.length_cons] at hk;omega) hB' (hk2 lo hi v g1 g2 g3 g4)⟩
theorem Xc {id:Nat}{Q:Exit→Act→World→Prop}{a:Act}{w:World}{l:List Oper}(m:Nat)(bs:List Bool)(hm:P.follows .mixedOrders=true)
 (hB:(Region.noSelect l.toArray&&(decide (m+bs.length<l.toArray.size)&&(Region.sinkB .any l.toArray (m+bs.length)&&(Region.chainB .any l.toArray (m+bs.length)&&(ZX .any l.toArray m 0 (Array.replicate l.toArray.size false)&&JkA l.toArray (m+bs.length) bs.length m (Zw m 0 (Array.replicate l.toArray.size false)))))))=true)
 (hd:Ja3 a.tmps.size (l.take m)=true)
 (h:∃aF:Act,(∀w1,Below w.heap.size w w1→wpQuiet P l.toArray (fun w'=>∃x:JC w1,w'=x.world) (fun a'=>a'=aF) (l.take m) a)∧
   JbI P l.toArray w Q (l.drop (m+bs.length)) (bs.zip (l.drop m)) aF []):(Code.region id l.toArray true).wp P Q a w:=by
 obtain⟨aF,H,K⟩:=h
 simp only[Bool.and_eq_true,decide_eq_true_eq] at hB
 obtain⟨hsel,hn,hs,hc,hlex,hlate⟩:=hB
 generalize hnn:m+bs.length=n at*
 have hn':n<l.length:=by simpa using hn
 have htl:(l.take m).length=m:=by simp;omega
 have hdl:(l.drop n).length=l.toArray.size-n:=by simp
 have inv0:HeadInv .any l.toArray n (Array.replicate l.toArray.size false):=
  ⟨by simp,fun j oj _ hl=>(by rw[getD_replicate_false] at hl;cases hl),fun t _ ht=>getD_in (by simpa using ht) (getD_replicate_false _ _)⟩
 let wd:Nat→Bool:=fun i=>if i<m then false else bs.getD (i-m) false
 have hz:(bs.zip (l.drop m)).length=bs.length:=by rw[List.length_zip,List.length_drop];omega
 let LL:Array Bool→Act→List ZD→Prop:=fun listed a' gs=>Region.seqB .any l.toArray (l.toArray.size-n) n listed=true∧∀w',Below w.heap.size w w'→Jaj w' gs→wpList P l.toArray Q (l.drop n) a' w'
 have KX:=Jbi (P:=P) (w:=w) (Q:=Q) (n:=n) (wd:=wd) LL (fun listed a gs h1 h2=>⟨h1,h2⟩) (bs.zip (l.drop m)) m (Zw m 0 (Array.replicate l.toArray.size false)) aF []
  (fun j hj=>by
    rw[hz] at hj
    have hj2:j<(l.drop m).length:=by rw[List.length_drop];omega
    have e:(bs.zip (l.drop m))[j]? =some (bs[j],(l.drop m)[j]):=by
     rw[List.getElem?_eq_getElem (by rw[hz];exact hj),List.getElem_zip]
    rw[e]
    refine⟨?_,?_⟩
    ·show some ((l.drop m)[j])=l.toArray[m+j]?
     rw[←List.getElem?_eq_getElem hj2];simp[List.getElem?_drop]
    ·show some bs[j]=some (wd (m+j))
     simp only[wd]
     rw[if_neg (by omega),show m+j-m=j by omega,List.getD_eq_getElem?_getD,List.getElem?_eq_getElem hj];rfl) (by rw[hz];exact hnn) (by rw[hz];exact hlate) K
 rw[hz] at KX
 have HF:=Jju (md:=.any) (m:=m) (r:=bs.length) (wd:=wd) (L:=LL) hsel hs hc hn (by omega) (fun i hi=>by simp only[wd];rw[if_pos hi]) (fun listed a' gs hL=>seqB_ready hL.1)
  (l.take m) 0 _ a (fun j hj=>by
    have hj':j<m:=by rw[htl] at hj;exact hj
    simp[hj']) (by simpa using htl) inv0 (by rw[htl];exact hlex) (fun a' ha=>by subst ha;rw[htl];exact KX) (Jgi (l.take m) a hd H)
 refine wp_region_any hm ?_
 have:=Jcb (Q':=Q) (g:=l.toArray.size-n) (fun listed a' gs w' hw' hl hL=>by
  have:=wpAny_of_seq (md:=.any) (Q':=Q) (l.drop n) n listed a' w' (fun j=>by simp[List.getElem?_drop]) (by rw[hdl];exact hL.1) (hL.2 w' hw' hl)
  rwa [hdl] at this) _ _ _ [] _ (Jny w.heap.size w).drew (fun p hp=>by cases hp) HF
 rw[htl,show m+bs.length+(l.toArray.size-n)=l.toArray.size by omega] at this
 exact this
theorem Xm {w:World}{Q:Exit→Act→World→Prop}{tl:List Oper}{o:Oper}{rest:List (Bool×Oper)}{a:Act}{gs:List ZD}(R:Nat→Nat→Value→World→Prop)(h:Jbh P ops w gs o R a)(hs:Jba R)
 (k:∀lo hi v,w.heap.size≤lo→lo≤hi→(∀p∈gs,p.hi≤lo)→(∃w',R lo hi v w')→JbI P ops w Q tl rest (a.put o.dst v) (⟨lo,hi,R lo hi v⟩::gs)):JbI P ops w Q tl ((true,o)::rest) a gs:=⟨R,h,hs,k⟩
theorem Jcx {w:World}{Q:Exit→Act→World→Prop}{tl:List Oper}{o:Oper}{rest:List (Bool×Oper)}{a:Act}{gs:List ZD}(v:Value)(h:XW P ops w gs o v a)
 (k:JbI P ops w Q tl rest (a.put o.dst v) gs):JbI P ops w Q tl ((false,o)::rest) a gs:=⟨v,h,k⟩
theorem ZH {w:World}{Q:Exit→Act→World→Prop}{tl:List Oper}{a:Act}{gs:List ZD}(h:∀w',Below w.heap.size w w'→Jaj w' gs→wpList P ops Q tl a w'):JbI P ops w Q tl [] a gs:=h
theorem Jbh.call {w:World}{gs:List ZD}{o:Oper}{R:Nat→Nat→Value→World→Prop}{a:Act}(f:FuncId)(args:Array Value)(hw:Region.wanted o (yielded ops a.tmps)=true)(he:∀w1,(execOp a.eval o).run P w1=.ok (.enter f args) w1)
 (h:∀w1,Below w.heap.size w w1→Jaj w1 gs→Calls P f args w1 (fun e w2=>∃v,e=.returned v∧Below w1.heap.size w1 w2∧R w1.heap.size w2.heap.size v w2)):Jbh P ops w gs o R a:=
 ⟨hw,fun w1 hb hl=>.inr ⟨f,args,he w1,h w1 hb hl⟩⟩
theorem XW.call {w:World}{gs:List ZD}{o:Oper}{v:Value}{a:Act}(f:FuncId)(args:Array Value)(hw:Region.wanted o (yielded ops a.tmps)=true)(he:∀w1,(execOp a.eval o).run P w1=.ok (.enter f args) w1)
 (h:∀w1,Below w.heap.size w w1→Jaj w1 gs→Calls P f args w1 (Jk w1 v)):XW P ops w gs o v a:=
 fun w1 hb hl=>.inl ⟨hw,fun w2 hw2=>by
  obtain⟨x,rfl⟩:=hw2
  have hb2:Below w.heap.size w x.world:=Jno hb x.below
  unfold Oper.quietAt
  rw[he]
  refine⟨rfl,(h _ hb2 (hl.below x.below)).mono ?_⟩
  rintro e w3 ⟨rfl,h3⟩
  exact⟨rfl,⟨w3,Jno x.below h3⟩,rfl⟩⟩
theorem XW.value {w:World}{gs:List ZD}{o:Oper}{v:Value}{a:Act}(hw:Region.wanted o (yielded ops a.tmps)=true)(he:∀w1,(execOp a.eval o).run P w1=.ok (.value v) w1):XW P ops w gs o v a:=
 fun w1 hb hl=>.inl ⟨hw,fun w2 hw2=>by
  unfold Oper.quietAt
  rw[he]
  exact⟨rfl,rfl⟩⟩
end
end
section
open Go.RowKit
section
variable {P:Program} {ops:Array Oper} {md:Region.Mode}
theorem Jnu {C:World→Prop}{oi oj:Oper}{v u:Value}{a:Act}(hsi:∀cs b,oi.op≠ .select cs b)(h:YieldsIn P ops C oi v (a.put oj.dst u))(hap:∀d,oj.dst=some d→d∉oi.looksAt ops):YieldsIn P ops C oi v a:=
 h.of_same (execOp_put oi hsi a oj.dst u hap).symm (wanted_put oi a oj.dst u hap).symm
theorem Jnt {C:World→Prop}{oi oj:Oper}{v u:Value}{a:Act}(hsi:∀cs b,oi.op≠ .select cs b)(h:YieldsIn P ops C oi v a)(hap:∀d,oj.dst=some d→d∉oi.looksAt ops):YieldsIn P ops C oi v (a.put oj.dst u):=
 h.of_same (execOp_put oi hsi a oj.dst u hap) (wanted_put oi a oj.dst u hap)
def Z1 (ops:Array Oper):List Oper→Bool
 |[]=>true
 |o::l=>(o::l).all (fun p=>match p.dst with|some d=>!(o.looksAt ops).contains d|none=>true)&&Z1 ops l
theorem Z2 {C:World→Prop}{aF:Act}{o:Oper}(hsel:∀cs b,o.op≠ .select cs b):∀(l:List Oper) (a:Act),(∀p∈l,∀d,p.dst=some d→d∉o.looksAt ops)→wpQuiet P ops C (fun a'=>a'=aF) l a→
 execOp aF.eval o=execOp a.eval o∧Region.wanted o (yielded ops aF.tmps)=Region.wanted o (yielded ops a.tmps)
 |[],a,_,h=>by have h:a=aF:=h;subst h;exact⟨rfl,rfl⟩
 |p::l,a,hd,h=>by
  obtain⟨v,-,h2⟩:=Q2 h
  have hap:∀d,p.dst=some d→d∉o.looksAt ops:=hd p (by simp)
  obtain⟨e1,e2⟩:=Z2 hsel l _ (fun q hq=>hd q (by simp[hq])) h2
  exact⟨e1.trans (execOp_put o hsel a p.dst v hap),e2.trans (wanted_put o a p.dst v hap)⟩
theorem Jbj {C:World→Prop}{Q:Act→Prop}:∀(l:List Oper) (a:Act),wpQuiet P ops C Q l a→∃aF,Q aF∧wpQuiet P ops C (fun a'=>a'=aF) l a
 |[],a,h=>⟨a,h,rfl⟩
 |o::l,a,h=>by
  rw[wpQuiet] at h
  by_cases hw:Region.wanted o (yielded ops a.tmps)=true
  ·simp only[hw,if_true] at h
   obtain⟨v,h1,h2⟩:=h
   obtain⟨aF,q,h3⟩:=Jbj l _ h2
   refine⟨aF,q,?_⟩
   rw[wpQuiet]
   simp only[hw,if_true]
   exact⟨v,h1,h3⟩
  ·simp only[hw] at h
   obtain⟨aF,q,h3⟩:=Jbj l _ h
   refine⟨aF,q,?_⟩
   rw[wpQuiet]
   simp only[hw]
   exact h3
theorem Jav {C:World→Prop}{o:Oper}{v:Value}{a:Act}(hw:Region.wanted o (yielded ops a.tmps)=true)(hr:∀w,C w→(execOp a.eval o).run P w=.ok (.value v) w):YieldsIn P ops C o v a:=
 .inl ⟨hw,fun w2 h2=>by
  unfold Oper.quietAt
  rw[hr w2 h2]
  exact⟨rfl,rfl⟩⟩
end
end
end Go.Proofs.YtkgjbipfhhjlpaaGreatDoor
