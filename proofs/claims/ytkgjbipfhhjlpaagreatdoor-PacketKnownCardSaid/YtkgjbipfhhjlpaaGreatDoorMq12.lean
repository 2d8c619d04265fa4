import Derived.Test.YtkgjbipfhhjlpaaGreatDoorMq11
set_option linter.unusedVariables false
set_option linter.unusedSimpArgs false
set_option maxRecDepth 100000
set_option maxHeartbeats 32000000
namespace Go.Proofs.YtkgjbipfhhjlpaaGreatDoor
open Go.Proofs.Tryz
section
open Go.RowKit
theorem Jd4{p:Prop}(h:p:=by
 rw[show(Qs o 0).length+((Qp l e).length+((Qp l g).length+0+1))=l.toArray.size by simp only[JaK];omega] at this;exact this):p:=h
section
variable {P:Program} {ops:Array Oper} {md:Region.Mode}
theorem JX.of_same {e:World->Prop}{g:Value->World->Prop}{C:Oper}{a b:Act}(h:JX P ops e g C a)(n:execOp b.eval C=execOp a.eval C)(l:Region.wanted C (yielded ops b.tmps)=Region.wanted C (yielded ops a.tmps)):JX P ops e g C b:=by
 unfold JX at*;rw[n,l];exact h
abbrev FC:=Option Nat->World->Prop
structure Og (P:Program)(ops:Array Oper)(o:Oper)(ob:Obj)(vf:Nat->Value):Prop where
 wanted:∀a:Act,Region.wanted o (yielded ops a.tmps)=true
 run:∀(a:Act) (w':World),(execOp a.eval o).run P w'=.ok (.value (vf w'.heap.size)) (w'.alloc ob)
theorem EL.v {o:Oper}{ob:Obj}(h:EL P ops o ob):Og P ops o ob XK:=⟨h.wanted,h.run⟩
def wpZ (P:Program)(md:Region.Mode)(ops:Array Oper)(hd sq:List Nat)(f:Nat)(ob:Obj)(vf:Nat->Value)(o:Nat->World->Prop)(l:List Nat)(Q:Exit->Act->World->Prop):Nat->Nat->FC->Option Nat->Array Bool->Act->Prop
 |0,k,C,fl,e,a=>Region.ready md ops e=[]/\∀w,C fl w->Q .normal a w
 |n+1,k,C,fl,e,a=>Region.ready md ops e≠[]/\∀i∈Region.ready md ops e,∀g,ops[i]? =some g->
  ((i∈hd/\∃v,YieldsIn P ops (C fl) g v a/\wpZ P md ops hd sq f ob vf o l Q n k C fl (e.setIfInBounds i true) (a.put g.dst v))\/
   (sq[k]? =some i/\∃j:Value->FC,JX P ops (C fl) (λv w=>j v fl w) g a/\(∀v fl,Hh o l (k+1) (j v fl))/\∀v,(∃w,j v fl w)->wpZ P md ops hd sq f ob vf o l Q n (k+1) (j v) fl (e.setIfInBounds i true) (a.put g.dst v))\/
   (i=f/\f∉sq/\fl=none/\JX P ops (C none) (λv w=>∃b,v=vf b/\C (some b) w) g a/\∀b,wpZ P md ops hd sq f ob vf o l Q n k C (some b) (e.setIfInBounds i true) (a.put g.dst (vf b))))
theorem X3 {hd sq:List Nat}{f:Nat}{ob:Obj}{vf:Nat->Value}{G:Nat->World->Prop}{top:List Nat}{Q':Exit->Act->World->Prop}:
 ∀(n k:Nat) (C:FC) (fl:Option Nat) (j:Array Bool) (a:Act) (w:World),C fl w->wpZ P md ops hd sq f ob vf G top Q' n k C fl j a->wpAny P md ops Q' n j a w
 |0,k,C,fl,j,a,w,g,h=>⟨h.1,h.2 w g⟩
 |n+1,k,C,fl,j,a,w,g,h=>by
  refine⟨λX=>absurd X h.1,λi z=>?_⟩;obtain⟨_,J,o,_⟩:=YK.1 z;rcases h.2 i z J o with ⟨-,v,M,A⟩|⟨-,T,⟨W,s⟩,-,A⟩|⟨-,-,rfl,⟨W,s⟩,A⟩
  ·refine YJ (C:=C fl) (K:=λt=>t=a.put J.dst v) g (λt U L ha=>?_) (M.qOp o rfl);subst ha;exact X3 n k C fl _ _ _ L A
  ·unfold wpOp;simp only[o,W,YW];refine .inl ?_;unfold Oper.wp;rcases s w g with ⟨v,w2,d,u⟩|⟨N,S,u,I⟩
   ·rcases u with u|⟨u,rfl⟩
    ·rw[u];exact X3 n (k+1) _ fl _ _ _ d (A v ⟨w2,d⟩)
    ·rw[u];exact X3 n (k+1) _ fl _ _ _ d (A undef ⟨w2,d⟩)
   ·rw[u,JaS];refine I.mono ?_;rintro e w2 ⟨v,rfl,d⟩;exact X3 n (k+1) _ fl _ _ _ d (A v ⟨w2,d⟩)
  ·unfold wpOp;simp only[o,W,YW];refine .inl ?_;unfold Oper.wp;rcases s w g with ⟨v,w2,d,u⟩|⟨N,S,u,I⟩
   ·obtain⟨b,p,d⟩:=d;have y:=X3 n k C _ _ _ _ d (A b);rw[<-p] at y;rcases u with u|⟨u,rfl⟩
    ·rw[u];exact y
    ·rw[u];exact y
   ·rw[u,JaS];refine I.mono ?_;rintro e w2 ⟨v,rfl,b,p,d⟩;have y:=X3 n k C _ _ _ _ d (A b);rw[<-p] at y;exact y
theorem Q4.other {sq:List Nat}{k i:Nat}{j:Array Bool}(b:Q4 md ops sq k j)(B:i∈Region.ready md ops j)(G:i∉sq):Q4 md ops sq k (j.setIfInBounds i true):=by
 obtain⟨_,E,I,L⟩:=YK.1 B;refine⟨by simp[b.size],λJ s y M e A g=>?_,λo t n z=>?_,λo t n z=>JaU (b.done o t n z)⟩
 ·by_cases u:i=J
  ·subst u;obtain rfl:s=E:=Yp (y.symm.trans I);exact JaU (L e A g)
  ·rw[YM false u] at M;exact JaU (b.closed J s y M e A g)
 ·rw[YM true (λh=>G (by rw[h];exact YD z))];exact b.open' o t n z
theorem Q4.row2 {sq:List Nat}(y:∀k a t:Nat,sq[k]? =some t->sq[a]? =some t->k=a){k i:Nat}{j:Array Bool}(b:Q4 md ops sq k j)(u:i∈Region.ready md ops j)(A:sq[k]? =some i):Q4 md ops sq (k+1) (j.setIfInBounds i true):=by
 obtain⟨_,v,r,C⟩:=YK.1 u;have E:i<ops.size:=(Ja r).1;refine⟨by simp[b.size],λJ l p M e s g=>?_,λa t B z=>?_,λa t B z=>?_⟩
 ·by_cases o:i=J
  ·subst o;obtain rfl:l=v:=Yp (p.symm.trans r);exact JaU (C e s g)
  ·rw[YM false o] at M;exact JaU (b.closed J l p M e s g)
 ·rw[YM true (λh=>by subst h;have:=y k a i A z;omega)];exact b.open' a t O z
 ·by_cases h:t=i
  ·subst h;have:=b.size;simp;omega
  ·refine JaU (b.done a t ?_ z);rcases Yh a k with n|n
   ·exact n
   ·have:a=k:=O;subst this;rw[A] at z;exact absurd (Yp z).symm h
theorem Al {hd sq:List Nat}{f:Nat}{ob:Obj}{vf:Nat->Value}{N:Nat->World->Prop}{I:List Nat}{Q:Exit->Act->World->Prop}{i:Nat}{l:Oper}{v:Value}{a0:Act}(Z:ops[i]? =some l)(ac:∀(J:Nat) (ak:Oper) S b,ops[J]? =some ak->ak.op≠ .select S b)
 (ar:∀k t af:Nat,sq[k]? =some af->sq[t]? =some af->k=t)(aq:∀J∈hd,J∉sq)(ai:i∈hd)(Inv:Nat->FC->Prop)
 (al:∀k r,Inv k r->∀fl Y,execOp Y.eval l=execOp a0.eval l->Region.wanted l (yielded ops Y.tmps)=Region.wanted l (yielded ops a0.tmps)->YieldsIn P ops (r fl) l v Y)
 (ax:∀k r s p J,Inv k r->Q4 md ops sq k p->p.getD i true=false->J∈Region.ready md ops p->sq[k]? =some J->(∀fl,Hh N I (k+1) (s fl))->Inv (k+1) s):
 ∀(n k:Nat) (r:FC) (fl:Option Nat) (p:Array Bool) (a:Act),Inv k r->Q4 md ops sq k p->
  (∀J o,ops[J]? =some o->J≠i->p.getD J true=false->(∀e∈o.after,Region.binds md e=true->e.on≠i)->l.apart ops o=true)->
  i∈Region.ready md ops p->execOp a.eval l=execOp a0.eval l->Region.wanted l (yielded ops a.tmps)=Region.wanted l (yielded ops a0.tmps)->
  wpZ P md ops hd sq f ob vf N I Q n k r fl (p.setIfInBounds i true) (a.put l.dst v)->wpZ P md ops hd sq f ob vf N I Q (n+1) k r fl p a:=by
 intro n;induction n with
 |zero=>
  intro k r fl p a A L _ u V T E;refine⟨λh=>(by rw[h] at u;cases u),λJ y o B=>?_⟩;by_cases z:J=i
  ·subst z;obtain rfl:l=o:=Yp (Z.symm.trans B);exact .inl ⟨ai,v,al k r A fl a V T,E⟩
  ·have h:=YL y z;rw[E.1] at h;cases h
 |succ n aA=>
  intro k r fl p a A L ah u V T E;have M:=(YK.1 u).1;refine⟨λh=>(by rw[h] at u;cases u),λJ y o B=>?_⟩;by_cases z:J=i
  ·subst z;obtain rfl:l=o:=Yp (Z.symm.trans B);exact .inl ⟨ai,v,al k r A fl a V T,E⟩
  ·have aF:=E.2 J (YL y z) o B;obtain⟨ag,ay,aC,aI⟩:=YK.1 y;obtain rfl:o=ay:=Yp (B.symm.trans aC)
   have ao:∀e∈o.after,Region.binds md e=true->e.on≠i:=λe aB aG aD=>by
    have j:=aI e aB aG;rw[aD,getD_both M] at j;cases j
   obtain⟨aa,ap,am⟩:=JaP (ah J o B z ag ao)
   have az:∀k ok,ops[k]? =some ok->k≠i->(p.setIfInBounds J true).getD k true=false->
    (∀e∈ok.after,Region.binds md e=true->e.on≠i)->l.apart ops ok=true:=λk ok A au M an=>by
    refine ah k ok A au ?_ an;by_cases C:J=k
    ·subst C;exact ag
    ·rw[YM true C] at M;exact M
   have aE:=λg=>(JaN l (λS b=>ac i l S b Z) a o.dst g am).trans V
   have aL:=λg=>(JaO l a o.dst g am).trans T
   have X:=λS b=>ac J o S b B
   have ab:∀t s U g,Inv t s->Q4 md ops sq t (p.setIfInBounds J true)->wpZ P md ops hd sq f ob vf N I Q n t s U ((p.setIfInBounds i true).setIfInBounds J true) ((a.put l.dst v).put o.dst g)->
    wpZ P md ops hd sq f ob vf N I Q (n+1) t s U (p.setIfInBounds J true) (a.put o.dst g):=λt s U g j aK aM=>by
    refine aA t s U (p.setIfInBounds J true) (a.put o.dst g) j aK az (YL u (Ne.symm z)) (aE g) (aL g) ?_;rw[YN _ _ z,<-JaQ a v g ap];exact aM
   rcases aF with ⟨ad,g,W,G⟩|⟨C,s,W,ae,G⟩|⟨aw,aj,av,aJ,G⟩
   ·exact .inl ⟨ad,g,WE X W aa,ab k r fl g A (L.other y (aq J ad)) G⟩
   ·exact .inr (.inl ⟨C,s,W.of_unput X aa,ae,λg aH=>ab (k+1) (s g) fl g (ax k r (s g) p J A L M y C (λfl=>ae g fl)) (L.row2 ar y C) (G g aH)⟩)
   ·subst aw;refine .inr (.inr ⟨rfl,aj,av,aJ.of_unput X aa,λb=>ab k r (some b) _ A (L.other y aj) (G b)⟩)
def Vp (b:Obj)(a:FC):Prop:=∀w,a none w->a (some w.heap.size) (w.alloc b)
def Bf (P:Program)(ops:Array Oper)(o:Oper)(v:Value)(a:Act):Prop:=Region.wanted o (yielded ops a.tmps)=true/\∀w,(execOp a.eval o).run P w=.ok (.value v) w
theorem Bf.yields {o:Oper}{v:Value}{a:Act}(h:Bf P ops o v a)(C:World->Prop):YieldsIn P ops C o v a:=Ah h.1 λw _=>h.2 w
theorem Bf.of_same {C:Oper}{v:Value}{a b:Act}(h:Bf P ops C v a)(e:execOp b.eval C=execOp a.eval C)(g:Region.wanted C (yielded ops b.tmps)=Region.wanted C (yielded ops a.tmps)):Bf P ops C v b:=by
 unfold Bf at*;rw[e,g];exact h
def BY (P:Program)(ops:Array Oper)(G:Nat->World->Prop)(top:List Nat)(pend:Bool)(F:Option Nat->Prop)(ob:Obj)(E:Nat->FC->Act->Prop):List (Kd×Oper)->Nat->FC->Act->Prop
 |[],k,b,a=>E k b a
 |(.w,o)::rest,k,b,a=>∃e:Value->FC,(∀fl,F fl->JX P ops (b fl) (λv w=>e v fl w) o a)/\(∀v fl,Hh G top (k+1) (e v fl))/\(pend=true->∀v,Vp ob (e v))/\∀v,(∃fl w,e v fl w)->BY P ops G top pend F ob E rest (k+1) (e v) (a.put o.dst v)
 |(_,o)::rest,k,b,a=>∃v,Bf P ops o v a/\BY P ops G top pend F ob E rest k b (a.put o.dst v)
def VF:Kd->Bool
 | .w=>true
 | .q=>true
 |_=>false
def HI (md:Region.Mode)(ops:Array Oper):List (Kd×Nat)->Array Bool->Bool
 |[],_=>true
 |(.w,i)::T,a=>decide (Region.ready md ops a=[i])&&HI md ops T (a.setIfInBounds i true)
 |(.q,i)::T,a=>(Region.ready md ops a).contains i&&(Region.free md ops a i&&HI md ops T (a.setIfInBounds i true))
 |_,_=>false
def X6:List (Kd×Nat)->Nat
 |[]=>0
 |(.w,_)::r=>X6 r+1
 |_::r=>X6 r
def QW:List (Kd×Nat)->List Nat
 |[]=>[]
 |(.w,i)::r=>i::QW r
 |_::r=>QW r
def XG:List (Kd×Nat)->Array Bool->Array Bool
 |[],listed=>listed
 |(_,i)::r,listed=>XG r (listed.setIfInBounds i true)
theorem CQ {hd sq:List Nat}{f:Nat}{ob:Obj}{vf:Nat->Value}{G:Nat->World->Prop}{top:List Nat}{Q:Exit->Act->World->Prop}{pend:Bool}{F:Option Nat->Prop}{E:Nat->FC->Act->Prop}{fl:Option Nat}{m:Nat}(hF:F fl)
 (L:∀(J:Nat) (C:Oper) cs b,ops[J]? =some C->C.op≠ .select cs b)(I:∀k n t:Nat,sq[k]? =some t->sq[n]? =some t->k=n)(B:∀J∈hd,J∉sq):
 ∀(l:List (Kd×Oper)) (is:List (Kd×Nat)) (k:Nat) (s:FC) (g:Array Bool) (a:Act),is.map (λp=>ops[p.2]?)=l.map (λp=>some p.2)->is.map (·.1)=l.map (·.1)->(∀p∈is,p.1=.q->p.2∈hd)->(∀J t,(QW is)[J]? =some t->sq[k+J]? =some t)->Q4 md ops sq k g->
 HI md ops is g=true->(∀n o u,E n o u->n=k+X6 is->Q4 md ops sq n (XG is g)->wpZ P md ops hd sq f ob vf G top Q m n o fl (XG is g) u)->
 BY P ops G top pend F ob E l k s a->wpZ P md ops hd sq f ob vf G top Q (l.length+m) k s fl g a
 |[],is,k,s,g,a,j,_,_,_,z,_,A,h=>by
  cases is with
  |cons i is=>cases j
  |nil=>rw[Jau,WM];exact A k s a h rfl z
 |(kk,C)::l,is,k,s,g,a,j,y,Y,R,z,e,A,h=>by
  cases is with
  |nil=>cases j
  |cons q is=>
   obtain⟨U,i⟩:=q;simp only[Jap,JaD] at j y;obtain⟨rfl,y⟩:=y
   have ha:i∈Region.ready md ops g:=by
    cases U<;>simp only[HI,YO,YS] at e
    ·cases e
    ·simpa using e.1
    ·rw[e.1];simp
    ·cases e
    ·cases e
   rw[show((U,C)::l).length+m=(l.length+m)+1 by simp only[Yy];omega];cases U with
   |h=>cases e
   |c=>cases e
   |f=>cases e
   |q=>
    simp only[HI,YO] at e;obtain⟨v,M,ad⟩:=h;have X:=Y (.q,i) (by simp) rfl;refine Al (a0:=a) j.1 L I B X (λ_ _=>True) (λ_ _ _ fl u V N=>(M.of_same V N).yields _) (λ_ _ _ _ _ _ _ _ _ _ _=>trivial) (l.length+m) k s fl g a trivial z (YQ j.1 e.2.1) ha rfl rfl ?_;exact CQ hF L I B l is k s _ _ j.2 y (λp S=>Y p (by simp[S])) (λJ t T=>R J t T) (z.other ha (B i X)) e.2.2 A ad
   |w=>
    simp only[HI,YO,YS] at e;obtain⟨o,V,N,ah,ag⟩:=h;have W:sq[k]? =some i:=R 0 i rfl;refine⟨by rw[e.1];simp,λJ Z aa af=>?_⟩;rw[e.1] at Z;obtain rfl:J=i:=by simpa using Z
    obtain rfl:C=aa:=Yp (j.1.symm.trans af);refine .inr (.inl ⟨W,o,V fl hF,N,λv M=>?_⟩);obtain⟨w,ac⟩:=M
    exact CQ hF L I B l is (k+1) (o v) _ _ j.2 y (λp S=>Y p (by simp[S])) (λJ t T=>by have:=R (J+1) t (by simpa[QW] using T);rwa [show k+(J+1)=k+1+J from O] at this) (z.row2 I ha W) e.2
     (λn o u ae ai ab=>A n o u ae (by simp only[X6];omega) ab) (ag v ⟨fl,w,ac⟩)
theorem H8 {G:Nat->World->Prop}{top:List Nat}{F F':Option Nat->Prop}{ob:Obj}{E E':Nat->FC->Act->Prop}{d:Tmp}{x:Value}(I:∀fl,F' fl->F fl):∀(l:List (Kd×Oper)) (k:Nat) (g:FC) (a:Act),(∀p∈l,(∀S b,p.2.op≠ .select S b)/\d∉p.2.looksAt ops/\p.2.dst≠some d)->
 (∀t n z,E t n z->E' t n (z.put (some d) x))->BY P ops G top true F ob E l k g a->BY P ops G top false F' ob E' l k g (a.put (some d) x)
 |[],k,g,a,_,u,h=>u k g a h
 |(kk,C)::rest,k,g,a,A,u,h=>by
  obtain⟨T,M,L⟩:=A (kk,C) (by simp);have B:∀e,some d=some e->e∉C.looksAt ops:=λe o=>by cases o;exact M
  have o:=JaN C T a (some d) x B;have R:=JaO (ops:=ops) C a (some d) x B;have s:∀v,(a.put (some d) x).put C.dst v=(a.put C.dst v).put (some d) x:=λv=>JaQ a x v (λe j y=>L (y.trans j.symm))
  have r:=λv t n=>H8 (G:=G) (top:=top) (E:=E) (E':=E') (d:=d) (x:=x) (ob:=ob) I rest t n (a.put C.dst v) (λp U=>A p (by simp[U])) u
  cases kk with
  |h=>obtain⟨v,j,y⟩:=h;exact⟨v,j.of_same o R,by rw[s];exact r v k g y⟩
  |q=>obtain⟨v,j,y⟩:=h;exact⟨v,j.of_same o R,by rw[s];exact r v k g y⟩
  |c=>obtain⟨v,j,y⟩:=h;exact⟨v,j.of_same o R,by rw[s];exact r v k g y⟩
  |f=>obtain⟨v,j,y⟩:=h;exact⟨v,j.of_same o R,by rw[s];exact r v k g y⟩
  |w=>obtain⟨n,j,y,Y,N⟩:=h;exact⟨n,λfl V=>(j fl (I fl V)).of_same o R,y,λh=>by simp at h,λv J=>by rw[s];exact r v (k+1) (n v) (N v J)⟩
def GG (md:Region.Mode)(ops:Array Oper)(f:Nat):List (Kd×Nat)->Array Bool->Bool
 |[],listed=>decide (Region.ready md ops listed=[f])
 |(.w,i)::r,listed=>decide (Region.ready md ops listed=[i,f])&&(HI md ops ((.w,i)::r) (listed.setIfInBounds f true)&&GG md ops f r (listed.setIfInBounds i true))
 |(.q,i)::r,listed=>(Region.ready md ops listed).contains i&&(Region.free md ops listed i&&GG md ops f r (listed.setIfInBounds i true))
 |_,_=>false
theorem Ci:∀(l:List (Kd×Nat)) (f:Nat) (a:Array Bool),(∀p∈l,p.2≠f)->XG l (a.setIfInBounds f true)=(XG l a).setIfInBounds f true
 |[],_,_,_=>rfl
 |(kd,i)::l,f,a,h=>by
  simp only[XG];rw[YN _ _ (λe=>h (kd,i) (by simp) e.symm),Ci l f _ (λp E=>h p (by simp[E]))]
theorem Og.seq {C:Oper}{ob:Obj}{vf:Nat->Value}{e:FC}(h:Og P ops C ob vf)(g:Vp ob e)(a:Act):JX P ops (e none) (λv w=>∃b,v=vf b/\e (some b) w) C a:=
 ⟨h.wanted a,λw R=>.inl ⟨_,_,⟨_,rfl,g w R⟩,.inl (h.run a w)⟩⟩
theorem GH {hd sq:List Nat}{f:Nat}{ob:Obj}{vf:Nat->Value}{G:Nat->World->Prop}{top:List Nat}{Q:Exit->Act->World->Prop}{E:Nat->FC->Act->Prop}{EF:Nat->Nat->FC->Act->Prop}{N:Oper}{d:Tmp}{m:Nat}(ac:ops[f]? =some N)(V:N.dst=some d)(aa:Og P ops N ob vf)(A:f∉sq)
 (R:∀(J:Nat) (C:Oper) aj b,ops[J]? =some C->C.op≠ .select aj b)(L:∀k n t:Nat,sq[k]? =some t->sq[n]? =some t->k=n)(I:∀J∈hd,J∉sq)(W:∀b k e a,E k e a->EF b k e (a.put (some d) (vf b))):
 ∀(l:List (Kd×Oper)) (is:List (Kd×Nat)) (k:Nat) (e:FC) (u:Array Bool) (a:Act),is.map (λp=>ops[p.2]?)=l.map (λp=>some p.2)->is.map (·.1)=l.map (·.1)->(∀p∈is,(p.1=.q->p.2∈hd)/\p.2≠f)->(∀J t,(QW is)[J]? =some t->sq[k+J]? =some t)->Q4 md ops sq k u->
 (∀p∈l,(∀aj b,p.2.op≠ .select aj b)/\d∉p.2.looksAt ops/\p.2.dst≠some d)->
 GG md ops f is u=true->Vp ob e->(∀b n s v,EF b n s v->n=k+X6 is->Q4 md ops sq n ((XG is u).setIfInBounds f true)->wpZ P md ops hd sq f ob vf G top Q m n s (some b) ((XG is u).setIfInBounds f true) v)->
 BY P ops G top true (λ_=>True) ob E l k e a->wpZ P md ops hd sq f ob vf G top Q (l.length+(m+1)) k e none u a
 |[],is,k,e,u,a,j,_,_,_,B,_,g,X,M,h=>by
  cases is with
  |cons i is=>cases j
  |nil=>
   simp only[GG,YS] at g;rw[Jau,WM];refine⟨by rw[g];simp,λJ z Z ad=>?_⟩;have S:=z;rw[g] at z;obtain rfl:J=f:=by simpa using z
   obtain rfl:N=Z:=Yp (ac.symm.trans ad);refine .inr (.inr ⟨rfl,A,rfl,aa.seq X a,λb=>?_⟩);rw[V];exact M b k e _ (W b k e a h) rfl (B.other S A)
 |(kk,C)::l,is,k,e,u,a,j,y,Y,T,B,ae,g,X,M,h=>by
  cases is with
  |nil=>cases j
  |cons q is=>
   obtain⟨am,i⟩:=q;have aw:=j;have av:=y;simp only[Jap,JaD] at j y;obtain⟨rfl,y⟩:=y;rw[show((am,C)::l).length+(m+1)=(l.length+(m+1))+1 by simp only[Yy];omega];cases am with
   |h=>cases g
   |c=>cases g
   |f=>cases g
   |q=>
    simp only[GG,YO] at g;obtain⟨ab,ai,ar⟩:=h;have an:=(Y (.q,i) (by simp)).1 rfl;have ha:i∈Region.ready md ops u:=by simpa using g.1
    refine Al (a0:=a) j.1 R L I an (λ_ _=>True) (λ_ _ _ fl v ak af=>(ai.of_same ak af).yields _) (λ_ _ _ _ _ _ _ _ _ _ _=>trivial) (l.length+(m+1)) k e none u a trivial B (YQ j.1 g.2.1) ha rfl rfl ?_;exact GH ac V aa A R L I W l is k e _ _ j.2 y (λp o=>Y p (by simp[o])) (λJ t ag=>T J t ag) (B.other ha (I i an)) (λp o=>ae p (by simp[o])) g.2.2 X M ar
   |w=>
    have aA:=h;simp only[GG,YO,YS] at g;obtain⟨ao,au,aD⟩:=g;obtain⟨s,ak,af,aB,ax⟩:=h;have ap:sq[k]? =some i:=T 0 i rfl;refine⟨by rw[ao];simp,λJ z Z ad=>?_⟩;have S:=z;rw[ao] at z;have aq:J=i\/J=f:=by simpa using z
    rcases aq with rfl|rfl
    ·obtain rfl:C=Z:=Yp (j.1.symm.trans ad);refine .inr (.inl ⟨ap,s,ak none trivial,af,λab ai=>?_⟩);obtain⟨w,az⟩:=ai
     exact GH ac V aa A R L I W l is (k+1) (s ab) _ _ j.2 y (λp o=>Y p (by simp[o])) (λJ t ag=>by have:=T (J+1) t (by simpa[QW] using ag);rwa [show k+(J+1)=k+1+J from O] at this) (B.row2 L S ap) (λp o=>ae p (by simp[o])) aD (aB rfl ab)
      (λb n s v ah al U=>M b n s v ah (by simp only[X6];omega) U) (ax ab ⟨none,w,az⟩)
    ·obtain rfl:N=Z:=Yp (ac.symm.trans ad);refine .inr (.inr ⟨rfl,A,rfl,aa.seq X a,λb=>?_⟩);rw[V];have ay:∀p∈((Kd.w,i)::is),p.2≠J:=λp o=>(Y p o).2
     have aC:=H8 (F':=λfl=>fl=some b) (E':=EF b) (d:=d) (x:=vf b) (λ_ _=>trivial) ((.w,C)::l) k e a ae (λn s v=>W b n s v) aA
     have:=CQ (m:=m) (f:=J) (hd:=hd) (sq:=sq) (Q:=Q) (F:=λfl=>fl=some b) (fl:=some b) rfl R L I ((.w,C)::l) ((.w,i)::is) k e (u.setIfInBounds J true) _ aw av (λp o=>(Y p o).1) T (B.other S A) au
      (λn s v ah al U=>by rw[Ci _ _ _ ay] at U|-;exact M b n s v ah al U) aC
     rw[show((Kd.w,C)::l).length+m=l.length+(m+1) by simp only[Yy];omega] at this;exact this
theorem LP {b j:World->Prop}{C:Oper}{a:Act}{w:World}{v:Value}(h:C.quietAt P a b w v)(l:∀d,b d->j d):C.quietAt P a j w v:=by
 unfold Oper.quietAt at*;generalize (execOp a.eval C).run P w=T at*;cases T with
 |ok n d=>
  cases n<;>simp only[Oper.quietUpon] at h|-<;>first|exact h|exact⟨h.1,h.2.mono λe o g=>⟨g.1,l _ g.2⟩⟩
 |halt x d=>simp only[Oper.quietUpon] at h
def De (w:World)(ob:Obj):FC:=λfl d=>(∃x:J2 w,d=x.world)/\∀b,fl=some b->w.heap.size<=b/\d.heap[b]? =some ob
theorem Nc (w:World)(ob:Obj):Vp ob (De w ob):=λd h=>by
 obtain⟨⟨x,rfl⟩,-⟩:=h;exact⟨⟨⟨_,Below.all x.below ob⟩,rfl⟩,λb g=>by cases g;exact⟨x.below.size,WP _ _⟩⟩
theorem LQ {w:World}{a:Obj}{e:Option Nat}{d w2:World}(h:De w a e d)(g:Ag d w2):De w a e w2:=by
 obtain⟨⟨x,rfl⟩,y⟩:=h;obtain⟨Q,rfl⟩:=g;refine⟨⟨⟨_,Wx x.below Q.below⟩,rfl⟩,λb g=>⟨(y b g).1,?_⟩⟩;have:=(y b g).2;exact(Q.below.block b (Ja this).1).trans this
def Ks (w:World)(a:FC):Prop:=∀b d,a b d->(∃x:J2 w,d=x.world)/\∀w2,Ag d w2->a b w2
theorem GI (w:World)(ob:Obj):Ks w (De w ob):=λfl d h=>⟨h.1,λw2 y=>LQ h y⟩
theorem LR {w:World}{b:FC}(j:Ks w b){e:Option Nat}{C:Oper}{v:Value}{a:Act}(h:Xc P ops w C v a):YieldsIn P ops (b e) C v a:=by
 have X:=h w (Jc _ _);rcases X with ⟨R,-⟩|⟨R,rfl⟩
 ·refine .inl ⟨R,λd n=>?_⟩;obtain⟨⟨x,rfl⟩,M⟩:=j e d n;rcases h x.world x.below with ⟨-,l⟩|⟨g,-⟩
  ·exact LP (l _ ⟨⟨_,Jc _ _⟩,rfl⟩) λw2 y=>M w2 y
  ·rw[R] at g;cases g
 ·exact .inr ⟨R,rfl⟩
theorem Ec {b am hd sq:List Nat}{f:Nat}{ob:Obj}{vf:Nat->Value}{w0:World}{I:FC}(af:Ks w0 I){G:Nat->World->Prop}{top:List Nat}{Q:Exit->Act->World->Prop}{late grp:Nat->Nat}{e:Act}{r:Nat}{fl:Option Nat}(S:Region.noSelect ops=true)
 (Y:A3 md ops am sq late)(ah:∀i∈b,i∈am)(ab:∀i∈b,i∈hd)(U:∀J∈hd,J∉sq)(ap:∀i∈b,late i<=top.getD (grp i) 0)
 (aj:∀i∈b,∀ae,ops[i]? =some ae->0<late i->Gw P ops (G (grp i)) ae e):
 ∀(z:List Nat) (l:List Oper) (j:Array Bool) (a:Act),z.map (λi=>ops[i]?)=l.map some->(∀i∈z,i∈b)->Q4 md ops sq 0 j->Be a.tmps.size l=true->ZW ops l=true->
 Bl md ops z j=true->(Q4 md ops sq 0 (Xr z j)->wpZ P md ops hd sq f ob vf G top Q r 0 I fl (Xr z j) e)->(∀g,Ji w0 g->wpQuiet P ops (Ag g) (λd=>d=e) l a)->wpZ P md ops hd sq f ob vf G top Q (z.length+r) 0 I fl j a
 |[],l,j,a,M,_,L,_,_,_,aa,h=>by
  cases l with
  |nil=>
   have h:a=e:=h w0 (Jc _ _);subst h;rw[Jau,WM];exact aa L
  |cons C l=>cases M
 |i::z,l,j,a,M,ag,L,b,ao,ai,aa,h=>by
  cases l with
  |nil=>cases M
  |cons C l=>
   simp only[Jap,JaD] at M;obtain⟨X,aw⟩:=M;simp only[Bl,YO] at ai;obtain⟨⟨ay,aN⟩,aO⟩:=ai;have t:=ag i (by simp);have ak:i∈Region.ready md ops j:=by simpa using ay
   have aH:=b;rw[Be,YO] at b;obtain⟨b,aL⟩:=b;rw[ZW,YO] at ao;obtain⟨aK,aG⟩:=ao
   have an:=Ay (YP S i C · · X) (C::l) a (λp T N au=>by
    have:=Y4.1 aK p T;rw[au] at this;intro av;simp only[JaW] at this;rw[JaT.2 av] at this;cases this) (h w0 (Jc _ _))
   have aP:=H2 (C::l) a aH h;obtain⟨v,aS,-⟩:=aP
   have aq:∀{n:World->Prop} {y:Value},wpQuiet P ops n (λd=>d=e) l (a.put C.dst y)->C.dst.isSome=true->∀N,C.dst=some N->e.tmps.getD N undef=y:=λ{n y} h _ N o=>by
    rw[o] at b;simp only[YO,YS,Y4] at b;have aC:∀p∈l,p.dst≠some N:=λp T aM=>by have:=b.2 p T;rw[aM] at this;simp at this
    have:e.tmps[N]? =some y:=by
     rw[AL l _ aC h,o];simp[Act.put,JaR,b.1]
    rw[JaX,this];rfl
   obtain⟨N,o⟩:∃N,C.dst=some N:=by
    cases ho':C.dst with
    |none=>rw[ho'] at b;cases b
    |some N=>exact⟨N,rfl⟩
   have ac:∀g,Ji w0 g->YieldsIn P ops (Ag g) C (e.tmps.getD N undef) a/\wpQuiet P ops (Ag g) (λd=>d=e) l (a.put C.dst (e.tmps.getD N undef)):=λg u=>by
    obtain⟨y,aE,al⟩:=XQ (h g u);have:=aq al (by rw[o];rfl) N o;rw[this];exact⟨aE,al⟩
   rw[show(i::z).length+r=(z.length+r)+1 by simp only[Yy];omega]
   refine Al (a0:=a) (v:=e.tmps.getD N undef) X (YP S) Y.once U (ab i t) (λk n=>k<=late i/\∀fl d,execOp d.eval C=execOp a.eval C->Region.wanted C (yielded ops d.tmps)=Region.wanted C (yielded ops a.tmps)->YieldsIn P ops (n fl) C (e.tmps.getD N undef) d)
    (λk n ad fl d A s=>ad.2 fl d A s) (λk n aQ aR J ad hinv aJ W aF ar=>?_) (z.length+r) 0 I fl j a ⟨WG _,λfl d A s=>(LR af (λg u=>(ac g u).1)).of_same A s⟩ L (YQ X aN) ak rfl rfl
    (Ec af S Y ah ab U ap aj z l _ _ aw (λJ W=>ag J (by simp[W])) (L.other ak (U i (ab i t))) (by rw[FN];exact aL) aG aO aa (λg u=>(ac g u).2))
   have az:k<late i:=by
    rcases Yh k (late i) with Z|Z
    ·exact Z
    ·exact absurd W (LH Y hinv _ i rfl (ah i t) aJ Z J (YD aF))
   obtain⟨ax,aI,aD,aB⟩:=aj i t C X O;obtain rfl:N=ax:=Yp (o.symm.trans aI);refine⟨az,λfl d A s=>?_⟩;refine(Gx aD (λw aA=>aB w ?_)).of_same (A.trans an.1.symm) (s.trans an.2.symm);exact ar fl (grp i) (by have:=ap i t;omega) w aA
def Qp (l:List Oper):List (Kd×Nat)->List (Kd×Oper)
 |[]=>[]
 |(kd,i)::r=>match l[i]? with
  |some o=>(kd,o)::Qp l r
  |none=>Qp l r
theorem AO {l:List Oper}:∀(a:List (Kd×Nat)),(a.all λp=>decide (p.2<l.length))=true->a.map (λp=>l[p.2]?)=(Qp l a).map (λp=>some p.2)/\a.map (·.1)=(Qp l a).map (·.1)
 |[],_=>⟨rfl,rfl⟩
 |(kd,i)::r,h=>by
  simp only[List.all_cons,YO,YS] at h;obtain⟨j,y⟩:=h;obtain⟨d,b⟩:=AO r y;have:l[i]? =some l[i]:=W2 j;simp only[Qp,this,Jap,d,b,and_self]
def XS:List (Kd×Nat)->List Nat
 |[]=>[]
 |(.q,i)::r=>i::XS r
 |_::r=>XS r
theorem Cj:∀(a:List (Kd×Nat)) (p:Kd×Nat),p∈a->p.1=.q->p.2∈XS a
 |(kd,i)::r,p,h,A=>by
  rcases YE.1 h with rfl|h
  ·simp only at A;subst A;simp[XS]
  ·have:=Cj r p h A;cases kd<;>simp only[XS]<;>first|exact this|exact Yg _ this
theorem Am:∀(a b:List (Kd×Nat)),QW (a++b)=QW a++QW b
 |[],b=>rfl
 |(kd,i)::a,b=>by cases kd<;>simp[QW,Am a b]
theorem Du:∀(a:List (Kd×Nat)),X6 a=(QW a).length
 |[]=>rfl
 |(kd,i)::a=>by cases kd<;>simp[QW,X6,Du a]
theorem GJ:∀(a:List (Kd×Nat)) (t:Nat),t∈QW a->∃p∈a,p.2=t
 |[],t,h=>by cases h
 |(kd,i)::r,t,h=>by
  have step:t∈QW r->∃p∈(kd,i)::r,p.2=t:=λh=>by
   obtain⟨p,b,e⟩:=GJ r t h;exact⟨p,Yg _ b,e⟩
  cases kd with
  |w=>
   rcases YE.1 h with rfl|h
   ·exact⟨_,Yf ..,rfl⟩
   ·exact step h
  |h=>exact step h
  |q=>exact step h
  |c=>exact step h
  |f=>exact step h
def flB (l:List Oper)(z:List Nat)(g:List (Nat×Nat×Nat))(top:List Nat)(j:List Oper)(a b:List (Kd×Nat))(f:Nat)(N:Tmp):Bool:=
 let late:=λi=>((g.lookup i).map (·.1)).getD 0
 let grp:=λi=>((g.lookup i).map (·.2)).getD 0
 let sq:=QW (a++b)
 let hd:=z++XS (a++b)
 let d:=Xr z (Array.replicate l.toArray.size false)
 let e:=(XG a d).setIfInBounds f true
 Region.noSelect l.toArray&&(Un .any l.toArray z sq late&&(z.all (λi=>decide (late i<=top.getD (grp i) 0))&&(Bl .any l.toArray z (Array.replicate l.toArray.size false)&&(ZW l.toArray j&&
  (hd.all (λi=>!sq.contains i)&&(!sq.contains f&&(a.all (λp=>decide (p.2≠f)&&decide (p.2<l.length))&&(b.all (λp=>decide (p.2<l.length))&&((Qp l a).all (λp=>!(p.2.looksAt l.toArray).contains N&&p.2.dst != some N)&&(GG .any l.toArray f a d&&(HI .any l.toArray b e&&
  (decide (Region.ready .any l.toArray (XG b e)=[])&&decide (z.length+a.length+1+b.length=l.length)))))))))))))
theorem QZ {id:Nat}{Q:Exit->Act->World->Prop}{a:Act}{w:World}{l:List Oper}(o:List Kd)(z:List (Nat×Nat×Nat))(G:Nat->World->Prop)(top:List Nat)(e g:List (Kd×Nat))(f:Nat)(ob:Obj){N:Tmp}{T:Oper}(aM:P.follows .mixedOrders=true)(aN:Nat.ble o.length l.length=true)
 (aT:l[f]? =some T)(aB:T.dst=some N)(aO:EL P l.toArray T ob)
 (ab:flB l (Qs o 0) z top (JW o l) e g f N=true)(hd:Be a.tmps.size (JW o l)=true)
 (h:∃B:Act,(∀V,Ji w V->wpQuiet P l.toArray (λd=>∃x:J2 V,d=x.world) (λy=>y=B) (JW o l) a)/\
   (∀p∈z,∀R,l[p.1]? =some R->Gw P l.toArray (G p.2.2) R B)/\
   BY P l.toArray G top true (λ_=>True) ob (λk s y=>∀b,BY P l.toArray G top false (λfl=>fl=some b) ob (λk s C=>∀d,s (some b) d->Q .normal C d) (Qp l g) k s (y.put (some N) (XK b))) (Qp l e) 0 (De w ob) B):(Code.region id l.toArray true).wp P Q a w:=by
 have a1:o.length<=l.length:=Jbd aN;obtain⟨B,ak,aP,aH⟩:=h;simp only[flB,YO,YS,Y4] at ab;obtain⟨L,ap,aS,aF,aE,an,ac,W,ae,aJ,aA,aR,aL,aZ⟩:=ab;have S:=D8 ap
 have X:∀J∈Qs o 0++XS (e++g),J∉QW (e++g):=λJ aq I=>by
  have:=an J aq;rw[JaT.2 I] at this;cases this
 have aQ:f∉QW (e++g):=λI=>by rw[JaT.2 I] at ac;cases ac
 have au:(Qs o 0).map (λi=>l.toArray[i]?)=(JW o l).map some:=by
  have:=ZX (l0:=l) o 0 O;exact Jek
 obtain⟨U,aw⟩:=AO (l:=l) e (Y4.2 λp n=>by simpa using(W p n).2);obtain⟨Y,ah⟩:=AO (l:=l) g (Y4.2 λp n=>by simpa using ae p n);have aV:e.length=(Qp l e).length:=by have:=congrArg List.length U;simpa using this
 have aU:g.length=(Qp l g).length:=by have:=congrArg List.length Y;simpa using this
 have aG:∀J t,(QW e)[J]? =some t->(QW (e++g))[0+J]? =some t:=λJ t h=>by
  rw[Am,WM,WX (W0.1 h).1];exact h
 have am:∀J t,(QW g)[J]? =some t->(QW (e++g))[0+X6 e+J]? =some t:=λJ t h=>by
  rw[Am,Du,WM,WZ O,show(QW e).length+J-(QW e).length=J from O];exact h
 have aI:Q4 .any l.toArray (QW (e++g)) 0 (Array.replicate l.toArray.size false):=
  ⟨by simp,λJ a0 _ aa=>(by rw[getD_replicate_false] at aa;cases aa),λag t _ ad=>by
    refine getD_in ?_ (getD_replicate_false _ _);obtain⟨p,n,rfl⟩:=GJ _ t (YD ad);rcases Ye.1 n with n|n
    ·simpa using(W p n).2
    ·simpa using ae p n,λag t aY ad=>O⟩
 have ax:=λhinv=>GH (P:=P) (md:=.any) (ops:=l.toArray) (hd:=Qs o 0++XS (e++g)) (sq:=QW (e++g)) (f:=f) (ob:=ob) (vf:=XK) (G:=G) (top:=top) (Q:=Q) (m:=(Qp l g).length+0)
  (E:=λk s y=>∀b,BY P l.toArray G top false (λfl=>fl=some b) ob (λk s C=>∀d,s (some b) d->Q .normal C d) (Qp l g) k s (y.put (some N) (XK b)))
  (EF:=λb k s y=>BY P l.toArray G top false (λfl=>fl=some b) ob (λk s C=>∀d,s (some b) d->Q .normal C d) (Qp l g) k s y)
  (by simpa using aT) aB aO.v aQ (YP L) S.once X (λb k s a h=>h b) (Qp l e) e 0 (De w ob) (Xr (Qs o 0) (Array.replicate l.toArray.size false)) B (by simpa using U) aw
  (λp n=>⟨λM=>Ye.2 (.inr (Cj _ p (Ye.2 (.inl n)) M)),(W p n).1⟩) aG hinv
  (λp n=>by
    have j:=aJ p n;simp only[JaW,bne_iff_ne,ne_eq] at j;have af:some p.2∈(Qp l e).map (λp=>some p.2):=Yq.2 ⟨p,n,rfl⟩;rw[<-U] at af;obtain⟨q,M,aC⟩:=Yq.1 af;refine⟨λcs b=>YP L q.2 p.2 cs b (by simpa using aC),λI=>?_,j.2⟩;have ai:=j.1;rw[JaT.2 I] at ai;cases ai) aA (Nc w ob)
  (λb ag ay y ar ao az=>by
    subst ao
    exact CQ (m:=0) (hd:=Qs o 0++XS (e++g)) (sq:=QW (e++g)) (Q:=Q) (F:=λfl=>fl=some b) (fl:=some b) rfl (YP L) S.once X (Qp l g) g _ ay _ y (by simpa using Y) ah
     (λp n M=>Ye.2 (.inr (Cj _ p (Ye.2 (.inr n)) M))) am az aR (λah aW aX al _ _=>⟨aL,al⟩) ar) aH
 have aj:=Ec (GI w _) (md:=.any) (hd:=Qs o 0++XS (e++g)) (f:=f) (ob:=ob) (vf:=XK) (w0:=w) (fl:=none) (r:=(Qp l e).length+((Qp l g).length+0+1)) (late:=λi=>((z.lookup i).map (·.1)).getD 0) (grp:=λi=>((z.lookup i).map (·.2)).getD 0) (Q:=Q) L S (λi A=>A)
  (λi A=>Ye.2 (.inl A)) X aS
  (λi A R aD Z=>by
    cases hlk:z.lookup i with
    |none=>rw[hlk] at Z;simp at Z
    |some m=>
     have av:=ZY z i m hlk;have:=aP (i,m) av R (by simpa using aD);simpa[hlk] using this)
  (Qs o 0) (JW o l) _ a au (λi A=>A) aI hd aE aF ax ak
 refine YT aM ?_;have:=X3 (Q':=Q) _ 0 _ none _ _ _ ⟨⟨⟨_,(Jc w.heap.size w).drew⟩,rfl⟩,λb aK=>by cases aK⟩ aj;exact Jd4
def scB (l:List Oper)(z:List Nat)(d:List (Nat×Nat×Nat))(top:List Nat)(e:List Oper)(a:List (Kd×Nat)):Bool:=
 let late:=λi=>((d.lookup i).map (·.1)).getD 0
 let grp:=λi=>((d.lookup i).map (·.2)).getD 0
 let sq:=QW a
 let hd:=z++XS a
 let b:=Xr z (Array.replicate l.toArray.size false)
 Region.noSelect l.toArray&&(Un .any l.toArray z sq late&&(z.all (λi=>decide (late i<=top.getD (grp i) 0))&&(Bl .any l.toArray z (Array.replicate l.toArray.size false)&&(ZW l.toArray e&&
  (hd.all (λi=>!sq.contains i)&&(a.all (λp=>decide (p.2<l.length))&&(HI .any l.toArray a b&&(decide (Region.ready .any l.toArray (XG a b)=[])&&decide (z.length+a.length=l.length)))))))))
theorem QN {id:Nat}{Q:Exit->Act->World->Prop}{a:Act}{w:World}{l:List Oper}(b:List Kd)(g:List (Nat×Nat×Nat))(G:Nat->World->Prop)(top:List Nat)(e:List (Kd×Nat))(aq:P.follows .mixedOrders=true)(ar:Nat.ble b.length l.length=true)
 (L:scB l (Qs b 0) g top (JW b l) e=true)(hd:Be a.tmps.size (JW b l)=true)
 (h:∃o:Act,(∀V,Ji w V->wpQuiet P l.toArray (λd=>∃x:J2 V,d=x.world) (λaj=>aj=o) (JW b l) a)/\
   (∀p∈g,∀s,l[p.1]? =some s->Gw P l.toArray (G p.2.2) s o)/\
   BY P l.toArray G top false (λfl=>fl=none) (.cells #[] 0) (λk y A=>∀d,y none d->Q .normal A d) (Qp l e) 0 (De w (.cells #[] 0)) o):(Code.region id l.toArray true).wp P Q a w:=by
 have aE:b.length<=l.length:=Jbd ar;obtain⟨o,U,au,al⟩:=h;simp only[scB,YO,YS,Y4] at L;obtain⟨B,Z,av,ak,ai,X,R,ag,ao,aA⟩:=L;have C:=D8 Z
 have S:∀J∈Qs b 0++XS e,J∉QW e:=λJ aa ad=>by
  have:=X J aa;rw[JaT.2 ad] at this;cases this
 have ab:(Qs b 0).map (λi=>l.toArray[i]?)=(JW b l).map some:=by
  have:=ZX (l0:=l) b 0 O;exact Jek
 obtain⟨N,ae⟩:=AO (l:=l) e (Y4.2 λp n=>by simpa using R p n);have aw:e.length=(Qp l e).length:=by have:=congrArg List.length N;simpa using this
 have am:Q4 .any l.toArray (QW e) 0 (Array.replicate l.toArray.size false):=
  ⟨by simp,λJ aB _ M=>(by rw[getD_replicate_false] at M;cases M),λap t _ z=>by
    refine getD_in ?_ (getD_replicate_false _ _);obtain⟨p,n,rfl⟩:=GJ _ t (YD z);simpa using R p n,λap t az z=>O⟩
 have af:=λhinv=>CQ (P:=P) (md:=.any) (ops:=l.toArray) (f:=l.length) (G:=G) (top:=top) (m:=0) (hd:=Qs b 0++XS e) (sq:=QW e) (Q:=Q) (F:=λfl=>fl=none) (fl:=none) (pend:=false) (ob:=.cells #[] 0) (vf:=XK) (E:=λk y A=>∀d,y none d->Q .normal A d) rfl (YP B) C.once S (Qp l e) e 0 (De w (.cells #[] 0)) (Xr (Qs b 0) (Array.replicate l.toArray.size false)) o (by simpa using N) ae
  (λp n Y=>Ye.2 (.inr (Cj _ p n Y))) (λJ t h=>by rw[WM];exact h) hinv ag (λaD ax ay W _ _=>⟨ao,W⟩) al
 have T:=Ec (GI w _) (md:=.any) (hd:=Qs b 0++XS e) (f:=l.length) (ob:=.cells #[] 0) (vf:=XK) (w0:=w) (fl:=none) (r:=(Qp l e).length+0) (late:=λi=>((g.lookup i).map (·.1)).getD 0) (grp:=λi=>((g.lookup i).map (·.2)).getD 0) (Q:=Q) B C (λi j=>j)
  (λi j=>Ye.2 (.inl j)) S av
  (λi j s ah I=>by
    cases hlk:g.lookup i with
    |none=>rw[hlk] at I;simp at I
    |some m=>
     have ac:=ZY g i m hlk;have:=au (i,m) ac s (by simpa using ah);simpa[hlk] using this)
  (Qs b 0) (JW b l) _ a ab (λi j=>j) am hd ai ak af U
 refine YT aq ?_;have:=X3 (Q':=Q) _ 0 _ none _ _ _ ⟨⟨⟨_,(Jc w.heap.size w).drew⟩,rfl⟩,λaC an=>by cases an⟩ T;rw[show(Qs b 0).length+((Qp l e).length+0)=l.toArray.size by simp only[JaK];omega] at this;exact this
end
end
section
open Go.RowKit
theorem Kt (a:Int)(k:Nat)(X:0<=a)(j:a<18446744073709551616)(A:k<=63):bits .and .u64 a ((2^k-1:Nat):Int)=a%((2^k:Nat):Int):=by
 have y:2^k<=2^63:=Nat.pow_le_pow_right O A;have Y:=Nat.two_pow_pos k;have:=u64_and_nat a.toNat (2^k-1) O O;rw[JaB,Int.toNat_of_nonneg X] at this;have e:((2^k:Nat):Int)=(((2^k-1:Nat):Int))+1:=O;rw[this,Int.natCast_emod,Int.toNat_of_nonneg X]
theorem ZE (k:Int)(w:World):Jf 93 #[k] w λe d=>e=.returned (.bool (Qe k))/\w=d:=by
 have b:Hid (Qe k=(k==0||k==43||k==44||k==60)):=H rfl;generalize Qe k=U at*;go_enter func93,ntmps93
 go_wp2_with fail
 all_goals
  go_ret;refine⟨?_,rfl⟩;rw[b.out];simp_all
theorem RP (k:Int)(w:World):Jf 192 #[k] w λe d=>e=.returned (.bool (Qe k))/\w=d:=by
 have a:Hid (Qe k=(k==0||k==43||k==44||k==60)):=H rfl;generalize Qe k=U at*;go_enter func192,ntmps192
 go_wp2_with fail
 all_goals
  go_ret;refine⟨?_,rfl⟩;rw[a.out];simp_all
def Tf (d:List Int):Value:=.tuple #[Jl (ZH d/8),Jq (ZH d/2%4),.bool (ZH d%2==1)]
theorem Ku {d:List Int}(h:JF d):0<=ZH d/\ZH d<65536:=by
 unfold ZH;split
 ·exact⟨YC 0,D⟩
 ·exact Xw h 0
theorem Kv (k:Int)(s:Option Addr)(o:Nat)(N:List Int)(w:World)(u:JA w s N.length o N)(B:N.length<=100000):
 Jf 151 #[.agg #[Jq k,.slice s N.length o]] w (Jz w (Tf N)):=by
 have a:=H u;have g:=Ku u.byte;have l:Hid (Jz w (Tf N)=Jz w (.tuple #[Jl (ZH N/8),Jq (ZH N/2%4),.bool (ZH N%2==1)])):=H rfl
 have d:Hid (∀V,JA V s N.length o N->∃err,Jf 81 #[.slice s N.length o,Jk 0,Jk 2] V (Jz V (.tuple #[Jo (ZH N),Jk err]))):=H (λV j=>by
  by_cases h:N.length<2
  ·refine⟨10,?_⟩;have:=Bits.get_short s N.length o 0 2 V O O O O O;unfold ZH;rw[YH h];exact this
  ·refine⟨0,?_⟩;have:=Bits.get_ok s N.length o N 0 2 V j O O O O;unfold ZH;rw[Yw h,<-Qw N 0 O];exact this)
 clear u;generalize ZH N=G at*;have p:=Kt (G/2) 2 O O O;have b:=Kt G 1 O O O;rw[show(((2^2-1:Nat)):Int)=3 from rfl,show(((2^2:Nat)):Int)=4 from rfl] at p;rw[show(((2^1-1:Nat)):Int)=1 from rfl,show(((2^1:Nat)):Int)=2 from rfl] at b;rw[l.out];generalize N.length=n at*;go_enter func151,ntmps151
 go_wp2_with fail
 obtain⟨err,e⟩:=d.out _ (a.alloc _);refine Wy e ?_;intro x;go_wp2_with fail
 go_ret3
 exact .mk rfl x.below
theorem O5 (a b:Nat):decide ((a:Int)<=(b:Int))=decide (a<=b):=by rw[Bool.eq_iff_iff];simp
theorem H9 (k:Int)(s:Option Addr)(o:Nat)(N:List Int)(w:World)(u:JA w s N.length o N)(B:N.length<=100000):
 Jf 91 #[.agg #[Jq k,.slice s N.length o]] w (Jz w (.bool (Xa k N))):=by
 have C:=H u;have g:=Ku u.byte;have p:Hid (Xa k N=if k=44 then decide (N.length=6)&&decide (ZH N/2%4=0) else Qe k&&(decide (N.length%8=6)&&decide (N.length<=2046))):=H rfl;have A:Hid (∀V,JA V s N.length o N->Jf 151 #[.agg #[Jq k,.slice s N.length o]] V (Jz V (.tuple #[Jl (ZH N/8),Jq (ZH N/2%4),.bool (ZH N%2==1)]))):=H (λV j=>Kv k s o N V j B);clear u;generalize ZH N=G at*;generalize Xa k N=y at*;generalize N.length=n at*;by_cases b:k=44
 ·have a:Hid (y=(decide (n=6)&&decide (G/2%4=0))):=H (by rw[p.out,YH b]);obtain rfl:=b;clear p;go_enter func91,ntmps91
  go_wp2_with fail
  refine Wy (A _ (C.alloc _)) ?_;intro x;by_cases v:n=6
  ·subst v;go_wp2_with fail
   go_ret;refine .mk (J6 ?_) x.below;rw[a.out];rfl
  ·have J:((n:Int)==6)=false:=by simp;omega
   go_wp2_with fail
   go_ret;refine .mk (J6 ?_) x.below;rw[a.out,YA v];rfl
 ·have a:Hid (y=(Qe k&&(decide (n%8=6)&&decide (n<=2046)))):=H (by rw[p.out,Yw b]);have I:(k != 44)=true:=by simpa using b
  clear p A b;generalize z:Qe k=U at*;have r:=H z;clear z;cases U
  ·go_enter func91,ntmps91
   go_wp2_with (go_at_call 93;refine(ZE _ _).mono ?_;rintro e d ⟨rfl,rfl⟩;rw[r.out])
   go_ret;refine .mk (J6 ?_) (Below.all (Jc _ _) _);rw[a.out];rfl
  ·have l:Int.tmod (n:Int) 8=((n%8:Nat):Int):=by rw[Jax O];omega
   by_cases t:n%8=6
   ·have F:((n:Int)%8==6)=true:=by simp;omega
    have E:(Int.tmod (n:Int) 8==6)=true:=by rw[l,t];rfl
    clear l;go_enter func91,ntmps91
    go_wp2_with (go_at_call 93;refine(ZE _ _).mono ?_;rintro e d ⟨rfl,rfl⟩;rw[r.out])
    go_ret;refine .mk (J6 ?_) (Below.all (Jc _ _) _);rw[a.out,Yz t,<-O5];rfl
   ·have F:((n:Int)%8==6)=false:=by simp;omega
    have E:(Int.tmod (n:Int) 8==6)=false:=by rw[l];simp;omega
    clear l;go_enter func91,ntmps91
    go_wp2_with (go_at_call 93;refine(ZE _ _).mono ?_;rintro e d ⟨rfl,rfl⟩;rw[r.out])
    go_ret;refine .mk (J6 ?_) (Below.all (Jc _ _) _);rw[a.out,YA t];rfl
theorem EU (k:Int)(s:Option Addr)(o:Nat)(N:List Int)(w:World)(u:JA w s N.length o N)(B:N.length<=100000):
 Jf 92 #[.agg #[Jq k,.slice s N.length o]] w (Jz w (.bool (At k N))):=by
 have l:=H u;have g:=Ku u.byte;have d:Hid (At k N=(decide (k=44)&&decide (0<ZH N/8))):=H rfl;have t:Hid (∀V,JA V s N.length o N->Jf 151 #[.agg #[Jq k,.slice s N.length o]] V (Jz V (.tuple #[Jl (ZH N/8),Jq (ZH N/2%4),.bool (ZH N%2==1)]))):=H (λV j=>Kv k s o N V j B);clear u;generalize ZH N=G at*;generalize At k N=p at*;generalize N.length=n at*;by_cases b:k=44
 ·have e:Hid (p=decide (0<G/8)):=H (by rw[d.out,Yz b];rfl);obtain rfl:=b;clear d;go_enter func92,ntmps92
  go_wp2_with fail
  refine Calls.later (t _ (l.alloc _)) ?_;intro x;go_wp2_with fail
  go_ret;refine .mk (J6 ?_) (Ww (Below.all (Jc _ _) _));rw[e.out]
 ·have e:Hid (p=false):=H (by rw[d.out,YA b];rfl);have v:(k==44)=false:=by simpa using b
  clear d b;go_enter func92,ntmps92
  go_wp2_with fail
  refine Calls.later (t _ (l.alloc _)) ?_;intro x;go_wp2_with fail
  go_ret;refine .mk (J6 e.symm) (Ww (Below.all (Jc _ _) _))
end
section
open Go.RowKit Bits
theorem XD (n:Nat){P:Program}{g:Array Oper}{d:Exit->Act->World->Prop}{l:Op}{j:TypeId}{b:String}{e:Array Edge}{r:Option (Nat×Bool)}{rest:List Oper}{a:Act}{w:World}
 (h:JJ (wpList P g d (⟨some n,l,j,b,e,r⟩::rest) a w)):wpList P g d (⟨some n,l,j,b,e,r⟩::rest) a w:=h.of
theorem Zd (a b:List Int):strOfNums a++strOfNums b=strOfNums (a++b):=by
 apply ByteArray.ext;rw[ByteArray.data_append];simp[strOfNums]
theorem Oh (l:List Int)(g:∀v∈l,Jm v)(J:Nat)(h:J<l.length):(((strOfNums l).data.toList.getD J 0).toNat:Int)=l.getD J 0:=by
 have a:=g l[J] (Yj h);rw[strOfNums_data,Yi,Yk,W2 h,Yi,W2 h];simp only[Option.map_some,Option.getD_some];rw[UInt8.toNat_ofNat',Yv O];omega
section
variable {P:Program}
theorem Nd (a j e:TypeId)(w:World)(z:P.underlying a=some .string)(L:P.underlying j=some (.slice e))(p:P.underlying e=some (.int .u8))(l:List Int)(M:∀v∈l,Jm v)(B:l.length<=1000000):
 ∃o d,(convert a j (.string (strOfNums l))).run P w=.ok (.slice (some ⟨w.heap.size,0,none⟩) l.length o) d/\Ji w d/\JA d (some ⟨w.heap.size,0,none⟩) l.length o l:=by
 have h:=Lib.run_convert_string_bytes w a j e (strOfNums l) z L p;rw[Jbe] at h;refine⟨_,_,h,?_,?_⟩
 ·exact⟨rfl,rfl,rfl,by rw[Lib.bytesWorld_size];omega,λb g=>Lib.bytesWorld_at_old w e _ b g⟩
 ·refine⟨rfl,?_,?_,M,.inr ⟨_,0,rfl,by rw[Lib.bytesWorld_size];omega,λJ n=>?_⟩⟩
  ·exact grownCap_ge _ _ _ _
  ·exact grownCap_le_maxLen _ _ _ _ (by unfold maxLen;omega)
  ·rw[WM,Lib.bytesWorld_cell _ _ _ _ (by rw[Jbe];exact n),Oh l M J n]
theorem Qi (w:World){j:Array Oper}{rest:List Oper}{C:Oper}{a:Act}{p:Exit->Act->World->Prop}
 (A:C.guard=none)(g b:TypeId)(x:Operand)(E:C.op=Op.convert g b x)(e:TypeId)(z:P.underlying g=some .string)(L:P.underlying b=some (.slice e))(F:P.underlying e=some (.int .u8))
 (l:List Int)(r:a.eval x=.string (strOfNums l))(M:∀v∈l,Jm v)(B:l.length<=1000000)
 (h:∀o d,Ji w d->JA d (some ⟨w.heap.size,0,none⟩) l.length o l->wpList P j p rest (a.put C.dst (.slice (some ⟨w.heap.size,0,none⟩) l.length o)) d):
 wpList P j p (C::rest) a w:=by
 refine wpList_plain A λG u=>?_
 obtain⟨o,d,t,y,Y⟩:=Nd (P:=P) g b e w z L F l M B;unfold Oper.wp;simp[execOp,E,r,t,Result.andThen];exact u _ _ (h o d y Y)
end
end
section
open Go.RowKit Bits
theorem Jdw{p:Prop}(h:p:=by
 clear a;go_enter func102,ntmps102
 go_wp2_with fail
 go_ret;exact .mk (J6 b.symm) (Below.all (Jc _ _) _)):p:=h
theorem Oi (b:Bool)(v:Int)(w:World):Jf 157 #[b,Jo v] w (Jz w (Jo (if b then v else 0))):=by
 cases b
 ·go_enter func157,ntmps157
  exact JdV
 ·go_enter func157,ntmps157
  exact JdV
def Tg (h:IpH):Array Value:=(JbR (Jq h.tos) (Jl h.total) (Jl h.id) (.bool h.df) (.bool h.mf) (Jl h.frag) (Jq h.ttl) (Jq h.proto) (.string (strOfNums h.src)) (.string (strOfNums h.dst)) (.string (strOfNums h.opt)))
theorem LS (h:IpH)(w:World)(B:h.opt.length<=100000)(s:Jn h.total):Jf 102 #[.agg (Tg h)] w (Jz w (.bool (QF h))):=by
 have a:Hid (QF h=(decide (h.frag<=8191)&&(decide (h.opt.length%4=0)&&(decide (h.opt.length<=40)&&decide (20+(h.opt.length:Int)<=h.total))))):=H rfl;have u:(strOfNums h.opt).size=h.opt.length:=Jbe _;generalize QF h=d at*;unfold Tg;generalize strOfNums h.opt=Z at*;generalize strOfNums h.src=r at*;generalize strOfNums h.dst=t at*;generalize h.opt.length=n at*;generalize h.frag=e at*;generalize h.total=p at*;by_cases j:e<=8191
 ·have g:decide (e<8192)=true:=by simp;omega
  by_cases y:n%4=0
  ·have W:(Int.tmod (n:Int) 4==0)=true:=by rw[Jax O];simp;omega
   have l:((n:Int)%4==0)=true:=by simp;omega
   by_cases Y:n<=40
   ·have o:decide ((n:Int)<=40)=true:=by simp;omega
    have b:Hid (d=decide (20+(n:Int)<=p)):=H (by rw[a.out,Yz j,Yz y,Yz Y];rfl);clear a;go_enter func102,ntmps102
    go_wp2_with fail
    go_ret;refine .mk (J6 ?_) (Below.all (Jc _ _) _);rw[b.out]
   ·have o:decide ((n:Int)<=40)=false:=by simp;omega
    have b:Hid (d=false):=H (by rw[a.out,Yz j,Yz y,YA Y];rfl);exact Jdw
  ·have W:(Int.tmod (n:Int) 4==0)=false:=by rw[Jax O];simp;omega
   have l:((n:Int)%4==0)=false:=by simp;omega
   have b:Hid (d=false):=H (by rw[a.out,Yz j,YA y];rfl);exact Jdw
 ·have g:decide (e<8192)=false:=by simp;omega
  have b:Hid (d=false):=H (by rw[a.out,YA j];rfl);exact Jdw
structure ZN (w:World)(b0:Nat)(ob:Obj)(y:World)(oa:Option Addr)(n cap:Nat)(L:List Int):Prop where
 own:J8 y (b0+1) 1 oa n cap (L.map (.int .u8))
 box:y.heap[b0]? =some ob
 byte:JF L
 out:Ji w y
 lo:w.heap.size<=b0
theorem ZN.lt {w:World}{b:Nat}{d:Obj}{Q:World}{g:Option Addr}{n o:Nat}{e:List Int}(h:ZN w b d Q g n o e):b<Q.heap.size:=(Ja h.box).1
theorem ZN.below {w:World}{d:Nat}{j:Obj}{Q y:World}{e:Option Addr}{n o:Nat}{t:List Int}(h:ZN w d j Q e n o t)(b:Ji Q y):ZN w d j y e n o t:=
 ⟨h.own.below b,(b.block _ h.lt).trans h.box,h.byte,Wx h.out b,h.lo⟩
theorem ZN.reads {w:World}{e:Nat}{g:Obj}{Q:World}{d:Option Addr}{n o:Nat}{b:List Int}(h:ZN w e g Q d n o b):JA Q d n o b:=h.own.reads h.byte
theorem ZN.len {w:World}{d:Nat}{e:Obj}{Q:World}{s:Option Addr}{n o:Nat}{b:List Int}(h:ZN w d e Q s n o b):b.length=n:=h.reads.len
theorem ZN.anew {w:World}{e:Nat}{p:Obj}{Q b:World}{s j:Option Addr}{n d o l:Nat}{t a:List Int}(h:ZN w e p Q s n o t)(g:Ji Q b)(r:J8 b Q.heap.size 1 j d l (a.map (.int .u8)))(M:JF a):ZN w e p b j d l a:=
 ⟨r.mono h.lt,(g.block _ h.lt).trans h.box,M,Wx h.out g,h.lo⟩
theorem ZN.start {w y g:World}{u:Obj}{a:Nat}(hy:y.heap[a]? =some u)(R:Ji w y)(A:w.heap.size<=a){r:Option Addr}{n o:Nat}{d:List Int}(hb:Ji y g)(B:J8 g y.heap.size 1 r n o (d.map (.int .u8)))(M:JF d):ZN w a u g r n o d:=
 have j:a<y.heap.size:=(Ja hy).1
 ⟨B.mono j,(hb.block _ j).trans hy,M,Wx R hb,A⟩
theorem ZN.app {w:World}{a:Nat}{r:Obj}{Q b:World}{s j:Option Addr}{n e o p:Nat}{d l:List Int}(h:ZN w a r Q s n o d)(u:J8 b (a+1) 1 j e p (d.map (.int .u8)++l.map (.int .u8)))(t:Q.grownBy b (s.map Addr.block))(M:JF l):ZN w a r b j e p (d++l):=by
 have g:Below (a+1) Q b:=Wv (Jc _ _) h.own (Je _) t h.lt;exact⟨by rw[Jaj];exact u,(g.block _ (Jam _)).trans h.box,Jx h.byte M,h.out.trans (g.mono (Nat.le_succ_of_le h.lo)),h.lo⟩
theorem Ut (v:Int)(h:Jm v):Bn v 1=[v]:=by
 simp[Bn];omega
theorem Dv (v:Int):Bn v 2=be2 v:=by simp[Bn,be2]
theorem Jc6{p:Prop}(h:p:=by
 go_wp2_with fail
 exact Z2 w.heap.size s D rfl rfl rfl t p):p:=h
theorem Z1 {w:World}{b n:Nat}{S a:Array Value}{t:TypeId}{d:Nat×Nat}(h:w.heap[b]? =some (.cells S t d))(z:a.size=n:=by rfl):Jv (w.setRow b a) b 0 n=a:=by
 rw[JG _ _ _ _ _ _ _ (Jaf _ _ _ _ _ _ h)];subst z;simp
def FR:Array Value:=#[(),Jbl,Jbl,false,false,Jbl,(),(),Jbn,Jbn,Jbn]
def Th (err:Int):Value:=.tuple #[.agg FR,Jk 0,Jk err]
def SC (l:List Int):Array Value:=#[Jq (l.getD 1 0),Jl (w2 l 2),Jl (w2 l 4),.bool (w2 l 6/16384%2==1),.bool (w2 l 6/8192%2==1),Jl (w2 l 6%8192),Jq (l.getD 8 0),Jq (l.getD 9 0),
 .string (strOfNums ((l.drop 12).take 4)),.string (strOfNums ((l.drop 16).take 4)),.string (strOfNums ((l.drop 20).take (ipHl l-20)))]
def SD (l:List Int):Value:=if QJ l=0 then .tuple #[.agg (SC l),Jk (ipHl l:Int),Jk 0] else Th (QJ l)
theorem Z2 {w d:World}{l:List Int}{err:Int}{a:Array Value}(b:Nat)(e:QJ l=err)(X:err≠0)(E:a.getD 2 undef=.pointer (some ⟨b,0,none⟩))(Y:a.getD 3 undef=.int .i64 0)(j:a.getD 4 undef=.int .i64 err)(I:Jv d b 0 11=FR)(g:Ji w d):
 bodyPost prog f83 (Jz w (SD l)) .ret { tmps:=a,defers:=[] } d:=
 Jag (v:=Th err) (XR rfl _ _ b 11 _ _ _ underlying106 rfl Lw E Y j FR I rfl) rfl (.mk (by unfold SD;rw[Yw (by rw[e];exact X),e]) g)
theorem O6 {w d:World}{l:List Int}{e:Int}{a:Array Value}(b:Nat)(n:QJ l=0)(E:a.getD 2 undef=.pointer (some ⟨b,0,none⟩))(Y:a.getD 3 undef=.int .i64 e)(B:e=ipHl l)(j:a.getD 4 undef=.int .i64 0)(I:Jv d b 0 11=SC l)(g:Ji w d):
 bodyPost prog f83 (Jz w (SD l)) .ret { tmps:=a,defers:=[] } d:=
 Jag (v:=.tuple #[.agg (SC l),Jk e,Jk 0]) (XR rfl _ _ b 11 _ _ _ underlying106 rfl Lw E Y j (SC l) I rfl) rfl (.mk (by unfold SD;rw[YH n,B]) g)
structure Oj (w y:World):Prop where
 a:Jh y w.heap.size FR 106
 b:Jh y (w.heap.size+1) FR 106
 out:Ji w y
theorem Oj.below {w Q d:World}(h:Oj w Q)(b:Ji Q d):Oj w d:=
 ⟨(b.block _ (Ja h.a).1).trans h.a,(b.block _ (Ja h.b).1).trans h.b,Wx h.out b⟩
theorem Oj.part {w y:World}(h:Oj w y):Jv y (w.heap.size+1) 0 11=FR:=by rw[JG _ _ _ _ _ _ _ h.b];rfl
theorem Oj.rf {w y:World}(h:Oj w y):JE y w.heap.size 11=true:=by rw[Jw _ _ _ _ _ h.a];rfl
theorem Oj.no {w y:World}(h:Oj w y):Jv (y.setRow w.heap.size FR) w.heap.size 0 11=FR:=Z1 h.a
theorem Oj.part0 {w y:World}(h:Oj w y):Jv y w.heap.size 0 11=FR:=by rw[JG _ _ _ _ _ _ _ h.a];rfl
theorem Oj.start (w:World):Oj w ((w.alloc (.cells FR 106)).alloc (.cells FR 106)):=
 ⟨(YU _ _ (by simp)).trans (WP w _),by have:=WP (w.alloc (.cells FR 106)) (.cells FR 106);simpa using this,Below.all (Below.all (Jc _ _) _) _⟩
theorem Fh (aB:Option Addr)(n o:Nat)(l:List Int)(w:World)(C:JA w aB n o l)(a8:n<=100000):
 Jf 83 #[.slice aB n o] w (Jz w (SD l)):=by
 have aq:=C.len;have aP:=H C;have z:=H (Oj.start w);by_cases aQ:n<20
 ·have aI:((n:Int)<20):=O;have s:Hid (QJ l=10):=H (by unfold QJ;rw[aq,YH aQ]);have B:=z.part;have E:=z.rf;have t:=H z.part0;have p:=H z.out.out;unfold FR at B E t p;clear C z;go_enter func83,ntmps83
  exact Jc6
 have aI:¬((n:Int)<20):=O;obtain⟨r,e,rfl,be,ao⟩:=C.here O;have aw:=ao 0 O;rw[Jal] at aw;have a3:=C.getD 0;obtain⟨b,T⟩:∃x:Nat,l.getD 0 0=x:=⟨(l.getD 0 0).toNat,O⟩
 rw[T] at aw a3;have bi:b<256:=O;have X:Hid (ipHl l=b%16*4):=H (by unfold ipHl;rw[T];omega)
 have I:Hid (QJ l=if b/16≠4 then 50 else if b%16*4<20 then 51 else if n<b%16*4 then 10 else if 32768<=w2 l 6\/w2 l 2<((b%16*4:Nat):Int) then 51 else if XW (l.take (b%16*4))=false then 52 else 0):=H (by
  unfold QJ;rw[X.out,T,aq,Yw (show¬n<20 from O)];by_cases h:b/16=4
  ·rw[Yw (show¬(b:Int)/16≠4 from O),Yw (show¬b/16≠4 from O)]
  ·rw[YH (show(b:Int)/16≠4 from O),YH h])
 have U:Hid (∀(i:Nat) (V:World),i+2<=n->JA V (some ⟨r,e,none⟩) n o l->Jf 88 #[.slice (some ⟨r,e,none⟩) n o,Jk i,Jk 2] V (Jz V (.tuple #[Jo (w2 l i),Jk 0]))):=H (λi V aY j=>by
  have:=Bo (some ⟨r,e,none⟩) n o l i 2 V j D D aY O;rwa [Qw l i O] at this)
 have a1:=Xw C.byte 2;have aG:=Xw C.byte 4;have a5:=Xw C.byte 6;obtain⟨G,aa⟩:∃v,w2 l 2=v:=⟨_,rfl⟩
 obtain⟨ai,ag⟩:∃v,w2 l 4=v:=⟨_,rfl⟩
 obtain⟨y,ah⟩:∃v,w2 l 6=v:=⟨_,rfl⟩
 have av:=H aa;have ay:=H ag;have az:=H ah;rw[aa] at a1 I;rw[ag] at aG;rw[ah] at a5 I;clear C ao T aa ag ah;have B:=z.part;have E:=z.rf;have t:=H z.part0;have p:=H z.out.out;unfold FR at B E t p;have aD:Int.tdiv (b:Int) 16=((b/16:Nat):Int):=by rw[Jaw O];omega
 have aR:Int.tmod (b:Int) 16=((b%16:Nat):Int):=by rw[Jax O];omega
 go_enter func83,ntmps83
 by_cases aX:b/16=4
 rotate_left
 ·have ab:(((b:Int)/16) != 4)=true:=by simp;omega
  have s:Hid (QJ l=50):=H (by rw[I.out,YH aX]);clear I aD aR;exact Jc6
 have ab:(((b:Int)/16) != 4)=false:=by simp;omega
 have N:Hid (QJ l=if b%16*4<20 then 51 else if n<b%16*4 then 10 else if 32768<=y\/G<((b%16*4:Nat):Int) then 51 else if XW (l.take (b%16*4))=false then 52 else 0):=H (by rw[I.out,Yw O]);clear I;obtain⟨k,A⟩:∃k:Nat,b%16*4=k:=⟨_,rfl⟩
 rw[A] at N X;have bn:(b:Int)%16*4=k:=O;by_cases am:k<20
 ·have aO:decide ((k:Int)<20)=true:=by simp;omega
  have s:Hid (QJ l=51):=H (by rw[N.out,YH am]);clear N A;exact Jc6
 have Y:Hid (QJ l=if n<k then 10 else if 32768<=y\/G<(k:Int) then 51 else if XW (l.take k)=false then 52 else 0):=H (by rw[N.out,Yw am]);clear N;have aO:decide ((k:Int)<20)=false:=by simp;omega
 by_cases ac:n<k
 ·have s:Hid (QJ l=10):=H (by rw[Y.out,YH ac]);clear Y A;exact Jc6
 have S:Hid (QJ l=if 32768<=y\/G<(k:Int) then 51 else if XW (l.take k)=false then 52 else 0):=H (by rw[Y.out,Yw ac]);have aK:k<=n:=O;clear Y A ac;go_wp2_with fail
 have af:=H (z.out);unfold FR at af;have Q:=H (aP.below (Below.all (Below.all (Jc _ _) (.cells FR 106)) (.cells FR 106)));unfold FR at Q;clear B E t p z;generalize ((w.alloc (Obj.cells (Jcm false false (.string { data:=#[] }) (.string { data:=#[] }) (.string { data:=#[] })) 106)).alloc (Obj.cells (Jcm false false (.string { data:=#[] }) (.string { data:=#[] }) (.string { data:=#[] })) 106))=bp at*;refine Jb (U 2 _ O Q) ?_;rintro aj bl ⟨rfl,g⟩;have aA:=H (af.below g);have ae:=H (Q.below g);rw[av.out];clear g af Q;go_wp2_with fail
 refine Jb (U 4 _ O ae) ?_;rintro aj bg ⟨rfl,g⟩;have ak:=H (aA.below g);have ad:=H (ae.below g);rw[ay.out];clear g aA ae;go_wp2_with fail
 refine Jb (U 6 _ O ad) ?_;rintro aj aC ⟨rfl,g⟩;have L:=H (ak.below g);have W:=H (ad.below g);rw[az.out];clear g ak ad U;have B:=L.part;have E:=L.rf;have t:=H L.no;have p:=H (below_setRow L.out.out (Je _) FR);unfold FR at B E t p;by_cases ar:32768<=y
 ·have s:Hid (QJ l=51):=H (by rw[S.out,YH (.inl ar)]);have bm:decide (32768<=y)=true:=Yz ar;exact Jc6
 by_cases aS:G<(k:Int)
 ·have s:Hid (QJ l=51):=H (by rw[S.out,YH (.inr aS)]);exact Jc6
 have Z:Hid (QJ l=if XW (l.take k)=false then 52 else 0):=H (by rw[S.out,Yw O]);clear S;have hcut:=λw=>B5 (P:=prog) 22 (some ⟨r,e,none⟩) n o 1 elemBytes sizeBytes k (k:Int) rfl (by have:=W.le;omega) w
 have au:=H (O1 (some ⟨r,e,none⟩) k o (l.take k) aC (W.take k aK) O);go_wp2_with fail
 refine Jb au ?_;rintro aj M ⟨rfl,g⟩;have F:=H (L.below g);have J:=H (W.below g);clear g L W B E t p au;cases hwh:XW (l.take k)
 ·have s:Hid (QJ l=52):=H (by rw[Z.out,YH hwh]);have B:=F.part;have E:=F.rf;have t:=H F.no;have p:=H (below_setRow F.out.out (Je _) FR);unfold FR at B E t p;clear hwh;exact Jc6
 have s:Hid (QJ l=0):=H (by rw[Z.out,Yw (by rw[hwh];decide)]);clear Z hwh hcut;go_wp2_with fail
 have a6:=J.le;have a0:=λw=>QB (P:=prog) 22 (some ⟨r,e,none⟩) n o 1 elemBytes sizeBytes 12 16 12 16 rfl rfl O O w
 have aZ:=λw=>QB (P:=prog) 22 (some ⟨r,e,none⟩) n o 1 elemBytes sizeBytes 16 20 16 20 rfl rfl O O w
 have a2:=λw=>QB (P:=prog) 22 (some ⟨r,e,none⟩) n o 1 elemBytes sizeBytes 20 k 20 (k:Int) rfl rfl O O w
 have aV:Hid (∀V,JA V (some ⟨r,e,none⟩) n o l->(convert 22 9 (.slice (JQ (some ⟨r,e,none⟩) 12 o 1) (16-12) (o-12))).run prog V=.ok (.string (strOfNums ((l.drop 12).take 4))) V):=H (λV j=>Qm 22 5 underlying22 underlying5 ((j.cut 12 O).take 4 O) 9 underlying9);have aW:Hid (∀V,JA V (some ⟨r,e,none⟩) n o l->(convert 22 9 (.slice (JQ (some ⟨r,e,none⟩) 16 o 1) (20-16) (o-16))).run prog V=.ok (.string (strOfNums ((l.drop 16).take 4))) V):=H (λV j=>Qm 22 5 underlying22 underlying5 ((j.cut 16 O).take 4 O) 9 underlying9);have aM:Hid (∀V,JA V (some ⟨r,e,none⟩) n o l->(convert 22 9 (.slice (JQ (some ⟨r,e,none⟩) 20 o 1) (k-20) (o-20))).run prog V=.ok (.string (strOfNums ((l.drop 20).take (k-20)))) V):=H (λV j=>Qm 22 5 underlying22 underlying5 ((j.cut 20 O).take (k-20) O) 9 underlying9)
 have a7:Hid (QJ l=0->SC l=#[.int .u8 (l.getD 1 0),.int .u16 G,.int .u16 ai,.bool (y/16384%2==1),.bool (y/8192%2==1),.int .u16 (y%8192),.int .u8 (l.getD 8 0),.int .u8 (l.getD 9 0),
  .string (strOfNums ((l.drop 12).take 4)),.string (strOfNums ((l.drop 16).take 4)),.string (strOfNums ((l.drop 20).take (k-20)))]):=H (λ_=>by
  unfold SC;rw[av.out,ay.out,az.out,X.out])
 generalize JQ (some ⟨r,e,none⟩) 12 o 1=bh at*;generalize JQ (some ⟨r,e,none⟩) 16 o 1=bd at*;generalize JQ (some ⟨r,e,none⟩) 20 o 1=bf at*;generalize strOfNums ((l.drop 12).take 4)=an at*;generalize strOfNums ((l.drop 16).take 4)=ax at*;generalize strOfNums ((l.drop 20).take (k-20))=ap at*;clear a6;refine Kg 36 [(35,1)] (VD M λ_ d=>∃x:J2 M,d=x.world.setRow w.heap.size (JbR (Jq (l.getD 1 0)) (Jl G) (Jl ai) (.bool (y/16384%2==1)) (.bool (y/8192%2==1)) (Jl (y%8192)) (Jq (l.getD 8 0)) (Jq (l.getD 9 0)) (.string an) (.string ax) (.string ap))) K K K rfl ?_;obtain⟨bk,ba,a4,a9,R⟩:=J.here O;cases a4;have aT:=R 1 O;have aN:=R 8 O;have aL:=R 9 O;have aJ:=λx:J2 M=>aV.out x.world (J.later x)
 have ab:=λx:J2 M=>aW.out x.world (J.later x)
 have aH:=λx:J2 M=>aM.out x.world (J.later x)
 clear R;simp only[Y6,Y7];repeat go_big_quiet_step (fail)
 refine Jaa ?_;simp only[Y8,Y9];clear a0 aZ a2 aJ ab aH aT aN aL;refine⟨?_,?_⟩
 ·intro bq aF bb bo aU aE bj _ _;obtain rfl:=YI.1 aF;cases aU;cases aE;exact Ah rfl (λw2 _=>K)
 refine LB (λd=>d.setRow w.heap.size (JbR (Jq (l.getD 1 0)) (Jl G) (Jl ai) (.bool (y/16384%2==1)) (.bool (y/8192%2==1)) (Jl (y%8192)) (Jq (l.getD 8 0)) (Jq (l.getD 9 0)) (.string an) (.string ax) (.string ap))) rfl ?_ ?_ ?_
 ·rintro d ⟨x,rfl⟩;exact(Cd _ _ _ _ _ _ _ _ _).trans (C7 x.world w.heap.size _ (F.below x.below).rf rfl rfl)
 ·rintro d ⟨x,rfl⟩;exact⟨x,rfl⟩
 refine D7 (Jk (k:Int)) rfl (λd _=>K) (λd h=>h) ?_;refine D7 (Jk 0) rfl (λd _=>K) (λd h=>h) ?_;refine⟨rfl,?_⟩;rintro d ⟨x,rfl⟩;have al:=H (F.below x.below);clear F J;generalize x.world=bc at*;go_wp2_with fail
 refine O6 w.heap.size s rfl rfl ?_ rfl ?_ (below_setRow al.out.out (Je _) _)
 ·rw[X.out]
 ·rw[a7.out s.out];exact Z1 al.a
end
end Go.Proofs.YtkgjbipfhhjlpaaGreatDoor
