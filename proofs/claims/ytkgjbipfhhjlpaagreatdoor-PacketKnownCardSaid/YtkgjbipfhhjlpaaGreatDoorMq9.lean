import Derived.Test.YtkgjbipfhhjlpaaGreatDoorMq8
set_option linter.unusedVariables false
set_option linter.unusedSimpArgs false
set_option maxRecDepth 100000
set_option maxHeartbeats 32000000
namespace Go.Proofs.YtkgjbipfhhjlpaaGreatDoor
open Go.Proofs.Tryz
section
open Go.RowKit
theorem JdN{p:Prop}(h:p:=by
 rcases YE.1 h with rfl|h
 ·exact⟨Je _,by simp,by simp[HF]⟩
 ·exact step h):p:=h
theorem Jd7{p:Prop}(h:p:=by
 rcases YE.1 h with rfl|h
 ·exact⟨rfl,by simp⟩
 ·exact step h):p:=h
theorem Jev{p:Prop}(h:p:=by
 refine⟨O,by simp only[Yy];omega,?_⟩;rw[show i-k=(i-(k+1))+1 from O,Ja0];exact Y):p:=h
section
variable {P:Program} {ops:Array Oper} {md:Region.Mode}
structure EP (B lo hi:Nat)(w1 w2:World):Prop where
 os:w2.os=w1.os
 tape:w2.tape=w1.tape
 output:w2.output=w1.output
 size:w1.heap.size<=w2.heap.size
 low:∀k,k<B->w2.heap[k]? =w1.heap[k]?
 own:∀k,lo<=k->k<hi->w2.heap[k]? =w1.heap[k]?
theorem EP.trans {B A o:Nat}{a b c:World}(h:EP B A o a b)(k:EP B A o b c):EP B A o a c:=
 ⟨k.os.trans h.os,k.tape.trans h.tape,k.output.trans h.output,WJ h.size k.size,λi o=>(k.low i o).trans (h.low i o),λi h1 I=>(k.own i h1 I).trans (h.own i h1 I)⟩
theorem EP.refl (B o d:Nat)(w:World):EP B o d w w:=⟨rfl,rfl,rfl,Je _,λ_ _=>rfl,λ_ _ _=>rfl⟩
theorem EP.of_below {U a F:Nat}{V w2:World}(h:Ji V w2)(d:U<=V.heap.size)(b:F<=V.heap.size):EP U a F V w2:=
 ⟨h.os,h.tape,h.output,h.size,λk A=>h.block k O,λk _ A=>h.block k O⟩
structure UR (lo hi:Nat)(w1 w2:World):Prop where
 os:w2.os=w1.os
 tape:w2.tape=w1.tape
 output:w2.output=w1.output
 size:w1.heap.size<=w2.heap.size
 block:∀k,k<w1.heap.size->(k<lo\/hi<=k)->w2.heap[k]? =w1.heap[k]?
theorem UR.keeps {U a F b y:Nat}{V w2:World}(h:UR a F V w2)(e:U<=a)(R:U<=V.heap.size)(d:y<=V.heap.size)(ha:y<=a\/F<=b):EP U b y V w2:=
 ⟨h.os,h.tape,h.output,h.size,λk A=>h.block k O O,λk j y=>h.block k O O⟩
theorem UR.below {U b F:Nat}{V w2:World}(h:UR b F V w2)(d:U<=b)(R:U<=V.heap.size):Below U V w2:=⟨h.os,h.tape,h.output,h.size,λk A=>h.block k O O⟩
structure Mk where
 lo:Nat
 hi:Nat
 fact:World->Prop
def N8 (U:Nat)(d:World)(r:Mk):Prop:=U<=r.lo/\r.lo<=r.hi/\r.hi<=d.heap.size/\∀a,EP U r.lo r.hi d a->r.fact a
def Wb (g h:Mk):Prop:=g.hi<=h.lo\/h.hi<=g.lo
structure B3 (B:Nat)(w':World)(gs:List Mk):Prop where
 live:∀g∈gs,N8 B w' g
 away:gs.Pairwise Wb
theorem B3.nil (U:Nat)(b:World):B3 U b []:=⟨by simp,.nil⟩
theorem B3.now {U:Nat}{d:World}{g:Mk}{a:List Mk}(h:B3 U d (g::a)):g.fact d:=(h.live g (by simp)).2.2.2 d (EP.refl _ _ _ _)
theorem B3.rest {B:Nat}{b:World}{r:Mk}{a:List Mk}(h:B3 B b (r::a)):B3 B b a:=⟨λk A=>h.live k (by simp[A]),(JaY.1 h.away).2⟩
theorem N8.below {U:Nat}{d b:World}{g:Mk}(h:N8 U d g)(j:U<=d.heap.size)(e:Ji d b):N8 U b g:=
 ⟨h.1,h.2.1,WJ h.2.2.1 e.size,λo Y=>h.2.2.2 o ((EP.of_below e j h.2.2.1).trans Y)⟩
theorem B3.below {U:Nat}{d b:World}{e:List Mk}(h:B3 U d e)(o:U<=d.heap.size)(t:Ji d b):B3 U b e:=⟨λg j=>(h.live g j).below o t,h.away⟩
theorem B3.only {B o z:Nat}{y A:World}{t:List Mk}(h:B3 B y t)(M:B<=y.heap.size)(J:B<=o)(I:UR o z y A)(ha:∀g∈t,g.hi<=o\/z<=g.lo):B3 B A t:=
 ⟨λg b=>⟨(h.live g b).1,(h.live g b).2.1,WJ (h.live g b).2.2.1 I.size,λN Y=>(h.live g b).2.2.2 N ((I.keeps J M (h.live g b).2.2.1 (ha g b)).trans Y)⟩,h.away⟩
theorem B3.perm {U:Nat}{d:World}{a b:Mk}{g:List Mk}(h:B3 U d (a::b::g)):B3 U d (b::a::g):=by
 obtain⟨M,ha⟩:=h;rw[JaY,JaY] at ha;refine⟨λr e=>M r (by simp only[YE] at e|-;rcases e with h|h|h<;>simp[h]),?_⟩;rw[JaY,JaY];refine⟨λr e=>?_,λr e=>ha.1 r (by simp[e]),ha.2.2⟩;rcases YE.1 e with rfl|e
 ·exact(ha.1 b (by simp)).symm
 ·exact ha.2.1 r e
def M7 (U:Nat)(b:Nat->Nat->Value->World->Prop):Prop:=∀a F v V w2,b a F v V->F<=V.heap.size->EP U a F V w2->b a F v w2
theorem B3.add {U a:Nat}{d:World}{e:List Mk}{g:Nat->Nat->Value->World->Prop}{v:Value}(h:B3 U d e)(z:M7 U g)(l:U<=a)(j:a<=d.heap.size)(n:g a d.heap.size v d)(o:∀r∈e,r.hi<=a):B3 U d (⟨a,d.heap.size,g a d.heap.size v⟩::e):=by
 refine⟨λr b=>?_,JaY.2 ⟨λr b=>.inr (o r b),h.away⟩⟩;rcases YE.1 b with rfl|b
 ·exact⟨l,j,Je _,λp Y=>z _ _ _ _ _ n (Je _) Y⟩
 ·exact h.live r b
theorem B3.two {U:Nat}{d:World}{r h:Mk}{a:List Mk}(k:B3 U d (r::h::a)):r.hi<=h.lo\/h.hi<=r.lo:=(JaY.1 k.away).1 h (by simp)
theorem B3.fact2 {U:Nat}{d:World}{r h:Mk}{a:List Mk}(k:B3 U d (r::h::a)):h.fact d:=k.rest.now
def Zx (P:Program)(ops:Array Oper)(w:World)(b:List Mk)(d:Oper)(v:Value)(a:Act):Prop:=∀V,Ji w V->B3 w.heap.size V b->YieldsIn P ops (Ag V) d v a
def Gr (P:Program)(ops:Array Oper)(w:World)(g:List Mk)(C:Oper)(d:Nat->Nat->Value->World->Prop)(a:Act):Prop:=
 Region.wanted C (yielded ops a.tmps)=true/\∀V,Ji w V->B3 w.heap.size V g->
  (∃v w2,(execOp a.eval C).run P V=.ok (.value v) w2/\Ji V w2/\d V.heap.size w2.heap.size v w2)\/
  (∃f b,(execOp a.eval C).run P V=.ok (.enter f b) V/\Calls P f b V (λe w2=>∃v,e=.returned v/\Ji V w2/\d V.heap.size w2.heap.size v w2))
def EQ (P:Program)(ops:Array Oper)(w:World)(g:List Mk)(d F:Nat)(C:Oper)(j:Nat->Nat->Value->World->Prop)(a:Act):Prop:=
 Region.wanted C (yielded ops a.tmps)=true/\∀V,Ji w V->B3 w.heap.size V g->
  ∃f b,(execOp a.eval C).run P V=.ok (.enter f b) V/\Calls P f b V (λe w2=>∃v,e=.returned v/\UR d F V w2/\j V.heap.size w2.heap.size v w2)
theorem Zx.of_same {w:World}{e:List Mk}{C:Oper}{v:Value}{a b:Act}(h:Zx P ops w e C v a)(l:execOp b.eval C=execOp a.eval C)(n:Region.wanted C (yielded ops b.tmps)=Region.wanted C (yielded ops a.tmps)):Zx P ops w e C v b:=λV g M=>(h V g M).of_same l n
theorem Gr.of_same {w:World}{e:List Mk}{C:Oper}{R:Nat->Nat->Value->World->Prop}{a b:Act}(h:Gr P ops w e C R a)(g:execOp b.eval C=execOp a.eval C)(l:Region.wanted C (yielded ops b.tmps)=Region.wanted C (yielded ops a.tmps)):Gr P ops w e C R b:=by
 unfold Gr at*;rw[g,l];exact h
theorem EQ.of_same {w:World}{l:List Mk}{g e:Nat}{C:Oper}{R:Nat->Nat->Value->World->Prop}{a b:Act}(h:EQ P ops w l g e C R a)(n:execOp b.eval C=execOp a.eval C)(o:Region.wanted C (yielded ops b.tmps)=Region.wanted C (yielded ops a.tmps)):EQ P ops w l g e C R b:=by
 unfold EQ at*;rw[n,o];exact h
inductive Kd
 |h
 |q
 |w
 |c
 |f
def wpY (P:Program)(md:Region.Mode)(ops:Array Oper)(w:World)(n:Nat)(s:Nat->Kd)(p:Array Bool->Act->List Mk->Option Mk->Prop):Nat->Array Bool->Act->List Mk->Option Mk->Prop
 |0,listed,a,e,o=>p listed a e o
 |k+1,listed,a,e,o=>Region.ready md ops listed≠[]/\∀i∈Region.ready md ops listed,i<n/\∀g,ops[i]? =some g->
  match s i with
  | .h=>∃v,Zx P ops w e g v a/\wpY P md ops w n s p k (listed.setIfInBounds i true) (a.put g.dst v) e o
  | .q=>∃v,Zx P ops w e g v a/\wpY P md ops w n s p k (listed.setIfInBounds i true) (a.put g.dst v) e o
  | .w=>∃l,Gr P ops w e g l a/\M7 w.heap.size l/\∀j F v,w.heap.size<=j->j<=F->(∃d,l j F v d)->wpY P md ops w n s p k (listed.setIfInBounds i true) (a.put g.dst v) (⟨j,F,l j F v⟩::e) o
  | .c=>∃r u l,e=r::u/\EQ P ops w e r.lo r.hi g l a/\M7 w.heap.size l/\∀j F v,w.heap.size<=j->j<=F->(∃d,l j F v d)->wpY P md ops w n s p k (listed.setIfInBounds i true) (a.put g.dst v) (⟨j,F,l j F v⟩::u) o
  | .f=>o=none/\∃t,EL P ops g t/\∀b,w.heap.size<=b->wpY P md ops w n s p k (listed.setIfInBounds i true) (a.put g.dst (XK b)) e (some ⟨b,b+1,λd=>d.heap[b]? =some t⟩)
theorem Bk {w:World}{n g:Nat}{kd:Nat->Kd}{L:Array Bool->Act->List Mk->Option Mk->Prop}{Q':Exit->Act->World->Prop}
 (G:∀listed a l b d,Ji w d->B3 w.heap.size d (b.toList++l)->L listed a l b->wpAny P md ops Q' g listed a d):
 ∀(f:Nat) (listed:Array Bool) (a:Act) (l:List Mk) (b:Option Mk) (d:World),Ji w d->B3 w.heap.size d (b.toList++l)->wpY P md ops w n kd L f listed a l b->wpAny P md ops Q' (f+g) listed a d
 |0,listed,a,l,b,d,R,M,h=>by rw[WM];exact G _ _ _ _ _ R M h
 |f+1,listed,a,l,b,d,R,M,h=>by
  rw[show f+1+g=(f+g)+1 from O];refine⟨λX=>absurd X h.1,λi F=>?_⟩;obtain⟨_,t,J,_⟩:=YK.1 F;have o:=(h.2 i F).2 t J
  have N:B3 w.heap.size d l:=by
   cases b with
   |none=>exact M
   |some m=>exact M.rest
  have ab:∀v,Zx P ops w l t v a->wpY P md ops w n kd L f (listed.setIfInBounds i true) (a.put t.dst v) l b->wpOp P ops Q' i (wpAny P md ops Q' (f+g) (listed.setIfInBounds i true)) a d:=λv y A=>by
   refine YJ (C:=Ag d) (K:=λV=>V=a.put t.dst v) ⟨⟨d,Jc _ _⟩,rfl⟩ (λV aj ac ha=>?_) ((y d R N).qOp J rfl);obtain⟨x,rfl⟩:=ac;subst ha;exact Bk G f _ _ l b _ (Wx R x.below) (M.below R.size x.below) A
  cases hkd:kd i with
  |h=>simp only[hkd] at o;obtain⟨v,y,A⟩:=o;exact ab v y A
  |q=>simp only[hkd] at o;obtain⟨v,y,A⟩:=o;exact ab v y A
  |w=>
   simp only[hkd] at o;obtain⟨aa,W,z,A⟩:=o
   have Y:∀v w2,Ji d w2->aa d.heap.size w2.heap.size v w2->wpAny P md ops Q' (f+g) (listed.setIfInBounds i true) (a.put t.dst v) w2:=λv w2 j p=>by
    have s:=M.below R.size j;have S:∀g∈b.toList++l,g.hi<=d.heap.size:=λg e=>(M.live g e).2.2.1
    have B:=s.add z R.size j.size p S;refine Bk G f _ _ _ b _ (Wx R j) ?_ (A d.heap.size w2.heap.size v R.size j.size ⟨w2,p⟩);cases b with
    |none=>exact B
    |some m=>exact B.perm
   unfold wpOp;simp only[J,W.1,YW];refine .inl ?_;unfold Oper.wp;rcases W.2 d R N with ⟨v,w2,u,j,p⟩|⟨ae,ag,u,I⟩
   ·rw[u];exact Y v w2 j p
   ·rw[u,JaS];refine I.mono ?_;rintro af w2 ⟨v,rfl,j,p⟩;exact Y v w2 j p
  |c=>
   simp only[hkd] at o;obtain⟨T,U,aa,rfl,W,z,A⟩:=o;unfold wpOp;simp only[J,W.1,YW];refine .inl ?_;unfold Oper.wp;obtain⟨ae,ag,u,I⟩:=W.2 d R N;rw[u,JaS];refine I.mono ?_;rintro af w2 ⟨v,rfl,Q,p⟩;have X:=N.live T (by simp)
   have Z:B3 w.heap.size d (b.toList++U):=by
    cases b with
    |none=>exact M.rest
    |some m=>exact M.perm.rest
   have ah:∀g∈b.toList++U,g.hi<=T.lo\/T.hi<=g.lo:=by
    cases b with
    |none=>intro g e;exact((JaY.1 M.away).1 g e).symm
    |some m=>intro g e;exact((JaY.1 M.perm.away).1 g e).symm
   have s:=Z.only R.size X.1 Q ah;have S:∀g∈b.toList++U,g.hi<=d.heap.size:=λg e=>(Z.live g e).2.2.1
   have B:=s.add z R.size Q.size p S;have j:Ji w w2:=R.trans (Q.below X.1 R.size);refine Bk G f _ _ _ b _ j ?_ (A d.heap.size w2.heap.size v R.size Q.size ⟨w2,p⟩);cases b with
   |none=>exact B
   |some m=>exact B.perm
  |f=>
   simp only[hkd] at o;obtain⟨rfl,E,W,A⟩:=o;unfold wpOp;simp only[J,W.wanted a,YW];refine .inl ?_;unfold Oper.wp;rw[W.run];have ad:(d.alloc E).heap[d.heap.size]? =some E:=WP d E;have j:Below d.heap.size d (d.alloc E):=Below.all (Jc _ _) E;refine Bk G f _ _ _ _ _ (Wx R j) ?_ (A _ R.size);have s:=M.below R.size j;refine⟨λg e=>?_,JaY.2 ⟨λg e=>.inr (M.live g e).2.2.1,s.away⟩⟩;rcases YE.1 e with rfl|e
   ·exact⟨R.size,JaZ _,by simp,λak ai=>(ai.own _ (Je _) (Jam _)).trans ad⟩
   ·exact s.live g e
theorem Ry {w:World}{n i:Nat}{p:Oper}{v:Value}{E:Nat->Kd}{L:Array Bool->Act->List Mk->Option Mk->Prop}(ab:ops[i]? =some p)(ak:E i=.h)(af:∀(J:Nat) (ao:Oper) S b,ops[J]? =some ao->ao.op≠ .select S b)
 (am:Region.sinkB md ops n=true)(ah:Region.chainB md ops n=true)(al:n<ops.size)(aj:i<n)
 (aH:∀o a s t,L o a s t->∀J∈Region.ready md ops o,n<=J):
 ∀(f:Nat) (o:Array Bool) (a:Act) (s:List Mk) (t:Option Mk),HeadInv md ops n o->
  (∀J d,ops[J]? =some d->J≠i->o.getD J true=false->(∀e∈d.after,Region.binds md e=true->e.on≠i)->p.apart ops d=true)->
  i∈Region.ready md ops o->Xc P ops w p v a->
  wpY P md ops w n E L f (o.setIfInBounds i true) (a.put p.dst v) s t->wpY P md ops w n E L (f+1) o a s t:=by
 intro f;induction f with
 |zero=>
  intro o a s t U _ u T I;have B:=(YK.1 u).1;refine⟨λh=>(by rw[h] at u;cases u),λJ z=>?_⟩
  have N:J<n:=by
   rcases Yh J n with h|h
   ·exact h
   ·exact absurd z (tail_waits am ah al U _ i rfl aj B J h)
  refine⟨N,λd C=>?_⟩;by_cases y:J=i
  ·subst y;obtain rfl:p=d:=Yp (ab.symm.trans C);simp only[ak];exact⟨v,λV g _=>T V g,I⟩
  ·have:=aH _ _ _ _ I J (YL z y);omega
 |succ f az=>
  intro o a s t U ai u T I;have B:=(YK.1 u).1;refine⟨λh=>(by rw[h] at u;cases u),λJ z=>?_⟩
  have N:J<n:=by
   rcases Yh J n with h|h
   ·exact h
   ·exact absurd z (tail_waits am ah al U _ i rfl aj B J h)
  refine⟨N,λd C=>?_⟩;by_cases y:J=i
  ·subst y;obtain rfl:p=d:=Yp (ab.symm.trans C);simp only[ak];exact⟨v,λV g _=>T V g,I⟩
  ·have r:=(I.2 J (YL z y)).2 d C;obtain⟨ag,ax,aA,aC⟩:=YK.1 z;obtain rfl:d=ax:=Yp (C.symm.trans aA)
   have ar:∀e∈d.after,Region.binds md e=true->e.on≠i:=λe G g aB=>by
    have j:=aC e G g;rw[aB,getD_both B] at j;cases j
   obtain⟨an,au,aF⟩:=JaP (ai J d C y ag ar)
   have ay:∀k ok,ops[k]? =some ok->k≠i->(o.setIfInBounds J true).getD k true=false->
    (∀e∈ok.after,Region.binds md e=true->e.on≠i)->p.apart ops ok=true:=λk ok A aw B aq=>by
    refine ai k ok A aw ?_ aq;by_cases ap:J=k
    ·subst ap;exact ag
    ·rw[YM true ap] at B;exact B
   have G:=(JaN d (λS b=>af J d S b C) a p.dst v an).symm;have R:=(JaO d a p.dst v an).symm
   have M:∀(l:Value) F Q,wpY P md ops w n E L f ((o.setIfInBounds i true).setIfInBounds J true) ((a.put p.dst v).put d.dst l) F Q->wpY P md ops w n E L (f+1) (o.setIfInBounds J true) (a.put d.dst l) F Q:=λl F Q h=>by
    refine az (o.setIfInBounds J true) (a.put d.dst l) F Q (U.set z N) ay (YL u (Ne.symm y)) (T.of_put (λS b=>af i p S b ab) aF) ?_;rw[YN _ _ y,<-JaQ a v l au];exact h
   cases hkd:E J with
   |h=>
    simp only[hkd] at r|-;obtain⟨l,Z,A⟩:=r;exact⟨l,Z.of_same G R,M l s t A⟩
   |q=>
    simp only[hkd] at r|-;obtain⟨l,Z,A⟩:=r;exact⟨l,Z.of_same G R,M l s t A⟩
   |w=>
    simp only[hkd] at r|-;obtain⟨X,W,aa,A⟩:=r;exact⟨X,W.of_same G R,aa,λac Y l j ad ae=>M _ _ _ (A ac Y l j ad ae)⟩
   |c=>
    simp only[hkd] at r|-;obtain⟨aD,F,X,av,W,aa,A⟩:=r;exact⟨aD,F,X,av,W.of_same G R,aa,λac Y l j ad ae=>M _ _ _ (A ac Y l j ad ae)⟩
   |f=>
    simp only[hkd] at r|-;obtain⟨aG,aE,W,A⟩:=r;exact⟨aG,aE,W,λb g=>M _ _ _ (A b g)⟩
def Bl (md:Region.Mode)(ops:Array Oper):List Nat->Array Bool->Bool
 |[],_=>true
 |i::l,a=>(Region.ready md ops a).contains i&&Region.free md ops a i&&Bl md ops l (a.setIfInBounds i true)
def Xr:List Nat->Array Bool->Array Bool
 |[],listed=>listed
 |i::l,listed=>Xr l (listed.setIfInBounds i true)
theorem LC {w:World}{n r:Nat}{kd:Nat->Kd}{L:Array Bool->Act->List Mk->Option Mk->Prop}{s:Act->Prop}(j:Region.noSelect ops=true)(z:Region.sinkB md ops n=true)(I:Region.chainB md ops n=true)(B:n<ops.size)
 (F:∀b a N S,L b a N S->∀J∈Region.ready md ops b,n<=J):
 ∀(d:List Nat) (l:List Oper) (b:Array Bool) (a:Act),d.map (λi=>ops[i]?)=l.map some->(∀i∈d,i<n/\kd i=.h)->HeadInv md ops n b->
 Bl md ops d b=true->(∀o,s o->wpY P md ops w n kd L r (Xr d b) o [] none)->OY P ops w s l a->wpY P md ops w n kd L (d.length+r) b a [] none
 |[],l,b,a,M,_,_,_,e,h=>by
  cases l with
  |nil=>rw[Jau,WM];exact e a h
  |cons C l=>cases M
 |i::d,l,b,a,M,A,p,E,e,h=>by
  cases l with
  |nil=>cases M
  |cons C l=>
   simp only[Jap,JaD] at M;obtain⟨X,Q⟩:=M;simp only[Bl,YO] at E;obtain⟨⟨u,V⟩,W⟩:=E;obtain⟨t,T⟩:=A i (by simp);have y:i∈Region.ready md ops b:=by simpa using u
   obtain⟨v,R,G⟩:=h;rw[show(i::d).length+r=(d.length+r)+1 by simp only[Yy];omega]
   exact Ry X T (YP j) z I B t F (d.length+r) b a [] none p (YQ X V) y R
    (LC j z I B F d l _ _ Q (λJ U=>A J (by simp[U])) (p.set y t) W e G)
def Dr (P:Program)(ops:Array Oper)(w:World)(E:Act->List Mk->Prop):List (Kd×Oper)->Act->List Mk->Prop
 |[],a,e=>E a e
 |(.w,o)::rest,a,e=>∃j,Gr P ops w e o j a/\M7 w.heap.size j/\∀b F v,w.heap.size<=b->b<=F->(∃l,j b F v l)->Dr P ops w E rest (a.put o.dst v) (⟨b,F,j b F v⟩::e)
 |(.c,o)::rest,a,e=>∃g p j,e=g::p/\EQ P ops w e g.lo g.hi o j a/\M7 w.heap.size j/\∀b F v,w.heap.size<=b->b<=F->(∃l,j b F v l)->Dr P ops w E rest (a.put o.dst v) (⟨b,F,j b F v⟩::p)
 |(_,o)::rest,a,e=>∃v,Zx P ops w e o v a/\Dr P ops w E rest (a.put o.dst v) e
theorem AD {w:World}{E p:Act->List Mk->Prop}(e:∀a d,E a d->p a d):∀(l:List (Kd×Oper)) (a:Act) (d:List Mk),Dr P ops w E l a d->Dr P ops w p l a d
 |[],a,d,h=>e a d h
 |(.w,o)::rest,a,d,⟨g,j,y,Y⟩=>⟨g,j,y,λn F v a b c=>AD e rest _ _ (Y n F v a b c)⟩
 |(.c,o)::rest,a,d,⟨r,s,g,X,j,y,Y⟩=>⟨r,s,g,X,j,y,λn F v a b c=>AD e rest _ _ (Y n F v a b c)⟩
 |(.h,o)::rest,a,d,⟨v,j,y⟩=>⟨v,j,AD e rest _ _ y⟩
 |(.q,o)::rest,a,d,⟨v,j,y⟩=>⟨v,j,AD e rest _ _ y⟩
 |(.f,o)::rest,a,d,⟨v,j,y⟩=>⟨v,j,AD e rest _ _ y⟩
theorem H4 {w:World}{j:Act->List Mk->Prop}{C:Oper}{rest:List (Kd×Oper)}{a:Act}{g:List Mk}(e:Nat->Nat->Value->World->Prop)(h:Gr P ops w g C e a)(z:M7 w.heap.size e)
 (k:∀b F v,w.heap.size<=b->b<=F->(∃d,e b F v d)->Dr P ops w j rest (a.put C.dst v) (⟨b,F,e b F v⟩::g)):Dr P ops w j ((.w,C)::rest) a g:=⟨e,h,z,k⟩
theorem Gs {w:World}{d:Act->List Mk->Prop}{C:Oper}{rest:List (Kd×Oper)}{a:Act}{b:List Mk}(v:Value)(h:Zx P ops w b C v a)
 (k:Dr P ops w d rest (a.put C.dst v) b):Dr P ops w d ((.q,C)::rest) a b:=⟨v,h,k⟩
theorem Gr.call {w:World}{d:List Mk}{C:Oper}{j:Nat->Nat->Value->World->Prop}{a:Act}(f:FuncId)(b:Array Value)(R:Region.wanted C (yielded ops a.tmps)=true)(l:∀V,(execOp a.eval C).run P V=.ok (.enter f b) V)
 (h:∀V,Ji w V->B3 w.heap.size V d->Calls P f b V (λe w2=>∃v,e=.returned v/\Ji V w2/\j V.heap.size w2.heap.size v w2)):Gr P ops w d C j a:=
 ⟨R,λV g M=>.inr ⟨f,b,l V,h V g M⟩⟩
theorem Zx.value {w:World}{b:List Mk}{C:Oper}{v:Value}{a:Act}(R:Region.wanted C (yielded ops a.tmps)=true)(e:∀V,Ji w V->B3 w.heap.size V b->(execOp a.eval C).run P V=.ok (.value v) V):Zx P ops w b C v a:=
 λV g M=>.inl ⟨R,λw2 d=>by
  obtain⟨x,rfl⟩:=d;unfold Oper.quietAt;rw[e _ (Wx g x.below) (M.below g.size x.below)];exact⟨rfl,rfl⟩⟩
theorem Zx.plain {w:World}{b:List Mk}{C:Oper}{v:Value}{a:Act}(R:Region.wanted C (yielded ops a.tmps)=true)(d:∀V,(execOp a.eval C).run P V=.ok (.value v) V):Zx P ops w b C v a:=Zx.value R λV _ _=>d V
theorem LD {w:World}{E:Act->List Mk->Prop}{d:Tmp}{x:Value}:∀(l:List (Kd×Oper)) (a:Act) (t:List Mk),(∀p∈l,(∀S b,p.2.op≠ .select S b)/\d∉p.2.looksAt ops/\p.2.dst≠some d)->
 Dr P ops w (λM n=>E (M.put (some d) x) n) l a t->Dr P ops w E l (a.put (some d) x) t
 |[],a,t,_,h=>h
 |(k,C)::rest,a,t,J,h=>by
  obtain⟨G,Q,N⟩:=J (k,C) (by simp);have L:∀e,some d=some e->e∉C.looksAt ops:=λe g=>by cases g;exact Q
  have g:=JaN C G a (some d) x L;have R:=JaO (ops:=ops) C a (some d) x L;have s:∀v,(a.put (some d) x).put C.dst v=(a.put C.dst v).put (some d) x:=λv=>JaQ a x v (λe j y=>N (y.trans j.symm))
  have o:=λv n=>LD (w:=w) (E:=E) (d:=d) (x:=x) rest (a.put C.dst v) n (λp T=>J p (by simp[T]))
  cases k with
  |h=>obtain⟨v,j,y⟩:=h;exact⟨v,j.of_same g R,by rw[s];exact o v _ y⟩
  |q=>obtain⟨v,j,y⟩:=h;exact⟨v,j.of_same g R,by rw[s];exact o v _ y⟩
  |f=>obtain⟨v,j,y⟩:=h;exact⟨v,j.of_same g R,by rw[s];exact o v _ y⟩
  |w=>obtain⟨z,j,y,Y⟩:=h;exact⟨z,j.of_same g R,y,λB F v u I A=>by rw[s];exact o v _ (Y B F v u I A)⟩
  |c=>obtain⟨r,n,z,X,j,y,Y⟩:=h;exact⟨r,n,z,X,j.of_same g R,y,λB F v u I A=>by rw[s];exact o v _ (Y B F v u I A)⟩
def Rz (ops:Array Oper)(n:Nat):List Nat->Array Bool->Bool
 |[],listed=>Region.seqB .any ops (ops.size-n) n listed
 |i::l,listed=>decide (Region.ready .any ops listed=[i])&&Rz ops n l (listed.setIfInBounds i true)
def LF (ops:Array Oper)(n f:Nat):List Nat->Array Bool->Bool
 |[],listed=>decide (Region.ready .any ops listed=[f])&&Region.seqB .any ops (ops.size-n) n (listed.setIfInBounds f true)
 |i::l,listed=>decide (Region.ready .any ops listed=[i,f])&&(Rz ops n l ((listed.setIfInBounds f true).setIfInBounds i true)&&(decide (Region.ready .any ops (listed.setIfInBounds f true)=[i])&&LF ops n f l (listed.setIfInBounds i true)))
def HF:Kd->Bool
 | .q=>true
 | .w=>true
 | .c=>true
 |_=>false
theorem H5 {w:World}{n:Nat}{U:Nat->Kd}{S:Array Bool->Act->List Mk->Option Mk->Prop}{Q:Option Mk}{E:Act->List Mk->Prop}
 (T:∀b a d,Region.seqB .any ops (ops.size-n) n b=true->E a d->S b a d Q):
 ∀(l:List (Kd×Oper)) (sq:List Nat) (b:Array Bool) (a:Act) (d:List Mk),sq.map (λi=>ops[i]?)=l.map (λp=>some p.2)->sq.map U=l.map (·.1)->(∀i∈sq,i<n)->(∀p∈l,HF p.1=true)->Rz ops n sq b=true->
 Dr P ops w E l a d->wpY P .any ops w n U S l.length b a d Q
 |[],sq,b,a,d,j,_,_,_,s,h=>by
  cases sq with
  |nil=>exact T b a d s h
  |cons i sq=>cases j
 |(k,C)::l,sq,b,a,d,j,y,Y,N,s,h=>by
  cases sq with
  |nil=>cases j
  |cons i sq=>
   simp only[Jap,JaD] at j y;simp only[Rz,YO,YS] at s;obtain⟨u,aa⟩:=s;have I:=λv G=>H5 (w:=w) T l sq (b.setIfInBounds i true) (a.put C.dst v) G j.2 y.2 (λJ o=>Y J (by simp[o])) (λp X=>N p (by simp[X])) aa
   refine⟨by rw[u];simp,λJ o=>?_⟩;rw[u] at o;obtain rfl:J=i:=by simpa using o
   refine⟨Y J (by simp),λV Z=>?_⟩;obtain rfl:C=V:=Yp (j.1.symm.trans Z);have R:=N (k,C) (by simp);simp only[y.1];cases k with
   |h=>cases R
   |f=>cases R
   |q=>obtain⟨v,g,e⟩:=h;exact⟨v,g,I v _ e⟩
   |w=>obtain⟨A,g,e,t⟩:=h;exact⟨A,g,e,λL F v z M B=>I v _ (t L F v z M B)⟩
   |c=>obtain⟨r,G,A,W,g,e,t⟩:=h;exact⟨r,G,A,W,g,e,λL F v z M B=>I v _ (t L F v z M B)⟩
theorem Gt {w:World}{n f:Nat}{kd:Nat->Kd}{L:Array Bool->Act->List Mk->Option Mk->Prop}{z:Oper}{N:Tmp}{Q:Obj}(ad:ops[f]? =some z)(X:z.dst=some N)(T:EL P ops z Q)(ae:kd f=.f)(S:f<n){E:Act->List Mk->Prop}{EF:Nat->Act->List Mk->Prop}
 (R:∀b,w.heap.size<=b->∀a d,E a d->EF b (a.put (some N) (XK b)) d)
 (Y:∀b e a d,Region.seqB .any ops (ops.size-n) n e=true->EF b a d->L e a d (some ⟨b,b+1,λaz=>az.heap[b]? =some Q⟩)):
 ∀(l:List (Kd×Oper)) (sq:List Nat) (e:Array Bool) (a:Act) (d:List Mk),sq.map (λi=>ops[i]?)=l.map (λp=>some p.2)->sq.map kd=l.map (·.1)->(∀i∈sq,i<n/\i≠f)->(∀p∈l,HF p.1=true/\(∀an b,p.2.op≠ .select an b)/\N∉p.2.looksAt ops/\p.2.dst≠some N)->LF ops n f sq e=true->
 Dr P ops w E l a d->wpY P .any ops w n kd L (l.length+1) e a d none
 |[],sq,e,a,d,j,_,_,_,s,h=>by
  cases sq with
  |cons i sq=>cases j
  |nil=>
   simp only[LF,YO,YS] at s;refine⟨by rw[s.1];simp,λJ o=>?_⟩;rw[s.1] at o;obtain rfl:J=f:=by simpa using o
   refine⟨S,λu G=>?_⟩;obtain rfl:z=u:=Yp (ad.symm.trans G);simp only[ae];refine⟨trivial,Q,T,λb Z=>?_⟩;rw[X];exact Y b _ _ _ s.2 (R b Z a d h)
 |(k,C)::l,sq,e,a,d,j,y,ag,M,s,h=>by
  cases sq with
  |nil=>cases j
  |cons i sq=>
   have au:=h;have av:=j;have aq:=y;simp only[Jap,JaD] at j y;simp only[LF,YO,YS] at s;obtain⟨ah,ap,al,ay⟩:=s;have ab:=λv B=>Gt (w:=w) ad X T ae S R Y l sq (e.setIfInBounds i true) (a.put C.dst v) B j.2 y.2 (λJ o=>ag J (by simp[o])) (λp A=>M p (by simp[A])) ay
   refine⟨by rw[ah];simp,λJ o=>?_⟩;rw[ah] at o;have ar:J=i\/J=f:=by simpa using o
   rcases ar with rfl|rfl
   ·refine⟨(ag J (by simp)).1,λu G=>?_⟩;obtain rfl:C=u:=Yp (j.1.symm.trans G);have ai:=(M (k,C) (by simp)).1;simp only[y.1];cases k with
    |h=>cases ai
    |f=>cases ai
    |q=>obtain⟨v,I,t⟩:=h;exact⟨v,I,ab v _ t⟩
    |w=>obtain⟨W,I,t,U⟩:=h;exact⟨W,I,t,λac F v V af aa=>ab v _ (U ac F v V af aa)⟩
    |c=>obtain⟨g,B,W,am,I,t,U⟩:=h;exact⟨g,B,W,am,I,t,λac F v V af aa=>ab v _ (U ac F v V af aa)⟩
   ·refine⟨S,λu G=>?_⟩;obtain rfl:z=u:=Yp (ad.symm.trans G);simp only[ae];refine⟨trivial,Q,T,λb Z=>?_⟩;rw[X];have ao:Dr P ops w (EF b) ((k,C)::l) (a.put (some N) (XK b)) d:=LD (E:=EF b) _ _ _ (λp A=>(M p A).2) (AD (λaj B=>R b Z aj B) _ _ _ au);refine H5 (E:=EF b) (λe a d aw ax=>Y b e a d aw ax) ((k,C)::l) (i::sq) _ _ d av aq (λm ak=>(ag m ak).1) (λp A=>(M p A).1) ?_ ao;simp only[Rz,YO,YS];exact⟨al,ap⟩
def JW:List Kd->List Oper->List Oper
 | .h::ms,o::l=>o::JW ms l
 | .q::ms,_::l=>JW ms l
 | .w::ms,_::l=>JW ms l
 | .c::ms,_::l=>JW ms l
 | .f::ms,_::l=>JW ms l
 |_,_=>[]
def ZI:List Kd->List Oper->List (Kd×Oper)
 | .h::ms,_::l=>ZI ms l
 | .q::ms,o::l=>(.q,o)::ZI ms l
 | .w::ms,o::l=>(.w,o)::ZI ms l
 | .c::ms,o::l=>(.c,o)::ZI ms l
 | .f::ms,_::l=>ZI ms l
 |_,_=>[]
def Qs:List Kd->Nat->List Nat
 |[],_=>[]
 | .h::ms,i=>i::Qs ms (i+1)
 |_::ms,i=>Qs ms (i+1)
def BG:List Kd->Nat->List Nat
 |[],_=>[]
 | .q::ms,i=>i::BG ms (i+1)
 | .w::ms,i=>i::BG ms (i+1)
 | .c::ms,i=>i::BG ms (i+1)
 |_::ms,i=>BG ms (i+1)
theorem ZX {l0:List Oper}:∀(a:List Kd) (k:Nat),k+a.length<=l0.length->(Qs a k).map (λi=>l0[i]?)=(JW a (l0.drop k)).map some
 |[],k,_=>by cases l0.drop k<;>rfl
 |m::a,k,h=>by
  simp only[Yy] at h;have A:k<l0.length:=O;rw[Jas A];have b:=ZX (l0:=l0) a (k+1) O;cases m<;>simp only[Qs,JW,Jap,b,W2 A]
theorem Gu {l0:List Oper}:∀(a:List Kd) (k:Nat),k+a.length<=l0.length->(BG a k).map (λi=>l0[i]?)=(ZI a (l0.drop k)).map (λp=>some p.2)
 |[],k,_=>by cases l0.drop k<;>rfl
 |m::a,k,h=>by
  simp only[Yy] at h;have A:k<l0.length:=O;rw[Jas A];have b:=Gu (l0:=l0) a (k+1) O;cases m<;>simp only[BG,ZI,Jap,b,W2 A]
theorem LG:∀(a:List Kd) (k i:Nat),i∈Qs a k->k<=i/\i<k+a.length/\a[i-k]? =some .h
 |m::a,k,i,h=>by
  have step:i∈Qs a (k+1)->k<=i/\i<k+(m::a).length/\(m::a)[i-k]? =some .h:=λh=>by
   obtain⟨j,y,Y⟩:=LG a (k+1) i h;exact Jev
  cases m with
  |h=>
   rcases YE.1 h with rfl|h
   ·exact⟨Je _,by simp,by simp⟩
   ·exact step h
  |q=>exact step h
  |w=>exact step h
  |c=>exact step h
  |f=>exact step h
theorem Kh:∀(a:List Kd) (k i:Nat),i∈BG a k->k<=i/\i<k+a.length/\(a[i-k]?).map HF=some true
 |m::a,k,i,h=>by
  have step:i∈BG a (k+1)->k<=i/\i<k+(m::a).length/\((m::a)[i-k]?).map HF=some true:=λh=>by
   obtain⟨j,y,Y⟩:=Kh a (k+1) i h;exact Jev
  cases m with
  |h=>exact step h
  |f=>exact step h
  |q=>
   exact JdN
  |w=>
   exact JdN
  |c=>
   exact JdN
theorem N9 (kd:Nat->Kd):∀(a:List Kd) (l:List Oper) (k:Nat),a.length<=l.length->(∀J m,a[J]? =some m->kd (k+J)=m)->(BG a k).map kd=(ZI a l).map (·.1)
 |[],l,k,_,_=>by cases l<;>rfl
 |m::a,[],k,h,_=>by simp at h
 |m::a,C::l,k,h,A=>by
  have b:=N9 kd a l (k+1) (by simpa using h) (λJ d W=>by rw[show k+1+J=k+(J+1) from O];exact A (J+1) d (by simpa using W));have X:=A 0 m (by simp);rw[Jal] at X;cases m<;>simp only[BG,ZI,Jap,b,X]
theorem Gv:∀(a:List Kd) (l:List Oper),∀p∈ZI a l,HF p.1=true/\p.2∈l
 |[],l,p,h=>by cases l<;>cases h
 |m::a,[],p,h=>by cases m<;>cases h
 |m::a,C::l,p,h=>by
  have step:p∈ZI a l->HF p.1=true/\p.2∈C::l:=λh=>⟨(Gv a l p h).1,Yg _ (Gv a l p h).2⟩
  cases m with
  |h=>exact step h
  |f=>exact step h
  |q=>
   exact Jd7
  |w=>
   exact Jd7
  |c=>
   exact Jd7
def U3 (l:List Oper)(a:List Kd)(f:Nat)(N:Tmp):Bool:=
 let L:=Xr (Qs a 0) (Array.replicate l.toArray.size false)
 Region.noSelect l.toArray&&(decide (a.length<l.toArray.size)&&(Region.sinkB .any l.toArray a.length&&(Region.chainB .any l.toArray a.length&&(Bl .any l.toArray (Qs a 0) (Array.replicate l.toArray.size false)&&
  (decide ((Qs a 0).length+(ZI a l).length+1=a.length)&&((match a[f]? with|some .f=>true|_=>false)&&((ZI a l).all (λp=>!(p.2.looksAt l.toArray).contains N&&p.2.dst != some N)&&LF l.toArray a.length f (BG a 0) L)))))))
theorem Dd {id:Nat}{u:Exit->Act->World->Prop}{a:Act}{w:World}{l:List Oper}(e:List Kd)(f:Nat)(t:Obj){N:Tmp}{C:Oper}(az:P.follows .mixedOrders=true)(aB:l[f]? =some C)(ay:C.dst=some N)(aA:EL P l.toArray C t)(Z:U3 l e f N=true)(ac:Be a.tmps.size (JW e l)=true)
 (h:∃z:Act,(∀V,Ji w V->wpQuiet P l.toArray (λd=>∃x:J2 V,d=x.world) (λo=>o=z) (JW e l) a)/\
   Dr P l.toArray w (λo s=>∀b d,Ji w d->w.heap.size<=b->d.heap[b]? =some t->B3 w.heap.size d (⟨b,b+1,λd=>d.heap[b]? =some t⟩::s)->wpList P l.toArray u (l.drop e.length) (o.put (some N) (XK b)) d) (ZI e l) z []):(Code.region id l.toArray true).wp P u a w:=by
 obtain⟨z,ab,am⟩:=h;simp only[U3,YO,YS] at Z;obtain⟨U,B,ap,I,au,aG,A,ae,ar⟩:=Z;have aJ:e.length<l.length:=by simpa using B
 have W:(l.drop e.length).length=l.toArray.size-e.length:=by simp
 have aw:HeadInv .any l.toArray e.length (Array.replicate l.toArray.size false):=
  ⟨by simp,λJ aH _ M=>(by rw[getD_replicate_false] at M;cases M),λaF _ ah=>getD_in (by simpa using ah) (getD_replicate_false _ _)⟩
 let kd:Nat->Kd:=λi=>(e[i]?).getD .h
 let X:Array Bool->Act->List Mk->Option Mk->Prop:=λv o s R=>Region.seqB .any l.toArray (l.toArray.size-e.length) e.length v=true/\∀d,Ji w d->B3 w.heap.size d (R.toList++s)->wpList P l.toArray u (l.drop e.length) o d
 have af:∀J m,e[J]? =some m->kd (0+J)=m:=λJ m h=>by simp only[kd,WM,h,Option.getD_some]
 have S:e[f]? =some .f:=by
  cases G:e[f]? with
  |none=>rw[G] at A;cases A
  |some m=>rw[G] at A;cases m<;>first|rfl|cases A
 have al:f<e.length:=(W0.1 S).1;have aE:kd f=.f:=by simp only[kd,S,Option.getD_some]
 have aj:(Qs e 0).map (λi=>l.toArray[i]?)=(JW e l).map some:=by
  have:=ZX (l0:=l) e 0 O;exact Jek
 have ag:(BG e 0).map (λi=>l.toArray[i]?)=(ZI e l).map (λp=>some p.2):=by
  have:=Gu (l0:=l) e 0 O;exact Jek
 have ad:l.toArray[f]? =some C:=by simpa using aB
 have av:=λ(o:Act) (ha:o=z)=>Gt (P:=P) (w:=w) (n:=e.length) (kd:=kd) (L:=X) ad ay aA aE al
  (EF:=λb o s=>∀d,Ji w d->w.heap.size<=b->d.heap[b]? =some t->B3 w.heap.size d (⟨b,b+1,λd=>d.heap[b]? =some t⟩::s)->wpList P l.toArray u (l.drop e.length) o d)
  (λb aI a s aq d j y Y an=>aq b d j y Y an)
  (λb v a s j y=>⟨j,λd ax T=>y d ax (T.live ⟨b,b+1,λd=>d.heap[b]? =some t⟩ (Yf ..)).1 (B3.now (g:=⟨b,b+1,λd=>d.heap[b]? =some t⟩) T) T⟩)
  (ZI e l) (BG e 0) (Xr (Qs e 0) (Array.replicate l.toArray.size false)) o [] ag (N9 kd e l 0 O af)
  (λi F=>by
    have:=(Kh e 0 i F)
    refine⟨O,λaD=>?_⟩;subst aD;rw[Nat.sub_zero,S] at this;simp[HF] at this)
  (λp E=>by
    have j:=Y4.1 ae p E;simp only[YO,JaW,bne_iff_ne,ne_eq] at j;obtain⟨ak,G⟩:=Gv e l p E;obtain⟨J,ai⟩:=List.getElem?_of_mem G;refine⟨ak,λaC b=>YP U J p.2 aC b (by simpa using ai),λI=>?_,j.2⟩;have y:=j.1;rw[JaT.2 I] at y;cases y) ar (ha▸am)
 have aa:=LC (md:=.any) (r:=(ZI e l).length+1) (kd:=kd) (L:=X) U ap I B (λv o s R Q=>seqB_ready Q.1)
  (Qs e 0) (JW e l) _ a aj (λi F=>by
    obtain⟨j,y,Y⟩:=LG e 0 i F;refine⟨O,?_⟩;simp only[kd];rw[Nat.sub_zero] at Y;rw[Y];rfl) aw au av (H2 (JW e l) a ac ab)
 refine YT az ?_
 have:=Bk (Q':=u) (g:=l.toArray.size-e.length) (λv o s R d ao M Q=>by
  have:=wpAny_of_seq (md:=.any) (Q':=u) (l.drop e.length) e.length v o d (λJ=>by simp[W6]) (by rw[W];exact Q.1) (Q.2 d ao M);rwa [W] at this) _ _ _ [] none _ (Jc w.heap.size w).drew (B3.nil _ _) aa
 rw[show(Qs e 0).length+((ZI e l).length+1)+(l.toArray.size-e.length)=l.toArray.size from O] at this;exact this
end
end
section
open Go.RowKit
section
variable {P:Program} {ops:Array Oper} {md:Region.Mode}
def JX (P:Program)(ops:Array Oper)(g:World->Prop)(d:Value->World->Prop)(C:Oper)(a:Act):Prop:=
 Region.wanted C (yielded ops a.tmps)=true/\∀w,g w->
  (∃v w2,d v w2/\((execOp a.eval C).run P w=.ok (.value v) w2\/((execOp a.eval C).run P w=.ok .skip w2/\v=undef)))\/
  (∃f b,(execOp a.eval C).run P w=.ok (.enter f b) w/\Calls P f b w (λe w2=>∃v,e=.returned v/\d v w2))
theorem JX.of_unput {l:World->Prop}{n:Value->World->Prop}{d e:Oper}{g:Value}{a:Act}(o:∀S b,d.op≠ .select S b)(h:JX P ops l n d (a.put e.dst g))(j:∀N,e.dst=some N->N∉d.looksAt ops):JX P ops l n d a:=by
 have p:=(JaN d o a e.dst g j).symm;have R:=(JaO d a e.dst g j).symm;unfold JX at*;rw[p,R];exact h
def Hh (b:Nat->World->Prop)(d:List Nat)(k:Nat)(a:World->Prop):Prop:=∀r,k<=d.getD r 0->∀w,a w->b r w
def wpH (P:Program)(md:Region.Mode)(ops:Array Oper)(L e:List Nat)(l:Nat->World->Prop)(n:List Nat)(j:Exit->Act->World->Prop):Nat->Nat->(World->Prop)->Array Bool->Act->Prop
 |0,k,C,b,a=>k=e.length/\Region.ready md ops b=[]/\∀w,C w->j .normal a w
 |f+1,k,C,b,a=>Region.ready md ops b≠[]/\∀i∈Region.ready md ops b,∀d,ops[i]? =some d->
  ((i∈L/\∃v,YieldsIn P ops C d v a/\wpH P md ops L e l n j f k C (b.setIfInBounds i true) (a.put d.dst v))\/
   (e[k]? =some i/\∃g:Value->World->Prop,JX P ops C g d a/\(∀v,Hh l n (k+1) (g v))/\∀v,(∃w,g v w)->wpH P md ops L e l n j f (k+1) (g v) (b.setIfInBounds i true) (a.put d.dst v)))
theorem Bm {hd sq:List Nat}{G:Nat->World->Prop}{top:List Nat}{Q':Exit->Act->World->Prop}:
 ∀(f k:Nat) (C:World->Prop) (d:Array Bool) (a:Act) (w:World),C w->wpH P md ops hd sq G top Q' f k C d a->wpAny P md ops Q' f d a w
 |0,k,C,d,a,w,R,h=>⟨h.2.1,h.2.2 w R⟩
 |f+1,k,C,d,a,w,R,h=>by
  refine⟨λX=>absurd X h.1,λi F=>?_⟩;obtain⟨_,l,g,_⟩:=YK.1 F;rcases h.2 i F l g with ⟨-,v,o,A⟩|⟨-,s,⟨W,p⟩,-,A⟩
  ·refine YJ (C:=C) (K:=λj=>j=a.put l.dst v) R (λj y n ha=>?_) (o.qOp g rfl);subst ha;exact Bm f k C _ _ _ n A
  ·unfold wpOp;simp only[g,W,YW];refine .inl ?_;unfold Oper.wp;rcases p w R with ⟨v,w2,b,u⟩|⟨t,z,u,I⟩
   ·rcases u with u|⟨u,rfl⟩
    ·rw[u];exact Bm f (k+1) _ _ _ _ b (A v ⟨w2,b⟩)
    ·rw[u];exact Bm f (k+1) _ _ _ _ b (A undef ⟨w2,b⟩)
   ·rw[u,JaS];refine I.mono ?_;rintro e w2 ⟨v,rfl,b⟩;exact Bm f (k+1) _ _ _ _ b (A v ⟨w2,b⟩)
structure Q4 (md:Region.Mode)(ops:Array Oper)(sq:List Nat)(k:Nat)(listed:Array Bool):Prop where
 size:listed.size=ops.size
 closed:∀j oj,ops[j]? =some oj->listed.getD j false=true->∀e∈oj.after,Region.binds md e=true->listed.getD e.on false=true
 open':∀k' t,k<=k'->sq[k']? =some t->listed.getD t true=false
 done:∀k' t,k'<k->sq[k']? =some t->listed.getD t false=true
def Un (md:Region.Mode)(ops:Array Oper)(L a:List Nat)(b:Nat->Nat):Bool:=
 (L.all λi=>!a.contains i)&&(((List.range a.length).all λk=>(List.range a.length).all λd=>k==d||a[k]? != a[d]?)&&
 (((List.range a.length).all λk=>k==0||Region.waitsFor md ops (a.getD k 0) (a.getD (k-1) 0))&&
 (L.all λi=>decide (i<ops.size)&&((List.range ops.size).any λJ=>Region.waitsFor md ops J i&&(if L.contains J then decide (i<J)&&decide (b J<=b i) else (List.range (b i+1)).any λk=>a[k]? ==some J)))))
structure A3 (md:Region.Mode)(ops:Array Oper)(hd sq:List Nat)(late:Nat->Nat):Prop where
 apart:∀i∈hd,i∉sq
 once:∀k k' t:Nat,sq[k]? =some t->sq[k']? =some t->k=k'
 next:∀k t t':Nat,sq[k+1]? =some t->sq[k]? =some t'->Region.waitsFor md ops t t'=true
 wait:∀i∈hd,i<ops.size/\∃j,j<ops.size/\Region.waitsFor md ops j i=true/\((j∈hd/\i<j/\late j<=late i)\/(∃k,k<=late i/\sq[k]? =some j))
theorem D8 {hd sq:List Nat}{late:Nat->Nat}(h:Un md ops hd sq late=true):A3 md ops hd sq late:=by
 simp only[Un,YO,Y4,Y5,Bool.or_eq_true,JaT,JaW,Y2,bne_iff_ne,YS,List.any_eq_true] at h;obtain⟨y,Y,n,j⟩:=h;refine⟨λi b z=>?_,λk u t A a=>?_,λk t v A a=>?_,λi b=>?_⟩
 ·have:=y i b;rw[JaT.2 z] at this;cases this
 ·have d:=(W0.1 A).1;have g:=(W0.1 a).1;rcases Y k d u g with h|h
  ·exact h
  ·exact absurd (A.trans a.symm) h
 ·have d:=(W0.1 A).1;rcases n (k+1) d with h|h
  ·omega
  ·rw[Nat.add_sub_cancel,Yi,Yi,A,a] at h;exact h
 ·obtain⟨p,J,s,o,I⟩:=j i b;refine⟨p,J,s,o,?_⟩;by_cases e:J∈hd
  ·rw[YH (by simpa using e)] at I;simp only[YO,YS] at I;exact .inl ⟨e,I.1,I.2⟩
  ·rw[Yw (by simpa using e)] at I;simp only[List.any_eq_true,Y5,Y2] at I;obtain⟨k,A,z⟩:=I;exact .inr ⟨k,O,z⟩
theorem Q4.head {L d:List Nat}{late:Nat->Nat}(A:A3 md ops L d late){k i:Nat}{b:Array Bool}(a:Q4 md ops d k b)(F:i∈Region.ready md ops b)(u:i∈L):Q4 md ops d k (b.setIfInBounds i true):=by
 obtain⟨_,s,y,B⟩:=YK.1 F;have v:=A.apart i u;refine⟨by simp[a.size],λJ n p M e r g=>?_,λl t j z=>?_,λl t j z=>JaU (a.done l t j z)⟩
 ·by_cases o:i=J
  ·subst o;obtain rfl:n=s:=Yp (p.symm.trans y);exact JaU (B e r g)
  ·rw[YM false o] at M;exact JaU (a.closed J n p M e r g)
 ·rw[YM true (λh=>v (by rw[h];exact YD z))];exact a.open' l t j z
theorem Q4.row {L j:List Nat}{N:Nat->Nat}(Q:A3 md ops L j N){k i:Nat}{l:Array Bool}(d:Q4 md ops j k l)(F:i∈Region.ready md ops l)(A:j[k]? =some i):Q4 md ops j (k+1) (l.setIfInBounds i true):=by
 obtain⟨_,G,y,R⟩:=YK.1 F;have S:i<ops.size:=(Ja y).1;refine⟨by simp[d.size],λJ n u M e E g=>?_,λb t I z=>?_,λb t I z=>?_⟩
 ·by_cases r:i=J
  ·subst r;obtain rfl:n=G:=Yp (u.symm.trans y);exact JaU (R e E g)
  ·rw[YM false r] at M;exact JaU (d.closed J n u M e E g)
 ·rw[YM true (λh=>by subst h;have:=Q.once k b i A z;omega)];exact d.open' b t O z
 ·by_cases h:t=i
  ·subst h;have:=d.size;simp;omega
  ·refine JaU (d.done b t ?_ z);rcases Yh b k with o|o
   ·exact o
   ·have:b=k:=O;subst this;rw[A] at z;exact absurd (Yp z).symm h
theorem S1 {L a:List Nat}{A:Nat->Nat}(B:A3 md ops L a A){k:Nat}{l:Array Bool}(n:Q4 md ops a k l){t:Nat}(z:t∈a)(u:t∈Region.ready md ops l):a[k]? =some t:=by
 obtain⟨s,p,v,C⟩:=YK.1 u;obtain⟨d,b⟩:=List.getElem?_of_mem z;rcases Nat.lt_trichotomy d k with h|h|h
 ·have j:=n.done d t h b;rw[getD_both s] at j;cases j
 ·subst h;exact b
 ·exfalso
  obtain⟨m,rfl⟩:∃m,d=m+1:=⟨d-1,O⟩
  have M:m<a.length:=by have:=(W0.1 b).1;omega
  have X:a[m]? =some a[m]:=W2 M;obtain⟨o,r,e,E,g,F⟩:=Region.waitsFor_spec (B.next m t a[m] b X);obtain rfl:o=p:=Yp (r.symm.trans v);have y:=C e E g;rw[F,getD_both (n.open' m a[m] O X)] at y;cases y
theorem LH {L l:List Nat}{B:Nat->Nat}(C:A3 md ops L l B){k:Nat}{b:Array Bool}(a:Q4 md ops l k b):
 ∀(N i:Nat),ops.size-i=N->i∈L->b.getD i true=false->B i<=k->∀t,t∈l->t∉Region.ready md ops b:=by
 intro N;induction N using Nat.strongRecOn with
 |_ N T=>
  intro i Y F n aa t A u;have U:=S1 C a A u;obtain⟨_,G,M,V⟩:=YK.1 u;obtain⟨W,J,Q,E,I⟩:=C.wait i F;obtain⟨j,p,e,r,g,s⟩:=Region.waitsFor_spec E;rcases I with ⟨S,Z,X⟩|⟨d,ab,o⟩
  ·cases hl:b.getD J false with
   |true=>
    have y:=a.closed J j p hl e r g;rw[s,getD_both n] at y;cases y
   |false=>exact T (ops.size-J) O J rfl S (getD_in (by rw[a.size];exact Q) hl) O t A u
  ·by_cases z:J=t
   ·subst z;obtain rfl:j=G:=Yp (p.symm.trans M);have y:=V e r g;rw[s,getD_both n] at y;cases y
   ·have R:d<k:=by
     rcases Yh d k with h|h
     ·exact h
     ·exfalso
      have:d=k:=O;subst this;rw[U] at o;exact z (Yp o).symm
    have y:=a.closed J j p (a.done d J R o) e r g;rw[s,getD_both n] at y;cases y
theorem RA {L R:List Nat}{T:Nat->World->Prop}{ab:List Nat}{am:Exit->Act->World->Prop}{late:Nat->Nat}{i:Nat}{g:Oper}{v:Value}(F:ops[i]? =some g)(t:∀(J:Nat) (ao:Oper) S b,ops[J]? =some ao->ao.op≠ .select S b)
 (V:A3 md ops L R late)(X:i∈L)(M:Nat)(aE:late i<=ab.getD M 0):
 ∀(f k:Nat) (z:World->Prop) (n:Array Bool) (a:Act),k<=late i->Q4 md ops R k n->
  (∀J j,ops[J]? =some j->J≠i->n.getD J true=false->(∀e∈j.after,Region.binds md e=true->e.on≠i)->g.apart ops j=true)->
  i∈Region.ready md ops n->YieldsIn P ops z g v a->(k<late i->YieldsIn P ops (T M) g v a/\∀(y:World->Prop),(∀w,y w->T M w)->∀s,execOp s.eval g=execOp a.eval g->Region.wanted g (yielded ops s.tmps)=Region.wanted g (yielded ops a.tmps)->YieldsIn P ops y g v s)->
  wpH P md ops L R T ab am f k z (n.setIfInBounds i true) (a.put g.dst v)->wpH P md ops L R T ab am (f+1) k z n a:=by
 intro f;induction f with
 |zero=>
  intro k z n a A Q _ u N _ C;refine⟨λh=>(by rw[h] at u;cases u),λJ p j o=>?_⟩;by_cases l:J=i
  ·subst l;obtain rfl:g=j:=Yp (F.symm.trans o);exact .inl ⟨X,v,N,C⟩
  ·have h:=YL p l;rw[C.2.1] at h;cases h
 |succ f al=>
  intro k z n a A Q aj u N E C;have G:=(YK.1 u).1;refine⟨λh=>(by rw[h] at u;cases u),λJ p j o=>?_⟩;by_cases l:J=i
  ·subst l;obtain rfl:g=j:=Yp (F.symm.trans o);exact .inl ⟨X,v,N,C⟩
  ·have az:=C.2 J (YL p l) j o;obtain⟨ai,av,ax,aC⟩:=YK.1 p;obtain rfl:j=av:=Yp (o.symm.trans ax)
   have ar:∀e∈j.after,Region.binds md e=true->e.on≠i:=λe aw aA ay=>by
    have ap:=aC e aw aA;rw[ay,getD_both G] at ap;cases ap
   obtain⟨an,af,I⟩:=JaP (aj J j o l ai ar)
   have ak:∀k ok,ops[k]? =some ok->k≠i->(n.setIfInBounds J true).getD k true=false->
    (∀e∈ok.after,Region.binds md e=true->e.on≠i)->g.apart ops ok=true:=λk ok A au G aq=>by
    refine aj k ok A au ?_ aq;by_cases B:J=k
    ·subst B;exact ai
    ·rw[YM true B] at G;exact G
   have aa:=λd=>JaN g (λS b=>t i g S b F) a j.dst d I
   have ad:=λd=>JaO g a j.dst d I
   rcases az with ⟨ag,d,Y,Z⟩|⟨B,y,Y,ah,Z⟩
   ·refine .inl ⟨ag,d,WE (λS b=>t J j S b o) Y an,?_⟩;refine al k z (n.setIfInBounds J true) (a.put j.dst d) A (Q.head V p ag) ak (YL u (Ne.symm l)) (WD (λS b=>t i g S b F) N I) (λr=>⟨WD (λS b=>t i g S b F) (E r).1 I,λW ac s ae U=>(E r).2 W ac s (ae.trans (aa d)) (U.trans (ad d))⟩) ?_;rw[YN _ _ l,<-JaQ a v d af];exact Z
   ·have r:k<late i:=by
     rcases Yh k (late i) with h|h
     ·exact h
     ·exact absurd p (LH V Q _ i rfl X G h J (YD B))
    refine .inr ⟨B,y,Y.of_unput (λS b=>t _ j S b o) an,ah,λd aB=>?_⟩;refine al (k+1) (y d) (n.setIfInBounds J true) (a.put j.dst d) r (Q.row V p B) ak (YL u (Ne.symm l)) ((E r).2 (y d) (ah d M O) _ (aa d) (ad d)) (λaD=>⟨WD (λS b=>t i g S b F) (E r).1 I,λW ac s ae U=>(E r).2 W ac s (ae.trans (aa d)) (U.trans (ad d))⟩) ?_;rw[YN _ _ l,<-JaQ a v d af];exact Z d aB
def RB (P:Program)(ops:Array Oper)(G:Nat->World->Prop)(top:List Nat)(Q:Exit->Act->World->Prop):List Oper->Nat->(World->Prop)->Act->Prop
 |[],_,d,a=>∀w,d w->Q .normal a w
 |o::rest,k,d,a=>∃b:Value->World->Prop,JX P ops d b o a/\(∀v,Hh G top (k+1) (b v))/\∀v,(∃w,b v w)->RB P ops G top Q rest (k+1) (b v) (a.put o.dst v)
def sqB (md:Region.Mode)(ops:Array Oper):List Nat->Array Bool->Bool
 |[],listed=>decide (Region.ready md ops listed=[])
 |i::l,listed=>decide (Region.ready md ops listed=[i])&&sqB md ops l (listed.setIfInBounds i true)
theorem LI {hd sq:List Nat}{G:Nat->World->Prop}{top:List Nat}{Q:Exit->Act->World->Prop}:∀(l:List Oper) (rest:List Nat) (k:Nat) (e:World->Prop) (b:Array Bool) (a:Act),sq.drop k=rest->k+l.length=sq.length->rest.map (λi=>ops[i]?)=l.map some->sqB md ops rest b=true->
 RB P ops G top Q l k e a->wpH P md ops hd sq G top Q l.length k e b a
 |[],rest,k,e,b,a,g,n,j,d,h=>by
  cases rest with
  |cons i r=>cases j
  |nil=>exact⟨by simpa using n,by simpa[sqB] using d,h⟩
 |o::l,rest,k,e,b,a,g,n,j,d,h=>by
  cases rest with
  |nil=>cases j
  |cons i r=>
   simp only[Jap,JaD] at j;simp only[sqB,YO,YS] at d;obtain⟨u,F⟩:=d;obtain⟨p,I,y,B⟩:=h
   have A:sq[k]? =some i:=by
    have:=congrArg List.head? g;rwa [List.head?_drop] at this
   have C:sq.drop (k+1)=r:=by
    have:=congrArg List.tail g;rwa [List.tail_drop] at this
   refine⟨by rw[u];simp,λJ s z E=>?_⟩;rw[u] at s;obtain rfl:J=i:=by simpa using s
   obtain rfl:o=z:=Yp (j.1.symm.trans E);exact .inr ⟨A,p,I,y,λv t=>LI l r (k+1) (p v) _ _ C (by simp only[Yy] at n;omega) j.2 F (B v t)⟩
def Gw (P:Program)(ops:Array Oper)(b:World->Prop)(C:Oper)(a:Act):Prop:=∃N,C.dst=some N/\Region.wanted C (yielded ops a.tmps)=true/\∀w,b w->(execOp a.eval C).run P w=.ok (.value (a.tmps.getD N undef)) w
theorem Gx {b:World->Prop}{C:Oper}{v:Value}{a:Act}(R:Region.wanted C (yielded ops a.tmps)=true)(u:∀w,b w->(execOp a.eval C).run P w=.ok (.value v) w):YieldsIn P ops b C v a:=Ah R u
theorem Oa {hd sq:List Nat}{G:Nat->World->Prop}{top:List Nat}{Q:Exit->Act->World->Prop}{late grp:Nat->Nat}{e:Act}{C0:World->Prop}{r:Nat}(o:Region.noSelect ops=true)
 (t:A3 md ops hd sq late)(T:∀i∈hd,late i<=top.getD (grp i) 0)
 (F:∀i∈hd,∀B,ops[i]? =some B->0<late i->Gw P ops (G (grp i)) B e):
 ∀(z:List Nat) (l:List Oper) (b:Array Bool) (a:Act),z.map (λi=>ops[i]?)=l.map some->(∀i∈z,i∈hd)->Q4 md ops sq 0 b->Be a.tmps.size l=true->ZW ops l=true->
 Bl md ops z b=true->wpH P md ops hd sq G top Q r 0 C0 (Xr z b) e->wpQuiet P ops C0 (λu=>u=e) l a->wpH P md ops hd sq G top Q (z.length+r) 0 C0 b a
 |[],l,b,a,M,_,_,_,_,_,g,h=>by
  cases l with
  |nil=>
   have h:a=e:=h;subst h;rw[Jau,WM];exact g
  |cons C l=>cases M
 |i::z,l,b,a,M,A,W,d,R,U,g,h=>by
  cases l with
  |nil=>cases M
  |cons C l=>
   simp only[Jap,JaD] at M;obtain⟨X,ac⟩:=M;simp only[Bl,YO] at U;obtain⟨⟨ae,ao⟩,ap⟩:=U;have n:=A i (by simp);have I:i∈Region.ready md ops b:=by simpa using ae
   rw[Be,YO] at d;obtain⟨d,ai⟩:=d;rw[ZW,YO] at R;obtain⟨ag,an⟩:=R
   have L:=Ay (YP o i C · · X) (C::l) a (λp E N Y=>by
    have:=Y4.1 ag p E;rw[Y] at this;intro aa;simp only[JaW] at this;rw[JaT.2 aa] at this;cases this) h
   obtain⟨v,ad,y⟩:=XQ h;rw[show(i::z).length+r=(z.length+r)+1 by simp only[Yy];omega]
   refine RA (late:=late) X (YP o) t n (grp i) (T i n) (z.length+r) 0 C0 b a (WG _) W (YQ X ao) I ad (λaj=>?_)
    (Oa o t T F z l _ _ ac (λaq ak=>A aq (by simp[ak])) (W.head t I n) (by rw[FN];exact ai) an ap g y)
   obtain⟨N,V,ah,J⟩:=F i n C X aj
   have Z:e.tmps.getD N undef=v:=by
    rw[V] at d;simp only[YO,YS,Y4] at d;have af:∀p∈l,p.dst≠some N:=λp E al=>by have:=d.2 p E;rw[al] at this;simp at this
    have:e.tmps[N]? =some v:=by
     rw[AL l _ af y,V];simp[Act.put,JaR,d.1]
    rw[JaX,this];rfl
   rw[Z] at J;have S:∀(j:World->Prop),(∀w,j w->G (grp i) w)->YieldsIn P ops j C v a:=λj s=>(Gx ah (λw am=>J w (s w am))).of_same L.1.symm L.2.symm
   exact⟨S _ (λ_ h=>h),λj s u ar ab=>(S j s).of_same ar ab⟩
def RC (l:List Oper)(hd sq:List Nat)(a:List (Nat×Nat×Nat))(top:List Nat)(b d:List Oper):Bool:=
 let late:=λi=>((a.lookup i).map (·.1)).getD 0
 let grp:=λi=>((a.lookup i).map (·.2)).getD 0
 Region.noSelect l.toArray&&(Un .any l.toArray hd sq late&&(hd.all (λi=>decide (late i<=top.getD (grp i) 0))&&(Bl .any l.toArray hd (Array.replicate l.toArray.size false)&&(ZW l.toArray b&&
  (sqB .any l.toArray sq (Xr hd (Array.replicate l.toArray.size false))&&decide (hd.length+sq.length=l.length))))))
theorem ZY:∀(l:List (Nat×Nat×Nat)) (i:Nat) (m:Nat×Nat),l.lookup i=some m->(i,m)∈l
 |[],i,m,h=>by cases h
 |(q1,b)::r,i,m,h=>by
  rw[List.lookup_cons] at h;by_cases e:(i==q1)=true
  ·simp only[e] at h;have a:i=q1:=by simpa using e
   obtain rfl:b=m:=Yp h;subst a;exact Yf ..
  ·simp only[show(i==q1)=false by simpa using e] at h;exact Yg _ (ZY r i m h)
theorem Az {id:Nat}{Q:Exit->Act->World->Prop}{a:Act}{w:World}{l:List Oper}(b:List Kd)(e:List (Nat×Nat×Nat))(G:Nat->World->Prop)(top:List Nat)(W:P.follows .mixedOrders=true)(ac:b.length=l.length)
 (s:RC l (Qs b 0) (BG b 0) e top (JW b l) ((ZI b l).map (·.2))=true)(hd:Be a.tmps.size (JW b l)=true)
 (h:wpQuiet P l.toArray (λd=>∃x:J2 w,d=x.world) (λj=>(∀p∈e,∀g,l[p.1]? =some g->Gw P l.toArray (G p.2.2) g j)/\
   RB P l.toArray G top Q ((ZI b l).map (·.2)) 0 (λd=>∃x:J2 w,d=x.world) j) (JW b l) a):(Code.region id l.toArray true).wp P Q a w:=by
 simp only[RC,YO,YS,Y4] at s;obtain⟨u,L,R,y,X,A,V⟩:=s;obtain⟨j,⟨B,C⟩,I⟩:=BF _ _ h;have U:=D8 L
 have T:(Qs b 0).map (λi=>l.toArray[i]?)=(JW b l).map some:=by
  have:=ZX (l0:=l) b 0 O;exact Jek
 have o:(BG b 0).map (λi=>l.toArray[i]?)=((ZI b l).map (·.2)).map some:=by
  have:=Gu (l0:=l) b 0 O;rw[List.map_map];simpa[Function.comp_def] using this
 have N:(BG b 0).length=((ZI b l).map (·.2)).length:=by
  have:=congrArg List.length o;exact Jek
 have E:Q4 .any l.toArray (BG b 0) 0 (Array.replicate l.toArray.size false):=
  ⟨by simp,λad aa _ M=>(by rw[getD_replicate_false] at M;cases M),λY t _ z=>by
    have:=(Kh b 0 t (YD z)).2.1;exact getD_in (by simp;omega) (getD_replicate_false _ _),λY t ab z=>O⟩
 have J:=LI (P:=P) (md:=.any) (ops:=l.toArray) (hd:=Qs b 0) (sq:=BG b 0) (G:=G) (top:=top) (Q:=Q) ((ZI b l).map (·.2)) (BG b 0) 0 (λd=>∃x:J2 w,d=x.world) (Xr (Qs b 0) (Array.replicate l.toArray.size false)) j (by simp) O o A C
 have v:=Oa (md:=.any) (r:=((ZI b l).map (·.2)).length) (late:=λi=>((e.lookup i).map (·.1)).getD 0) (grp:=λi=>((e.lookup i).map (·.2)).getD 0) (Q:=Q) (C0:=λd=>∃x:J2 w,d=x.world) u U R
  (λi F g S n=>by
    cases hlk:e.lookup i with
    |none=>rw[hlk] at n;simp at n
    |some m=>
     have Z:=ZY e i m hlk;have:=B (i,m) Z g (by simpa using S);simpa[hlk] using this)
  (Qs b 0) (JW b l) _ a T (λi F=>F) E hd X y J I
 refine YT W ?_;have:=Bm (Q':=Q) _ 0 _ _ _ _ ⟨⟨_,(Jc w.heap.size w).drew⟩,rfl⟩ v;rw[<-N,V,show l.length=l.toArray.size by simp] at this;exact this
end
end
section
open Go.RowKit
theorem JdJ{p:Prop}(h:p:=by
 have e:Hid (foldN n=m):=H (by rw[<-d.out,F4 g]);have l:(m:Int)<=65535:=O;clear d;go_wp2_with fail
 go_ret;exact .mk (by rw[e.out];rfl) (Jc _ _)):p:=h
theorem Uo (m:Nat)(h:m<18446744073709551616):bits .and .u64 (m:Int) 65535=((m%65536:Nat):Int):=by
 have y:=bits_and_u64_nat m 65535 h O;rw[show(65535:Nat)=2^16-1 from rfl,JaB] at y;exact y
theorem RD (n:Nat)(B:n<18446744073709551616)(w:World):Jf 197 #[Jo (n:Int)] w (Jz w (Jo (foldN n:Nat))):=by
 go_enter func197,ntmps197
 go_wp2_with fail
 go_loopw [0] (λu0 wr=>∃m:Nat,m<18446744073709551616/\u0=.int .u64 m/\Hid (foldN m=foldN n)/\wr=w) (λu0 _=>(intOf u0).toNat)
 case atStart=>exact⟨n,B,rfl,H rfl,rfl⟩
 case round=>
  obtain⟨m,W,rfl,d,rfl⟩:=hrel;by_cases g:m<=65535
  ·exact JdJ
  ·have l:¬((m:Int)<=65535):=O;have t:(65535:Int)<m:=O;have j:Hid (foldN (m/65536+m%65536)=foldN n):=H (by rw[HQ,d.out]);have s:Int.tdiv (m:Int) 65536=((m/65536:Nat):Int):=by rw[Jaw O];omega
   have u:Int.tmod (m:Int) 65536=((m%65536:Nat):Int):=by rw[Jax O];omega
   have o:m/65536<281474976710656:=O;have r:m%65536<65536:=O;have p:m/65536+m%65536<m:=O;clear d;generalize m/65536=a at*;generalize m%65536=b at*;go_wp2_with fail
   go_roundw
   case rel=>exact⟨a+b,O,by go_num,j,trivial⟩
   case measure=>simp[intOf];omega
theorem Ob (n:Nat)(B:n<18446744073709551616)(w:World):Jf 198 #[Jo (n:Int)] w (Jz w (Jl (foldN n:Nat))):=by
 have s:=Cy n;go_enter func198,ntmps198
 go_wp2_with fail
 go_step3
 go_wp2_with fail
 go_step3
 go_wp2_with fail
 go_loopg [0] n (λr u0 wr=>∃m:Nat,m=r/\m<18446744073709551616/\u0=.int .u64 m/\Hid (foldN m=foldN n)/\wr=w)
 case atStart=>exact⟨n,rfl,B,rfl,H rfl,rfl⟩
 case round=>
  obtain⟨m,rfl,W,rfl,d,rfl⟩:=hrel;by_cases g:m<=65535
  ·exact JdJ
  ·have l:¬((m:Int)<=65535):=O;have j:Hid (foldN (m%65536+m/65536)=foldN n):=H (by rw[YR,HQ,d.out]);have u:=Uo m W;have v:(m:Int)/65536=((m/65536:Nat):Int):=O;have o:m/65536<281474976710656:=O;have t:m%65536<65536:=O;have p:m%65536+m/65536<m:=O;clear d;generalize m/65536=a at*;generalize m%65536=b at*;go_wp2_with fail
   go_roundg (b+a)
   case measure=>omega
   case rel=>exact⟨b+a,rfl,O,by go_num,j,rfl⟩
structure AM (w:World)(p:Nat)(L:List Int):Prop where
 sum:∃n:Nat,Jg w p 0 (Jo (n:Int))/\n<=200000/\foldN n=foldN (BU true L)
 many:Jg w p 1 (Jk (L.length:Int))
 free:∀j,w.frozen? ⟨p,j,none⟩=false
 lt:p<w.heap.size
theorem AM.put {w:World}{p:Nat}{L o:List Int}(h:AM w p L)(b:J2 w)(e:Nat)(v k:Int)(t:v=e)(A:k=o.length)(J:e<=200000)(z:foldN e=foldN (BU true o)):
 AM ((b.world.setCell ⟨p,0,none⟩ (Jo v)).setCell ⟨p,1,none⟩ (Jk k)) p o:=by
 subst t A;obtain⟨n,I,-⟩:=h.sum;have y:=(b.below.cell (p:=⟨p,0,none⟩) h.lt).trans I;have M:=(b.below.cell (p:=⟨p,1,none⟩) h.lt).trans h.many
 have u:Jg (b.world.setCell ⟨p,0,none⟩ (Jo (e:Int))) p 1 (Jk (L.length:Int)):=by
  rw[W9 _ _ _ _ (by simp)];exact M
 refine⟨⟨e,?_,J,z⟩,W8 _ _ _ u,λj=>?_,?_⟩
 ·rw[W9 _ _ _ _ (by simp)];exact W8 _ _ _ y
 ·rw[Ya,Ya];exact(b.below.frozen (p:=⟨p,j,none⟩) h.lt).trans (h.free j)
 ·have:=Jd h.lt b.below.size;simpa using this
theorem RE (l:List Int)(x:Int):BU true (l++[x])=BU true l+(if l.length%2=0 then x.toNat*256 else x.toNat):=by
 rw[Dk,KT];by_cases h:l.length%2=0
 ·rw[YH h,Yz h];simp[BU]
 ·rw[Yw h,YA h];simp[BU]
def Ki (w:World)(p:Nat)(a:List Int):Ending->World->Prop:=λe d=>e=.returned (.tuple #[])/\AM d p a/\Below p w d
theorem S2 (p:Nat)(a:List Int)(r G:Nat)(m c:Nat)(l:List Int)(w:World)(z:AM w p a)(u:JA w (some ⟨r,G,none⟩) m c l)(M:r<p)(W:m<=1000000)(aj:a.length<=1000000):
 Jf 160 #[.pointer (some ⟨p,0,none⟩),.slice (some ⟨r,G,none⟩) m c] w (Ki w p (a++l)):=by
 have X:=H z;have t:=H u;have Y:=u.len;have ak:=z.lt;clear z u;go_enter func160,ntmps160
 go_wp2_with fail
 go_loopw [11] (λu11 wr=>∃i:Nat,i<=m/\u11=.int .i64 i/\Hid (AM wr p (a++l.take i))/\Hid (Below p w wr)) (λu11 _=>(m:Int)-intOf u11 |>.toNat)
 case atStart=>exact⟨0,WG _,rfl,H (by simpa using X.out),H (Jc _ _)⟩
 case round=>
  obtain⟨i,aa,rfl,b,g⟩:=hrel;by_cases R:i<m
  ·have L:=H (t.belowB g (λaf ha=>by cases ha;exact M));obtain⟨ae,ab,V,ag,I⟩:=L.here O;cases V;have U:=I i R;have P:=t.getD i
   have y:l.take (i+1)=l.take i++[l.getD i 0]:=by
    rw[Yt O,Yi,W2 O];rfl
   obtain⟨n,am,ao,o⟩:=b.sum;have T:=b.many;have ah:=b.free 0;have an:=b.free 1;have F:=b.lt;have j:(a++l.take i).length=a.length+i:=by rw[WV,WR];omega
   rw[j] at T
   have d:Hid (BU true (a++l.take (i+1))=BU true (a++l.take i)+(if (a.length+i)%2=0 then (l.getD i 0).toNat*256 else (l.getD i 0).toNat)):=H (by
    rw[y,<-Jao,RE,j])
   have E:Hid ((a++l.take (i+1)).length=a.length+i+1):=H (by rw[WV,WR];omega);have Z:=H o;have ad:=Cy n;have J:=H (λw=>Ob n O w);have B:Hid (∀v,foldN (foldN n+v)=foldN (BU true (a++l.take i)+v)):=H λv=>by rw[o];exact PV _ v
   obtain⟨x,A⟩:∃x:Nat,l.getD i 0=x:=⟨(l.getD i 0).toNat,O⟩
   rw[A] at U P d;simp only[Jak] at d;obtain⟨e,ac,C⟩:∃e:Nat,Int.tmod ((a.length+i:Nat):Int) 2=e/\e=(a.length+i)%2:=⟨_,by rw[Jax O];omega,rfl⟩
   rw[<-C] at d;have N:e=0\/e=1:=O;generalize ai:a.length+i=k at*;have al:k<=2000000:=O;clear I y C o j A Y;generalize foldN n=s at*;rcases N with rfl|rfl
   ·rw[YH rfl] at d;go_wp2_with fail
    refine Calls.later (J _) ?_;intro Q;go_wp2_with fail
    exact⟨⟨i+1,O,by go_num,H (b.put Q (s+x*256) _ _ O (by rw[E.out];omega) O (by rw[d.out,B.out])),H ((((g.trans (Q.below.mono (Ja1 F))).setCell (by simp only;omega) _)).setCell (by simp only;omega) _)⟩,by simp[intOf];omega⟩
   ·rw[Yw O] at d;go_wp2_with fail
    refine Calls.later (J _) ?_;intro Q;go_wp2_with fail
    exact⟨⟨i+1,O,by go_num,H (b.put Q (s+x) _ _ O (by rw[E.out];omega) O (by rw[d.out,B.out])),H ((((g.trans (Q.below.mono (Ja1 F))).setCell (by simp only;omega) _)).setCell (by simp only;omega) _)⟩,by simp[intOf];omega⟩
  ·obtain rfl:i=m:=O;have S:Hid (AM wr p (a++l)):=H (by have:=b.out;rwa [Jav O] at this);clear b;go_wp2_with fail
   go_end0
   exact⟨rfl,S.out,g.out⟩
end
end Go.Proofs.YtkgjbipfhhjlpaaGreatDoor
