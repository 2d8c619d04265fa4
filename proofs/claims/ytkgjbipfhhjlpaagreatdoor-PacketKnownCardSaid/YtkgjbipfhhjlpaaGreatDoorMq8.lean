import Derived.Test.YtkgjbipfhhjlpaaGreatDoorMq7
set_option linter.unusedVariables false
set_option linter.unusedSimpArgs false
set_option maxRecDepth 100000
set_option maxHeartbeats 32000000
namespace Go.Proofs.YtkgjbipfhhjlpaaGreatDoor
open Go.Proofs.Tryz
section
open Go.RowKit
theorem Jd8{p:Prop}(h:p:=by
 subst r;obtain rfl:p=d:=Yp (F.symm.trans s);exact⟨λ_=>⟨v,λV g _=>Q V g,E⟩,λh=>by rw[Y] at h;cases h⟩):p:=h
theorem Jek{p:Prop}(h:p:=by
 simpa using this):p:=h
section
variable {P:Program} {ops:Array Oper} {md:Region.Mode}
def ZV (P:Program)(ops:Array Oper)(w:World)(b:List Bj)(C:Oper)(v:Value)(a:Act):Prop:=∀V,Ji w V->B1 V b->YieldsIn P ops (Ag V) C v a
def B2 (P:Program)(ops:Array Oper)(w:World)(g:List Bj)(C:Oper)(d:Nat->Nat->Value->World->Prop)(a:Act):Prop:=
 Region.wanted C (yielded ops a.tmps)=true/\∀V,Ji w V->B1 V g->
  (∃v w2,(execOp a.eval C).run P V=.ok (.value v) w2/\Ji V w2/\d V.heap.size w2.heap.size v w2)\/
  (∃f b,(execOp a.eval C).run P V=.ok (.enter f b) V/\Calls P f b V (λe w2=>∃v,e=.returned v/\Ji V w2/\d V.heap.size w2.heap.size v w2))
def wpX (P:Program)(md:Region.Mode)(ops:Array Oper)(w:World)(n:Nat)(j:Nat->Bool)(o:Array Bool->Act->List Bj->Prop):Nat->Array Bool->Act->List Bj->Prop
 |0,listed,a,b=>o listed a b
 |f+1,listed,a,b=>Region.ready md ops listed≠[]/\∀i∈Region.ready md ops listed,i<n/\∀g,ops[i]? =some g->
  ((j i=false->∃v,ZV P ops w b g v a/\wpX P md ops w n j o f (listed.setIfInBounds i true) (a.put g.dst v) b)/\
   (j i=true->∃l,B2 P ops w b g l a/\D3 l/\∀e F v,w.heap.size<=e->e<=F->(∀p∈b,p.hi<=e)->(∃d,l e F v d)->wpX P md ops w n j o f (listed.setIfInBounds i true) (a.put g.dst v) (⟨e,F,l e F v⟩::b)))
theorem EN {w:World}{n g:Nat}{wd:Nat->Bool}{L:Array Bool->Act->List Bj->Prop}{Q':Exit->Act->World->Prop}
 (t:∀listed a b d,Ji w d->B1 d b->L listed a b->wpAny P md ops Q' g listed a d):
 ∀(f:Nat) (listed:Array Bool) (a:Act) (b:List Bj) (d:World),Ji w d->B1 d b->wpX P md ops w n wd L f listed a b->wpAny P md ops Q' (f+g) listed a d
 |0,listed,a,b,d,R,M,h=>by rw[WM];exact t _ _ _ _ R M h
 |f+1,listed,a,b,d,R,M,h=>by
  rw[show f+1+g=(f+g)+1 from O];refine⟨λX=>absurd X h.1,λi F=>?_⟩;obtain⟨_,s,B,_⟩:=YK.1 F;obtain⟨j,y⟩:=(h.2 i F).2 s B;cases hmk:wd i with
  |false=>
   obtain⟨v,S,A⟩:=j hmk;refine YJ (C:=Ag d) (K:=λG=>G=a.put s.dst v) ⟨⟨d,Jc _ _⟩,rfl⟩ (λG V N ha=>?_) ((S d R M).qOp B rfl);obtain⟨x,rfl⟩:=N;subst ha;exact EN t f _ _ b _ (Wx R x.below) (M.below x.below) A
  |true=>
   obtain⟨T,W,z,A⟩:=y hmk
   have J:∀v w2,Ji d w2->T d.heap.size w2.heap.size v w2->wpAny P md ops Q' (f+g) (listed.setIfInBounds i true) (a.put s.dst v) w2:=λv w2 l o=>by
    refine EN t f _ _ _ _ (Wx R l) ?_ (A d.heap.size w2.heap.size v R.size l.size (λp E=>(M p E).1) ⟨w2,o⟩);intro p E;rcases YE.1 E with rfl|E
    ·exact⟨Je _,λaa Y=>z _ _ _ _ _ o (Je _) Y⟩
    ·exact M.below l p E
   unfold wpOp;simp only[B,W.1,YW];refine .inl ?_;unfold Oper.wp;rcases W.2 d R M with ⟨v,w2,u,l,o⟩|⟨U,Z,u,I⟩
   ·rw[u];exact J v w2 l o
   ·rw[u,JaS];refine I.mono ?_;rintro e w2 ⟨v,rfl,l,o⟩;exact J v w2 l o
theorem ZV.of_unput {w:World}{n:List Bj}{d e:Oper}{v j:Value}{a:Act}(o:∀S b,d.op≠ .select S b)(h:ZV P ops w n d v (a.put e.dst j))(l:∀N,e.dst=some N->N∉d.looksAt ops):ZV P ops w n d v a:=
 λV g M=>(h V g M).of_same (JaN d o a e.dst j l).symm (JaO d a e.dst j l).symm
theorem B2.of_unput {w:World}{l:List Bj}{d e:Oper}{n:Nat->Nat->Value->World->Prop}{g:Value}{a:Act}(o:∀S b,d.op≠ .select S b)(h:B2 P ops w l d n (a.put e.dst g))(j:∀N,e.dst=some N->N∉d.looksAt ops):B2 P ops w l d n a:=by
 have p:=(JaN d o a e.dst g j).symm;have R:=(JaO d a e.dst g j).symm;unfold B2 at*;rw[p,R];exact h
theorem Rt {w:World}{n i:Nat}{p:Oper}{v:Value}{L:Nat->Bool}{G:Array Bool->Act->List Bj->Prop}(F:ops[i]? =some p)(Y:L i=false)(T:∀(J:Nat) (aa:Oper) S b,ops[J]? =some aa->aa.op≠ .select S b)
 (z:Region.sinkB md ops n=true)(I:Region.chainB md ops n=true)(B:n<ops.size)(X:i<n)
 (aE:∀l a y,G l a y->∀J∈Region.ready md ops l,n<=J):
 ∀(f:Nat) (l:Array Bool) (a:Act) (y:List Bj),HeadInv md ops n l->
  (∀J d,ops[J]? =some d->J≠i->l.getD J true=false->(∀e∈d.after,Region.binds md e=true->e.on≠i)->p.apart ops d=true)->
  i∈Region.ready md ops l->Xc P ops w p v a->
  wpX P md ops w n L G f (l.setIfInBounds i true) (a.put p.dst v) y->wpX P md ops w n L G (f+1) l a y:=by
 intro f;induction f with
 |zero=>
  intro l a y R _ u Q E;have C:=(YK.1 u).1;refine⟨λh=>(by rw[h] at u;cases u),λJ t=>?_⟩
  have M:J<n:=by
   rcases Yh J n with h|h
   ·exact h
   ·exact absurd t (tail_waits z I B R _ i rfl X C J h)
  refine⟨M,λd s=>?_⟩;by_cases r:J=i
  ·exact Jd8
  ·have:=aE _ _ _ E J (YL t r);omega
 |succ f ar=>
  intro l a y R W u Q E;have C:=(YK.1 u).1;refine⟨λh=>(by rw[h] at u;cases u),λJ t=>?_⟩
  have M:J<n:=by
   rcases Yh J n with h|h
   ·exact h
   ·exact absurd t (tail_waits z I B R _ i rfl X C J h)
  refine⟨M,λd s=>?_⟩;by_cases r:J=i
  ·exact Jd8
  ·obtain⟨ae,ao⟩:=(E.2 J (YL t r)).2 d s;obtain⟨U,ap,av,az⟩:=YK.1 t;obtain rfl:d=ap:=Yp (s.symm.trans av)
   have af:∀e∈d.after,Region.binds md e=true->e.on≠i:=λe au g ax=>by
    have j:=az e au g;rw[ax,getD_both C] at j;cases j
   obtain⟨Z,ag,aC⟩:=JaP (W J d s r U af)
   have aq:∀k ok,ops[k]? =some ok->k≠i->(l.setIfInBounds J true).getD k true=false->
    (∀e∈ok.after,Region.binds md e=true->e.on≠i)->p.apart ops ok=true:=λk ok A aj C ad=>by
    refine W k ok A aj ?_ ad;by_cases ab:J=k
    ·subst ab;exact U
    ·rw[YM true ab] at C;exact C
   have ac:∀(o:Value) N,wpX P md ops w n L G f ((l.setIfInBounds i true).setIfInBounds J true) ((a.put p.dst v).put d.dst o) N->wpX P md ops w n L G (f+1) (l.setIfInBounds J true) (a.put d.dst o) N:=λo N h=>by
    refine ar (l.setIfInBounds J true) (a.put d.dst o) N (R.set t M) aq (YL u (Ne.symm r)) (Q.of_put (λS b=>T i p S b F) aC) ?_;rw[YN _ _ r,<-JaQ a v o ag];exact h
   refine⟨λan=>?_,λah=>?_⟩
   ·obtain⟨o,am,A⟩:=ae an;exact⟨o,am.of_unput (λS b=>T J d S b s) Z,ac o y A⟩
   ·obtain⟨ai,aA,aw,A⟩:=ao ah;exact⟨ai,aA.of_unput (λS b=>T J d S b s) Z,aw,λay al o j aB aD ak=>ac _ _ (A ay al o j aB aD ak)⟩
theorem Ru {w:World}{n m r:Nat}{wd:Nat->Bool}{L:Array Bool->Act->List Bj->Prop}{t:Act->Prop}(j:Region.noSelect ops=true)(z:Region.sinkB md ops n=true)(I:Region.chainB md ops n=true)(B:n<ops.size)(N:m<=n)
 (y:∀i,i<m->wd i=false)(E:∀b a G,L b a G->∀J∈Region.ready md ops b,n<=J):
 ∀(l:List Oper) (k:Nat) (b:Array Bool) (a:Act),(∀J,J<l.length->l[J]? =ops[k+J]?)->k+l.length=m->HeadInv md ops n b->
 ZL md ops l.length k b=true->(∀p,t p->wpX P md ops w n wd L r (Zj l.length k b) p [])->OY P ops w t l a->wpX P md ops w n wd L (l.length+r) b a []
 |[],k,b,a,_,A,_,e,d,h=>by
  rw[Jau,WM];exact d a h
 |o::l,k,b,a,M,A,s,e,d,h=>by
  have X:ops[k]? =some o:=by simpa using(M 0 (by simp)).symm
  simp only[Yy,ZL,YO] at e;obtain⟨⟨u,S⟩,U⟩:=e;have T:k<m:=by simp only[Yy] at A;omega
  have C:k∈Region.ready md ops b:=by simpa using u
  obtain⟨v,R,F⟩:=h;rw[show(o::l).length+r=(l.length+r)+1 by simp only[Yy];omega]
  exact Rt X (y k T) (YP j) z I B O E (l.length+r) b a [] s (YQ X S) C R
   (Ru j z I B N y E l (k+1) _ _ (λJ V=>by have:=M (J+1) (by simp;omega);simpa[WU,YR 1 J] using this) (by simp only[Yy] at A;omega) (s.set C O) U d F)
def D5 (P:Program)(ops:Array Oper)(w:World)(Q:Exit->Act->World->Prop)(l:List Oper):List (Bool×Oper)->Act->List Bj->Prop
 |[],a,b=>∀d,Ji w d->B1 d b->wpList P ops Q l a d
 |(false,C)::rest,a,b=>∃v,ZV P ops w b C v a/\D5 P ops w Q l rest (a.put C.dst v) b
 |(true,C)::rest,a,b=>∃j,B2 P ops w b C j a/\D3 j/\∀e F v,w.heap.size<=e->e<=F->(∀p∈b,p.hi<=e)->(∃d,j e F v d)->D5 P ops w Q l rest (a.put C.dst v) (⟨e,F,j e F v⟩::b)
def S0 (ops:Array Oper)(n:Nat):Nat->Nat->Array Bool->Bool
 |0,_,a=>Region.seqB .any ops (ops.size-n) n a
 |f+1,k,a=>decide (Region.ready .any ops a=[k])&&S0 ops n f (k+1) (a.setIfInBounds k true)
theorem Dp {w:World}{Q:Exit->Act->World->Prop}{n:Nat}{wd:Nat->Bool}{z:List Oper}(L:Array Bool->Act->List Bj->Prop)
 (s:∀e a o,Region.seqB .any ops (ops.size-n) n e=true->(∀d,Ji w d->B1 d o->wpList P ops Q z a d)->L e a o):
 ∀(l:List (Bool×Oper)) (k:Nat) (e:Array Bool) (a:Act) (o:List Bj),(∀J,J<l.length->(l[J]?).map (·.2)=ops[k+J]?/\(l[J]?).map (·.1)=some (wd (k+J)))->k+l.length=n->S0 ops n l.length k e=true->
 D5 P ops w Q z l a o->wpX P .any ops w n wd L l.length e a o
 |[],k,e,a,o,_,A,p,h=>s e a o p h
 |(b,C)::l,k,e,a,o,M,A,p,h=>by
  simp only[Yy,S0,YO,YS] at p;obtain⟨u,B⟩:=p;obtain⟨X,j⟩:=M 0 (by simp);have T:ops[k]? =some C:=by simpa using X.symm
  have E:wd k=b:=by simpa using j.symm
  have y:∀J,J<l.length->(l[J]?).map (·.2)=ops[k+1+J]?/\(l[J]?).map (·.1)=some (wd (k+1+J)):=λJ ab=>by
   have:=M (J+1) (by simp;omega);rw[show k+1+J=k+(J+1) from O];exact Jek
  refine⟨by rw[u];simp,λi F=>?_⟩;rw[u] at F;obtain rfl:i=k:=by simpa using F
  refine⟨by simp only[Yy] at A;omega,λI Y=>?_⟩;obtain rfl:C=I:=Yp (T.symm.trans Y);cases b with
  |false=>
   refine⟨λ_=>?_,λh=>by rw[E] at h;cases h⟩;obtain⟨v,N,t⟩:=h;exact⟨v,N,Dp L s l (i+1) _ _ _ y (by simp only[Yy] at A;omega) B t⟩
  |true=>
   refine⟨λh=>(by rw[E] at h;cases h),λ_=>?_⟩;obtain⟨U,W,G,t⟩:=h;exact⟨U,W,G,λZ F v R aa V S=>Dp L s l (i+1) _ _ _ y (by simp only[Yy] at A;omega) B (t Z F v R aa V S)⟩
theorem Xf {id:Nat}{Q:Exit->Act->World->Prop}{a:Act}{w:World}{l:List Oper}(m:Nat)(b:List Bool)(W:P.follows .mixedOrders=true)
 (G:(Region.noSelect l.toArray&&(decide (m+b.length<l.toArray.size)&&(Region.sinkB .any l.toArray (m+b.length)&&(Region.chainB .any l.toArray (m+b.length)&&(ZL .any l.toArray m 0 (Array.replicate l.toArray.size false)&&S0 l.toArray (m+b.length) b.length m (Zj m 0 (Array.replicate l.toArray.size false)))))))=true)
 (T:Be a.tmps.size (l.take m)=true)
 (h:∃z:Act,(∀V,Ji w V->wpQuiet P l.toArray (λd=>∃x:J2 V,d=x.world) (λe=>e=z) (l.take m) a)/\
   D5 P l.toArray w Q (l.drop (m+b.length)) (b.zip (l.drop m)) z []):(Code.region id l.toArray true).wp P Q a w:=by
 obtain⟨z,R,U⟩:=h;simp only[YO,YS] at G;obtain⟨Z,B,ai,I,Y,X⟩:=G;generalize ag:m+b.length=n at*;have aj:n<l.length:=by simpa using B
 have s:(l.take m).length=m:=by simp;omega
 have C:(l.drop n).length=l.toArray.size-n:=by simp
 have aa:HeadInv .any l.toArray n (Array.replicate l.toArray.size false):=
  ⟨by simp,λJ ak _ M=>(by rw[getD_replicate_false] at M;cases M),λal _ ac=>getD_in (by simpa using ac) (getD_replicate_false _ _)⟩
 let wd:Nat->Bool:=λi=>if i<m then false else b.getD (i-m) false
 have t:(b.zip (l.drop m)).length=b.length:=by rw[List.length_zip,W4];omega
 let E:Array Bool->Act->List Bj->Prop:=λo e u=>Region.seqB .any l.toArray (l.toArray.size-n) n o=true/\∀d,Ji w d->B1 d u->wpList P l.toArray Q (l.drop n) e d
 have A:=Dp (P:=P) (w:=w) (Q:=Q) (n:=n) (wd:=wd) E (λo a u ae y=>⟨ae,y⟩) (b.zip (l.drop m)) m (Zj m 0 (Array.replicate l.toArray.size false)) z []
  (λJ j=>by
    rw[t] at j;have S:J<(l.drop m).length:=by rw[W4];omega
    have ad:(b.zip (l.drop m))[J]? =some (b[J],(l.drop m)[J]):=by
     rw[W2 (by rw[t];exact j),List.getElem_zip]
    rw[ad];refine⟨?_,?_⟩
    ·show some ((l.drop m)[J])=l.toArray[m+J]?;rw[<-W2 S];simp[W6]
    ·show some b[J]=some (wd (m+J));simp only[wd];rw[Yw O,show m+J-m=J from O,Yi,W2 j];rfl) (by rw[t];exact ag) (by rw[t];exact X) U
 rw[t] at A
 have N:=Ru (md:=.any) (m:=m) (r:=b.length) (wd:=wd) (L:=E) Z ai I B O (λi F=>by simp only[wd];rw[YH F]) (λo e u v=>seqB_ready v.1)
  (l.take m) 0 _ a (λJ j=>by
    have ah:J<m:=by rw[s] at j;exact j
    simp[ah]) (by simpa using s) aa (by rw[s];exact Y) (λe ha=>by subst ha;rw[s];exact A) (H2 (l.take m) a T R)
 refine YT W ?_
 have:=EN (Q':=Q) (g:=l.toArray.size-n) (λo e u d af M v=>by
  have:=wpAny_of_seq (md:=.any) (Q':=Q) (l.drop n) n o e d (λJ=>by simp[W6]) (by rw[C];exact v.1) (v.2 d af M);rwa [C] at this) _ _ _ [] _ (Jc w.heap.size w).drew (λp ab=>by cases ab) N
 rw[s,show m+b.length+(l.toArray.size-n)=l.toArray.size from O] at this;exact this
theorem Xz {w:World}{j:Exit->Act->World->Prop}{l:List Oper}{C:Oper}{rest:List (Bool×Oper)}{a:Act}{g:List Bj}(e:Nat->Nat->Value->World->Prop)(h:B2 P ops w g C e a)(z:D3 e)
 (k:∀b F v,w.heap.size<=b->b<=F->(∀p∈g,p.hi<=b)->(∃d,e b F v d)->D5 P ops w j l rest (a.put C.dst v) (⟨b,F,e b F v⟩::g)):D5 P ops w j l ((true,C)::rest) a g:=⟨e,h,z,k⟩
theorem Ch {w:World}{d:Exit->Act->World->Prop}{e:List Oper}{C:Oper}{rest:List (Bool×Oper)}{a:Act}{b:List Bj}(v:Value)(h:ZV P ops w b C v a)
 (k:D5 P ops w d e rest (a.put C.dst v) b):D5 P ops w d e ((false,C)::rest) a b:=⟨v,h,k⟩
theorem ZD {w:World}{e:Exit->Act->World->Prop}{g:List Oper}{a:Act}{b:List Bj}(h:∀d,Ji w d->B1 d b->wpList P ops e g a d):D5 P ops w e g [] a b:=h
theorem B2.call {w:World}{d:List Bj}{C:Oper}{j:Nat->Nat->Value->World->Prop}{a:Act}(f:FuncId)(b:Array Value)(R:Region.wanted C (yielded ops a.tmps)=true)(l:∀V,(execOp a.eval C).run P V=.ok (.enter f b) V)
 (h:∀V,Ji w V->B1 V d->Calls P f b V (λe w2=>∃v,e=.returned v/\Ji V w2/\j V.heap.size w2.heap.size v w2)):B2 P ops w d C j a:=
 ⟨R,λV g M=>.inr ⟨f,b,l V,h V g M⟩⟩
theorem ZV.call {w:World}{b:List Bj}{C:Oper}{v:Value}{a:Act}(f:FuncId)(d:Array Value)(R:Region.wanted C (yielded ops a.tmps)=true)(n:∀V,(execOp a.eval C).run P V=.ok (.enter f d) V)
 (h:∀V,Ji w V->B1 V b->Calls P f d V (Jz V v)):ZV P ops w b C v a:=
 λV g M=>.inl ⟨R,λw2 j=>by
  obtain⟨x,rfl⟩:=j;have l:Ji w x.world:=Wx g x.below;unfold Oper.quietAt;rw[n];refine⟨rfl,(h _ l (M.below x.below)).mono ?_⟩;rintro e o ⟨rfl,Y⟩;exact⟨rfl,⟨o,Wx x.below Y⟩,rfl⟩⟩
theorem ZV.value {w:World}{b:List Bj}{C:Oper}{v:Value}{a:Act}(R:Region.wanted C (yielded ops a.tmps)=true)(d:∀V,(execOp a.eval C).run P V=.ok (.value v) V):ZV P ops w b C v a:=
 λV g M=>.inl ⟨R,λw2 e=>by
  unfold Oper.quietAt;rw[d];exact⟨rfl,rfl⟩⟩
end
end
section
open Go.RowKit
section
variable {P:Program} {ops:Array Oper} {md:Region.Mode}
def EO (P:Program)(ops:Array Oper)(b d:World->Prop)(C:Oper)(v:Value)(a:Act):Prop:=
 Region.wanted C (yielded ops a.tmps)=true/\∀w,b w->∃w2,d w2/\((execOp a.eval C).run P w=.ok (.value v) w2\/((execOp a.eval C).run P w=.ok .skip w2/\v=undef))
theorem EO.of_unput {l n:World->Prop}{d e:Oper}{v g:Value}{a:Act}(o:∀S b,d.op≠ .select S b)(h:EO P ops l n d v (a.put e.dst g))(j:∀N,e.dst=some N->N∉d.looksAt ops):EO P ops l n d v a:=by
 have p:=(JaN d o a e.dst g j).symm;have R:=(JaO d a e.dst g j).symm;unfold EO at*;rw[p,R];exact h
theorem WE {l:World->Prop}{d e:Oper}{v g:Value}{a:Act}(n:∀S b,d.op≠ .select S b)(h:YieldsIn P ops l d v (a.put e.dst g))(j:∀N,e.dst=some N->N∉d.looksAt ops):YieldsIn P ops l d v a:=
 h.of_same (JaN d n a e.dst g j).symm (JaO d a e.dst g j).symm
theorem WD {l:World->Prop}{d e:Oper}{v g:Value}{a:Act}(n:∀S b,d.op≠ .select S b)(h:YieldsIn P ops l d v a)(j:∀N,e.dst=some N->N∉d.looksAt ops):YieldsIn P ops l d v (a.put e.dst g):=
 h.of_same (JaN d n a e.dst g j) (JaO d a e.dst g j)
def wpG (P:Program)(md:Region.Mode)(ops:Array Oper)(n K:Nat)(C:Nat->World->Prop)(Fin:Act->Prop):Nat->Nat->Array Bool->Act->Prop
 |0,k,b,a=>k=K/\Region.ready md ops b=[]/\Fin a
 |f+1,k,b,a=>Region.ready md ops b≠[]/\∀i∈Region.ready md ops b,∀d,ops[i]? =some d->
  ((i<n/\∃v,YieldsIn P ops (C k) d v a/\wpG P md ops n K C Fin f k (b.setIfInBounds i true) (a.put d.dst v))\/
   (i=n+k/\∃v,EO P ops (C k) (C (k+1)) d v a/\wpG P md ops n K C Fin f (k+1) (b.setIfInBounds i true) (a.put d.dst v)))
theorem CN {n K:Nat}{C:Nat->World->Prop}{Fin:Act->Prop}{Q':Exit->Act->World->Prop}(hF:∀a w,Fin a->C K w->Q' .normal a w):
 ∀(f k:Nat) (b:Array Bool) (a:Act) (w:World),C k w->wpG P md ops n K C Fin f k b a->wpAny P md ops Q' f b a w
 |0,k,b,a,w,R,h=>⟨h.2.1,hF a w h.2.2 (h.1▸R)⟩
 |f+1,k,b,a,w,R,h=>by
  refine⟨λX=>absurd X h.1,λi F=>?_⟩;obtain⟨_,g,d,_⟩:=YK.1 F;rcases h.2 i F g d with ⟨-,v,o,A⟩|⟨-,v,⟨W,p⟩,A⟩
  ·refine YJ (C:=C k) (K:=λe=>e=a.put g.dst v) R (λe s l ha=>?_) (o.qOp d rfl);subst ha;exact CN hF f k _ _ _ l A
  ·obtain⟨w2,j,u⟩:=p w R;unfold wpOp;simp only[d,W,YW];refine .inl ?_;unfold Oper.wp;rcases u with u|⟨u,rfl⟩
   ·rw[u];exact CN hF f (k+1) _ _ _ j A
   ·rw[u];exact CN hF f (k+1) _ _ _ j A
structure BX (md:Region.Mode)(ops:Array Oper)(n k:Nat)(listed:Array Bool):Prop where
 size:listed.size=ops.size
 closed:∀j oj,ops[j]? =some oj->listed.getD j false=true->∀e∈oj.after,Region.binds md e=true->listed.getD e.on false=true
 open':∀t,n+k<=t->t<ops.size->listed.getD t true=false
 done:∀t,n<=t->t<n+k->listed.getD t false=true
theorem BX.head {n k i:Nat}{b:Array Bool}(a:BX md ops n k b)(F:i∈Region.ready md ops b)(y:i<n):BX md ops n k (b.setIfInBounds i true):=by
 obtain⟨_,s,u,v⟩:=YK.1 F;refine⟨by simp[a.size],λJ l p M e r g=>?_,λt d j=>by rw[YM true O];exact a.open' t d j,λt d j=>JaU (a.done t d j)⟩;by_cases o:i=J
 ·subst o;obtain rfl:l=s:=Yp (p.symm.trans u);exact JaU (v e r g)
 ·rw[YM false o] at M;exact JaU (a.closed J l p M e r g)
theorem BX.tail {n k:Nat}{b:Array Bool}(a:BX md ops n k b)(F:n+k∈Region.ready md ops b):BX md ops n (k+1) (b.setIfInBounds (n+k) true):=by
 obtain⟨_,v,s,y⟩:=YK.1 F;have z:n+k<ops.size:=(Ja s).1;refine⟨by simp[a.size],λJ d o M e u p=>?_,λt l r=>by rw[YM true O];exact a.open' t O r,λt l r=>?_⟩
 ·by_cases j:n+k=J
  ·subst j;obtain rfl:d=v:=Yp (o.symm.trans s);exact JaU (y e u p)
  ·rw[YM false j] at M;exact JaU (a.closed J d o M e u p)
 ·by_cases h:t=n+k
  ·subst h;have:=a.size;simp;omega
  ·exact JaU (a.done t l O)
def D6 (md:Region.Mode)(ops:Array Oper)(n:Nat)(late:Nat->Nat):Bool:=
 (List.range n).all λi=>(List.range ops.size).any λj=>decide (i<j)&&(Region.waitsFor md ops j i&&(if j<n then decide (late j<=late i) else decide (j<=n+late i)))
theorem Rv {n k:Nat}{a:Array Bool}(I:Region.chainB md ops n=true)(d:BX md ops n k a){t:Nat}(s:n<=t)(u:t∈Region.ready md ops a):t=n+k:=by
 obtain⟨r,o,b,z⟩:=YK.1 u;have v:t<ops.size:=(Ja b).1;rcases Nat.lt_trichotomy t (n+k) with h|h|h
 ·have j:=d.done t s h;rw[getD_both r] at j;cases j
 ·exact h
 ·have j:=Y4.1 I t (Y5.2 v);simp only[Bool.or_eq_true,YS] at j;rcases j with j|j
  ·omega
  ·obtain⟨l,p,e,A,g,B⟩:=Region.waitsFor_spec j;obtain rfl:l=o:=Yp (p.symm.trans b);have y:=z e A g;rw[B,getD_both (d.open' (t-1) O O)] at y;cases y
theorem OZ {n k:Nat}{E:Nat->Nat}{d:Array Bool}(z:D6 md ops n E=true)(I:Region.chainB md ops n=true)(b:BX md ops n k d):
 ∀(N i:Nat),n-i=N->i<n->d.getD i true=false->E i<=k->∀t,n<=t->t∉Region.ready md ops d:=by
 intro N;induction N using Nat.strongRecOn with
 |_ N U=>
  intro i L F p A t C u;have X:=Rv I b C u;obtain⟨_,Q,R,V⟩:=YK.1 u;have j:=Y4.1 z i (Y5.2 F);obtain⟨J,T,B⟩:=List.any_eq_true.1 j;simp only[YO,YS] at B;obtain⟨W,M,a⟩:=B;have S:J<ops.size:=Y5.1 T;obtain⟨l,r,e,s,g,v⟩:=Region.waitsFor_spec M;by_cases G:J=t
  ·subst G;obtain rfl:l=Q:=Yp (r.symm.trans R);have y:=V e s g;rw[v,getD_both p] at y;cases y
  ·by_cases o:J<n
   ·rw[YH o] at a;have a:=JaV a;cases hl:d.getD J false with
    |true=>
     have y:=b.closed J l r hl e s g;rw[v,getD_both p] at y;cases y
    |false=>exact U (n-J) O J rfl o (getD_in (by rw[b.size];exact S) hl) O t C u
   ·rw[Yw o] at a;have a:=JaV a;have y:=b.closed J l r (b.done J O O) e s g;rw[v,getD_both p] at y;cases y
theorem Rw {n E i:Nat}{B:Nat->World->Prop}{Fin:Act->Prop}{late:Nat->Nat}{o:Oper}{v:Value}(F:ops[i]? =some o)(M:∀(J:Nat) (C:Oper) S b,ops[J]? =some C->C.op≠ .select S b)
 (au:D6 md ops n late=true)(I:Region.chainB md ops n=true)(Q:i<n):
 ∀(f k:Nat) (g:Array Bool) (a:Act),k<=late i->BX md ops n k g->
  (∀J d,ops[J]? =some d->J≠i->g.getD J true=false->(∀e∈d.after,Region.binds md e=true->e.on≠i)->o.apart ops d=true)->
  i∈Region.ready md ops g->(∀p,p<=late i->YieldsIn P ops (B p) o v a)->
  wpG P md ops n E B Fin f k (g.setIfInBounds i true) (a.put o.dst v)->wpG P md ops n E B Fin (f+1) k g a:=by
 intro f;induction f with
 |zero=>
  intro k g a A L _ u G y;refine⟨λh=>(by rw[h] at u;cases u),λJ t d s=>?_⟩;by_cases r:J=i
  ·subst r;obtain rfl:o=d:=Yp (F.symm.trans s);exact .inl ⟨Q,v,G k A,y⟩
  ·have h:=YL t r;rw[y.2.1] at h;cases h
 |succ f al=>
  intro k g a A L U u G y;have z:=(YK.1 u).1;refine⟨λh=>(by rw[h] at u;cases u),λJ t d s=>?_⟩;by_cases r:J=i
  ·subst r;obtain rfl:o=d:=Yp (F.symm.trans s);exact .inl ⟨Q,v,G k A,y⟩
  ·have af:=y.2 J (YL t r) d s;obtain⟨X,ai,ar,ao⟩:=YK.1 t;obtain rfl:d=ai:=Yp (s.symm.trans ar)
   have ab:∀e∈d.after,Region.binds md e=true->e.on≠i:=λe ap aj aa=>by
    have j:=ao e ap aj;rw[aa,getD_both z] at j;cases j
   obtain⟨W,ad,an⟩:=JaP (U J d s r X ab)
   have ak:∀k ok,ops[k]? =some ok->k≠i->(g.setIfInBounds J true).getD k true=false->
    (∀e∈ok.after,Region.binds md e=true->e.on≠i)->o.apart ops ok=true:=λk ok A aq z Z=>by
    refine U k ok A aq ?_ Z;by_cases Y:J=k
    ·subst Y;exact X
    ·rw[YM true Y] at z;exact z
   have T:∀(p:Nat) (l:Value),p<=late i->BX md ops n p (g.setIfInBounds J true)->wpG P md ops n E B Fin f p ((g.setIfInBounds i true).setIfInBounds J true) ((a.put o.dst v).put d.dst l)->wpG P md ops n E B Fin (f+1) p (g.setIfInBounds J true) (a.put d.dst l):=λp l ah am h=>by
    refine al p (g.setIfInBounds J true) (a.put d.dst l) ah am ak (YL u (Ne.symm r)) (λac ae=>WD (λS b=>M i o S b F) (G ac ae) an) ?_;rw[YN _ _ r,<-JaQ a v l ad];exact h
   rcases af with ⟨V,l,R,N⟩|⟨rfl,l,R,N⟩
   ·exact .inl ⟨V,l,WE (λS b=>M J d S b s) R W,T k l A (L.head t V) N⟩
   ·have ag:k<late i:=by
     rcases Yh k (late i) with h|h
     ·exact h
     ·exact absurd t (OZ au I L _ i rfl Q z h (n+k) (Nat.le_add_right _ _))
    exact .inr ⟨rfl,l,R.of_unput (λS b=>M _ d S b s) W,T (k+1) l ag (L.tail t) N⟩
def Dq (P:Program)(ops:Array Oper)(C:Nat->World->Prop)(K:Nat)(Fin:Act->Prop):Nat->List Oper->Act->Prop
 |k,[],a=>k=K/\Fin a
 |k,o::rest,a=>∃v,EO P ops (C k) (C (k+1)) o v a/\Dq P ops C K Fin (k+1) rest (a.put o.dst v)
theorem Gq {n K:Nat}{C:Nat->World->Prop}{Fin:Act->Prop}:∀(l:List Oper) (k:Nat) (b:Array Bool) (a:Act),(∀J,l[J]? =ops[n+k+J]?)->
 Region.seqB md ops l.length (n+k) b=true->Dq P ops C K Fin k l a->wpG P md ops n K C Fin l.length k b a
 |[],k,b,a,_,d,h=>⟨h.1,by simpa[Region.seqB] using d,h.2⟩
 |o::l,k,b,a,M,d,h=>by
  have X:ops[n+k]? =some o:=by simpa using(M 0).symm
  simp only[Yy,Region.seqB,YO,YS] at d;obtain⟨u,s⟩:=d;obtain⟨v,j,e⟩:=h;refine⟨by rw[u];simp,λi F g p=>?_⟩;rw[u] at F;obtain rfl:i=n+k:=by simpa using F
  obtain rfl:o=g:=Yp (X.symm.trans p);exact .inr ⟨rfl,v,j,Gq l (k+1) _ _ (λJ=>by have:=M (J+1);rw[show n+(k+1)+J=n+k+(J+1) from O];simpa using this) s e⟩
def ZW (ops:Array Oper):List Oper->Bool
 |[]=>true
 |o::l=>(o::l).all (λp=>match p.dst with|some d=>!(o.looksAt ops).contains d|none=>true)&&ZW ops l
theorem Ay {r:World->Prop}{d:Act}{C:Oper}(e:∀S b,C.op≠ .select S b):∀(l:List Oper) (a:Act),(∀p∈l,∀N,p.dst=some N->N∉C.looksAt ops)->wpQuiet P ops r (λj=>j=d) l a->
 execOp d.eval C=execOp a.eval C/\Region.wanted C (yielded ops d.tmps)=Region.wanted C (yielded ops a.tmps)
 |[],a,_,h=>by have h:a=d:=h;subst h;exact⟨rfl,rfl⟩
 |p::l,a,L,h=>by
  obtain⟨v,-,y⟩:=XQ h;have g:∀N,p.dst=some N->N∉C.looksAt ops:=L p (by simp);obtain⟨s,n⟩:=Ay e l _ (λq o=>L q (by simp[o])) y;exact⟨s.trans (JaN C e a p.dst v g),n.trans (JaO C a p.dst v g)⟩
theorem BF {C:World->Prop}{Q:Act->Prop}:∀(l:List Oper) (a:Act),wpQuiet P ops C Q l a->∃b,Q b/\wpQuiet P ops C (λd=>d=b) l a
 |[],a,h=>⟨a,h,rfl⟩
 |o::l,a,h=>by
  rw[wpQuiet] at h;by_cases R:Region.wanted o (yielded ops a.tmps)=true
  ·simp only[R,YW] at h;obtain⟨v,j,y⟩:=h;obtain⟨b,q,Y⟩:=BF l _ y;refine⟨b,q,?_⟩;rw[wpQuiet];simp only[R,YW];exact⟨v,j,Y⟩
  ·simp only[R] at h;obtain⟨b,q,Y⟩:=BF l _ h;refine⟨b,q,?_⟩;rw[wpQuiet];simp only[R];exact Y
theorem Rx {n K r:Nat}{C:Nat->World->Prop}{Fin:Act->Prop}{late:Nat->Nat}{d:Act}(j:Region.noSelect ops=true)(z:D6 md ops n late=true)(I:Region.chainB md ops n=true)
 (F:∀i s N,i<n->ops[i]? =some s->s.dst=some N->∀k,1<=k->k<=late i->YieldsIn P ops (C k) s (d.tmps.getD N undef) d):
 ∀(l:List Oper) (k:Nat) (b:Array Bool) (a:Act),(∀J,J<l.length->l[J]? =ops[k+J]?)->k+l.length=n->BX md ops n 0 b->Be a.tmps.size l=true->ZW ops l=true->
 ZL md ops l.length k b=true->wpG P md ops n K C Fin r 0 (Zj l.length k b) d->wpQuiet P ops (C 0) (λV=>V=d) l a->wpG P md ops n K C Fin (l.length+r) 0 b a
 |[],k,b,a,_,A,_,_,_,y,g,h=>by
  have h:a=d:=h;subst h;rw[Jau,WM];exact g
 |o::l,k,b,a,M,A,T,L,R,y,g,h=>by
  have X:ops[k]? =some o:=by simpa using(M 0 (by simp)).symm
  simp only[Yy,ZL,YO] at y;obtain⟨⟨u,ag⟩,ah⟩:=y;have t:k<n:=by simp only[Yy] at A;omega
  have G:k∈Region.ready md ops b:=by simpa using u
  rw[Be,YO] at L;obtain⟨e,ac⟩:=L;rw[ZW,YO] at R;obtain⟨ab,af⟩:=R
  have Q:=Ay (YP j k o · · X) (o::l) a (λp E N U=>by
   have:=Y4.1 ab p E;rw[U] at this;intro I;simp only[JaW] at this;rw[JaT.2 I] at this;cases this) h
  obtain⟨v,Y,B⟩:=XQ h;rw[show(o::l).length+r=(l.length+r)+1 by simp only[Yy];omega]
  refine Rw (late:=late) X (YP j) z I t (l.length+r) 0 b a (WG _) T (YQ X ag) G (λS ad=>?_)
   (Rx j z I F l (k+1) _ _ (λJ ai=>by have:=M (J+1) (by simp;omega);simpa[WU,YR 1 J] using this) (by simp only[Yy] at A;omega) (T.head G t) (by rw[FN];exact ac) af ah g B)
  rcases Yo S with rfl|Z
  ·exact Y
  ·cases hod:o.dst with
   |none=>rw[hod] at e;cases e
   |some N=>
    rw[hod] at e;simp only[YO,YS,Y4] at e;have aa:∀p∈l,p.dst≠some N:=λp E ae=>by have:=e.2 p E;rw[ae] at this;simp at this
    have W:d.tmps[N]? =some v:=by
     rw[AL l _ aa B,hod];simp[Act.put,JaR,e.1]
    have:=F k o N t X hod S Z ad;rw[show d.tmps.getD N undef=v by rw[JaX,W];rfl] at this;exact this.of_same Q.1.symm Q.2.symm
theorem H3:∀(l:List (Nat×Nat)) (i m:Nat),l.lookup i=some m->(i,m)∈l
 |[],i,m,h=>by cases h
 |(q1,b)::r,i,m,h=>by
  rw[List.lookup_cons] at h;by_cases e:(i==q1)=true
  ·simp only[e] at h;have a:i=q1:=by simpa using e
   obtain rfl:b=m:=Yp h;subst a;exact Yf ..
  ·simp only[show(i==q1)=false by simpa using e] at h;exact Yg _ (H3 r i m h)
theorem Kg {id:Nat}{o:Exit->Act->World->Prop}{a:Act}{w:World}{l:List Oper}(n:Nat)(late:List (Nat×Nat))(C:Nat->World->Prop)(W:P.follows .mixedOrders=true)
 (B:(Region.noSelect l.toArray&&(decide (n<=l.length)&&(D6 .any l.toArray n (λi=>(late.lookup i).getD 0)&&(Region.chainB .any l.toArray n&&(ZL .any l.toArray n 0 (Array.replicate l.toArray.size false)&&(ZW l.toArray (l.take n)&&Region.seqB .any l.toArray (l.length-n) n (Zj n 0 (Array.replicate l.toArray.size false))))))))=true)
 (L:Be a.tmps.size (l.take n)=true)(v:C 0=λd=>∃x:J2 w,d=x.world)
 (h:wpQuiet P l.toArray (λd=>∃x:J2 w,d=x.world) (λs=>(∀p∈late,∀e N,l[p.1]? =some e->e.dst=some N->∀k,1<=k->k<=p.2->YieldsIn P l.toArray (C k) e (s.tmps.getD N undef) s)/\
   Dq P l.toArray C (l.length-n) (λb=>∀d,C (l.length-n) d->o .normal b d) 0 (l.drop n) s) (l.take n) a):(Code.region id l.toArray true).wp P o a w:=by
 simp only[YO,YS] at B;obtain⟨E,af,z,I,Q,aa,S⟩:=B;obtain⟨s,⟨G,ac⟩,u⟩:=BF _ _ h;have g:(l.take n).length=n:=by simp;omega
 have R:BX .any l.toArray n 0 (Array.replicate l.toArray.size false):=
  ⟨by simp,λJ ae _ M=>(by rw[getD_replicate_false] at M;cases M),λt _ U=>getD_in (by simpa using U) (getD_replicate_false _ _),λt j y=>O⟩
 have T:=Gq (md:=.any) (n:=n) (K:=l.length-n) (C:=C) (Fin:=λb=>∀d,C (l.length-n) d->o .normal b d) (ops:=l.toArray) (l.drop n) 0 (Zj n 0 (Array.replicate l.toArray.size false)) s (λJ=>by simp[W6]) (by rw[W4];exact S) ac;rw[<-v] at u
 have F:=Rx (md:=.any) (n:=n) (K:=l.length-n) (r:=(l.drop n).length) (late:=λi=>(late.lookup i).getD 0) (C:=C) (Fin:=λb=>∀d,C (l.length-n) d->o .normal b d) E z I
  (λi e N ad Y V k j y=>by
    have y:k<=(late.lookup i).getD 0:=y;cases hlk:late.lookup i with
    |none=>rw[hlk] at y;simp at y;omega
    |some m=>
     rw[hlk] at y;have ab:(i,m)∈late:=H3 late i m hlk;exact G (i,m) ab e N (by simpa using Y) V k j y)
  (l.take n) 0 _ a (λJ A=>by
    have Z:J<n:=by rw[g] at A;exact A
    simp[Z]) (by simpa using g) R L aa (by rw[g];exact Q) (by rw[g];exact T) u
 refine YT W ?_;have:=CN (Q':=o) (λb d hF X=>hF d X) _ 0 _ _ _ (by rw[v];exact⟨⟨_,(Jc w.heap.size w).drew⟩,rfl⟩) F;rw[g,W4,show n+(l.length-n)=l.toArray.size by simp;omega] at this;exact this
def VD (Q:World)(a:Nat->World->Prop):Nat->World->Prop
 |0=>λd=>∃x:J2 Q,d=x.world
 |k+1=>a k
theorem LB {b:Nat->World->Prop}{g:Nat}{Fin:Act->Prop}{k:Nat}{C:Oper}{rest:List Oper}{a:Act}(d:World->World)(R:Region.wanted C (yielded ops a.tmps)=true)(u:∀w,b k w->(execOp a.eval C).run P w=.ok .skip (d w))(j:∀w,b k w->b (k+1) (d w))
 (h:Dq P ops b g Fin (k+1) rest (a.put C.dst undef)):Dq P ops b g Fin k (C::rest) a:=⟨undef,⟨R,λw e=>⟨d w,j w e,.inr ⟨u w e,rfl⟩⟩⟩,h⟩
theorem D7 {b:Nat->World->Prop}{e:Nat}{Fin:Act->Prop}{k:Nat}{C:Oper}{rest:List Oper}{a:Act}(v:Value)(R:Region.wanted C (yielded ops a.tmps)=true)(u:∀w,b k w->(execOp a.eval C).run P w=.ok (.value v) w)(g:∀w,b k w->b (k+1) w)
 (h:Dq P ops b e Fin (k+1) rest (a.put C.dst v)):Dq P ops b e Fin k (C::rest) a:=⟨v,⟨R,λw d=>⟨w,g w d,.inl (u w d)⟩⟩,h⟩
theorem Ah {b:World->Prop}{C:Oper}{v:Value}{a:Act}(d:Region.wanted C (yielded ops a.tmps)=true)(u:∀w,b w->(execOp a.eval C).run P w=.ok (.value v) w):YieldsIn P ops b C v a:=
 .inl ⟨d,λw2 y=>by
  unfold Oper.quietAt;rw[u w2 y];exact⟨rfl,rfl⟩⟩
end
end
end Go.Proofs.YtkgjbipfhhjlpaaGreatDoor
