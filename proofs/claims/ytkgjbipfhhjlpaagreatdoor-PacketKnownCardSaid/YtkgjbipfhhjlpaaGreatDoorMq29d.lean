import Derived.Test.YtkgjbipfhhjlpaaGreatDoorMq29c
set_option linter.unusedVariables false
set_option linter.unusedSimpArgs false
set_option maxRecDepth 100000
set_option maxHeartbeats 32000000
namespace Go.Proofs.YtkgjbipfhhjlpaaGreatDoor
open Go.Proofs.Tryz
section
open Go.RowKit
section
variable {P:Program} {ops:Array Oper} {md:Region.Mode}
def ZA (P:Program)(ops:Array Oper)(φ:Option Nat)(R:Nat)(E:FC->Act->Prop):List (Kd×Oper)->(Nat->World->Prop)->List Nat->Nat->FC->Act->Prop
 |[],_,_,_,b,a=>E b a
 |(.w,o)::rest,G,top,k,b,a=>∃d:Value->FC,(JX P ops (b φ) (λv w=>d v φ w) o a)/\(∀v fl,Hh G top (k+1) (d v fl))/\∀v,(∃w,d v φ w)->ZA P ops φ R E rest G top (k+1) (d v) (a.put o.dst v)
 |(.c,o)::rest,G,top,k,b,a=>∃(v:Value) (Ψ:World->Prop),TV P ops Ψ o v a/\(∀fl w,b fl w->Ψ w)/\ZA P ops φ R E rest (Sf G top.length Ψ) (top++[R]) k b (a.put o.dst v)
 |(_,o)::rest,G,top,k,b,a=>∃v,Bf P ops o v a/\ZA P ops φ R E rest G top k b (a.put o.dst v)
theorem Ey {φ:Option Nat}{hd sq:List Nat}{f:Nat}{ob:Obj}{vf:Nat->Value}{Q:Exit->Act->World->Prop}{R:Nat}{E:FC->Act->Prop}{m:Nat}(Z:sq.length<=R)
 (z:∀(J:Nat) (C:Oper) cs b,ops[J]? =some C->C.op≠ .select cs b)(u:∀k T t:Nat,sq[k]? =some t->sq[T]? =some t->k=T)(n:∀J∈hd,J∉sq):
 ∀(l:List (Kd×Oper)) (is:List (Kd×Nat)) (G:Nat->World->Prop) (top:List Nat) (k:Nat) (e:FC) (g:Array Bool) (a:Act),is.map (λp=>ops[p.2]?)=l.map (λp=>some p.2)->is.map (·.1)=l.map (·.1)->(∀p∈is,(p.1=.q\/p.1=.c)->p.2∈hd)->(∀J t,(QW is)[J]? =some t->sq[k+J]? =some t)->Q4 md ops sq k g->
 DA md ops is g=true->(∀ah ai T L U,E L U->Q4 md ops sq T (XG is g)->wpZ P md ops hd sq f ob vf ah ai Q m T L φ (XG is g) U)->
 ZA P ops φ R E l G top k e a->wpZ P md ops hd sq f ob vf G top Q (l.length+m) k e φ g a
 |[],is,G,top,k,e,g,a,j,_,_,_,o,_,A,h=>by
  cases is with
  |cons i is=>cases j
  |nil=>rw[Jau,WM];exact A G top k e a h o
 |(kk,C)::l,is,G,top,k,e,g,a,j,y,Y,W,o,d,A,h=>by
  cases is with
  |nil=>cases j
  |cons q is=>
   obtain⟨ac,i⟩:=q;simp only[Jap,JaD] at j y;obtain⟨rfl,y⟩:=y
   have ha:i∈Region.ready md ops g:=by
    cases ac<;>simp only[DA,YO,YS] at d
    ·cases d
    ·simpa using d.1
    ·rw[d.1];simp
    ·simpa using d.1
    ·cases d
   rw[show((ac,C)::l).length+m=(l.length+m)+1 by simp only[Yy];omega];cases ac with
   |h=>cases d
   |f=>cases d
   |q=>
    simp only[DA,YO] at d;obtain⟨v,s,ab⟩:=h;have I:=Y (.q,i) (by simp) (.inl rfl);refine Al (a0:=a) j.1 z u n I (λ_ _=>True) (λ_ _ _ fl U S F=>(s.of_same S F).yields _) (λ_ _ _ _ _ _ _ _ _ _ _=>trivial) (l.length+m) k e φ g a trivial o (YQ j.1 d.2.1) ha rfl rfl ?_;exact Ey Z z u n l is G top k e _ _ j.2 y (λp M=>Y p (by simp[M])) (λJ t N=>W J t N) (o.other ha (n i I)) d.2.2 A ab
   |c=>
    simp only[DA,YO] at d;obtain⟨v,Ψ,s,aj,ab⟩:=h;have I:=Y (.c,i) (by simp) (.inr rfl);refine Ev (λk e=>Ir (R:=R) (Ψ:=Ψ)) _ _ _ _ _ _ ?_;refine Al (a0:=a) j.1 z u n I (λ_ e=>∀fl w,e fl w->Ψ w) (λ_ e ae fl U S F=>Ah (by rw[F];exact s.1) (λw aa=>by rw[S];exact s.2 w (ae fl w aa))) (λan am ap ao J _ _ _ _ X ag fl w aa=>?_) (l.length+m) k e φ g a aj o (YQ j.1 d.2.1) ha rfl rfl ?_
    ·exact Ow (WJ (W0.1 X).1 Z) (ag fl) w aa
    exact Ey Z z u n l is _ _ k e _ _ j.2 y (λp M=>Y p (by simp[M])) (λJ t N=>W J t N) (o.other ha (n i I)) d.2.2 A ab
   |w=>
    simp only[DA,YO,YS] at d;obtain⟨L,S,F,al⟩:=h;have ad:sq[k]? =some i:=W 0 i rfl;refine⟨by rw[d.1];simp,λJ X af ak=>?_⟩;rw[d.1] at X;obtain rfl:J=i:=by simpa using X
    obtain rfl:C=af:=Yp (j.1.symm.trans ak);refine .inr (.inl ⟨ad,L,S,F,λv s=>?_⟩);exact Ey Z z u n l is G top (k+1) (L v) _ _ j.2 y (λp M=>Y p (by simp[M])) (λJ t N=>by have:=W (J+1) t (by simpa[QW] using N);rwa [show k+(J+1)=k+1+J from O] at this) (o.row2 u ha ad) d.2 A (al v s)
def OA (B:World)(C:FC):Prop:=∀w,C none w->Ji B w/\∀w2,Ji w w2->C (some 0) w2
def Hc (P:Program)(ops:Array Oper)(B:World)(G:Nat->World->Prop)(top:List Nat)(E:Nat->FC->Act->Prop):List (Kd×Oper)->Nat->FC->Act->Prop
 |[],k,b,a=>E k b a
 |(.w,o)::rest,k,b,a=>∃e:Value->FC,(∀fl,JX P ops (b fl) (λv w=>e v fl w) o a)/\(∀v fl,Hh G top (k+1) (e v fl))/\(∀v,OA B (e v))/\∀v,(∃fl w,e v fl w)->Hc P ops B G top E rest (k+1) (e v) (a.put o.dst v)
 |(_,o)::rest,k,b,a=>∃v,Bf P ops o v a/\Hc P ops B G top E rest k b (a.put o.dst v)
theorem Hd {B:World}{G:Nat->World->Prop}{top:List Nat}{ob:Obj}{E E':Nat->FC->Act->Prop}{d:Tmp}{x:Value}{fl:Option Nat}:∀(l:List (Kd×Oper)) (k:Nat) (g:FC) (a:Act),(∀p∈l,(∀S b,p.2.op≠ .select S b)/\d∉p.2.looksAt ops/\p.2.dst≠some d)->
 (∀t n z,E t n z->E' t n (z.put (some d) x))->Hc P ops B G top E l k g a->BY P ops G top false (λf=>f=fl) ob E' l k g (a.put (some d) x)
 |[],k,g,a,_,u,h=>u k g a h
 |(kk,C)::rest,k,g,a,A,u,h=>by
  obtain⟨T,M,L⟩:=A (kk,C) (by simp);have I:∀e,some d=some e->e∉C.looksAt ops:=λe o=>by cases o;exact M
  have o:=JaN C T a (some d) x I;have R:=JaO (ops:=ops) C a (some d) x I;have s:∀v,(a.put (some d) x).put C.dst v=(a.put C.dst v).put (some d) x:=λv=>JaQ a x v (λe j y=>L (y.trans j.symm))
  have r:=λv t n=>Hd (B:=B) (G:=G) (top:=top) (E:=E) (E':=E') (d:=d) (x:=x) (ob:=ob) (fl:=fl) rest t n (a.put C.dst v) (λp U=>A p (by simp[U])) u
  cases kk with
  |h=>obtain⟨v,j,y⟩:=h;exact⟨v,j.of_same o R,by rw[s];exact r v k g y⟩
  |q=>obtain⟨v,j,y⟩:=h;exact⟨v,j.of_same o R,by rw[s];exact r v k g y⟩
  |c=>obtain⟨v,j,y⟩:=h;exact⟨v,j.of_same o R,by rw[s];exact r v k g y⟩
  |f=>obtain⟨v,j,y⟩:=h;exact⟨v,j.of_same o R,by rw[s];exact r v k g y⟩
  |w=>obtain⟨n,j,y,Y,N⟩:=h;exact⟨n,λf V=>(j f).of_same o R,y,λh=>by simp at h,λv J=>by rw[s];exact r v (k+1) (n v) (N v J)⟩
def BQ (P:Program)(ops:Array Oper)(B:World)(V:Value)(C:Oper)(a:Act):Prop:=Region.wanted C (yielded ops a.tmps)=true/\∃f b,∀w,Ji B w->(execOp a.eval C).run P w=.ok (.enter f b) w/\Calls P f b w (Jz w V)
theorem BQ.of_same {B:World}{e:Value}{C:Oper}{a b:Act}(h:BQ P ops B e C a)(g:execOp b.eval C=execOp a.eval C)(l:Region.wanted C (yielded ops b.tmps)=Region.wanted C (yielded ops a.tmps)):BQ P ops B e C b:=by
 unfold BQ at*;rw[g,l];exact h
theorem BQ.seq {U:World}{n:Value}{C:Oper}{a:Act}{l:FC}(h:BQ P ops U n C a)(j:OA U l):JX P ops (l none) (λv w=>∃b:Nat,v=n/\l (some b) w) C a:=by
 obtain⟨R,f,o,I⟩:=h;refine⟨R,λw h=>.inr ⟨f,o,(I w (j w h).1).1,((I w (j w h).1).2).mono ?_⟩⟩;rintro e w2 ⟨rfl,g⟩;exact⟨_,rfl,0,rfl,(j w h).2 w2 g⟩
def He (md:Region.Mode)(ops:Array Oper)(f:Nat):List (Kd×Nat)->Array Bool->Bool
 |[],listed=>decide (Region.ready md ops listed=[f])
 |(.w,i)::r,listed=>decide (Region.ready md ops listed=[f,i])&&(HI md ops ((.w,i)::r) (listed.setIfInBounds f true)&&He md ops f r (listed.setIfInBounds i true))
 |(.q,i)::r,listed=>(Region.ready md ops listed).contains i&&(Region.free md ops listed i&&He md ops f r (listed.setIfInBounds i true))
 |_,_=>false
theorem Hf {hd sq:List Nat}{f:Nat}{ob:Obj}{B:World}{V:Value}{G:Nat->World->Prop}{top:List Nat}{Q:Exit->Act->World->Prop}{E:Nat->FC->Act->Prop}{EF:Nat->Nat->FC->Act->Prop}{u:Oper}{d:Tmp}{m:Nat}(ah:ops[f]? =some u)(ac:u.dst=some d)(al:∀S b,u.op≠ .select S b)(L:f∉sq)
 (W:∀(J:Nat) (C:Oper) S b,ops[J]? =some C->C.op≠ .select S b)(T:∀k o t:Nat,sq[k]? =some t->sq[o]? =some t->k=o)(N:∀J∈hd,J∉sq)(ad:∀b k g a,E k g a->EF b k g (a.put (some d) V)):
 ∀(l:List (Kd×Oper)) (is:List (Kd×Nat)) (k:Nat) (g:FC) (z:Array Bool) (a:Act),is.map (λp=>ops[p.2]?)=l.map (λp=>some p.2)->is.map (·.1)=l.map (·.1)->(∀p∈is,(p.1=.q->p.2∈hd)/\p.2≠f)->(∀J t,(QW is)[J]? =some t->sq[k+J]? =some t)->Q4 md ops sq k z->
 (∀p∈l,(∀S b,p.2.op≠ .select S b)/\d∉p.2.looksAt ops/\p.2.dst≠some d)->(∀p∈l,∀ay,p.2.dst=some ay->ay∉u.looksAt ops)->BQ P ops B V u a->
 He md ops f is z=true->OA B g->(∀b o s A,EF b o s A->o=k+X6 is->Q4 md ops sq o ((XG is z).setIfInBounds f true)->wpZ P md ops hd sq f ob (λ_=>V) G top Q m o s (some b) ((XG is z).setIfInBounds f true) A)->
 Hc P ops B G top E l k g a->wpZ P md ops hd sq f ob (λ_=>V) G top Q (l.length+(m+1)) k g none z a
 |[],is,k,g,z,a,j,_,_,_,M,_,_,ag,n,ae,U,h=>by
  cases is with
  |cons i is=>cases j
  |nil=>
   simp only[He,YS] at n;rw[Jau,WM];refine⟨by rw[n];simp,λJ I af ai=>?_⟩;have Z:=I;rw[n] at I;obtain rfl:J=f:=by simpa using I
   obtain rfl:u=af:=Yp (ah.symm.trans ai);refine .inr (.inr ⟨rfl,L,rfl,ag.seq ae,λb=>?_⟩);rw[ac];exact U b k g _ (ad b k g a h) rfl (M.other Z L)
 |(kk,C)::l,is,k,g,z,a,j,y,Y,aa,M,aj,X,ag,n,ae,U,h=>by
  have aw:∀v,BQ P ops B V u (a.put C.dst v):=λv=>ag.of_same (JaN u al a C.dst v (X (kk,C) (by simp))) (JaO (ops:=ops) u a C.dst v (X (kk,C) (by simp)))
  cases is with
  |nil=>cases j
  |cons q is=>
   obtain⟨ar,i⟩:=q;have aD:=j;have aC:=y;simp only[Jap,JaD] at j y;obtain⟨rfl,y⟩:=y;rw[show((ar,C)::l).length+(m+1)=(l.length+(m+1))+1 by simp only[Yy];omega];cases ar with
   |h=>cases n
   |c=>cases n
   |f=>cases n
   |q=>
    simp only[He,YO] at n;obtain⟨v,ao,aA⟩:=h;have au:=(Y (.q,i) (by simp)).1 rfl;have ha:i∈Region.ready md ops z:=by simpa using n.1
    refine Al (a0:=a) j.1 W T N au (λ_ _=>True) (λ_ _ _ fl A ap ak=>(ao.of_same ap ak).yields _) (λ_ _ _ _ _ _ _ _ _ _ _=>trivial) (l.length+(m+1)) k g none z a trivial M (YQ j.1 n.2.1) ha rfl rfl ?_;exact Hf ah ac al L W T N ad l is k g _ _ j.2 y (λp e=>Y p (by simp[e])) (λJ t am=>aa J t am) (M.other ha (N i au)) (λp e=>aj p (by simp[e])) (λp e=>X p (by simp[e])) (aw _) n.2.2 ae U aA
   |w=>
    have aH:=h;simp only[He,YO,YS] at n;obtain⟨av,aB,aK⟩:=n;obtain⟨s,ap,ak,aI,aE⟩:=h;have ax:sq[k]? =some i:=aa 0 i rfl;refine⟨by rw[av];simp,λJ I af ai=>?_⟩;have Z:=I;rw[av] at I;have az:J=i\/J=f:=by simpa[or_comm] using I
    rcases az with rfl|rfl
    ·obtain rfl:C=af:=Yp (j.1.symm.trans ai);refine .inr (.inl ⟨ax,s,ap none,ak,λv ao=>?_⟩);obtain⟨w,aG⟩:=ao
     exact Hf ah ac al L W T N ad l is (k+1) (s v) _ _ j.2 y (λp e=>Y p (by simp[e])) (λJ t am=>by have:=aa (J+1) t (by simpa[QW] using am);rwa [show k+(J+1)=k+1+J from O] at this) (M.row2 T Z ax) (λp e=>aj p (by simp[e])) (λp e=>X p (by simp[e])) (aw _) aK (aI v)
      (λb o s A an aq ab=>U b o s A an (by simp only[X6];omega) ab) (aE v ⟨none,w,aG⟩)
    ·obtain rfl:u=af:=Yp (ah.symm.trans ai);refine .inr (.inr ⟨rfl,L,rfl,ag.seq ae,λb=>?_⟩);rw[ac];have aF:∀p∈((Kd.w,i)::is),p.2≠J:=λp e=>(Y p e).2
     have aJ:=Hd (ob:=ob) (fl:=some b) (E':=EF b) (d:=d) (x:=V) ((.w,C)::l) k g a aj (λo s A=>ad b o s A) aH
     have:=CQ (vf:=λ_=>V) (m:=m) (f:=J) (hd:=hd) (sq:=sq) (Q:=Q) (F:=λfl=>fl=some b) (fl:=some b) rfl W T N ((.w,C)::l) ((.w,i)::is) k g (z.setIfInBounds J true) _ aD aC (λp e=>(Y p e).1) aa (M.other Z L) aB
      (λo s A an aq ab=>by rw[Ci _ _ _ aF] at ab|-;exact U b o s A an aq ab) aJ
     rw[show((Kd.w,C)::l).length+m=l.length+(m+1) by simp only[Yy];omega] at this;exact this
def OC (w:World):FC:=λ_ d=>∃x:J2 w,d=x.world
theorem Sv (w:World):Ks w (OC w):=λ_ _ h=>by
 obtain⟨x,rfl⟩:=h;refine⟨⟨x,rfl⟩,λw2 y=>?_⟩;obtain⟨a,rfl⟩:=y;exact⟨⟨_,Wx x.below a.below⟩,rfl⟩
theorem MB (w:World):OA w (OC w):=λd h=>by
 obtain⟨x,rfl⟩:=h;exact⟨x.below,λw2 g=>⟨⟨_,Wx x.below g⟩,rfl⟩⟩
def V9 (l:List Oper)(z:List Nat)(g:List (Nat×Nat×Nat))(top:List Nat)(n:List Oper)(a b:List (Kd×Nat))(f:Nat)(N:Tmp):Bool:=
 let late:=λi=>((g.lookup i).map (·.1)).getD 0
 let o:=λi=>if i=f then X6 a else late i
 let grp:=λi=>((g.lookup i).map (·.2)).getD 0
 let sq:=QW (a++b)
 let hd:=z++(XS a++AV b)
 let j:=Xr z (Array.replicate l.toArray.size false)
 let d:=(XG a j).setIfInBounds f true
 Region.noSelect l.toArray&&(Un .any l.toArray (f::z) sq o&&(!z.contains f&&(z.all (λi=>decide (late i<=top.getD (grp i) 0))&&(Bl .any l.toArray z (Array.replicate l.toArray.size false)&&(ZW l.toArray n&&
  (hd.all (λi=>!sq.contains i)&&(!sq.contains f&&(a.all (λp=>decide (p.2≠f)&&decide (p.2<l.length))&&(b.all (λp=>decide (p.2<l.length))&&((Qp l a).all (λp=>!(p.2.looksAt l.toArray).contains N&&(p.2.dst != some N&&(match p.2.dst with|some e=>(match l[f]? with|some C=>!(C.looksAt l.toArray).contains e|none=>false)|none=>true)))&&(He .any l.toArray f a j&&(DA .any l.toArray b d&&
  (decide (Region.ready .any l.toArray (XG b d)=[])&&decide (z.length+a.length+1+b.length=l.length))))))))))))))
theorem Ez {id:Nat}{Q:Exit->Act->World->Prop}{a:Act}{w:World}{l:List Oper}(o:List Kd)(z:List (Nat×Nat×Nat))(G:Nat->World->Prop)(top:List Nat)(e g:List (Kd×Nat))(f:Nat)(V:Value){N:Tmp}{T:Oper}(aS:P.follows .mixedOrders=true)(aT:Nat.ble o.length l.length=true)
 (aa:l[f]? =some T)(aI:T.dst=some N)
 (ae:V9 l (Qs o 0) z top (JW o l) e g f N=true)(hd:Be a.tmps.size (JW o l)=true)
 (h:∃A:Act,(∀ac,Ji w ac->wpQuiet P l.toArray (λd=>∃x:J2 ac,d=x.world) (λu=>u=A) (JW o l) a)/\
   (∀p∈z,∀M,l[p.1]? =some M->Gw P l.toArray (G p.2.2) M A)/\
   BQ P l.toArray w V T A/\Hc P l.toArray w G top (λk s u=>∀b,ZA P l.toArray (some b) (QW (e++g)).length (λs v=>∀d,s (some b) d->Q .normal v d) (Qp l g) G top k s (u.put (some N) V)) (Qp l e) 0 (OC w) A):(Code.region id l.toArray true).wp P Q a w:=by
 have a7:o.length<=l.length:=Jbd aT;obtain⟨A,aq,aU,aF,aP⟩:=h;simp only[V9,YO,YS,Y4] at ae;obtain⟨C,ax,ag,aX,aN,aM,av,af,Y,ai,ak,aH,aW,aR,a4⟩:=ae;have U:=D8 ax
 have ao:∀i∈Qs o 0,i≠f:=λi F an=>by
  subst an;rw[JaT.2 F] at ag;cases ag
 have Z:∀J∈Qs o 0++(XS e++AV g),J∉QW (e++g):=λJ ay I=>by
  have:=av J ay;rw[JaT.2 I] at this;cases this
 have aV:f∉QW (e++g):=λI=>by rw[JaT.2 I] at af;cases af
 have aA:(Qs o 0).map (λi=>l.toArray[i]?)=(JW o l).map some:=by
  have:=ZX (l0:=l) o 0 O;exact Jek
 obtain⟨X,aC⟩:=AO (l:=l) e (Y4.2 λp n=>by simpa using(Y p n).2);obtain⟨ab,am⟩:=AO (l:=l) g (Y4.2 λp n=>by simpa using ai p n);have aZ:e.length=(Qp l e).length:=by have:=congrArg List.length X;simpa using this
 have aY:g.length=(Qp l g).length:=by have:=congrArg List.length ab;simpa using this
 have aO:∀J t,(QW e)[J]? =some t->(QW (e++g))[0+J]? =some t:=λJ t h=>by
  rw[Am,WM,WX (W0.1 h).1];exact h
 have au:∀J t,(QW g)[J]? =some t->(QW (e++g))[0+X6 e+J]? =some t:=λJ t h=>by
  rw[Am,Du,WM,WZ O,show(QW e).length+J-(QW e).length=J from O];exact h
 have aQ:Q4 .any l.toArray (QW (e++g)) 0 (Array.replicate l.toArray.size false):=
  ⟨by simp,λJ a5 _ ad=>(by rw[getD_replicate_false] at ad;cases ad),λal t _ ah=>by
    refine getD_in ?_ (getD_replicate_false _ _);obtain⟨p,n,rfl⟩:=GJ _ t (YD ah);rcases Ye.1 n with n|n
    ·simpa using(Y p n).2
    ·simpa using ai p n,λal t a3 ah=>O⟩
 have aD:=λhinv=>Hf (P:=P) (md:=.any) (ops:=l.toArray) (hd:=Qs o 0++(XS e++AV g)) (sq:=QW (e++g)) (f:=f) (ob:=.cells #[] 0) (B:=w) (V:=V) (G:=G) (top:=top) (Q:=Q) (m:=(Qp l g).length+0)
  (E:=λk s u=>∀b,ZA P l.toArray (some b) (QW (e++g)).length (λs v=>∀d,s (some b) d->Q .normal v d) (Qp l g) G top k s (u.put (some N) V))
  (EF:=λb k s u=>ZA P l.toArray (some b) (QW (e++g)).length (λs v=>∀d,s (some b) d->Q .normal v d) (Qp l g) G top k s u)
  (by simpa using aa) aI (λS b=>YP C f T S b (by simpa using aa)) aV (YP C) U.once Z (λb k s a h=>h b) (Qp l e) e 0 (OC w) (Xr (Qs o 0) (Array.replicate l.toArray.size false)) A (by simpa using X) aC
  (λp n=>⟨λL=>Ye.2 (.inr (Ye.2 (.inl (Cj _ p n L)))),(Y p n).1⟩) aO hinv
  (λp n=>by
    have j:=ak p n;simp only[YO,JaW,bne_iff_ne,ne_eq] at j;have aj:some p.2∈(Qp l e).map (λp=>some p.2):=Yq.2 ⟨p,n,rfl⟩;rw[<-X] at aj;obtain⟨q,L,aJ⟩:=Yq.1 aj;refine⟨λS b=>YP C q.2 p.2 S b (by simpa using aJ),λI=>?_,j.2.1⟩;have y:=j.1;rw[JaT.2 I] at y;cases y)
  (λp n an aL I=>by
    have j:=ak p n;simp only[YO,aL,aa,JaW] at j;have y:=j.2.2;rw[JaT.2 I] at y;cases y) aF aH (MB w)
  (λb al aE u az aw aG=>by
    subst aw
    exact Ey (P:=P) (md:=.any) (ops:=l.toArray) (f:=f) (ob:=.cells #[] 0) (vf:=λ_=>V) (m:=0) (hd:=Qs o 0++(XS e++AV g)) (sq:=QW (e++g)) (Q:=Q) (R:=(QW (e++g)).length) (E:=λs v=>∀d,s (some b) d->Q .normal v d) (φ:=some b) (Je _) (YP C) U.once Z (Qp l g) g G top _ aE _ u (by simpa using ab) am
     (λp n L=>Ye.2 (.inr (Ye.2 (.inr (E8 _ p n L))))) au aG aW (λa6 a1 am a0 a2 ar _=>⟨aR,ar⟩) az) aP
 have ap:=Ec (Sv w) (md:=.any) (hd:=Qs o 0++(XS e++AV g)) (f:=f) (ob:=.cells #[] 0) (vf:=λ_=>V) (w0:=w) (fl:=none) (r:=(Qp l e).length+((Qp l g).length+0+1)) (late:=λi=>if i=f then X6 e else ((z.lookup i).map (·.1)).getD 0) (grp:=λi=>((z.lookup i).map (·.2)).getD 0) (Q:=Q) C U (λi F=>Yg _ F)
  (λi F=>Ye.2 (.inl F)) Z (λi F=>by rw[Yw (ao i F)];exact aX i F)
  (λi F M aK W=>by
    rw[Yw (ao i F)] at W;cases hlk:z.lookup i with
    |none=>rw[hlk] at W;simp at W
    |some m=>
     have aB:=ZY z i m hlk;have:=aU (i,m) aB M (by simpa using aK);simpa[hlk] using this)
  (Qs o 0) (JW o l) _ a aA (λi F=>F) aQ hd aM aN aD aq
 refine YT aS ?_;have:=X3 (Q':=Q) _ 0 _ none _ _ _ ⟨⟨_,(Jc w.heap.size w).drew⟩,rfl⟩ ap;exact Jd4
end
end
end Go.Proofs.YtkgjbipfhhjlpaaGreatDoor
