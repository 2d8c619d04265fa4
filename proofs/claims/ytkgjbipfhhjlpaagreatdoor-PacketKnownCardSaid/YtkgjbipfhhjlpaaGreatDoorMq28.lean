import Derived.Test.YtkgjbipfhhjlpaaGreatDoorMq27
set_option linter.unusedVariables false
set_option linter.unusedSimpArgs false
set_option maxRecDepth 100000
set_option maxHeartbeats 32000000
namespace Go.Proofs.YtkgjbipfhhjlpaaGreatDoor
open Go.Proofs.Tryz
section
open Go.RowKit
theorem Jd3{p:Prop}(h:p:=by
 clear g;go_wp2_with fail
 go_ret;exact .mk rfl ag):p:=h
theorem FH (w:World)(B:Nat)(G:Bool)(Z:Nat->Int)(t:Bool)(g:Nat->Int)(p a b:Int)(v:Bool)(e:Nat->Int)(s:Bool)(d:Nat->Int)(o u r:Int):
 (Op.equalIn (B+6) 30 (.agg (Jbs G t p (Jl a) (Jl b) Z g)) (.agg (Jbs v s o (Jl u) (Jl r) e d))).run prog w=.ok (Is ⟨G,Z,t,g,p,a,b⟩ ⟨v,e,s,d,o,u,r⟩) w:=by
 simp[go_sem,Is,UZ];rw[show b16 Z=[Z 0,Z 1,Z 2,Z 3,Z 4,Z 5,Z 6,Z 7,Z 8,Z 9,Z 10,Z 11,Z 12,Z 13,Z 14,Z 15] from rfl,show b16 e=[e 0,e 1,e 2,e 3,e 4,e 5,e 6,e 7,e 8,e 9,e 10,e 11,e 12,e 13,e 14,e 15] from rfl,show b16 g=[g 0,g 1,g 2,g 3,g 4,g 5,g 6,g 7,g 8,g 9,g 10,g 11,g 12,g 13,g 14,g 15] from rfl,show b16 d=[d 0,d 1,d 2,d 3,d 4,d 5,d 6,d 7,d 8,d 9,d 10,d 11,d 12,d 13,d 14,d 15] from rfl];generalize eqL [Z 0,Z 1,Z 2,Z 3,Z 4,Z 5,Z 6,Z 7,Z 8,Z 9,Z 10,Z 11,Z 12,Z 13,Z 14,Z 15] [e 0,e 1,e 2,e 3,e 4,e 5,e 6,e 7,e 8,e 9,e 10,e 11,e 12,e 13,e 14,e 15]=n;generalize eqL [g 0,g 1,g 2,g 3,g 4,g 5,g 6,g 7,g 8,g 9,g 10,g 11,g 12,g 13,g 14,g 15] [d 0,d 1,d 2,d 3,d 4,d 5,d 6,d 7,d 8,d 9,d 10,d 11,d 12,d 13,d 14,d 15]=l;by_cases j:G=v
 ·by_cases y:t=s
  ·by_cases Y:p=o
   ·by_cases z:a=u
    ·by_cases A:b=r<;>cases n<;>cases l<;>simp[j,y,Y,z,A]
    ·cases n<;>cases l<;>simp[j,y,Y,z]
   ·cases n<;>cases l<;>simp[j,y,Y]
  ·cases n<;>cases l<;>simp[j,y]
 ·cases n<;>cases l<;>simp[j]
theorem Hb (w:World)(e:Nat)(G:Bool)(Z:Nat->Int)(t:Bool)(d:Nat->Int)(p a b n f:Int)(T:Bool):
 (Op.equalIn (e+7) 32 (.agg (Jbt G t p (Jl a) (Jl b) (Jk n) f T Z d)) (.agg (Jbt G t p (Jl a) (Jl b) (Jk n) f T Z d))).run prog w=.ok true w:=by
 simp[go_sem,RK]
attribute [go_sem 5000] Hb
theorem Bx.drop {d w:World}{f:Nat×Obj}{e:List (Nat×Obj)}(h:Bx d w (f::e)):Bx d w e:=⟨λb o W=>h.all b o (Yg _ W),h.out⟩
theorem Bx.sub {d w:World}{e a:List (Nat×Obj)}(h:Bx d w e)(z:∀p,p∈a->p∈e):Bx d w a:=⟨λb C W=>h.all b C (z _ W),h.out⟩
theorem Mz (v:Sp)(m:Ky)(bX:Option Addr)(n bd:Nat)(l:List Int)(aD:EA v)(aC:Fz m)(b8:UF v m l)(w:World)(a0:JA w bX n bd l)(bq:Env w):Jf 7 #[.agg (spV v),.agg (kyV m),.slice bX n bd] w (Jz w (.bool true)):=by
 have af:=H bq;have bx:=H a0;have bm:=a0.len;have bE:=H (BL aD);have bC:=H (λw=>AT v aD w);obtain⟨aE,br,bf,bJ⟩:=b8;have bv:Hid (Qy v=0->∀d C aI c,JA d C aI c (spL v)->Jf 32 #[.agg (spV v),.slice C aI c] d (Jz d (.bool true))):=H λF d C aI c r=>My v aD F (aE F).2.2.2 C aI c d r
 have b1:Hid (Qy v≠0->spL v=[]):=H λh=>by unfold spL;rw[Yw h]
 have cM:Hid (Qy v=0->(spL v).length<=2048):=H λF=>by have h:=(ZT F).len;rw[(ZT F).is];exact h
 have b4:Hid (Qy v=0->0<(spL v).length):=H λF=>(aE F).1
 have bk:Hid (Qy v=0->pkR (spL v)=.tuple #[.agg (Xl ⟨v.k.s,v.k.S,v.k.T,v.k.p,v.k.a,v.k.b,(spL v).length,v.f,false⟩),Jk 0]):=H λF=>(aE F).2.1.is
 have bS:Hid (Qy v=0->(spL v++l).length<=2048->pkR (spL v++l)=.tuple #[.agg (Xl ⟨v.k.s,v.k.S,v.k.T,v.k.p,v.k.a,v.k.b,(spL v).length,v.f,false⟩),Jk 0]):=H λF ca=>((aE F).2.2.1 ca).is
 have a4:Hid (Qy v=0->v.k.s=v.k.t):=H λF=>(ZT F).st
 obtain⟨⟨G,Z,t,o,p,a,b⟩,f,N⟩:=v;obtain⟨E,u,B,s,z,y,A⟩:=m;have ar:=aD.k
 have ci:Hid (Qy ⟨⟨G,Z,t,o,p,a,b⟩,f,N⟩=0->∀d C c,JA d C (spL ⟨⟨G,Z,t,o,p,a,b⟩,f,N⟩).length c (spL ⟨⟨G,Z,t,o,p,a,b⟩,f,N⟩)->Jf 11 #[.slice C (spL ⟨⟨G,Z,t,o,p,a,b⟩,f,N⟩).length c] d (Jz d (.tuple #[.agg (Jbt G t p (Jl a) (Jl b) (Jk ((spL ⟨⟨G,Z,t,o,p,a,b⟩,f,N⟩).length:Int)) f false Z o:Array Value),Jk 0]))):=H λF d C c r=>by
  have h:=AF C _ c _ d r;have e:=bk.out F;have aV:G=t:=a4.out F;rw[e] at h;subst aV;exact h
 have cw:Hid (Qy ⟨⟨G,Z,t,o,p,a,b⟩,f,N⟩=0->(spL ⟨⟨G,Z,t,o,p,a,b⟩,f,N⟩).length+n<=2048->∀d C c,JA d C ((spL ⟨⟨G,Z,t,o,p,a,b⟩,f,N⟩).length+n) c (spL ⟨⟨G,Z,t,o,p,a,b⟩,f,N⟩++l)->Jf 11 #[.slice C ((spL ⟨⟨G,Z,t,o,p,a,b⟩,f,N⟩).length+n) c] d (Jz d (.tuple #[.agg (Jbt G t p (Jl a) (Jl b) (Jk ((spL ⟨⟨G,Z,t,o,p,a,b⟩,f,N⟩).length:Int)) f false Z o:Array Value),Jk 0]))):=H λF a1 d C c r=>by
  have h:=AF C _ c _ d r;have e:=bS.out F (by rw[WV,bm];exact a1);have aV:G=t:=a4.out F;rw[e] at h;subst aV;exact h
 have cy:Hid (2048<(spL ⟨⟨G,Z,t,o,p,a,b⟩,f,N⟩).length+n->∀d C c,JA d C ((spL ⟨⟨G,Z,t,o,p,a,b⟩,f,N⟩).length+n) c (spL ⟨⟨G,Z,t,o,p,a,b⟩,f,N⟩++l)->Jf 11 #[.slice C ((spL ⟨⟨G,Z,t,o,p,a,b⟩,f,N⟩).length+n) c] d (Jz d (.tuple #[.agg (Jbx false false (Jk 0) false:Array Value),Jk 3]))):=H λa1 d C c r=>by
  have h:=AF C _ c _ d r;have e:Q1 (spL ⟨⟨G,Z,t,o,p,a,b⟩,f,N⟩++l)=3:=by unfold Q1;rw[YH (by rw[WV,bm];exact a1)]
  unfold pkR Hg at h;rw[e] at h;exact h
 have cq:Hid (∀d C c,JA d C (spL ⟨⟨G,Z,t,o,p,a,b⟩,f,N⟩).length c (spL ⟨⟨G,Z,t,o,p,a,b⟩,f,N⟩)->(spL ⟨⟨G,Z,t,o,p,a,b⟩,f,N⟩).length<=2048->Jf 10 #[.slice C (spL ⟨⟨G,Z,t,o,p,a,b⟩,f,N⟩).length c] d (J5 d (spL ⟨⟨G,Z,t,o,p,a,b⟩,f,N⟩))):=H λd C c r h=>MQ C _ c _ d r O
 have cm:Hid (∀w,Jf 26 #[.agg (Jbs G t p (Jl a) (Jl b) Z o:Array Value)] w (Jz w (.bool (JS ⟨G,Z,t,o,p,a,b⟩)))):=H λw=>X4 _ _ _ _ _ _ _ w
 have bo:Hid (∀w,Jf 26 #[.agg (Jbs E B z (Jl y) (Jl A) u s:Array Value)] w (Jz w (.bool (JS ⟨E,u,B,s,z,y,A⟩)))):=H λw=>X4 _ _ _ _ _ _ _ w
 have bT:Hid (∀w,Env w->Jf 28 #[.agg (Jbs G t p (Jl a) (Jl b) Z o:Array Value)] w (Jz w (.string ⟨(QY ⟨G,Z,t,o,p,a,b⟩).toArray⟩))):=H λw h=>Cr _ ar w h
 have bZ:Hid (∀w,Env w->Jf 28 #[.agg (Jbs E B z (Jl y) (Jl A) u s:Array Value)] w (Jz w (.string ⟨(QY ⟨E,u,B,s,z,y,A⟩).toArray⟩))):=H λw h=>Cr _ aC w h
 have b5:Hid (∀w,Jf 24 #[.agg (Jbs G t p (Jl a) (Jl b) Z o:Array Value)] w (AY w (JZ ⟨G,Z,t,o,p,a,b⟩).length (JZ ⟨G,Z,t,o,p,a,b⟩))):=H λw=>(Bu _ ar w).mono λ_ _ h=>h.n rfl (Zh _ ar)
 have b9:Hid (∀w,Jf 24 #[.agg (Jbs E B z (Jl y) (Jl A) u s:Array Value)] w (AY w (JZ ⟨E,u,B,s,z,y,A⟩).length (JZ ⟨E,u,B,s,z,y,A⟩))):=H λw=>(Bu _ aC w).mono λ_ _ h=>h.n rfl (Zh _ aC)
 have bO:Hid ((JZ ⟨G,Z,t,o,p,a,b⟩).length<=1000000/\(JZ ⟨E,u,B,s,z,y,A⟩).length<=1000000):=H (by have j:=DC ⟨G,Z,t,o,p,a,b⟩;have al:=DC ⟨E,u,B,s,z,y,A⟩;omega);have cO:Hid (∀w,Jf 30 #[.agg (Jbs G t p (Jl a) (Jl b) Z o:Array Value),.agg (Jbs E B z (Jl y) (Jl A) u s:Array Value)] w (Jz w (Jk (Do ⟨G,Z,t,o,p,a,b⟩ ⟨E,u,B,s,z,y,A⟩)))):=H λw=>Ox _ _ ar aC w
 have cv:Hid (JS ⟨G,Z,t,o,p,a,b⟩=true->∀w,Env w->Jf 22 #[.string ⟨(QY ⟨G,Z,t,o,p,a,b⟩).toArray⟩] w (Jz w (.tuple #[.agg (Jbs G t p (Jl a) (Jl b) Z o:Array Value),Jk 0]))):=H λh w F=>by
  obtain⟨c8,aF,ap⟩:=UG (bf h);have aP:=AR (QY ⟨G,Z,t,o,p,a,b⟩) w br F;rw[aF] at aP;unfold As at aP;simp only[ap] at aP;exact aP
 have cN:Hid (JS ⟨G,Z,t,o,p,a,b⟩=true->JS ⟨E,u,B,s,z,y,A⟩=true->Is ⟨G,Z,t,o,p,a,b⟩ ⟨E,u,B,s,z,y,A⟩=eqL (JZ ⟨G,Z,t,o,p,a,b⟩) (JZ ⟨E,u,B,s,z,y,A⟩)/\(QY ⟨G,Z,t,o,p,a,b⟩==QY ⟨E,u,B,s,z,y,A⟩)=eqL (JZ ⟨G,Z,t,o,p,a,b⟩) (JZ ⟨E,u,B,s,z,y,A⟩)/\(Do ⟨G,Z,t,o,p,a,b⟩ ⟨E,u,B,s,z,y,A⟩==0)=eqL (JZ ⟨G,Z,t,o,p,a,b⟩) (JZ ⟨E,u,B,s,z,y,A⟩)):=H λj al=>by
  obtain⟨aF,ap,a8⟩:=bJ j al;exact⟨aF.symm,ap.trans aF.symm,a8.trans aF.symm⟩
 have ch:Hid (∀(w:World) (a3:Nat),(Op.equalIn (a3+6) 30 (.agg (Jbs G t p (Jl a) (Jl b) Z o)) (.agg (Jbs E B z (Jl y) (Jl A) u s))).run prog w=.ok (Is ⟨G,Z,t,o,p,a,b⟩ ⟨E,u,B,s,z,y,A⟩) w):=H λw a3=>FH w a3 G Z t o p a b E u B s z y A
 have aA:Hid (Bx w ((w.alloc (.cells (Jbw G t p (Jl a) (Jl b) f (Jk N) Z o) 47)).alloc (.cells (Jbs E B z (Jl y) (Jl A) u s) 30)) [(w.heap.size+1,.cells (Jbs E B z (Jl y) (Jl A) u s) 30 (0,0)),(w.heap.size,.cells (Jbw G t p (Jl a) (Jl b) f (Jk N) Z o) 47 (0,0))]):=H (by
  have av:=((Bx.start w).box (Jbw G t p (Jl a) (Jl b) f (Jk N) Z o) 47).box (Jbs E B z (Jl y) (Jl A) u s) 30;rw[show(w.alloc (.cells (Jbw G t p (Jl a) (Jl b) f (Jk N) Z o) 47)).heap.size=w.heap.size+1 by simp] at av;exact av)
 clear ar aD aC a0 bq bS bk a4 aE br bf bJ;generalize Qy ⟨⟨G,Z,t,o,p,a,b⟩,f,N⟩=bl at*;generalize spL ⟨⟨G,Z,t,o,p,a,b⟩,f,N⟩=I at*;generalize JS ⟨G,Z,t,o,p,a,b⟩=aT at*;generalize JS ⟨E,u,B,s,z,y,A⟩=bb at*;generalize QY ⟨G,Z,t,o,p,a,b⟩=ct at*;generalize QY ⟨E,u,B,s,z,y,A⟩=cb at*;generalize JZ ⟨G,Z,t,o,p,a,b⟩=T at*;generalize JZ ⟨E,u,B,s,z,y,A⟩=Y at*;generalize Do ⟨G,Z,t,o,p,a,b⟩ ⟨E,u,B,s,z,y,A⟩=cE at*;generalize Is ⟨G,Z,t,o,p,a,b⟩ ⟨E,u,B,s,z,y,A⟩=ae at*;unfold spV kyV kyC at*;simp only at bC bv|-;go_enter func7,ntmps7
 by_cases c3:n<=40
 rotate_left
 ·have b6:(n:Int)>40:=O;go_wp2_with fail
  refine Jb (Xg _ (af.below aA.out.out)) ?_;rintro e w2 ⟨rfl,g⟩;have ag:=H (Wx aA.out.out g);exact Jd3
 have b6:¬((n:Int)>40):=O;have cI:Jv ((w.alloc (.cells (Jbw G t p (Jl a) (Jl b) f (Jk N) Z o) 47)).alloc (.cells (Jbs E B z (Jl y) (Jl A) u s) 30)) w.heap.size 0 37=(Jbs G t p (Jl a) (Jl b) Z o:Array Value):=by rw[JG _ _ _ _ _ _ _ (aA.at 1 rfl)];simp
 go_wp2_with fail
 have a5:Hid (Bx w (((w.alloc (.cells (Jbw G t p (Jl a) (Jl b) f (Jk N) Z o) 47)).alloc (.cells (Jbs E B z (Jl y) (Jl A) u s) 30)).alloc (.cells (Jbs G t p (Jl a) (Jl b) Z o) 30)) [(w.heap.size+1+1,.cells (Jbs G t p (Jl a) (Jl b) Z o) 30 (0,0)),(w.heap.size+1,.cells (Jbs E B z (Jl y) (Jl A) u s) 30 (0,0)),(w.heap.size,.cells (Jbw G t p (Jl a) (Jl b) f (Jk N) Z o) 47 (0,0))]):=H (by
  have h:=aA.box (Jbs G t p (Jl a) (Jl b) Z o) 30;rw[show((w.alloc (.cells (Jbw G t p (Jl a) (Jl b) f (Jk N) Z o) 47)).alloc (.cells (Jbs E B z (Jl y) (Jl A) u s) 30)).heap.size=w.heap.size+1+1 by simp] at h;exact h)
 clear cI aA;generalize ((w.alloc _).alloc _).alloc _=cW at*;obtain⟨aq,bW⟩:∃b,b=w.heap.size+1+1:=⟨_,rfl⟩
 rw[<-bW] at a5|-;clear bW;refine a5.ret (cm _) ?_;intro ba aw X;clear aw a5;have cg:(aT=true/\bb=true)\/aT=false\/(aT=true/\bb=false):=by cases aT<;>cases bb<;>simp
 rcases cg with ⟨rfl,rfl⟩|rfl|⟨rfl,rfl⟩
 case' inl=>
  have cr:=H (cv rfl);have ax:=H (cN rfl rfl);have aX:Jv ba (w.heap.size+1) 0 37=_:=X.part 1 rfl rfl;have a9:=X.lt 1 rfl;go_wp2_with fail
  refine X.ret (bo _) ?_;intro ck ai aB;clear ai X aX a9;have a7:Jv ck aq 0 37=_:=aB.part 0 rfl rfl;have aZ:=aB.lt 0 rfl;go_wp2_with fail
  refine aB.ret (bT _ (af.below aB.out.out)) ?_;intro c0 cL aW;clear cL aB a7 aZ;go_wp2_with fail
  refine aW.ret (cr _ (af.below aW.out.out)) ?_;intro bw am bp;have an:=H (bp.box (Jbs G t p (Jl a) (Jl b) Z o) 30);clear am bp aW;obtain⟨cS,aK⟩:∃b,b=bw.heap.size:=⟨_,rfl⟩
  go_wp2_with fail
  rw[<-aK] at an|-;clear aK;generalize bw.alloc _=ad at*;have bD:w.heap.size+1<ad.heap.size:=an.lt 2 rfl;have bg:Jv ad (w.heap.size+1) 0 37=(Jbs E B z (Jl y) (Jl A) u s:Array Value):=an.part 2 rfl rfl;have bR:eqL T Y=ae:=ax.1.symm
  have bA:Hid (∀d L J R P,JA d L T.length J T->JA d R Y.length P Y->Jf 14 #[.slice L T.length J,.slice R Y.length P] d (Jz d (.bool ae))):=H λd L J R P cx cH=>by
   have h:=Sn L _ J R _ P T Y d cx cH bO.1 bO.2;rw[bR] at h;exact h
  clear bR;refine QO [.h,.w,.h] [(2,1,0)] (λ_ d=>Jv d (w.heap.size+1) 0 37=(Jbs E B z (Jl y) (Jl A) u s:Array Value)) [1] [(.w,1),(.w,3),(.w,4),(.q,5)] K K K K ?_;apply Exists.intro;refine⟨λbV av=>?_,?_,?_⟩
  ·have aO:=H (an.go av);have bn:=aO.lt 1 rfl;have bc:=aO.lt 2 rfl;have bi:Jv bV aq 0 37=_:=aO.part 1 rfl rfl;have bN:Jv bV (w.heap.size+1) 0 37=_:=aO.part 2 rfl rfl;clear av;exact JcB
  ·intro q bh cX cp;simp only[YE,YF,YG] at bh;rcases bh with rfl;cases cp;exact⟨_,rfl,rfl,λw2 cB=>Z3 _ w2 _ (Jbs E B z (Jl y) (Jl A) u s) K cB rfl⟩
  simp only[Qp,Ja0,Jbf];refine⟨λaa a2 w2=>∃L J,aa=.slice L T.length J/\JA w2 L T.length J T/\Ji ad w2,?_,?_,?_⟩
  ·refine⟨rfl,λd au=>.inr ⟨24,#[.agg (Jbs G t p (Jl a) (Jl b) Z o:Array Value)],K,?_⟩⟩;obtain⟨⟨x,rfl⟩,-⟩:=au;refine(b5 x.world).mono ?_;rintro e w2 ⟨L,J,rfl,j,g⟩;exact⟨_,rfl,L,J,rfl,j,Wx x.below g⟩
  ·rintro aa a2 r-w2 ⟨L,J,-,-,g⟩;exact(J0 g _ 0 37 bD).trans bg
  rintro aa ⟨cJ,L,J,rfl,-⟩;refine⟨λaa a2 w2=>∃R P,aa=.slice R Y.length P/\JA w2 L T.length J T/\JA w2 R Y.length P Y/\Ji ad w2,?_,λ_ _=>J4 rfl,?_⟩
  ·refine⟨rfl,λd au=>.inr ⟨24,#[.agg (Jbs E B z (Jl y) (Jl A) u s:Array Value)],K,?_⟩⟩;obtain⟨cz,cf,F,j,aw⟩:=au;obtain⟨rfl,rfl⟩:L=cz/\J=cf:=by simpa using F
   refine(b9 d).mono ?_;rintro e w2 ⟨R,P,rfl,al,g⟩;exact⟨_,rfl,R,P,rfl,j.below g,al,Wx aw g⟩
  rintro aa ⟨cs,R,P,rfl,-⟩;refine⟨λaa a2 w2=>aa=.bool ae/\Ji ad w2,?_,λ_ _=>J4 rfl,?_⟩
  ·refine⟨rfl,λd au=>.inr ⟨14,#[.slice L T.length J,.slice R Y.length P],K,?_⟩⟩;obtain⟨cP,co,F,j,al,aw⟩:=au;obtain⟨rfl,rfl⟩:R=cP/\P=co:=by simpa using F
   refine(bA d L J R P j al).mono ?_;rintro e w2 ⟨rfl,g⟩;exact⟨_,rfl,rfl,Wx aw g⟩
  rintro aa ⟨cV,rfl,-⟩;refine⟨.bool ae,⟨rfl,λ_=>K⟩,?_⟩;rintro ay ⟨-,aj⟩;have W:=H (an.go aj);clear aj an bA bD bg cJ cs cV;simp only[Act.put,Ja6,Ja7,Ja8];have b7:Jv ay cS 0 37=_:=W.part 0 rfl rfl;have b2:=W.lt 0 rfl;have bi:Jv ay aq 0 37=_:=W.part 1 rfl rfl;have bn:=W.lt 1 rfl;have bN:Jv ay (w.heap.size+1) 0 37=_:=W.part 2 rfl rfl;have bc:=W.lt 2 rfl;have bM:=H (λ(x:J2 ay)=>bT.out x.world ((af.below W.out.out).later x));have bL:=H (λ(x:J2 ay)=>bZ.out x.world ((af.below W.out.out).later x));have cA:(ae != ae)=false:=by simp
  have ap:(ct==cb)=ae:=ax.2.1.trans ax.1.symm;have a8:(cE==0)=ae:=ax.2.2.trans ax.1.symm;have cK:=ch.out;go_wp2_with fail
  refine JM K K ?_
  repeat go_big_quiet_step (first
   |(go_at_call 28;first|(with_reducible exact JD (bM.out _))|(with_reducible exact JD (bL.out _)))
   |(go_at_call 30;(with_reducible exact JD (cO.out _))))
  refine Jaa ?_;intro x;have V:=H ((W.go x.below).drop);clear W b7 b2 bi bn bN bc cA ap a8 cK bM bL;generalize x.world=ah at*;have az:Jv ah w.heap.size 0 39=_:=V.part 2 rfl rfl;have aS:=V.lt 2 rfl;go_wp2_with fail
 case' inr.inl=>
  obtain⟨ah,cU⟩:∃ah,ah=ba:=⟨_,rfl⟩
  subst cU;have V:=H X.out;have az:Jv ah w.heap.size 0 39=_:=V.part 2 rfl rfl;have aS:=V.lt 2 rfl;clear X;go_wp2_with fail
 case' inr.inr=>
  have aX:Jv ba (w.heap.size+1) 0 37=_:=X.part 1 rfl rfl;have a9:=X.lt 1 rfl;go_wp2_with fail
  refine X.ret (bo _) ?_;intro ah ai V;clear ai X aX a9;have az:Jv ah w.heap.size 0 39=_:=V.part 2 rfl rfl;have aS:=V.lt 2 rfl;go_wp2_with fail
 all_goals
  refine Jb (bC _) ?_;rintro e db ⟨ao,aR,rfl,bH,g⟩;have aU:=H (V.go g);have aJ:=H (bH.reads bE);clear bH g V az aS;by_cases F:bl=0
  rotate_left
  ·have c1:(bl != 0)=true:=by simpa using F
   obtain rfl:I=[]:=b1.out F;clear F;go_wp2_with fail
   refine Jb (Xg _ (af.below aU.out.out)) ?_;rintro e S ⟨rfl,g⟩;have ag:=H (Wx aU.out.out g);exact Jd3
  subst F;have bs:=H (cM rfl);have bG:=H (b4 rfl);have cD:=H (ci rfl);have b0:=H (cw rfl);have cC:=H (bv rfl);go_wp2_with fail
  refine aU.ret (cD _ ao aR aJ) ?_;intro S ai ak;have aQ:=H (((aJ.below ai).alloc (.cells (Jbt G t p (Jl a) (Jl b) (Jk (I.length:Int)) f false Z o) 32)).alloc (.cells (Jbt G t p (Jl a) (Jl b) (Jk (I.length:Int)) f false Z o) 32))
  have aL:Hid (Bx w ((S.alloc (.cells (Jbt G t p (Jl a) (Jl b) (Jk (I.length:Int)) f false Z o) 32)).alloc (.cells (Jbt G t p (Jl a) (Jl b) (Jk (I.length:Int)) f false Z o) 32)) [(S.heap.size,.cells (Jbt G t p (Jl a) (Jl b) (Jk (I.length:Int)) f false Z o) 32 (0,0)),(S.heap.size+1,.cells (Jbt G t p (Jl a) (Jl b) (Jk (I.length:Int)) f false Z o) 32 (0,0)),(aq,.cells (Jbs G t p (Jl a) (Jl b) Z o) 30 (0,0)),(w.heap.size+1,.cells (Jbs E B z (Jl y) (Jl A) u s) 30 (0,0)),(w.heap.size,.cells (Jbw G t p (Jl a) (Jl b) f (Jk N) Z o) 47 (0,0))]):=H (by
   have h:=(ak.box (Jbt G t p (Jl a) (Jl b) (Jk (I.length:Int)) f false Z o) 32).box (Jbt G t p (Jl a) (Jl b) (Jk (I.length:Int)) f false Z o) 32;rw[show(S.alloc (.cells (Jbt G t p (Jl a) (Jl b) (Jk (I.length:Int)) f false Z o) 32)).heap.size=S.heap.size+1 by simp] at h;exact h.sub (λp ac=>by simp only[YE,YF,YG] at ac|-;rcases ac with h|h|h|h|h<;>simp[h]))
  have bu:Hid (∀a,ao=some a->a.block<S.heap.size):=H ((aJ.below ai).lt bG);have a7:Jv S aq 0 37=_:=ak.part 0 rfl rfl;have aZ:=ak.lt 0 rfl;have cQ:Jg S w.heap.size 37 (Jq f):=ak.cell 2 37 rfl rfl;have cn:=ak.lt 2 rfl;have cF:=ak.lt 1 rfl;clear ai ak aU aJ;go_wp2_with fail
  generalize (S.alloc _).alloc _=be at*;obtain⟨M,bP⟩:∃b,b=S.heap.size:=⟨_,rfl⟩
  rw[<-bP] at aL aZ cn cF bu|-;clear bP a7 cQ;refine Jb (cq _ ao aR aQ bs) ?_;rintro e c7 ⟨c2,c5,rfl,bK,am⟩;have aY:=H (aL.go am);have aH:=H bK;have bQ:=H am.size;have bB:=H (aQ.below am);have bI:=H (bx.below aY.out.out);have cG:Hid (∀a,ao=some a->a.block<be.heap.size):=H (aQ.lt bG);clear bK am aQ;go_wp2_with (at_builtin;refine JJ.of ?_)
  refine JJ.mk ?_;refine JI _ rfl _ _ 22 rfl 5 be.heap.size underlying22 Bits.infoU8 _ _ _ _ rfl aH _ n _ l rfl bI (by have:=bs.out;omega) bQ.out ?_;intro bz bU cY a6 aG cR;rw[<-Jaj] at a6;have aM:=H (aY.grown aL aG (λa ha=>(aH.lt ha).1));have aN:=H (a6.reads (Jx bE bx.byte))
  have cu:=H (bB.keep aG.size (λa ha bt=>aG.block a.block bt (λe=>by
   obtain⟨c6,cc,da⟩:=Yb.1 e.symm;have j:=(aH.lt cc).1;have al:=cG.out a ha;omega)))
  clear a6 aG cR aL aY aH bB bI bQ;go_wp2_with fail
  by_cases ce:2048<I.length+n
  ·refine aM.ret (cy ce _ bz bU aN) ?_;intro Q aj U;have cT:JE Q M 40=true:=U.row 0 rfl rfl;have b3:M<Q.heap.size:=U.lt 0 rfl;have ab:=H (U.set (Jbx false false (Jk 0) false) O (by intro p ac;simp only[YE,YF,YG] at ac;rcases ac with rfl|rfl|rfl|rfl<;>simp only<;>omega));have cl:decide (((I.length+n:Nat):Int)>2048)=true:=by simp;omega
   clear aj U aM aN;have bF:Jv (Q.setRow M (Jbx false false (Jk 0) false)) M 0 40=_:=ab.part 0 rfl rfl;go_wp2_with fail
   refine Jb (Xg _ (af.below ab.out.out)) ?_;rintro e bY ⟨rfl,g⟩;have ag:=H (Wx ab.out.out g);exact Jd3
  ·refine aM.ret (b0 O _ bz bU aN) ?_;intro Q aj U;have cT:JE Q M 40=true:=U.row 0 rfl rfl;have b3:M<Q.heap.size:=U.lt 0 rfl;have ab:=H (U.set (Jbt G t p (Jl a) (Jl b) (Jk (I.length:Int)) f false Z o) O (by intro p ac;simp only[YE,YF,YG] at ac;rcases ac with rfl|rfl|rfl|rfl<;>simp only<;>omega));have cd:Hid (JA (Q.setRow M (Jbt G t p (Jl a) (Jl b) (Jk (I.length:Int)) f false Z o)) ao I.length aR I):=H ((cu.below aj).keep (by simp) (λa ha bt=>Ja5 _ _ _ _ (Nat.ne_of_lt (bu a ha))));have cl:decide (((I.length+n:Nat):Int)>2048)=false:=by simp;omega
   have bF:Jv (Q.setRow M (Jbt G t p (Jl a) (Jl b) (Jk (I.length:Int)) f false Z o)) M 0 40=_:=ab.part 0 rfl rfl;have cj:Jv (Q.setRow M (Jbt G t p (Jl a) (Jl b) (Jk (I.length:Int)) f false Z o)) (M+1) 0 40=_:=ab.part 1 rfl rfl;have c9:M+1<Q.heap.size:=U.lt 1 rfl;have az:Jv (Q.setRow M (Jbt G t p (Jl a) (Jl b) (Jk (I.length:Int)) f false Z o)) w.heap.size 0 39=_:=ab.part 4 rfl rfl;have aS:w.heap.size<Q.heap.size:=U.lt 4 rfl;clear aj U aM aN;go_wp2_with fail
   generalize Q.setRow M _=c4 at*;refine ab.ret (cC _ ao _ aR cd) ?_;intro bY aK bj;clear aK ab bF cj az;go_wp2_with fail
   refine Jb (Xg _ (af.below bj.out.out)) ?_;rintro e cZ ⟨rfl,g⟩;have ag:=H (Wx bj.out.out g);exact Jd3
theorem UH (i:Int):-200<Int.tmod i 200/\Int.tmod i 200<200:=by
 have j:=Int.tmod_lt_of_pos i (show(0:Int)<200 from D);have y:=Int.lt_tmod_of_pos i (show(0:Int)<200 from D);omega
theorem TA (i:Int):∃k:Nat,k<200/\(0<=i->(k:Int)=i%200)/\∀w,Jf 19 #[Jk i,Jk 200] w (Jz w (Jk (k:Int))):=by
 obtain⟨m,W⟩:∃m,Int.tmod i 200=m:=⟨_,rfl⟩
 have g:=UH i;rw[W] at g;have X:0<=m+200:=O;have a:Int.tmod (m+200) 200=(m+200)%200:=Jax X;obtain⟨k,A⟩:=Jaq (show 0<=(m+200)%200 from O);refine⟨k,O,λh=>by rw[Jax h] at W;omega,λw=>?_⟩;have R:IntKind.i64.wrap (m+200)=m+200:=Jay _ O;have b:Int.tmod (m+200) 200=(k:Int):=a.trans A;clear a A;go_enter func19,ntmps19
 go_wp2_with fail
 go_ret;exact .mk rfl (Jc _ _)
theorem TB (Z a:Nat->Int)(b p:Int)(e:List Int)(z:b=20+(e.length:Int))(A:b<65536)(l:List Int)(M:l=Q7 ⟨0,b,0,false,false,0,64,p,Jt false Z,Jt false a,[]⟩++e)(o:QJ l=0):
 QJ l=0/\ipHl l=20/\∀g j,ipA l g j=(JbP (Jl b) false false (64:Int) p (.slice g 0 j) Z a:Array Value):=by
 obtain⟨d,u⟩:∃d:Int,Q7 ⟨0,b,0,false,false,0,64,p,Jt false Z,Jt false a,[]⟩=Qc ⟨0,b,0,false,false,0,64,p,Jt false Z,Jt false a,[]⟩ d:=⟨_,rfl⟩
 have I:l=69::0::(b/256%256)::(b%256)::0::0::0::0::64::p::(d/256%256)::(d%256)::Z 0::Z 1::Z 2::Z 3::a 0::a 1::a 2::a 3::e:=by
  have v:Bw ⟨0,b,0,false,false,0,64,p,Jt false Z,Jt false a,[]⟩=0:=by unfold Bw;simp
  rw[M,u];unfold Qc be2;simp only[v];rw[show Jt false Z=[Z 0,Z 1,Z 2,Z 3] from rfl,show Jt false a=[a 0,a 1,a 2,a 3] from rfl];simp only[Yx,Jah,Jau];rfl
 have t:l.getD 0 0=69:=by rw[I];rfl
 have n:ipHl l=20:=by unfold ipHl;rw[t];rfl
 have r:w2 l 2=b:=by
  have:w2 l 2=b/256%256*256+b%256:=by rw[I];rfl
  omega
 have y:w2 l 4=0:=by rw[I];rfl
 have s:w2 l 6=0:=by rw[I];rfl
 refine⟨o,n,λg j=>?_⟩;unfold ipA;rw[r,y,s,n,I];rfl
theorem Jc8{p:Prop}(h:p:=by
 cases S;exact⟨_,rfl,rfl,λw2 R=>K⟩):p:=h
def Ex (w:World)(a b:List Int):Ending->World->Prop:=λe d=>∃n o g j,e=.returned (.tuple #[.slice n a.length o,.slice g b.length j])/\JA d n a.length o a/\JA d g b.length j b/\Ji w d
theorem TC (Z b:Nat->Int)(p:Int)(d:U8 Z)(l:U8 b)(E:Jm p)(j:Int)(g:Bool)(e:Int):JF (Q7 ⟨0,j,0,false,g,e,64,p,Jt false Z,Jt false b,[]⟩):=by
 unfold Q7 Qc;refine Jx (Jx (Jx (Jx (Jx (Jx ?_ (JN _)) (JN _)) (JN _)) ?_) (JN _)) (Jx (Jx (JL d _) (JL l _)) (λv a=>by cases a))
 ·intro v a;simp only[YE,YF,YG,Jau] at a;rcases a with rfl|rfl<;>decide
 ·intro v a;simp only[YE,YF,YG] at a;rcases a with rfl|rfl
  ·decide
  ·exact E
theorem Bx.cellSet {a w:World}{d:List (Nat×Obj)}{b:Nat}{S:Array Value}{t:TypeId}(h:Bx a w ((b,.cells S t (0,0))::d))(k:Nat)(v:Value)(g:a.heap.size<=b)(j:∀p∈d,p.1≠b):Bx a (w.setCell ⟨b,k,none⟩ v) ((b,.cells (S.setIfInBounds k v) t (0,0))::d):=by
 refine⟨λc C W=>?_,h.out.setCell g _⟩;rcases YE.1 W with e|W
 ·cases e;exact Jae _ b k S t v (h.at 0 rfl)
 ·exact(WK _ _ _ _ (j _ W)).trans (h.all c C (Yg _ W))
theorem PP (Z b:Nat->Int)(p:Int)(g:List Int)(cut:Nat)(aJ:U8 Z)(aM:U8 b)(E:Jm p)(am:JF g)(bb:8<=cut)(bf:cut%8=0)(bt:cut<g.length)(bE:20+g.length<=2048)
 (s:Option Addr)(n o:Nat)(w:World)(af:JA w s n o (Q7 ⟨0,20+(g.length:Int),0,false,false,0,64,p,Jt false Z,Jt false b,[]⟩++g))(a5:QJ (Q7 ⟨0,20+(g.length:Int),0,false,false,0,64,p,Jt false Z,Jt false b,[]⟩++g)=0):
 Jf 20 #[.slice s n o,Jk 20,Jk (cut:Int)] w (Ex w (Q7 ⟨0,20+(cut:Int),0,false,true,0,64,p,Jt false Z,Jt false b,[]⟩++g.take cut) (Q7 ⟨0,20+((g.length-cut:Nat):Int),0,false,false,((cut/8:Nat):Int),64,p,Jt false Z,Jt false b,[]⟩++g.drop cut)):=by
 have aB:=H af;have bK:Hid (0<n->∀a,s=some a->a.block<w.heap.size):=H (λh=>af.lt h);have a4:n=20+g.length:=by rw[<-af.len,WV,Ct _ (JB _ _) (JB _ _) rfl]
 obtain⟨bl,av,bj⟩:=TB Z b (20+(g.length:Int)) p g rfl O _ rfl a5;clear a5
 have bh:Hid (∀d,JA d s n o (Q7 ⟨0,20+(g.length:Int),0,false,false,0,64,p,Jt false Z,Jt false b,[]⟩++g)->Jf 52 #[.slice s n o] d (λe w2=>∃l t,e=.returned (.tuple #[.agg (JbP (Jl (20+(g.length:Int))) false false (64:Int) p (.slice l 0 t) Z b:Array Value),Jk 20,Jk 0])/\J8 w2 d.heap.size 1 l 0 t []/\Ji d w2)):=H λd r=>by
  refine(Ds s n o _ d r O).mono ?_;rintro e w2 (⟨h,-⟩|⟨-,l,t,rfl,Q,am⟩)
  ·exact absurd bl h
  ·rw[av] at Q;refine⟨l,t,?_,?_,am⟩
   ·rw[bj l t,av];rfl
   ·simpa using Q
 have bN:Hid (∀l t d,JA d l 0 t []->(∀a,l=some a->a.block<d.heap.size)->Jf 53 #[.agg (JbP (Jl (20+(cut:Int))) false true (64:Int) p (.slice l 0 t) Z b:Array Value)] d (JO d (Q7 ⟨0,20+(cut:Int),0,false,true,0,64,p,Jt false Z,Jt false b,[]⟩) 0)):=H λl t d r aR=>by
  have Y:QF ⟨0,20+(cut:Int),0,false,true,0,64,p,Jt false Z,Jt false b,[]⟩=true:=by unfold QF;simp;omega
  have h:=GF ⟨0,20+(cut:Int),0,false,true,0,64,p,Jt false Z,Jt false b,[]⟩ l t d ⟨(show(0:Int)<=0/\(0:Int)<256 from D),⟨by show 0<=20+(cut:Int);omega,by show 20+(cut:Int)<65536;omega⟩,(show(0:Int)<=0/\(0:Int)<65536 from D),(show(0:Int)<=0/\(0:Int)<65536 from D),(show(0:Int)<=64/\(64:Int)<256 from D),E,⟨JB _ _,JL aJ _⟩,⟨JB _ _,JL aM _⟩,λv C=>by cases C⟩ r aR Y;unfold Ai Xs at h;rw[Y] at h;exact h
 have bg:Hid (∀l t d,JA d l 0 t []->(∀a,l=some a->a.block<d.heap.size)->Jf 53 #[.agg (Jcv (Jl (20+((g.length-cut:Nat):Int))) false false (Jl ((cut/8:Nat):Int)) (64:Int) p (.slice l 0 t) Z b:Array Value)] d (JO d (Q7 ⟨0,20+((g.length-cut:Nat):Int),0,false,false,((cut/8:Nat):Int),64,p,Jt false Z,Jt false b,[]⟩) 0)):=H λl t d r aR=>by
  have Y:QF ⟨0,20+((g.length-cut:Nat):Int),0,false,false,((cut/8:Nat):Int),64,p,Jt false Z,Jt false b,[]⟩=true:=by unfold QF;simp;omega
  have h:=GF ⟨0,20+((g.length-cut:Nat):Int),0,false,false,((cut/8:Nat):Int),64,p,Jt false Z,Jt false b,[]⟩ l t d ⟨(show(0:Int)<=0/\(0:Int)<256 from D),⟨by show 0<=20+((g.length-cut:Nat):Int);omega,by show 20+((g.length-cut:Nat):Int)<65536;omega⟩,(show(0:Int)<=0/\(0:Int)<65536 from D),⟨by show(0:Int)<=((cut/8:Nat):Int);omega,by show((cut/8:Nat):Int)<65536;omega⟩,(show(0:Int)<=64/\(64:Int)<256 from D),E,⟨JB _ _,JL aJ _⟩,⟨JB _ _,JL aM _⟩,λv C=>by cases C⟩ r aR Y;unfold Ai Xs at h;rw[Y] at h;exact h
 have bc:=H (Bx.start w);have aG:Hid ((∀bB bz bm,JF (Q7 ⟨0,bB,0,false,bz,bm,64,p,Jt false Z,Jt false b,[]⟩))/\JF g):=H ⟨λa aP c=>TC Z b p aJ aM E a aP c,am⟩;obtain⟨q,ax⟩:∃q:Int,((cut/8:Nat):Int)=q:=⟨_,rfl⟩
 obtain⟨y,aH⟩:∃q:Int,20+((g.length-cut:Nat):Int)=q:=⟨_,rfl⟩
 rw[ax,aH] at bg|-;have aE:=H ax;have a8:=H aH;clear ax aH;have M:=H a4;have cb:=H (And.intro bb bf);have A:=H (And.intro bt bE);clear bl av bj a4 bb bf af am;have ba:Hid (((Q7 ⟨0,20+(g.length:Int),0,false,false,0,64,p,Jt false Z,Jt false b,[]⟩++g)).drop 20=g):=H (List.drop_left' (Ct _ (JB _ _) (JB _ _) rfl));generalize bn:(Q7 ⟨0,20+(g.length:Int),0,false,false,0,64,p,Jt false Z,Jt false b,[]⟩++g)=az at*;clear bn;go_enter func20,ntmps20
 go_wp2_with fail
 refine Jb (bh _ aB) ?_;rintro e T ⟨l,t,rfl,bi,al⟩;have bu:=H ((bc.go al).box (JbP (Jl (20+(g.length:Int))) false false (64:Int) p (.slice l 0 t) Z b) 113);have aL:=H bi;clear bi bh;have aN:=al.size;obtain⟨u,aY⟩:∃aP,aP=T.heap.size:=⟨_,rfl⟩
 have bO:IntKind.i64.wrap (20+(cut:Int))=20+(cut:Int):=by rw[JaI];omega
 have bR:IntKind.u16.wrap (20+(cut:Int))=20+(cut:Int):=by rw[Jbi];omega
 go_wp2_with fail
 have aj:Hid (Bx w (T.alloc (.cells (JbP (Jl (20+(cut:Int))) false true (64:Int) p (.slice l 0 t) Z b) 113)) [(T.heap.size,.cells (JbP (Jl (20+(cut:Int))) false true (64:Int) p (.slice l 0 t) Z b) 113 (0,0))]):=H ((bc.go al).box (JbP (Jl (20+(cut:Int))) false true (64:Int) p (.slice l 0 t) Z b) 113);have W:Hid (JA (T.alloc (.cells (JbP (Jl (20+(cut:Int))) false true (64:Int) p (.slice l 0 t) Z b) 113)) l 0 t []/\∀a,l=some a->a.block<(T.alloc (.cells (JbP (Jl (20+(cut:Int))) false true (64:Int) p (.slice l 0 t) Z b) 113)).heap.size):=H ⟨(aL.below (Below.all (Jc _ _) _)).reads (λv C=>by cases C),λa ha=>by have:=(aL.lt ha).2;simp;omega⟩;generalize bU:T.alloc (.cells (JbP (Jl (20+(cut:Int))) false true (64:Int) p (.slice l 0 t) Z b) 113)=V at*;clear bU bu aL bO bR;rw[<-aY] at aj aN|-;clear aY al;refine Jb (bN l t _ W.1 W.2) ?_;rintro e B ⟨ad,bP,rfl,a7,ab⟩;have N:=H (aj.go ab);have aF:=H a7;have ao:Hid (JA B l 0 t []/\∀a,l=some a->a.block<B.heap.size):=H ⟨W.1.below ab,λa ha=>Jd (W.2 a ha) ab.size⟩;have be:u<V.heap.size:=aj.lt 0 rfl;have aA:=ab.size;clear a7 ab W aj;have bQ:Jg B u 4 (.bool true):=N.cell 0 4 rfl rfl;have bT:Jg B u 5 (Jl 0):=N.cell 0 5 rfl rfl;have z:Jg B u 1 (Jl (20+(cut:Int))):=N.cell 0 1 rfl rfl;have bq:=Jad _ _ 4 _ _ (N.at 0 rfl);have bx:=Jad _ _ 5 _ _ (N.at 0 rfl);have br:=Jad _ _ 1 _ _ (N.at 0 rfl);have aO:w.heap.size<=u:=aN;have aS:=H (((N.cellSet 4 (.bool false) aO (λp E=>by cases E)).cellSet 5 (Jl q) aO (λp E=>by cases E)).cellSet 1 (Jl y) aO (λp E=>by cases E));have bo:Jv (((B.setCell ⟨u,4,none⟩ (.bool false)).setCell ⟨u,5,none⟩ (Jl q)).setCell ⟨u,1,none⟩ (Jl y)) u 0 17=(Jcv (Jl y) false false (Jl q) (64:Int) p (.slice l 0 t) Z b:Array Value):=aS.part 0 rfl rfl;have aw:IntKind.i64.wrap (Int.tdiv (cut:Int) 8)=q:=by have:=A.out;rw[Jaw O,JaI,<-aE.out];omega
 have ca:(cut:Int)/8=q:=by rw[<-aE.out];omega
 have b0:IntKind.u16.wrap q=q:=by have:=A.out;rw[Jbi,<-aE.out];omega
 have b6:IntKind.i64.wrap ((n:Int)-(cut:Int))=y:=by have:=A.out;have:=M.out;rw[JaI,<-a8.out];omega
 have b5:IntKind.u16.wrap y=y:=by have:=A.out;rw[Jbi,<-a8.out];omega
 have bv:u<B.heap.size:=Jd be aA;have ay:Hid (w.heap.size<=V.heap.size):=H O;clear aN;go_wp2_with fail
 have ak:∀a,ad=some a->a.block≠u:=λa ha=>by have:=(aF.lt ha).1;omega
 have aT:=H (((aF.other (p:=⟨u,4,none⟩) ak (.bool false)).other (p:=⟨u,5,none⟩) ak (Jl q)).other (p:=⟨u,1,none⟩) ak (Jl y));have aQ:Hid (JA (((B.setCell ⟨u,4,none⟩ (.bool false)).setCell ⟨u,5,none⟩ (Jl q)).setCell ⟨u,1,none⟩ (Jl y)) l 0 t []/\∀a,l=some a->a.block<(((B.setCell ⟨u,4,none⟩ (.bool false)).setCell ⟨u,5,none⟩ (Jl q)).setCell ⟨u,1,none⟩ (Jl y)).heap.size):=H ⟨⟨rfl,ao.1.le,ao.1.max,(λv C=>by cases C),.inl rfl⟩,λa ha=>by simpa using ao.2 a ha⟩;have aX:Hid (V.heap.size<=(((B.setCell ⟨u,4,none⟩ (.bool false)).setCell ⟨u,5,none⟩ (Jl q)).setCell ⟨u,1,none⟩ (Jl y)).heap.size):=H (by simpa using aA);clear bQ bT z bq bx br bo ak aF ao N;generalize ((B.setCell _ _).setCell _ _).setCell _ _=ag at*;refine Jb (bg l t _ aQ.1 aQ.2) ?_;rintro e ah ⟨a2,bd,rfl,aZ,ac⟩;have an:=H (aS.go ac);have aI:=H (aT.below ac);have aa:=H aZ;have aV:=H (aB.below an.out.out);have a6:Hid (∀a,ad=some a->a.block<ag.heap.size):=H (λa ha=>(aT.lt ha).2);have aW:Hid (V.heap.size<=ah.heap.size/\ag.heap.size<=ah.heap.size):=H ⟨WJ aX ac.size,ac.size⟩;clear aZ ac aS aT aQ aA be bv;have a9:(Q7 ⟨0,20+(cut:Int),0,false,true,0,64,p,Jt false Z,Jt false b,[]⟩).length=20:=Ct _ (JB _ _) (JB _ _) rfl;have a3:(Q7 ⟨0,y,0,false,false,q,64,p,Jt false Z,Jt false b,[]⟩).length=20:=Ct _ (JB _ _) (JB _ _) rfl;have bk:=H (And.intro a9 a3);clear a9 a3;have bZ:n<=o:=aB.le
 have b3:∀w,(Instr.slice 22 (.slice s n o) (some (.int .i64 20)) (some (.int .i64 (20+(cut:Int)))) none).run prog w=.ok (.slice (JQ s 20 o 1) cut (o-20)) w:=λw=>by
  have h:=QB (P:=prog) 22 s n o 1 Bits.elemBytes Bits.sizeBytes 20 (20+cut) 20 (20+(cut:Int)) rfl (by simp) O (by have:=A.out;have:=M.out;omega) w;rw[show 20+cut-20=cut from O] at h;exact h
 have bD:∀w,(Instr.slice 22 (.slice s n o) (some (.int .i64 (20+(cut:Int)))) none none).run prog w=.ok (.slice (JQ s (20+cut) o 1) (n-(20+cut)) (o-(20+cut))) w:=λw=>B4 22 s n o 1 Bits.elemBytes Bits.sizeBytes (20+cut) _ (by simp) (by have:=A.out;have:=M.out;omega) w
 have bp:Hid (∀d,JA d s n o az->JA d (JQ s 20 o 1) cut (o-20) (g.take cut)):=H (λd r=>by
  have h:=(r.cut 20 (by have:=M.out;omega)).take cut (by have:=M.out;have:=A.out;omega);rw[ba.out] at h;exact h)
 have bL:Hid (∀d,JA d s n o az->JA d (JQ s (20+cut) o 1) (n-(20+cut)) (o-(20+cut)) (g.drop cut)):=H (λd r=>by
  have h:=r.cut (20+cut) (by have:=M.out;have:=A.out;omega);rw[<-List.drop_drop,ba.out] at h;exact h)
 have bF:IntKind.i64.wrap (20+(cut:Int))=20+(cut:Int):=by have:=A.out;rw[JaI];omega
 go_wp2_with fail
 refine QO [.h,.h,.h,.h,.h,.h,.h,.w,.h,.h,.h,.h,.h,.h] [(8,1,0),(9,1,0),(10,1,0),(11,1,0),(12,1,0),(13,1,0)] (λ_ _=>True) [1] [(.w,7),(.w,14),(.q,15),(.q,16)] K K K K ?_;apply Exists.intro;refine⟨λcc b2=>?_,?_,?_⟩
 ·exact JcB
 ·intro bX a0 bY S;simp only[YE,YF,YG] at a0;rcases a0 with rfl|rfl|rfl|rfl|rfl|rfl
  ·exact Jc8
  ·exact Jc8
  ·exact Jc8
  ·exact Jc8
  ·cases S;exact⟨_,rfl,rfl,λw2 R=>by simp[execOp,go_sem,bF]⟩
  ·cases S;exact⟨_,rfl,rfl,λw2 R=>by simp[execOp,go_sem,bD]⟩
 simp only[Qp,Ja0,Jbf];have bJ:Hid (∀a,s=some a->a.block<w.heap.size):=H (bK (by have:=M.out;omega));have ar:Hid (JF (Q7 ⟨0,20+(cut:Int),0,false,true,0,64,p,Jt false Z,Jt false b,[]⟩)/\JF (Q7 ⟨0,y,0,false,false,q,64,p,Jt false Z,Jt false b,[]⟩)/\JF g):=H ⟨aG.1 _ _ _,aG.1 _ _ _,aG.2⟩;refine⟨λv a1 w2=>∃F z,v=.slice F ((Q7 ⟨0,20+(cut:Int),0,false,true,0,64,p,Jt false Z,Jt false b,[]⟩).length+cut) z/\JA w2 F ((Q7 ⟨0,20+(cut:Int),0,false,true,0,64,p,Jt false Z,Jt false b,[]⟩).length+cut) z (Q7 ⟨0,20+(cut:Int),0,false,true,0,64,p,Jt false Z,Jt false b,[]⟩++g.take cut)/\(∀a,F=some a->ad=some a\/ah.heap.size<=a.block)/\J8 w2 ag.heap.size 1 a2 (Q7 ⟨0,y,0,false,false,q,64,p,Jt false Z,Jt false b,[]⟩).length bd ((Q7 ⟨0,y,0,false,false,q,64,p,Jt false Z,Jt false b,[]⟩).map (.int .u8))/\JA w2 s n o az/\Ji w w2/\ah.heap.size<=w2.heap.size,?_,?_,?_⟩
 ·refine JX.made rfl ?_;rintro d ⟨⟨x,rfl⟩,-⟩;obtain⟨F,z,aU,aK,Q,I,aw⟩:=XV (P:=prog) x.world 22 22 5 V.heap.size underlying22 Bits.infoU8 ad _ bP _ (aI.later x) _ cut _ (g.take cut) (bp _ (aV.later x)) (by have:=bk.1;have:=A.out;omega) (WJ aW.1 x.below.size);rw[<-Jaj] at Q;refine⟨.slice F _ z,aU,Z0 _ _ K K aK,F,z,rfl,Q.reads (Jx ar.1 (λv C=>ar.2.2 v (Ym C))),λa ha=>(aw a ha).imp id (λh=>WJ x.below.size h),(aa.later x).grown I (λa ha e=>?_),(aV.later x).keep I.size (λa ha aD=>I.block _ aD (λe=>?_)),Yr (an.out.out.trans (x.below.mono an.out.out.size)) I (WJ an.out.out.size x.below.size) (λk aC=>?_),WJ x.below.size I.size⟩
  ·obtain⟨X,G,aq⟩:=Yb.1 e.symm;have j:=a6.out X G;have ap:=(aa.lt ha).1;omega
  ·obtain⟨X,G,aq⟩:=Yb.1 e.symm;have j:=(aI.lt G).1;have ap:=bJ.out a ha;have bV:=ay.out;omega
  ·obtain⟨X,G,aq⟩:=Yb.1 aC;have j:=(aI.lt G).1;have bV:=ay.out;omega
 ·intro v a1 r _ w2 h;trivial
 rintro v ⟨b9,F,z,rfl,-⟩;refine⟨λv a1 w2=>∃L J,v=.slice L ((Q7 ⟨0,y,0,false,false,q,64,p,Jt false Z,Jt false b,[]⟩).length+(n-(20+cut))) J/\JA w2 F ((Q7 ⟨0,20+(cut:Int),0,false,true,0,64,p,Jt false Z,Jt false b,[]⟩).length+cut) z (Q7 ⟨0,20+(cut:Int),0,false,true,0,64,p,Jt false Z,Jt false b,[]⟩++g.take cut)/\JA w2 L ((Q7 ⟨0,y,0,false,false,q,64,p,Jt false Z,Jt false b,[]⟩).length+(n-(20+cut))) J (Q7 ⟨0,y,0,false,false,q,64,p,Jt false Z,Jt false b,[]⟩++g.drop cut)/\Ji w w2,?_,λ_ _=>J4 rfl,?_⟩
 ·refine JX.made rfl ?_;rintro d ⟨bI,bs,ai,j,bG,bw,bC,U,bM⟩;obtain⟨rfl,rfl⟩:F=bI/\z=bs:=by simpa using ai
  obtain⟨L,J,aU,aK,Q,I,aw⟩:=XV (P:=prog) d 22 22 5 ag.heap.size underlying22 Bits.infoU8 a2 _ bd _ bw _ (n-(20+cut)) _ (g.drop cut) (bL _ bC) (by have:=bk.2;have:=A.out;have:=M.out;omega) (WJ aW.2 bM);rw[<-Jaj] at Q;refine⟨.slice L _ J,aU,Z0 _ _ K K aK,L,J,rfl,j.keep I.size (λa ha aD=>I.block _ aD (λe=>?_)),Q.reads (Jx ar.2.1 (λv C=>ar.2.2 v (Yl C))),Yr U I U.size (λk aC=>?_)⟩
  ·obtain⟨X,G,aq⟩:=Yb.1 e.symm;have bH:=(aa.lt G).1;have b8:=(aa.lt G).2;rcases bG a ha with h|h
   ·have:=a6.out a h;omega
   ·omega
  ·obtain⟨X,G,aq⟩:=Yb.1 aC;have bH:=(aa.lt G).1;have b7:=ay.out;have bW:=aX.out;omega
 rintro v ⟨b1,L,J,rfl,-⟩;refine⟨.slice F ((Q7 ⟨0,20+(cut:Int),0,false,true,0,64,p,Jt false Z,Jt false b,[]⟩).length+cut) z,⟨rfl,λ_=>K⟩,?_⟩;refine⟨.slice L ((Q7 ⟨0,y,0,false,false,q,64,p,Jt false Z,Jt false b,[]⟩).length+(n-(20+cut))) J,⟨rfl,λ_=>K⟩,?_⟩;rintro b4 ⟨bS,bA,ai,j,ap,U⟩;obtain⟨rfl,rfl⟩:L=bS/\J=bA:=by simpa using ai
 have au:=H (And.intro j (And.intro ap U));clear j ap U ai;simp only[Act.put,Ja6,Ja7,Ja8];have ae:Hid ((Q7 ⟨0,20+(cut:Int),0,false,true,0,64,p,Jt false Z,Jt false b,[]⟩++g.take cut).length=(Q7 ⟨0,20+(cut:Int),0,false,true,0,64,p,Jt false Z,Jt false b,[]⟩).length+cut/\(Q7 ⟨0,y,0,false,false,q,64,p,Jt false Z,Jt false b,[]⟩++g.drop cut).length=(Q7 ⟨0,y,0,false,false,q,64,p,Jt false Z,Jt false b,[]⟩).length+(n-(20+cut))):=H (by have:=A.out;have:=M.out;constructor<;>simp<;>omega);go_wp2_with fail
 go_ret2;refine⟨F,z,L,J,by rw[ae.1,ae.2];rfl,?_,?_,au.2.2⟩
 ·rw[ae.1];exact au.1
 ·rw[ae.2];exact au.2.1
theorem TD (Z g:Nat->Int)(p:Int)(d:List Int)(B:(d.length:Int)<65536)(E:Qe p=false)(l:List Int)(M:l=Xu (d.length:Nat) p (Jt true Z) (Jt true g)++d)(t:JT l=0/\Xb l=[]/\Xh l=p/\Xk l=d/\l.getD 6 0=p/\l.getD 7 0=64/\w2 l 4=(d.length:Nat)):
 JT l=0/\Xb l=[]/\Xh l=p/\Xk l=d/\sxA l=sxF 0 0 (d.length:Nat) p 64 Z g:=by
 obtain⟨j,y,Y,o,n,r,u⟩:=t;refine⟨j,y,Y,o,?_⟩
 ·have s:w4 l 0=1610612736:=by
   have:w4 l 0=(96*256+0)*65536+(0*256+0):=by rw[M];rfl
   rw[this];rfl
  have a:∀k,k<16->atB l 8 k=Z k:=by
   intro k A;have e:(l.drop 8).take 16=Jt true Z:=by rw[M];rfl
   have h:=Dl true Z k A;rw[<-e,Yi,List.getElem?_take_of_lt A,W6,<-Yi] at h;exact h
  have b:∀k,k<16->atB l 24 k=g k:=by
   intro k A;have e:(l.drop 24).take 16=Jt true g:=by rw[M];rfl
   have h:=Dl true g k A;rw[<-e,Yi,List.getElem?_take_of_lt A,W6,<-Yi] at h;exact h
  unfold sxA sxF;rw[s,u,n,r]
  rw[a 0 D,a 1 D,a 2 D,a 3 D,a 4 D,a 5 D,a 6 D,a 7 D,a 8 D,a 9 D,a 10 D,a 11 D,a 12 D,a 13 D,a 14 D,a 15 D,
   b 0 D,b 1 D,b 2 D,b 3 D,b 4 D,b 5 D,b 6 D,b 7 D,b 8 D,b 9 D,b 10 D,b 11 D,b 12 D,b 13 D,b 14 D,b 15 D]
  rfl
theorem Ft (Z b:Nat->Int)(n a:Int)(e:U8 Z)(j:U8 b)(g:Jm a):JF (Xu n a (Jt true Z) (Jt true b)):=by
 unfold Xu;refine Jx (Jx (Jx (Jx (Ed _) (JN _)) ?_) (JL e _)) (JL j _);intro v d;simp only[YE,YF,YG] at d;rcases d with rfl|rfl
 ·exact g
 ·decide
theorem JdO{p:Prop}(h:p:=by
 cases af;exact⟨_,rfl,rfl,λw2 aq=>K⟩):p:=h
theorem Iv (p x Q:Int)(E:Jm p)(d:Jm x)(b:Jm Q):JF [p,0,x,Q,0,0,0,7]:=by
 intro v a;simp only[YE,YF,YG] at a;rcases a with rfl|rfl|rfl|rfl|rfl|rfl|rfl|rfl;all_goals first|assumption|decide
def UI (w:World)(l:List Int):Ending->World->Prop:=λe d=>∃s o,e=.returned (.tuple #[.slice s 40 o,Jk 0])/\J8 d w.heap.size 1 s 40 o (l.map (.int .u8))/\Ji w d
theorem Va {w d:World}{l:List Int}{e:Ending}(h:JO w l 0 e d)(M:l.length=40):UI w l e d:=by
 obtain⟨s,o,j,y,Y⟩:=h;rw[M] at j y;exact⟨s,o,j,y,Y⟩
theorem Bx.head1 {a w:World}{f:Nat×Obj}{d:List (Nat×Obj)}(h:Bx a w (f::d)):Bx a w [f]:=⟨λb C W=>h.all b C (by rcases YE.1 W with e|e;exact e▸Yf;cases e),h.out⟩
theorem Bx.cellSet1 {a w:World}{f:Nat×Obj}{d:List (Nat×Obj)}{b:Nat}{S:Array Value}{t:TypeId}(h:Bx a w (f::(b,.cells S t (0,0))::d))(k:Nat)(v:Value)(g:a.heap.size<=b)(j:f.1≠b)(n:∀p∈d,p.1≠b):Bx a (w.setCell ⟨b,k,none⟩ v) (f::(b,.cells (S.setIfInBounds k v) t (0,0))::d):=by
 refine⟨λc C W=>?_,h.out.setCell g _⟩;rcases YE.1 W with e|W
 ·cases e;exact(WK _ _ _ _ j).trans (h.all _ _ Yf)
 rcases YE.1 W with e|W
 ·cases e;exact Jae _ b k S t v (h.at 1 rfl)
 ·exact(WK _ _ _ _ (n _ W)).trans (h.all c C (Yg _ (Yg _ W)))
theorem Sq (Z b:Nat->Int)(p:Int)(g:List Int)(cut:Nat)(aE:U8 Z)(aG:U8 b)(aa:Jm p)(bY:Qe p=false)(aJ:JF g)(bS:8<=cut)(bV:cut%8=0)(ci:cut<g.length)(ct:40+g.length<=2048)
 (s:Option Addr)(n o:Nat)(w:World)(aC:JA w s n o (Xu (g.length:Nat) p (Jt true Z) (Jt true b)++g))(E:JT (Xu (g.length:Nat) p (Jt true Z) (Jt true b)++g)=0/\Xb (Xu (g.length:Nat) p (Jt true Z) (Jt true b)++g)=[]/\Xh (Xu (g.length:Nat) p (Jt true Z) (Jt true b)++g)=p/\Xk (Xu (g.length:Nat) p (Jt true Z) (Jt true b)++g)=g/\(Xu (g.length:Nat) p (Jt true Z) (Jt true b)++g).getD 6 0=p/\(Xu (g.length:Nat) p (Jt true Z) (Jt true b)++g).getD 7 0=64/\w2 (Xu (g.length:Nat) p (Jt true Z) (Jt true b)++g) 4=(g.length:Nat)):
 Jf 20 #[.slice s n o,Jk 40,Jk (cut:Int)] w (Ex w (Xu (8+cut:Nat) 44 (Jt true Z) (Jt true b)++[p,0,0,1,0,0,0,7]++g.take cut) (Xu (8+(g.length-cut):Nat) 44 (Jt true Z) (Jt true b)++[p,0,((cut/256:Nat):Int),((cut%256:Nat):Int),0,0,0,7]++g.drop cut)):=by
 have aT:=H aC;have cG:Hid (0<n->∀a,s=some a->a.block<w.heap.size):=H (λh=>aC.lt h);have bD:n=40+g.length:=by rw[<-aC.len,WV,Z7 _ _ _ _ (JB _ _) (JB _ _)]
 obtain⟨b6,bl,bW,bE,bu⟩:=TD Z b p g O bY _ rfl E;clear E
 have bU:Hid (∀d,JA d s n o (Xu (g.length:Nat) p (Jt true Z) (Jt true b)++g)->Jf 54 #[.slice s n o] d (λe w2=>∃R S aK aL,e=.returned (.tuple #[.agg (JbN (Jl (g.length:Int)) p (64:Int) Z b:Array Value),.agg #[.slice R 0 S,Jq p],.slice aK g.length aL,Jk 0])/\Ji d w2)):=H λd ah=>by
  refine(CS s n o _ d ah O).mono ?_;rintro e w2 (⟨h,-⟩|⟨-,R,S,da,aK,aL,rfl,-,-,cD,-⟩)
  ·exact absurd b6 h
  ·refine⟨R,S,aK,aL,?_,cD⟩;rw[bl,bW,bE,bu];rfl
 obtain⟨u,aP⟩:∃q:Int,((8+cut:Nat):Int)=q:=⟨_,rfl⟩
 obtain⟨A,a1⟩:∃q:Int,((8+(g.length-cut):Nat):Int)=q:=⟨_,rfl⟩
 obtain⟨B,a2⟩:∃q:Int,((cut/256:Nat):Int)=q:=⟨_,rfl⟩
 obtain⟨C,bh⟩:∃q:Int,((cut%256:Nat):Int)=q:=⟨_,rfl⟩
 rw[aP,a1,a2,bh];have bO:Hid ((cut:Int)/256=B/\(cut:Int)%256=C):=H (by rw[<-a2,<-bh];omega);have cM:Hid (∀d,Jf 55 #[.agg (JbN (Jl u) (44:Int) (64:Int) Z b:Array Value)] d (UI d (Xu u 44 (Jt true Z) (Jt true b)))):=H λd=>(E3 Z b 44 u aE aG D O d).mono λ_ _ h=>Va h (Z7 _ _ _ _ (JB _ _) (JB _ _))
 have bc:Hid (∀d,Jf 55 #[.agg (JbN (Jl A) (44:Int) (64:Int) Z b:Array Value)] d (UI d (Xu A 44 (Jt true Z) (Jt true b)))):=H λd=>(E3 Z b 44 A aE aG D O d).mono λ_ _ h=>Va h (Z7 _ _ _ _ (JB _ _) (JB _ _))
 have bT:=H (Bx.start w);have X:Hid (JF (Xu u 44 (Jt true Z) (Jt true b))/\JF (Xu A 44 (Jt true Z) (Jt true b))/\JF [p,0,0,1,0,0,0,7]/\JF [p,0,B,C,0,0,0,7]/\JF g):=H ⟨Ft Z b _ _ aE aG D,Ft Z b _ _ aE aG D,Iv _ _ _ aa D D,Iv _ _ _ aa O O,aJ⟩;have b5:Hid ((Xu u 44 (Jt true Z) (Jt true b)).length=40/\(Xu A 44 (Jt true Z) (Jt true b)).length=40):=H ⟨Z7 _ _ _ _ (JB _ _) (JB _ _),Z7 _ _ _ _ (JB _ _) (JB _ _)⟩;have aS:=H aP;have bN:=H a1;clear aP a1 a2 bh;have M:=H bD;have c9:=H (And.intro bS bV);have z:=H (And.intro ci ct);have cT:=H aa;clear b6 bl bW bE bu bD bS bV aC aJ aa bY;have bR:Hid ((Xu (g.length:Nat) p (Jt true Z) (Jt true b)++g).drop 40=g):=H (List.drop_left' (Z7 _ _ _ _ (JB _ _) (JB _ _)));generalize b7:(Xu (g.length:Nat) p (Jt true Z) (Jt true b)++g)=aR at*;clear b7;generalize cR:(Xu u 44 (Jt true Z) (Jt true b))=bm at*;clear cR;generalize cL:(Xu A 44 (Jt true Z) (Jt true b))=b2 at*;clear cL;obtain⟨c2,a3⟩:∃l,bm++[p,0,0,1,0,0,0,7]++g.take cut=l:=⟨_,rfl⟩
 obtain⟨cW,a7⟩:∃l,b2++[p,0,B,C,0,0,0,7]++g.drop cut=l:=⟨_,rfl⟩
 rw[a3,a7];have cc:=H a3;have cy:=H a7;clear a3 a7;go_enter func20,ntmps20
 go_wp2_with fail
 refine Jb (bU _ aT) ?_;rintro e aN ⟨R,S,aK,aL,rfl,aH⟩;have ck:=H (((bT.go aH).box (JbN (Jl (g.length:Int)) p (64:Int) Z b) 118).box #[.slice R 0 S,p] 96);clear bU;have a8:=aH.size;obtain⟨t,aB⟩:∃ag,ag=aN.heap.size:=⟨_,rfl⟩
 have cN:IntKind.i64.wrap (8+(cut:Int))=u:=by have:=z.out;rw[JaI,<-aS.out];omega
 have cj:8+(cut:Int)=u:=by have:=z.out;rw[<-aS.out];omega
 have cO:IntKind.u16.wrap u=u:=by have:=z.out;rw[Jbi,<-aS.out];omega
 go_wp2_with fail
 have aW:Hid (Bx w ((aN.alloc (.cells (JbN (Jl u) (44:Int) (64:Int) Z b) 118)).alloc (.cells #[.slice R 0 S,p] 96)) [(t+1,.cells #[.slice R 0 S,p] 96 (0,0)),(t,.cells (JbN (Jl u) (44:Int) (64:Int) Z b) 118 (0,0))]):=H (by
  have h:=((bT.go aH).box (JbN (Jl u) (44:Int) (64:Int) Z b) 118).box #[.slice R 0 S,p] 96;rw[show(aN.alloc (.cells (JbN (Jl u) (44:Int) (64:Int) Z b) 118)).heap.size=t+1 by rw[aB];simp,<-aB] at h;exact h)
 generalize cQ:((aN.alloc (.cells (JbN (Jl u) (44:Int) (64:Int) Z b) 118)).alloc (.cells #[.slice R 0 S,p] 96))=T at*;rw[<-aB] at a8|-;clear cQ ck cN cj cO aB aH;refine Jb (cM _) ?_;rintro e ao ⟨bk,c8,rfl,bH,bd⟩;have aI:=H (aW.go bd);have aY:=H bH;have c6:t+1<T.heap.size:=aW.lt 0 rfl;have br:=bd.size;clear bH bd;have I:Jg ao t 2 (Jl u):=aI.cell 1 2 rfl rfl;have cd:=Jad _ _ 2 _ _ (aI.at 1 rfl);have cK:w.heap.size<=t:=a8;have bf:=H (aI.cellSet1 2 (Jl A) cK (by simp) (λp aa=>by cases aa));have cb:Jv (ao.setCell ⟨t,2,none⟩ (Jl A)) t 0 37=(JbN (Jl A) (44:Int) (64:Int) Z b:Array Value):=bf.part 1 rfl rfl;have cI:IntKind.i64.wrap (8+(n:Int))=8+(n:Int):=by have:=z.out;have:=M.out;rw[JaI];omega
 have cB:IntKind.i64.wrap (8+(n:Int)-40)=8+(n:Int)-40:=by have:=z.out;have:=M.out;rw[JaI];omega
 have cx:IntKind.i64.wrap (8+(n:Int)-40-(cut:Int))=A:=by have:=z.out;have:=M.out;rw[JaI,<-bN.out];omega
 have cF:IntKind.u16.wrap A=A:=by have:=z.out;rw[Jbi,<-bN.out];omega
 have cl:t<ao.heap.size:=O;have ab:Hid (w.heap.size<=T.heap.size):=H O;clear a8;go_wp2_with fail
 have bF:∀a,bk=some a->a.block≠t:=λa ha=>by have:=(aY.lt ha).1;omega
 have bi:=H (aY.other (p:=⟨t,2,none⟩) bF (Jl A));have am:Hid (T.heap.size<=(ao.setCell ⟨t,2,none⟩ (Jl A)).heap.size):=H (by simpa using br);clear I cd cb bF aY aI cI cB cx cF cl;generalize ao.setCell _ _=Q at*;refine Jb (bc _) ?_;rintro e F ⟨cY,c5,rfl,bv,aw⟩;have ar:=H ((bf.go aw).head1);have cg:=H aW.head1;have bI:=H (bi.below aw);have ai:=H bv;have bn:=H (aT.below ar.out.out);have bG:Hid (∀a,bk=some a->a.block<Q.heap.size):=H (λa ha=>(bi.lt ha).2);have b8:Hid (T.heap.size<=F.heap.size/\Q.heap.size<=F.heap.size):=H ⟨WJ am aw.size,aw.size⟩;have a5:Hid (∀a,s=some a->a.block<w.heap.size):=H (cG (by have:=M.out;omega));clear bv aw bf bi br;have bb:Jg F (t+1) 1 (Jq p):=ar.cell 0 1 rfl rfl;have aV:t+1<F.heap.size:=ar.lt 0 rfl;have bz:=H (ar.go (Below.all (Jc _ _) (.cells (JbV p (1:Int) (7:Int)) 5)));have aM:=H (bI.alloc (.cells (JbV p (1:Int) (7:Int)) 5));have bt:=H (ai.alloc (.cells (JbV p (1:Int) (7:Int)) 5));have bC:=H (bn.alloc (.cells (JbV p (1:Int) (7:Int)) 5));have b1:Hid (JA (F.alloc (.cells (JbV p (1:Int) (7:Int)) 5)) (some ⟨F.heap.size,0,none⟩) 8 8 [p,0,0,1,0,0,0,7]):=H (J8.reads (l:=[p,0,0,1,0,0,0,7]) (AA (vs:=([p,0,0,1,0,0,0,7]:List Int).map (.int .u8)) (WP _ _) (show(8:Nat)<=maxLen from D)) X.2.2.1);have aZ:Hid (T.heap.size<=(F.alloc (.cells (JbV p (1:Int) (7:Int)) 5)).heap.size/\Q.heap.size<=(F.alloc (.cells (JbV p (1:Int) (7:Int)) 5)).heap.size):=H (by have:=b8.out;simp;omega);clear ar bI bn;go_wp2_with (at_builtin;refine JJ.of ?_)
 clear bb aV;generalize bs:F.alloc _=ca at*;have cC:ca.heap.size=F.heap.size+1:=by rw[<-bs];simp
 clear bs;refine JJ.mk ?_;refine JI _ rfl _ _ 22 rfl 5 T.heap.size underlying22 Bits.infoU8 _ _ _ _ rfl aM _ 8 _ [p,0,0,1,0,0,0,7] rfl b1 D aZ.1 ?_;intro al bw V bP ac bQ;have ay:=H (bz.grown cg ac (λa ha=>(aM.lt ha).1))
 have bB:=H (bt.grown ac (λa ha e=>by
  obtain⟨G,r,L⟩:=Yb.1 e.symm;have j:=bG.out G r;have y:=(ai.lt ha).1;omega))
 have bZ:=H (bC.keep ac.size (λa ha W=>ac.block _ W (λe=>by
  obtain⟨G,r,L⟩:=Yb.1 e.symm;have j:=(aM.lt r).1;have y:=a5.out a ha;have ax:=ab.out;omega)))
 have a9:Hid (∀a,al=some a->a.block<Q.heap.size\/F.heap.size+1<=a.block):=H (λa ha=>(bQ a ha).imp (λh=>bG.out a h) (λh=>O));have aQ:=H bP;have a0:Hid (Q.heap.size<=V.heap.size/\F.heap.size+1<=V.heap.size):=H (by have:=ac.size;have:=aZ.out;omega);clear bP ac bQ bz aM bt bC b1 aZ;have bb:Jg V (t+1) 1 (Jq p):=ay.cell 0 1 rfl rfl;have aV:t+1<V.heap.size:=ay.lt 0 rfl;have bg:=H (ay.go (Below.all (Jc _ _) (.cells (JbY p B C (7:Int)) 5)));have b4:=H (aQ.alloc (.cells (JbY p B C (7:Int)) 5));have b3:=H (bB.alloc (.cells (JbY p B C (7:Int)) 5));have b0:=H (bZ.alloc (.cells (JbY p B C (7:Int)) 5));have bL:Hid (JA (V.alloc (.cells (JbY p B C (7:Int)) 5)) (some ⟨V.heap.size,0,none⟩) 8 8 [p,0,B,C,0,0,0,7]):=H (J8.reads (l:=[p,0,B,C,0,0,0,7]) (AA (vs:=([p,0,B,C,0,0,0,7]:List Int).map (.int .u8)) (WP _ _) (show(8:Nat)<=maxLen from D)) X.2.2.2.1);have cr:=bO.1;have ce:=bO.2;go_wp2_with (at_builtin;refine JJ.of ?_)
 clear bb aV cr ce;generalize bo:V.alloc _=cv at*;have co:cv.heap.size=V.heap.size+1:=by rw[<-bo];simp
 clear bo;refine JJ.mk ?_;refine JI _ rfl _ _ 22 rfl 5 Q.heap.size underlying22 Bits.infoU8 _ _ _ _ rfl b3 _ 8 _ [p,0,B,C,0,0,0,7] rfl bL D (by have:=a0.out;omega) ?_;intro aA be Y bp ae bM;obtain⟨ad,au⟩:∃l,bm++[p,0,0,1,0,0,0,7]=l:=⟨_,rfl⟩
 obtain⟨aj,an⟩:∃l,b2++[p,0,B,C,0,0,0,7]=l:=⟨_,rfl⟩
 have a6:Hid (J8 Y T.heap.size 1 al 48 bw (ad.map (.int .u8))):=H (by
  rw[<-au,Jaj]
  exact b4.grown ae (λa ha e=>by
   obtain⟨G,r,L⟩:=Yb.1 e.symm;have j:=ai.lt r;have y:=a9.out a ha;omega))
 have aU:Hid (J8 Y Q.heap.size 1 aA 48 be (aj.map (.int .u8))):=H (by
  rw[<-an,Jaj];exact bp)
 have bX:=H (b0.keep ae.size (λa ha W=>ae.block _ W (λe=>by
  obtain⟨G,r,L⟩:=Yb.1 e.symm;have j:=(ai.lt r).1;have y:=a5.out a ha;have ax:=ab.out;have cn:=am.out;omega)))
 have bj:Hid (Ji w Y):=H (Yr bg.out.out ae bg.out.out.size (λk ap=>by
  obtain⟨G,r,L⟩:=Yb.1 ap;have j:=(ai.lt r).1;have ax:=ab.out;have cn:=am.out;omega))
 have bJ:Hid (∀a ag,al=some a->aA=some ag->a.block≠ag.block):=H (λa ag ha aJ=>by
  have j:=a9.out a ha;have y:=(aQ.lt ha).2;rcases bM ag aJ with h|h
  ·have ax:=ai.lt h;omega
  ·omega)
 have bK:Hid (T.heap.size<=Y.heap.size/\Q.heap.size<=Y.heap.size):=H (by have:=ae.size;have:=a0.out;have:=am.out;omega);have b9:Hid (ad.length=48/\aj.length=48):=H (by rw[<-au,<-an,WV,WV,b5.1,b5.2];exact⟨rfl,rfl⟩);have aF:Hid (JF ad/\JF aj/\JF g):=H (by rw[<-au,<-an];exact⟨Jx X.1 X.2.2.1,Jx X.2.1 X.2.2.2.1,X.2.2.2.2⟩);have bc:=H au;have cE:=H an;clear bp ae bM b4 b3 b0 bL bg au an ay bB bZ a9 aQ a0 cC co;have cX:n<=o:=aT.le
 have c1:∀w,(Instr.slice 22 (.slice s n o) (some (.int .i64 40)) (some (.int .i64 (40+(cut:Int)))) none).run prog w=.ok (.slice (JQ s 40 o 1) cut (o-40)) w:=λw=>by
  have h:=QB (P:=prog) 22 s n o 1 Bits.elemBytes Bits.sizeBytes 40 (40+cut) 40 (40+(cut:Int)) rfl (by simp) O (by have:=z.out;have:=M.out;omega) w;rw[show 40+cut-40=cut from O] at h;exact h
 have cs:∀w,(Instr.slice 22 (.slice s n o) (some (.int .i64 (40+(cut:Int)))) none none).run prog w=.ok (.slice (JQ s (40+cut) o 1) (n-(40+cut)) (o-(40+cut))) w:=λw=>B4 22 s n o 1 Bits.elemBytes Bits.sizeBytes (40+cut) _ (by simp) (by have:=z.out;have:=M.out;omega) w
 have cf:Hid (∀d,JA d s n o aR->JA d (JQ s 40 o 1) cut (o-40) (g.take cut)):=H (λd ah=>by
  have h:=(ah.cut 40 (by have:=M.out;omega)).take cut (by have:=M.out;have:=z.out;omega);rw[bR.out] at h;exact h)
 have cH:Hid (∀d,JA d s n o aR->JA d (JQ s (40+cut) o 1) (n-(40+cut)) (o-(40+cut)) (g.drop cut)):=H (λd ah=>by
  have h:=ah.cut (40+cut) (by have:=M.out;have:=z.out;omega);rw[<-List.drop_drop,bR.out] at h;exact h)
 have cu:IntKind.i64.wrap (40+(cut:Int))=40+(cut:Int):=by have:=z.out;rw[JaI];omega
 go_wp2_with fail
 refine QO [.h,.h,.h,.h,.h,.h,.h,.w,.h,.h,.h,.h,.h,.h] [(8,1,0),(9,1,0),(10,1,0),(11,1,0),(12,1,0),(13,1,0)] (λ_ _=>True) [1] [(.w,7),(.w,14),(.q,15),(.q,16)] K K K K ?_;apply Exists.intro;refine⟨λdb c0=>?_,?_,?_⟩
 ·exact JcB
 ·intro cU bx cV af;simp only[YE,YF,YG] at bx;rcases bx with rfl|rfl|rfl|rfl|rfl|rfl
  ·exact JdO
  ·exact JdO
  ·exact JdO
  ·exact JdO
  ·cases af;exact⟨_,rfl,rfl,λw2 aq=>by simp[execOp,go_sem,cu]⟩
  ·cases af;exact⟨_,rfl,rfl,λw2 aq=>by simp[execOp,go_sem,cs]⟩
 simp only[Qp,Ja0,Jbf];refine⟨λv bA w2=>∃J N,v=.slice J (48+cut) N/\JA w2 J (48+cut) N (ad++g.take cut)/\(∀a,J=some a->al=some a\/Y.heap.size<=a.block)/\J8 w2 Q.heap.size 1 aA 48 be (aj.map (.int .u8))/\JA w2 s n o aR/\Ji w w2/\Y.heap.size<=w2.heap.size,?_,?_,?_⟩
 ·refine JX.made rfl ?_;rintro d ⟨⟨x,rfl⟩,-⟩;obtain⟨J,N,ba,a4,av,E,bq⟩:=XV (P:=prog) x.world 22 22 5 T.heap.size underlying22 Bits.infoU8 al _ bw _ (a6.later x) _ cut _ (g.take cut) (cf _ (bX.later x)) (by have:=z.out;omega) (WJ bK.1 x.below.size);rw[<-Jaj] at av;refine⟨.slice J _ N,ba,Z0 _ _ K K a4,J,N,rfl,av.reads (Jx aF.1 (λv aX=>aF.2.2 v (Ym aX))),λa ha=>(bq a ha).imp id (λh=>WJ x.below.size h),(aU.later x).grown E (λa ha e=>?_),(bX.later x).keep E.size (λa ha W=>E.block _ W (λe=>?_)),Yr (bj.trans (x.below.mono bj.size)) E (WJ bj.size x.below.size) (λk ap=>?_),WJ x.below.size E.size⟩
  ·obtain⟨G,r,L⟩:=Yb.1 e.symm;exact bJ G a r ha L
  ·obtain⟨G,r,L⟩:=Yb.1 e.symm;have j:=(a6.lt r).1;have y:=a5.out a ha;have ax:=ab.out;omega
  ·obtain⟨G,r,L⟩:=Yb.1 ap;have j:=(a6.lt r).1;have ax:=ab.out;omega
 ·intro v bA ah _ w2 h;trivial
 rintro v ⟨c7,J,N,rfl,-⟩;refine⟨λv bA w2=>∃U I,v=.slice U (48+(n-(40+cut))) I/\JA w2 J (48+cut) N (ad++g.take cut)/\JA w2 U (48+(n-(40+cut))) I (aj++g.drop cut)/\Ji w w2,?_,λ_ _=>J4 rfl,?_⟩
 ·refine JX.made rfl ?_;rintro d ⟨cA,ch,aD,j,cw,cm,cq,ak,cJ⟩;obtain⟨rfl,rfl⟩:J=cA/\N=ch:=by simpa using aD
  obtain⟨U,I,ba,a4,av,E,bq⟩:=XV (P:=prog) d 22 22 5 Q.heap.size underlying22 Bits.infoU8 aA _ be _ cm _ (n-(40+cut)) _ (g.drop cut) (cH _ cq) (by have:=z.out;have:=M.out;omega) (WJ bK.2 cJ);rw[<-Jaj] at av;refine⟨.slice U _ I,ba,Z0 _ _ K K a4,U,I,rfl,j.keep E.size (λa ha W=>E.block _ W (λe=>?_)),av.reads (Jx aF.2.1 (λv aX=>aF.2.2 v (Yl aX))),Yr ak E ak.size (λk ap=>?_)⟩
  ·obtain⟨G,r,L⟩:=Yb.1 e.symm;have cz:=(aU.lt r).2;rcases cw a ha with h|h
   ·exact bJ a G h r L.symm
   ·omega
  ·obtain⟨G,r,L⟩:=Yb.1 ap;have cz:=(aU.lt r).1;have c4:=ab.out;have cS:=am.out;omega
 rintro v ⟨cZ,U,I,rfl,-⟩;refine⟨.slice J (48+cut) N,⟨rfl,λ_=>K⟩,?_⟩;refine⟨.slice U (48+(n-(40+cut))) I,⟨rfl,λ_=>K⟩,?_⟩;rintro c3 ⟨cP,cp,aD,j,y,ak⟩;obtain⟨rfl,rfl⟩:U=cP/\I=cp:=by simpa using aD
 have aO:=H (And.intro j (And.intro y ak));clear j y ak aD;simp only[Act.put,Ja6,Ja7,Ja8];have az:Hid ((ad++g.take cut).length=48+cut/\(aj++g.drop cut).length=48+(n-(40+cut))):=H (by have:=z.out;have:=M.out;have:=b9.out;constructor<;>simp<;>omega);go_wp2_with fail
 go_ret2;rw[<-cc.out,<-cy.out,bc.out,cE.out];refine⟨J,N,U,I,by rw[az.1,az.2];rfl,?_,?_,aO.2.2⟩
 ·rw[az.1];exact aO.1
 ·rw[az.2];exact aO.2.1
end
end Go.Proofs.YtkgjbipfhhjlpaaGreatDoor
