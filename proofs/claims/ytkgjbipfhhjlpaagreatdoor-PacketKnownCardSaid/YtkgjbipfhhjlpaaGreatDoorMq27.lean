import Derived.Test.YtkgjbipfhhjlpaaGreatDoorMq26
set_option linter.unusedVariables false
set_option linter.unusedSimpArgs false
set_option maxRecDepth 100000
set_option maxHeartbeats 32000000
namespace Go.Proofs.YtkgjbipfhhjlpaaGreatDoor
open Go.Proofs.Tryz
section
open Go.RowKit
theorem JdI{p:Prop}(h:p:=by
 go_wp2_with fail
 exact AW (k:=kyZ) _ rfl rfl (Ju (Oo _ _ o.box) rfl) (by rw[<-B.out,n.out];rfl) (Below.all (Below.all (below_setRow o.bel (Je _) _) _) _)):p:=h
def Mv (w:World)(b:Nat)(l:List UInt8):Ending->World->Prop:=λe d=>∃(a:Nat) (g:Value),e=.returned (.tuple #[Jk a,g])/\a<b/\(∀n,n<b->l=Lib.decDigits n->a=n)/\Ji w d
theorem Sm (l:List UInt8)(a:Nat)(w:World)(M:l.length<=1000)(j:1<=a)(W:a<=65536):Jf 61 #[.string ⟨l.toArray⟩,Jk 10,Jk (a:Nat)] w (Mv w a l):=by
 refine(EH ⟨l.toArray⟩ 10 a w (by simpa[ByteArray.size] using M) D W j).mono ?_;rintro e d ⟨rfl,g⟩
 have L:∀n,n<a->l=Lib.decDigits n->Q0 10 a l=some n:=λn B h=>by
  unfold Q0;rw[Yw (by rw[h];exact B7 n),h,IJ a n n (Je _) B]
 show Mv w a l (.returned (P6 (Q0 10 a l))) d;cases hx:Q0 10 a l with
 |none=>exact⟨0,.bool false,rfl,O,(λn B h=>by have:=L n B h;rw[hx] at this;cases this),g⟩
 |some b=>exact⟨b,.bool true,rfl,HZ j hx,(λn B h=>by have:=L n B h;rw[hx] at this;exact Yp this),g⟩
theorem AW {w d:World}{a:Array Value}{k:Ky}{err:Int}(b:Value)(E:a.getD 2 undef=.pointer (some ⟨w.heap.size,0,none⟩))(Y:a.getD 3 undef=.int .i64 err)(I:Jv d w.heap.size 0 37=kyV k)(e:b=.tuple #[.agg (kyV k),Jk err])(g:Ji w d):
 bodyPost prog f23 (Jz w b) .ret { tmps:=a,defers:=[] } d:=
 Jag (v:=.tuple #[.agg (kyV k),Jk err]) (QS rfl _ _ w.heap.size 37 _ _ underlying38 rfl Ly E Y (kyV k) I rfl) rfl (.mk e.symm g)
theorem PN (l:List UInt8)(w:World)(aG:l.length<=1000):Jf 23 #[.string ⟨l.toArray⟩] w (Jz w (As (XB l))):=by
 have ai:Hid (∀w,Jf 60 #[.string ⟨l.toArray⟩,(32:Int)] w (CG w (Ql 32 l))):=H (λw=>IV ⟨l.toArray⟩ 32 w (by simpa[ByteArray.size] using aG));have aT:Hid ((Ql 32 l).length<=1001):=H (by have:=Xy 32 l;omega);have p:Hid (∀aq∈Ql 32 l,aq.length<=1000):=H (λaq aW=>by have:=ZK 32 _ aq aW;omega);have aQ:Jh (w.alloc (.cells (kyV kyZ) 38)) w.heap.size (kyV kyZ) 38:=WP w _;have aC:Below w.heap.size w (w.alloc (.cells (kyV kyZ) 38)):=Below.all (Jc _ _) _;have J:=H aQ;have E:=H aC;clear aQ aC;unfold kyV kyZ kyC at J E;simp only at J E;obtain⟨N,aa⟩:∃N,Ql 32 l=N:=⟨_,rfl⟩
 rw[aa] at ai aT p;have X:=H aa;clear aa aG;obtain⟨av,ak⟩:∃av,As (XB l)=av:=⟨_,rfl⟩
 rw[ak];have B:=H ak;clear ak;go_enter func23,ntmps23
 go_wp2_with fail
 generalize w.alloc _=bu at*;refine Jb (ai _) ?_;rintro e w2 ⟨bK,bG,rfl,ar,af⟩;have aw:=H ar;have ad:=H (E.trans (af.mono E.size));have R:=H ((af.block _ (Ja J).1).trans J);clear ar af J E;by_cases M:N.length=5
 rotate_left
 ·have bB:¬((N.length:Int)=5):=O;have n:Hid (XB l=none):=H (Ii (by rw[X.out];exact M));have bd:JE w2 w.heap.size 37=true:=by rw[Jw _ _ _ _ _ R.out];rfl
  clear M;go_wp2_with fail
  exact AW (k:=kyZ) _ rfl rfl (Xx R) (by rw[<-B.out,n.out];rfl) (below_setRow ad (Je _) _)
 obtain⟨u,s,z,r,v,rfl⟩:=V3 M;clear M;have ba:=p.out u (by simp);have bc:=p.out s (by simp);have bh:=p.out z (by simp);have a6:=p.out r (by simp);have bf:=p.out v (by simp);have a2:Hid (∀d,Jf 61 #[.string ⟨u.toArray⟩,Jk 10,Jk 256] d (Mv d 256 u)):=H λd=>Sm u 256 d O D D
 have aX:Hid (∀d,Jf 61 #[.string ⟨z.toArray⟩,Jk 10,Jk 65536] d (Mv d 65536 z)):=H λd=>Sm z 65536 d O D D
 have aV:Hid (∀d,Jf 61 #[.string ⟨v.toArray⟩,Jk 10,Jk 65536] d (Mv d 65536 v)):=H λd=>Sm v 65536 d O D D
 have aL:Hid (∀d,Jf 62 #[.string ⟨s.toArray⟩] d (Jz d (DQ (Zb s)))):=H λd=>H0 ⟨s.toArray⟩ d (by simp[ByteArray.size];omega)
 have ao:Hid (∀d,Jf 62 #[.string ⟨r.toArray⟩] d (Jz d (DQ (Zb r)))):=H λd=>H0 ⟨r.toArray⟩ d (by simp[ByteArray.size];omega)
 obtain⟨g,Z,bL,az,aD⟩:=CY s;obtain⟨b,a,bH,ay,aU⟩:=CY r;rw[az] at aL;rw[ay] at ao;have be:=H aD;have bo:=H aU;clear ba bc bh a6 bf az ay aD aU p aT ai;obtain⟨bk,bg,bj,bp,aY,aA,-⟩:=aw.here (by simp);subst bj;have ap:Hid (A6 w 38 bk bg [u,s,z,r,v] w2):=H ⟨R.out,λbq x a1=>aA bq (Bv x) (by simp only[Yk,a1];rfl),ad.out⟩;clear aA aw R ad bp aY;have aN:=ap.at 0 (x:=u) rfl;rw[Jal] at aN;simp only[Yy,Jau];go_wp2_with fail
 refine Jb (a2 _) ?_;rintro e bM ⟨u0,bI,rfl,aM,aS,aO⟩;have T:=H (And.intro aM aS);clear aM aS;have Y:=H (ap.go aO);clear aO aN ap;have a8:=Y.at 2 (x:=z) rfl;go_wp2_with fail
 refine Jb (aX _) ?_;rintro e w4 ⟨u2,bv,rfl,aI,aP,ax⟩;have P:=H (And.intro aI aP);clear aI aP;have ae:=H (Y.go ax);clear ax a8 Y;have bm:=ae.at 4 (x:=v) rfl;go_wp2_with fail
 refine Jb (aV _) ?_;rintro e bF ⟨u4,bA,rfl,aE,aK,aR⟩;have V:=H (And.intro aE aK);clear aE aK;have ag:=H (ae.go aR);clear aR bm ae;have a4:=ag.at 1 (x:=s) rfl;go_wp2_with fail
 refine Jb (aL _) ?_;rintro e ac ⟨rfl,I⟩;have W:=H ((ag.go I).alloc (.cells (Jbr g Z) 36));have G:=H (WP ac (.cells (Jbr g Z) 36));clear I a4 ag;unfold adV at ao|-;have bb:=W.at 3 (x:=r) rfl;go_wp2_with fail
 obtain⟨al,I⟩:∃an,an=ac.heap.size:=⟨_,rfl⟩
 rw[<-I] at G|-;clear I bb;generalize ac.alloc _=bx at*;refine Jb (ao _) ?_;rintro e j ⟨rfl,L⟩;have bJ:=H ((W.go L).alloc (.cells (Jbr b a) 36));have aB:=H ((YU _ (.cells (Jbr b a) 36) (Jd (Ja G).1 L.size)).trans ((L.block al (Ja G).1).trans G));have bC:=H (WP j (.cells (Jbr b a) 36));have bn:al<(j.alloc (.cells (Jbr b a) 36)).heap.size:=(Ja aB).1;have bi:Jv (j.alloc (.cells (Jbr b a) 36)) al 0 17=(Jbr g Z:Array Value):=Ju aB rfl;have o:=H (W.go L);have a9:w.heap.size<j.heap.size:=o.lt;have a3:JE j w.heap.size 37=true:=o.free;have bz:(u0:Int)%256=u0:=by have:=T.1;omega
 have bD:IntKind.u16.wrap (u2:Int)=u2:=by rw[Jbi];have:=P.1;omega
 have bt:IntKind.u16.wrap (u4:Int)=u4:=by rw[Jbi];have:=V.1;omega
 have a0:JE ((j.alloc (.cells (Jbr b a) 36)).alloc (.cells (Jbs g b (Jq u0) (Jl u2) (Jl u4) Z a) 38)) w.heap.size 37=true:=(o.alloc _ |>.alloc _).free;clear L W G;rcases be.out with ⟨rfl,A,Q⟩|⟨rfl,A⟩;rotate_left
 ·have n:Hid (XB l=none):=H (Ij X A);clear A;exact JdI
 rcases bo.out with ⟨rfl,F,au⟩|⟨rfl,F⟩;rotate_left
 ·have n:Hid (XB l=none):=H (Ik X F);have bE:=H Q;clear A F Q;exact JdI
 have S:=H (L5 X A F u0 u2 u4 T.1 P.1 V.1 T.2 P.2 V.2);have bl:Hid (Fz ⟨g,Z,b,a,u0,u2,u4⟩):=H ⟨Q,au,(by show(0:Int)<=u0/\(u0:Int)<256;have:=T.1;omega),(by show(0:Int)<=u2/\(u2:Int)<65536;have:=P.1;omega),(by show(0:Int)<=u4/\(u4:Int)<65536;have:=V.1;omega)⟩;have a5:Hid (∀d,Jf 29 #[.agg (Jbs g b (Jq u0) (Jl u2) (Jl u4) Z a:Array Value)] d (Jz d (.string ⟨(QY ⟨g,Z,b,a,u0,u2,u4⟩).toArray⟩))):=H λd=>Iu _ bl d
 clear A F Q au;generalize QY ⟨g,Z,b,a,u0,u2,u4⟩=aj at*;have aF:=H ((o.alloc (.cells (Jbr b a) 36)).alloc (.cells (Jbs g b (Jq u0) (Jl u2) (Jl u4) Z a) 38));have ab:=WP (j.alloc (.cells (Jbr b a) 36)) (.cells (Jbs g b (Jq u0) (Jl u2) (Jl u4) Z a) 38);rw[show(j.alloc (.cells (Jbr b a) 36)).heap.size=j.heap.size+1 by simp] at ab;have U:=H ab;clear ab;go_wp2_with fail
 generalize (j.alloc _).alloc _=bw at*;obtain⟨am,aJ⟩:∃an,an=j.heap.size+1:=⟨_,rfl⟩
 rw[<-aJ] at U|-;have bs:Hid (w.heap.size≠am):=H O;clear aJ a0 a3 a9 bi bn;refine Jb (a5 _) ?_;rintro e aH ⟨rfl,ah⟩;have C:=H (aF.go ah);have a7:=H ((ah.block am (Ja U).1).trans U);clear ah aF U;have br:Jv aH am 0 37=(Jbs g b (Jq u0) (Jl u2) (Jl u4) Z a:Array Value):=Ju a7 rfl;have bd:JE aH w.heap.size 37=true:=C.free;by_cases t:aj=l
 ·have y:=S.out;rw[YH t] at y;have n:=H y;have aZ:(aj==l)=true:=by simpa using t
  clear y t S;go_wp2_with fail
  exact AW (k:=⟨g,Z,b,a,u0,u2,u4⟩) _ rfl rfl (Ju (JC C.box) rfl) (by rw[<-B.out,n.out];rfl) (below_setRow C.bel (Je _) _)
 ·have y:=S.out;rw[Yw t] at y;have n:=H y;have aZ:(aj==l)=false:=by simpa using t
  clear y t S;go_wp2_with fail
  exact AW (k:=kyZ) _ rfl rfl (Ju (JC C.box) rfl) (by rw[<-B.out,n.out];rfl) (below_setRow C.bel (Je _) _)
theorem FG (w:World)(d:Nat)(s:Bool)(S:Nat->Int)(t:Bool)(T:Nat->Int)(p a b:Int):
 (Op.equalIn (d+6) 38 (.agg (Jbs s t p (Jl a) (Jl b) S T)) (.agg (Jbs s t p (Jl a) (Jl b) S T))).run prog w=.ok true w:=by
 simp[go_sem,RK]
attribute [go_sem 5000] FG
theorem NV (l:List UInt8):∃k e,As (XB l)=.tuple #[.agg (kyV k),Jk e]:=by
 unfold As;split
 ·exact⟨_,_,rfl⟩
 ·exact⟨_,_,rfl⟩
theorem Oy (ae am:Ky)(G:ByteArray)(j:Fz ae)(y:Fz am)(w:World)(af:Env w):Jf 6 #[.agg (kyV ae),.agg (kyV am),.string G] w (Jz w (.bool true)):=by
 have Y:=H af;obtain⟨r,a,t,b,u,s,p⟩:=ae;obtain⟨F,o,C,n,A,z,B⟩:=am;show Jf 6 #[.agg (kyC r a t b u s p),.agg (kyC F o C n A z B),.string G] w _
 have R:Hid (Bx w ((w.alloc (.cells (kyC r a t b u s p) 30)).alloc (.cells (kyC F o C n A z B) 30)) [(w.heap.size+1,.cells (kyC F o C n A z B) 30 (0,0)),(w.heap.size,.cells (kyC r a t b u s p) 30 (0,0))]):=H (by
  have S:=((Bx.start w).box (kyC r a t b u s p) 30).box (kyC F o C n A z B) 30;rw[show(w.alloc (.cells (kyC r a t b u s p) 30)).heap.size=w.heap.size+1 by simp] at S;exact S)
 by_cases bz:G.size<=120
 rotate_left
 ·have aY:(G.size:Int)>120:=O;clear j y af;unfold kyC at*;go_enter func6,ntmps6
  go_wp2_with fail
  refine Jb (Xg _ (Y.below R.out.out)) ?_;rintro aa w2 ⟨rfl,g⟩;have a2:=H (Wx R.out.out g);clear g;go_wp2_with fail
  go_ret;exact .mk rfl a2
 obtain⟨l,M⟩:∃l:List UInt8,G=⟨l.toArray⟩:=⟨G.data.toList,by cases G;simp⟩
 have U:l.length<=1000:=by
  have:G.size=l.length:=by rw[M];simp[ByteArray.size]
  omega
 obtain⟨⟨J,e,P,d,L,N,I⟩,V,aq⟩:=NV l
 have aD:Hid (∀w,Env w->Jf 22 #[.string G] w (Jz w (.tuple #[.agg (kyC J e P d L N I),Jk V]))):=H λw h=>by
  have:=AR l w U h;rw[aq,<-M] at this;exact this
 have aR:Hid (∀w,Jf 23 #[.string G] w (Jz w (.tuple #[.agg (kyC J e P d L N I),Jk V]))):=H λw=>by
  have:=PN l w U;rw[aq,<-M] at this;exact this
 have aX:Hid (∀w,Jf 24 #[.agg (kyC r a t b u s p)] w (J5 w (JZ ⟨r,a,t,b,u,s,p⟩))):=H λw=>Bu _ j w
 have a0:Hid (∀w,Jf 25 #[.agg (kyC r a t b u s p)] w (J5 w (JZ ⟨r,a,t,b,u,s,p⟩))):=H λw=>DB _ j w
 have aG:=H (Zh _ j);have aS:Hid ((JZ ⟨r,a,t,b,u,s,p⟩).length<=1000000):=H (by have:=DC ⟨r,a,t,b,u,s,p⟩;omega);have a4:Hid (∀w,Jf 26 #[.agg (kyC r a t b u s p)] w (Jz w (.bool (JS ⟨r,a,t,b,u,s,p⟩)))):=H λw=>X4 _ _ _ _ _ _ _ w
 have a3:Hid (∀w,Jf 27 #[.agg (kyC r a t b u s p)] w (Jz w (.bool (JS ⟨r,a,t,b,u,s,p⟩)))):=H λw=>QT _ _ _ _ _ _ _ w
 have bk:Hid (∀w,Env w->Jf 28 #[.agg (kyC r a t b u s p)] w (Jz w (.string ⟨(QY ⟨r,a,t,b,u,s,p⟩).toArray⟩))):=H λw h=>Cr _ j w h
 have aV:Hid (∀w,Jf 29 #[.agg (kyC r a t b u s p)] w (Jz w (.string ⟨(QY ⟨r,a,t,b,u,s,p⟩).toArray⟩))):=H λw=>Iu _ j w
 have be:Hid (∀w,Jf 30 #[.agg (kyC r a t b u s p),.agg (kyC F o C n A z B)] w (Jz w (Jk (Do ⟨r,a,t,b,u,s,p⟩ ⟨F,o,C,n,A,z,B⟩)))):=H λw=>Ox _ _ j y w
 have a1:Hid (∀w,Jf 31 #[.agg (kyC r a t b u s p),.agg (kyC F o C n A z B)] w (Jz w (Jk (Do ⟨r,a,t,b,u,s,p⟩ ⟨F,o,C,n,A,z,B⟩)))):=H λw=>Sj _ _ j y w
 have bj:Hid (∀w,Jf 21 #[.agg (kyC r a t b u s p)] w (Jz w (.agg (kyC r a t b u s p)))):=H λw=>AQ _ _ _ _ _ _ _ w
 have a9:Hid (∀w,Jf 21 #[.agg (kyC F o C n A z B)] w (Jz w (.agg (kyC F o C n A z B)))):=H λw=>AQ _ _ _ _ _ _ _ w
 have aZ:Hid (∀w,Jf 21 #[.agg (kyC J e P d L N I)] w (Jz w (.agg (kyC J e P d L N I)))):=H λw=>AQ _ _ _ _ _ _ _ w
 clear aq j y af U M;generalize JZ ⟨r,a,t,b,u,s,p⟩=ao at*;generalize JS ⟨r,a,t,b,u,s,p⟩=aO at*;generalize QY ⟨r,a,t,b,u,s,p⟩=aH at*;generalize Do ⟨r,a,t,b,u,s,p⟩ ⟨F,o,C,n,A,z,B⟩=aL at*;have bJ:(aO==aO)=true:=by simp
 have bx:(aH==aH)=true:=by simp
 have bH:(aL==aL)=true:=by simp
 have bt:(V==V)=true:=by simp
 have aY:¬((G.size:Int)>120):=O;unfold kyC at*;go_enter func6,ntmps6
 go_wp2_with fail
 generalize (w.alloc _).alloc _=bs at*;refine Gp 4 (.cells (JbJ false false) 38) (.cells (JbJ false false) 38) K K rfl rfl rfl rfl D K ⟨λ_=>rfl,λ_ _=>K⟩ ⟨λ_=>rfl,λ_ _=>K⟩ ?_;apply Exists.intro;refine⟨λaU S=>?_,?_⟩
 ·have X:=H (R.go S);have ab:Jv aU w.heap.size 0 37=_:=X.part 1 rfl rfl;have aj:=X.lt 1 rfl;have a7:Jv aU (w.heap.size+1) 0 37=_:=X.part 0 rfl rfl;have a6:=X.lt 0 rfl;clear S;simp only[Y6,Y7];repeat go_big_quiet_step (fail)
  go_big_quiet_step ((go_at_call 21;exact JD (bj _)))
  repeat go_big_quiet_step (fail)
  go_big_quiet_step ((go_at_call 21;exact JD (a9 _)))
  exact JcD
 intro Q T W au bb bg ap ah aI;simp only[Y8,Y9];have aW:=R.lt 1 rfl;have bn:=R.lt 0 rfl;have ba:JE W Q 37=true:=by rw[Jw _ _ _ _ _ ah];rfl
 have ai:=(Ja5 W Q T (Jbs r t u (Jl s) (Jl p) a b) (Ne.symm ap)).trans aI;have bc:JE (W.setRow Q (Jbs r t u (Jl s) (Jl p) a b)) T 37=true:=by rw[Jw _ _ _ _ _ ai];rfl
 have aB:=(Bx.cons (R.go au) ah).set (Jbs r t u (Jl s) (Jl p) a b) O (by intro bo E;simp only[YE,YF,YG] at E;rcases E with rfl|rfl<;>simp only<;>omega);have ad:=H ((Bx.cons aB ai).set (Jbs F C A (Jl z) (Jl B) o n) O (by intro bo E;simp only[YE,YF,YG] at E;rcases E with rfl|rfl|rfl<;>simp only<;>first|exact ap|omega));clear aB ah aI ai au R;simp only[Act.put,XK,Ja6,Ja7,Ja8];go_wp2_with fail
 clear ba bc bb bg ap aW bn;generalize (W.setRow Q _).setRow T _=bI at*;refine ad.ret (aD _ (Y.below ad.out.out)) ?_;intro u1 a8 aN;have ag:=H (aN.box (Jbs J P L (Jl N) (Jl I) e d) 30);clear a8 aN ad aD;obtain⟨az,aT⟩:∃al,al=u1.heap.size:=⟨_,rfl⟩
 go_wp2_with fail
 rw[<-aT] at ag|-;clear aT;generalize u1.alloc _=bK at*;refine ag.ret (aR _) ?_;intro u2 bf aP;have ak:=H (aP.box (Jbs J P L (Jl N) (Jl I) e d) 38);clear bf aP ag aR;obtain⟨aJ,aE⟩:∃al,al=u2.heap.size:=⟨_,rfl⟩
 go_wp2_with fail
 rw[<-aE] at ak|-;clear aE;generalize u2.alloc _=bA at*;go_loopw [13,14] (λu13 u14 wr=>∃k:Nat,k<=2/\u13=.int .i64 k/\Hid (Bx w wr [(aJ,.cells (Jbs J P L (Jl N) (Jl I) e d) 38 (0,0)),(az,.cells (Jbs J P L (Jl N) (Jl I) e d) 30 (0,0)),(T,.cells (Jbs F C A (Jl z) (Jl B) o n) 38 (0,0)),(Q,.cells (Jbs r t u (Jl s) (Jl p) a b) 38 (0,0)),(w.heap.size+1,.cells (Jbs F C A (Jl z) (Jl B) o n) 30 (0,0)),(w.heap.size,.cells (Jbs r t u (Jl s) (Jl p) a b) 30 (0,0))])) (λu13 _ _=>(2:Int)-intOf u13 |>.toNat)
 case atStart=>exact⟨0,O,rfl,ak⟩
 case round=>
  obtain⟨k,bv,rfl,v⟩:=hrel;clear ak;by_cases bw:k<2
  ·have ab:Jv wr w.heap.size 0 37=_:=v.part 5 rfl rfl;have aj:=v.lt 5 rfl;go_wp2_with fail
   refine Jb (aX _) ?_;rintro aa bh ⟨aC,ar,rfl,aQ,g⟩;have Z:=H (v.go g);have av:=H aQ;clear aQ g ab aj;have aK:Jv bh Q 0 37=_:=Z.part 3 rfl rfl;have aF:=Z.lt 3 rfl;go_wp2_with fail
   refine Jb (a0 _) ?_;rintro aa bC ⟨bi,a5,rfl,aM,g⟩;have ax:=H (Z.go g);have an:=H (av.below g);have ay:=H (aM.reads aG);clear aM g aK aF Z av;go_wp2_with fail
   refine Jb (IH aC ao.length ar bi a5 ao _ (an.reads aG) ay aS) ?_;rintro aa bE ⟨rfl,g⟩;have aA:=H (ax.go g);have ac:=H (an.below g);clear g ax an ay;go_wp2_with fail
   refine Jb (K1 aC ao.length ar _ _ _ ac aS) ?_;rintro aa bG ⟨rfl,aw,U⟩;have bl:=H (aA.grown v aw (λbq ha=>(ac.lt ha).1));clear aw U aA ac;go_wp2_with fail
   go_roundw
   case rel=>exact⟨k+1,O,by go_num,bl⟩
   case measure=>simp[intOf];omega
  ·obtain rfl:k=2:=O;have ab:Jv wr w.heap.size 0 37=_:=v.part 5 rfl rfl;have aj:=v.lt 5 rfl;have a7:Jv wr (w.heap.size+1) 0 37=_:=v.part 4 rfl rfl;have a6:=v.lt 4 rfl;have aK:Jv wr Q 0 37=_:=v.part 3 rfl rfl;have aF:=v.lt 3 rfl;have bu:Jv wr T 0 37=_:=v.part 2 rfl rfl;have br:=v.lt 2 rfl;have bF:Jv wr az 0 37=_:=v.part 1 rfl rfl;have bD:=v.lt 1 rfl;have bB:Jv wr aJ 0 37=_:=v.part 0 rfl rfl;have bp:=v.lt 0 rfl;have bd:=H (λ(x:J2 wr)=>bk.out x.world ((Y.below v.out.out).later x));have bm:=H (λ(x:J2 wr)=>Xg x.world ((Y.below v.out.out).later x));go_wp2_with fail
   refine JM K K ?_
   repeat go_big_quiet_step (first
    |(go_at_call 26;exact JD (a4 _))
    |(go_at_call 27;exact JD (a3 _))
    |(go_at_call 28;exact JD (bd _))
    |(go_at_call 29;exact JD (aV _))
    |(go_at_call 30;exact JD (be _))
    |(go_at_call 31;exact JD (a1 _))
    |(go_at_call 21;exact JD (aZ _))
    |(go_at_call 9;exact JD (bm _)))
   refine Jaa ?_;intro x;go_wp2_with fail
   go_ret;exact .mk rfl (v.out.out.trans (x.below.mono v.out.out.size))
theorem Mw (l:List Int)(k:Nat)(h:k<l.length):l.drop k=l.getD k 0::l.drop (k+1):=by
 rw[Jas h,Yi,W2 h];rfl
theorem PO {l l2:List Int}(h:l.length≠l2.length):eqL l l2=false:=by
 cases he:eqL l l2 with
 |false=>rfl
 |true=>exact absurd (congrArg List.length ((EC _ _).1 he)) h
theorem Sn (y:Option Addr)(m c:Nat)(v:Option Addr)(b s:Nat)(l l2:List Int)(w:World)(u:JA w y m c l)(e:JA w v b s l2)(W:m<=1000000)(T:b<=1000000):
 Jf 14 #[.slice y m c,.slice v b s] w (Jz w (.bool (eqL l l2))):=by
 by_cases C:m=b
 rotate_left
 ·have t:(m:Int)≠(b:Int):=O;have g:((m:Int) != (b:Int))=true:=by simpa using t
  have z:=H (PO (l:=l) (l2:=l2) (by rw[u.len,e.len];exact C));clear u e C;generalize eqL l l2=a at*;go_enter func14,ntmps14
  go_wp2_with fail
  go_ret;rw[z.out];exact .mk rfl (Jc _ _)
 subst C;have L:=H u;have M:=H e;obtain⟨a,E⟩:∃a,a=eqL l l2:=⟨_,rfl⟩
 rw[<-E];have z:Hid (a=eqL (l.drop 0) (l2.drop 0)):=H (by rw[Y9,Y9];exact E);have j:=H (And.intro u.len e.len);clear u e E;go_enter func14,ntmps14
 go_wp2_with fail
 go_loopg [5] m (λr u5 wr=>∃k:Nat,k+r=m/\u5=.int .i64 k/\Hid (JA wr y m c l)/\Hid (JA wr v m s l2)/\Hid (Ji w wr)/\Hid (a=eqL (l.drop k) (l2.drop k)))
 case atStart=>exact⟨0,O,rfl,L,M,H (Jc _ _),z⟩
 case round=>
  obtain⟨k,A,rfl,B,o,p,J⟩:=hrel;by_cases n:k<m
  ·obtain⟨R,U,rfl,S,F⟩:=B.here O;obtain⟨Z,N,rfl,X,G⟩:=o.here O;have V:=F k n;have aa:=G k n;have P:=B.le;have Y:=o.le
   have I:Hid (a=if l.getD k 0==l2.getD k 0 then eqL (l.drop (k+1)) (l2.drop (k+1)) else false):=H (by
    rw[J.out,Mw l k (by rw[j.1];exact n),Mw l2 k (by rw[j.2];exact n),eqL])
   clear F G;generalize l.getD k 0=x at*;generalize l2.getD k 0=Q at*;cases hxy:(x==Q)
   ·have d:Hid (a=false):=H (by rw[I.out,hxy];rfl);have t:(x != Q)=true:=by simp only[bne,hxy];rfl
    go_wp2_with fail
    go_region
    go_wp2_with fail
    go_ret;rw[d.out];exact .mk rfl p.drew
   ·have d:Hid (a=eqL (l.drop (k+1)) (l2.drop (k+1))):=H (by rw[I.out,hxy];rfl);have t:(x != Q)=false:=by simp only[bne,hxy];rfl
    go_wp2_with fail
    go_region
    go_wp2_with fail
    go_roundg (m-(k+1))
    case measure=>omega
    case rel=>exact⟨k+1,O,by go_num,H B.drew,H o.drew,H p.drew,d⟩
  ·have d:Hid (a=true):=H (by
    rw[J.out,JaH (by rw[j.1];omega),JaH (by rw[j.2];omega)];rfl)
   go_wp2_with fail
   go_ret;rw[d.out];exact .mk rfl p
abbrev PT (l:List Int)(k:Pk):Prop:=Q1 l=0/\(Hg l).six=k.six/\(∀i,i<16->(Hg l).src i=k.src i)/\(∀i,i<16->(Hg l).dst i=k.dst i)/\(Hg l).proto=k.proto/\(Hg l).sp=k.sp/\(Hg l).dp=k.dp/\(Hg l).len=k.len/\(Hg l).flags=k.flags/\(Hg l).frag=k.frag
theorem PT.is {l:List Int}{k:Pk}(h:PT l k):pkR l=.tuple #[.agg (Xl k),Jk 0]:=by
 obtain⟨X,j,y,Y,o,g,n,p,s,t⟩:=h;unfold pkR;rw[X];generalize Hg l=m at*;obtain⟨a,Z,J,b,c,d,e,f,r⟩:=m;obtain⟨u,I,L,M,z,B,A,E,G⟩:=k;simp only at j y Y o g n p s t;subst j o g n p s t;rw[KK y Y]
abbrev ChG (s:Sp):Prop:=
 (s.n.toNat<=(JH s).length/\(JH s).length<=2068)/\
 (s.k.s=false->QJ (spL s)=0/\JR (spL s)=0/\QK (spL s)=JH s)/\
 (s.k.s=true->JT (spL s)=0/\Xb (spL s)=[]/\Xh (spL s)=s.k.p/\Xk (spL s)=JH s/\(spL s).getD 6 0=s.k.p/\(spL s).getD 7 0=64/\w2 (spL s) 4=((JH s).length:Nat))/\
 (¬(s.k.p=6\/s.k.p=17\/s.k.p=1\/s.k.p=58)->(JH s).length=s.n.toNat)/\
 (s.k.p=6\/s.k.p=17\/s.k.p=1\/s.k.p=58->Ab s.k.p (JH s)=0/\(Fy s.k.p (JH s)).data.length=s.n.toNat/\(Fy s.k.p (JH s)).opt.length=0/\(Fy s.k.p (JH s)).flags=s.f/\(JH s).length=tHead s.k.p+s.n.toNat/\XW (Qh s.k.p ((JH s).length:Nat) (Jt s.k.s s.k.S) (Jt s.k.t s.k.T)++JH s)=true)
abbrev UF (a:Sp)(m:Ky)(l:List Int):Prop:=
 (Qy a=0->0<(spL a).length/\PT (spL a) ⟨a.k.s,a.k.S,a.k.T,a.k.p,a.k.a,a.k.b,(spL a).length,a.f,false⟩/\((spL a++l).length<=2048->PT (spL a++l) ⟨a.k.s,a.k.S,a.k.T,a.k.p,a.k.a,a.k.b,(spL a).length,a.f,false⟩)/\ChG a)/\
 (QY a.k).length<=1000/\(JS a.k=true->((XB (QY a.k)).any λk=>Is k a.k)=true)/\
 (JS a.k=true->JS m=true->eqL (JZ a.k) (JZ m)=Is a.k m/\(QY a.k==QY m)=Is a.k m/\(Do a.k m==0)=Is a.k m)
theorem UG {C:Option Ky}{k:Ky}(h:(C.any λa=>Is a k)=true):∃a,C=some a/\kyV a=kyV k:=by
 cases C with
 |none=>cases h
 |some a=>exact⟨a,rfl,(Ty.1 h).value⟩
def hdI (s:Bool):Int:=if s=true then 40 else 20
theorem U6:hdI false=20:=rfl
theorem U7:hdI true=40:=rfl
abbrev U9 (a:Sp)(cut:Nat):Prop:=Qy a=0->hdI a.k.s+(cut:Int)<((spL a).length:Int)->(spL a).length+8<=2048->((spL a).length:Int)=hdI a.k.s+(JH a).length/\ChG a/\
 PT (BJ a cut) ⟨a.k.s,a.k.S,a.k.T,a.k.p,a.k.a,a.k.b,(BJ a cut).length,if cut<14 then 0 else a.f,false⟩/\PT (BK a cut) ⟨a.k.s,a.k.S,a.k.T,a.k.p,0,0,(BK a cut).length,0,true⟩
open Go.RowKit Bits
theorem Jc1{p:Prop}(h:p:=by
 go_wp2_with fail
 refine Jb V ?_;rintro e ak ⟨rfl,j⟩;have E:=H (Wx I (Wx (Below.all (Jc _ _) _) j));clear j;go_wp2_with fail
 go_ret;exact .mk rfl E):p:=h
theorem Tz (h G:Int)(f r T:Value)(a:Seg)(e:Option Addr)(g:Nat)(b:Option Addr)(d:Nat)(w:World)(j:0<=h/\h<100)(o:a.opt.length<=1000)(B:a.data.length<=1000000):
 Jf 138 #[.agg #[Jk h,Jk G,f,r,T],.agg (ZS a e g b d)] w (Jz w (Jk (h+a.opt.length+a.data.length))):=by
 unfold ZS;generalize a.opt.length=i at*;generalize a.data.length=n at*;have p:IntKind.i64.wrap (h+(i:Int))=h+i:=by rw[JaI];omega
 have l:IntKind.i64.wrap (h+(i:Int)+(n:Int))=h+i+n:=by rw[JaI];omega
 exact Jem
theorem KR (p L sm:Int)(M N J:FuncId)(b:Seg)(s:Option Addr)(n o:Nat)(l:List Int)(aa Z:Option Addr)(k R S:Nat)(aU az B:List Int)(w:World)
 (aB:JA w s n o l)(aJ:JA w aa k R aU)(aR:JA w Z k S az)(bn:0<n)(a4:n<=60000)(aD:k=4\/k=16)
 (aK:∀d,JA d s n o l->Jf 77 #[p,.slice s n o] d (Z6 d (ZS b) 0))
 (ay:∀T d,d.heap[T]? =some (.map QH 4)->(Instr.lookup 224 (.map (some T)) (Jq p) false).run prog d=.ok (.agg #[Jk L,Jk sm,Jr M,Jr N,Jr J]) d)
 (aq:0<=L/\L<100)(aN:b.opt.length<=1000)(bi:b.data.length<=60000)(aG:L+b.opt.length+b.data.length=(n:Int))
 (av:∀d,JA d aa k R aU->JA d Z k S az->Jf 139 #[p,Jk n,.slice aa k R,.slice Z k S] d (Bs d B))
 (aM:JF B)(aP:B.length<=100)
 (ap:XW (B++l)=true)(ao:p=17->8<=n):
 Jf 78 #[p,.slice s n o,.slice aa k R,.slice Z k S] w (Jz w (.bool true)):=by
 have ae:=H aB;have aW:=H aJ;have a3:=H aR;have am:=H aK;have ax:=H ay;have aI:=H av;have bf:=H aM;have a7:=H aP;have aX:=H ap;have a1:=H ao
 have ac:Hid (∀A z u y d,Jf 138 #[.agg #[Jk L,Jk sm,Jr M,Jr N,Jr J],.agg (ZS b A z u y)] d (Jz d (Jk n))):=H λA z u y d=>by
  rw[<-aG];exact Tz L sm _ _ _ b A z u y d aq aN O
 clear aB aJ aR aK ay aq aN bi aG av aM aP ap ao;have aL:=H (Bx.start w);have a5:=H aD;have bg:=H a4;clear aD;unfold ZS at ac am;go_enter func78,ntmps78
 go_wp2_with fail
 refine Jb (am _ ae) ?_;rintro e u1 ⟨⟨A,z,u,y,rfl⟩,g⟩;have F:=H ((aL.go g).box (JbH (Jq b.proto) (Jl b.src) (Jl b.dst) (Jp b.seq) (Jp b.ack) (Jq b.flags) (Jl b.win) (Jl b.urg) (.slice A b.opt.length z) (Jq b.type) (Jq b.code) (.slice u b.data.length y)) 149);clear g aL am;have aS:=H (ac A z u y);clear ac;obtain⟨Y,aO⟩:∃bb,bb=u1.heap.size:=⟨_,rfl⟩
 go_wp2_with fail
 rw[<-aO] at F|-;clear aO;generalize u1.alloc _=t at*;have hcut:∀w,(Instr.slice 22 (.slice s n o) none (some (.int .i64 (n:Int))) none).run prog w=.ok (.slice s n o) w:=λw=>B5 22 s n o 1 elemBytes sizeBytes n (n:Int) rfl ae.le w
 have U:Y<t.heap.size:=F.lt 0 rfl;have Q:Jv t Y 0 12=(JbH (Jq b.proto) (Jl b.src) (Jl b.dst) (Jp b.seq) (Jp b.ack) (Jq b.flags) (Jl b.win) (Jl b.urg) (.slice A b.opt.length z) (Jq b.type) (Jq b.code) (.slice u b.data.length y):Array Value):=F.part 0 rfl rfl;refine QO [.h,.w,.h,.w,.h] [(0,3,0),(2,1,0),(4,2,0)] (λ_ d=>Jv d Y 0 12=(JbH (Jq b.proto) (Jl b.src) (Jl b.dst) (Jp b.seq) (Jp b.ack) (Jq b.flags) (Jl b.win) (Jl b.urg) (.slice A b.opt.length z) (Jq b.type) (Jq b.code) (.slice u b.data.length y):Array Value)) [3] [(.w,1),(.w,3),(.w,5),(.w,6),(.q,7)] K K K K ?_;apply Exists.intro;refine⟨λbh aF=>?_,?_,?_⟩
 ·have aj:=F.go aF;have bj:Jv bh Y 0 12=_:=aj.part 0 rfl rfl;have bm:=aj.lt 0 rfl;clear aj aF;exact JcB
 ·intro q aA bl ai;simp only[YE,YF,YG] at aA;rcases aA with rfl|rfl|rfl
  ·cases ai;exact⟨_,rfl,rfl,λw2 al=>K⟩
  ·cases ai;exact⟨_,rfl,rfl,λw2 al=>K⟩
  ·cases ai;exact⟨_,rfl,rfl,λw2 al=>by simp[execOp,go_sem,al]⟩
 simp only[Qp,Ja0,Jbf];refine⟨λv G w2=>∃T,v=.map (some T)/\Ji t w2/\w2.heap[T]? =some (.map QH 4),?_,?_,?_⟩
 ·refine⟨rfl,λd ah=>.inr ⟨136,#[],K,?_⟩⟩;obtain⟨⟨x,rfl⟩,-⟩:=ah;refine(Zk x.world).mono ?_;rintro e w2 ⟨T,rfl,bs,a0,X⟩;exact⟨_,rfl,T,rfl,Wx x.below X,a0⟩
 ·rintro v G r-w2 ⟨T,-,g,-⟩;exact(J0 g _ 0 12 U).trans Q
 rintro v ⟨ba,T,rfl,-⟩;refine⟨λv G w2=>v=.agg #[Jk L,Jk sm,Jr M,Jr N,Jr J]/\Ji t w2,?_,?_,?_⟩
 ·refine JX.made rfl ?_;rintro d ⟨bp,bd,g,bc⟩;cases bd;exact⟨.agg #[Jk L,Jk sm,Jr M,Jr N,Jr J],d,Z5 _ _ (vm:=.map (some T)) (vx:=.int .u8 p) K K (ax T d bc),rfl,g⟩
 ·rintro v G r-w2 ⟨-,g⟩;exact(J0 g _ 0 12 U).trans Q
 rintro v ⟨aV,rfl,-⟩;refine⟨λv G w2=>v=.int .i64 n/\Ji t w2,?_,?_,?_⟩
 ·refine⟨rfl,λd ah=>.inr ⟨138,#[.agg #[Jk L,Jk sm,Jr M,Jr N,Jr J],.agg (JbH (Jq b.proto) (Jl b.src) (Jl b.dst) (Jp b.seq) (Jp b.ack) (Jq b.flags) (Jl b.win) (Jl b.urg) (.slice A b.opt.length z) (Jq b.type) (Jq b.code) (.slice u b.data.length y):Array Value)],K,?_⟩⟩;obtain⟨-,a6⟩:=ah;refine(aS d).mono ?_;rintro e w2 ⟨rfl,g⟩;exact⟨_,rfl,rfl,Wx a6 g⟩
 ·rintro v G r-w2 ⟨-,g⟩;exact(J0 g _ 0 12 U).trans Q
 rintro v ⟨aZ,rfl,-⟩;refine⟨λv G w2=>v=.slice s n o/\Ji t w2,?_,λ_ _=>J4 rfl,?_⟩
 ·refine JX.made rfl ?_;rintro d ⟨-,g⟩;exact⟨.slice s n o,d,by simp[execOp,go_sem,hcut],rfl,g⟩
 rintro v ⟨a9,rfl,-⟩;refine⟨.slice s n o,⟨rfl,λ_=>K⟩,?_⟩;rintro bq ⟨-,X⟩;have an:=H (F.go X);clear X F ax hcut U Q ba aV aZ a9 aS;simp only[Act.put,Ja6,Ja7,Ja8];go_wp2_with fail
 have ad:=H (an.out.out);refine Jb (aI _ (aW.below ad) (a3.below ad)) ?_;rintro e C ⟨ag,ar,rfl,ab,aQ⟩;have be:=H (an.go aQ);have aH:=H (ab.reads bf);have au:Hid (∀a,ag=some a->a.block<C.heap.size):=H (λa ha=>(ab.lt ha).2);clear ab aQ ad an aI;have I:=H (be.out.out);have aE:=H (ae.below I);obtain⟨r,W,rfl,a2,aT⟩:=aE.here O;have aC:=H (FV 22 aH aE (by have:=a7.out;omega) (by have:=bg.out;omega) au (λa ha=>by cases ha;exact a2));have aw:=H aT;clear aT
 have V:Hid (Jf 106 #[.slice (some ⟨C.heap.size,0,none⟩) 2 2] (C.alloc (.cells #[.slice ag B.length ar,.slice (some ⟨r,W,none⟩) n o] 22)) (Jz (C.alloc (.cells #[.slice ag B.length ar,.slice (some ⟨r,W,none⟩) n o] 22)) (.bool true))):=H (by
  have h:=LK C.heap.size 2 2 _ _ aC D;rw[show[B,l].flatten=B++l by simp,aX.out] at h;exact h)
 clear aC au aH;by_cases af:p=17
 ·subst af;have ao:=a1.out rfl;have bk:Jg C r (W+6) (Jq (l.getD 6 0)):=aw.out 6 O;have bo:Jg C r (W+7) (Jq (l.getD 7 0)):=aw.out 7 O;generalize l.getD 6 0=a8 at*;generalize l.getD 7 0=aY at*;rcases a5.out with rfl|rfl
  ·cases e6:(a8==0)
   ·exact Jc1
   ·cases e7:(aY==0)
    ·exact Jc1
    ·go_wp2_with fail
     go_ret;exact .mk rfl I
  ·exact Jc1
 ·have br:(p==17)=false:=by simpa using af
  clear af;exact Jc1
theorem Mx (p:Int)(E:p=6\/p=17\/p=1\/p=58)(l a b:List Int)(C:Nat)(ag:C<=2048)(J:Ab p l=0)(N:(Fy p l).data.length=C)(S:(Fy p l).opt.length=0)(V:l.length=tHead p+C)(ad:XW (Qh p (l.length:Nat) a b++l)=true)(s:Option Addr)(n o:Nat)(t g:Option Addr)(k v r:Nat)(w:World)
 (u:JA w s n o l)(j:JA w t k v a)(y:JA w g k r b)(A:k=4\/k=16):
 Jf 78 #[p,.slice s n o,.slice t k v,.slice g k r] w (Jz w (.bool true)):=by
 have B:=u.len;have ae:a.length=b.length:=j.len.trans y.len.symm;have af:a.length=4\/a.length=16:=by rw[j.len];exact A
 have R:Jm p->(n:Int)<65536->∀d,JA d t k v a->JA d g k r b->Jf 139 #[p,Jk n,.slice t k v,.slice g k r] d (Bs d (Qh p n a b)):=λI Z d Y aa=>by
  rcases A with rfl|rfl
  ·exact GR p n t g v r a b d Y aa I ⟨O,Z⟩
  ·exact Ic p n t g v r a b d Y aa I ⟨O,Z⟩
 have W:Jm p->JF (Qh p n a b):=λI=>Fp _ _ _ _ j.byte y.byte I
 have M:(Qh p n a b).length<=100:=by
  unfold Qh;split
  ·simp
  ·split<;>simp[be2]<;>omega
 have L:tHead p≠0->n=tHead p+C->XW (Qh p n a b++l)=true:=λh ah=>by
  rw[<-B];exact ad
 have U:∀Q,Ab p l=0->Fy p l=Q->n<=100000->∀d,JA d s n o l->Jf 77 #[p,.slice s n o] d (Z6 d (ZS Q) 0):=λQ z e ac d ab=>by
  have h:=CT p E s n o _ d ab ac;unfold Qo at h;rw[z,YH rfl,e] at h;exact h
 rcases E with rfl|rfl|E
 ·have z:=J;have e:=N;have G:(Fy 6 l).opt.length=0:=S;have F:n=20+C:=by rw[<-B,V,show tHead 6=20 from rfl]
  refine KR 6 20 16 184 185 186 _ s n o _ t g k v r a b _ w u j y O O A (U _ z rfl O) (λT d h=>?_) O O (by rw[e];omega) (by rw[e,G];omega) (R O O) (W O) M (L D F) (λh=>by cases h);exact QG (P:=prog) 224 5 222 T 4 QH .u8 6 Ej false d underlying224 underlying5 h (some (0,FT)) rfl ZF
 ·have z:=J;have e:=N;have G:(Fy 17 l).opt.length=0:=S;have F:n=8+C:=by rw[<-B,V,show tHead 17=8 from rfl]
  refine KR 17 8 6 187 188 189 _ s n o _ t g k v r a b _ w u j y O O A (U _ z rfl O) (λT d h=>?_) O O (by rw[e];omega) (by rw[e,G];omega) (R O O) (W O) M (L D F) (λ_=>O);exact QG (P:=prog) 224 5 222 T 4 QH .u8 17 Ej false d underlying224 underlying5 h (some (1,FU)) rfl ZF
 ·have z:=J;have e:=N;have G:(Fy p l).opt.length=0:=S;have F:n=4+C:=by rw[<-B,V,show tHead p=4 from by rcases E with rfl|rfl<;>rfl]
  have X:tHead p=4:=by rcases E with rfl|rfl<;>rfl
  refine KR p 4 2 181 182 183 _ s n o _ t g k v r a b _ w u j y O O A (U _ z rfl O) (λT d h=>?_) O O (by rw[e];omega) (by rw[e,G];omega) (R O O) (W O) M (L (by rw[X];decide) (by rw[X];exact F)) (λh=>O);rcases E with rfl|rfl
  ·exact QG (P:=prog) 224 5 222 T 4 QH .u8 1 Ej false d underlying224 underlying5 h (some (2,Zq)) rfl ZF
  ·exact QG (P:=prog) 224 5 222 T 4 QH .u8 58 Ej false d underlying224 underlying5 h (some (3,Zq)) rfl ZF
open Go.RowKit Bits
theorem Jc7{p:Prop}(h:p:=by
 cases S;exact⟨_,rfl,rfl,λw2 R=>K⟩):p:=h
theorem JdA{p:Prop}(h:p:=by
 cases M;exact⟨_,rfl,rfl,λw2 R=>K⟩):p:=h
theorem G9 (Z e:Nat->Int)(p a b f:Int)(j:Nat)(v:EA ⟨⟨false,Z,false,e,p,a,b⟩,f,(j:Int)⟩)(A:Qy ⟨⟨false,Z,false,e,p,a,b⟩,f,(j:Int)⟩=0)(Q:ChG ⟨⟨false,Z,false,e,p,a,b⟩,f,(j:Int)⟩)(E:¬(p=6\/p=17\/p=1\/p=58))(s:Option Addr)(n o:Nat)(w:World)(u:JA w s n o (spL ⟨⟨false,Z,false,e,p,a,b⟩,f,(j:Int)⟩)):
 Jf 32 #[.agg (Jbw false false p (Jl a) (Jl b) f (Jk (j:Int)) Z e:Array Value),.slice s n o] w (Jz w (.bool true)):=by
 have M:=H u;have ad:=H v;have B:n<=100000:=by have:=(ZT A).len;rw[<-(ZT A).is,u.len] at this;omega
 obtain⟨⟨S,aj⟩,I,T,F,N⟩:=Q;simp only[Jak] at S;have R:JF (JH ⟨⟨false,Z,false,e,p,a,b⟩,f,(j:Int)⟩):=QU v;have z:Hid (Bx w (w.alloc (.cells (Jbw false false p (Jl a) (Jl b) f (Jk (j:Int)) Z e) 47)) [(w.heap.size,.cells (Jbw false false p (Jl a) (Jl b) f (Jk (j:Int)) Z e) 47 (0,0))]):=H ((Bx.start w).box _ _);have t:=F E;simp only[Jak] at t;have W:(p==6)=false:=by simp;omega
 have ac:(p==17)=false:=by simp;omega
 have af:(p==1)=false:=by simp;omega
 have ak:(p==58)=false:=by simp;omega
 have P:=H t;clear t;obtain⟨-,L,C⟩:=I rfl
 have J:Hid (∀d,JA d s n o (spL ⟨⟨false,Z,false,e,p,a,b⟩,f,(j:Int)⟩)->Jf 76 #[.slice s n o] d (JO d (JH ⟨⟨false,Z,false,e,p,a,b⟩,f,(j:Int)⟩) 0)):=H λd r=>by
  have h:=Bq s n o _ d r B;rw[L,C] at h;exact h
 clear L C u v A E B I T F N;generalize JH ⟨⟨false,Z,false,e,p,a,b⟩,f,(j:Int)⟩=U at*;generalize spL ⟨⟨false,Z,false,e,p,a,b⟩,f,(j:Int)⟩=ag at*;go_enter func32,ntmps32
 go_wp2_with fail
 generalize w.alloc _=V at*;refine Jb (J _ (M.below z.out.out)) ?_;rintro ae y ⟨ah,al,rfl,G,g⟩;have l:=H (z.go g);have ai:=H (G.reads R);clear G g z J;have aa:Jg y w.heap.size 0 (.bool false):=l.cell 0 0 rfl rfl;have ab:Jg y w.heap.size 34 (Jq p):=l.cell 0 34 rfl rfl;have X:Jg y w.heap.size 38 (Jk (j:Int)):=l.cell 0 38 rfl rfl;have Y:decide ((U.length:Int)<(j:Int))=false:=by simp;omega
 go_wp2_with fail
 go_ret;exact .mk (by rw[P.out];simp) l.out.out
theorem HN (Z t:Nat->Int)(p a b f:Int)(v:Nat)(T:EA ⟨⟨true,Z,true,t,p,a,b⟩,f,(v:Int)⟩)(M:Qy ⟨⟨true,Z,true,t,p,a,b⟩,f,(v:Int)⟩=0)(am:ChG ⟨⟨true,Z,true,t,p,a,b⟩,f,(v:Int)⟩)(E:¬(p=6\/p=17\/p=1\/p=58))(s:Option Addr)(n o:Nat)(w:World)(u:JA w s n o (spL ⟨⟨true,Z,true,t,p,a,b⟩,f,(v:Int)⟩)):
 Jf 32 #[.agg (Jbw true true p (Jl a) (Jl b) f (Jk (v:Int)) Z t:Array Value),.slice s n o] w (Jz w (.bool true)):=by
 have ab:=H u;have aA:=H T;have B:n<=100000:=by have:=(ZT M).len;rw[<-(ZT M).is,u.len] at this;omega
 obtain⟨⟨an,aC⟩,ao,aa,X,ak⟩:=am;simp only[Jak] at an;have aq:JF (JH ⟨⟨true,Z,true,t,p,a,b⟩,f,(v:Int)⟩):=QU T;have Q:Hid (Bx w (w.alloc (.cells (Jbw true true p (Jl a) (Jl b) f (Jk (v:Int)) Z t) 47)) [(w.heap.size,.cells (Jbw true true p (Jl a) (Jl b) f (Jk (v:Int)) Z t) 47 (0,0))]):=H ((Bx.start w).box _ _);have P:=X E;simp only[Jak] at P;have az:(p==6)=false:=by simp;omega
 have aF:(p==17)=false:=by simp;omega
 have aI:(p==1)=false:=by simp;omega
 have aN:(p==58)=false:=by simp;omega
 have al:=H P;clear P;obtain⟨aj,W,S,N,-,Y,-⟩:=aa rfl;simp only at S;obtain⟨ai,ac,ae⟩:∃ai ac,∀d,JA d s n o (spL ⟨⟨true,Z,true,t,p,a,b⟩,f,(v:Int)⟩)->Jf 76 #[.slice s n o] d (JO d ai ac):=⟨_,_,λd r=>Bq s n o _ d r B⟩
 have ag:=H ae
 obtain⟨A,J,C,L,j,l,ad⟩:∃u1 u2 u3 u4 au ap,sxA (spL ⟨⟨true,Z,true,t,p,a,b⟩,f,(v:Int)⟩)=sxF u1 u2 u3 u4 64 au ap:=by
  have h:=Eq.refl (sxA (spL ⟨⟨true,Z,true,t,p,a,b⟩,f,(v:Int)⟩));conv at h=>rhs;unfold sxA;rw[Y]
  exact⟨_,_,_,_,_,_,h⟩
 have R:Hid (∀d,JA d s n o (spL ⟨⟨true,Z,true,t,p,a,b⟩,f,(v:Int)⟩)->Jf 54 #[.slice s n o] d (λe w2=>∃y z G I,e=.returned (.tuple #[.agg (sxF A J C L 64 j l),.agg #[.slice y 0 z,Jq p],.slice G (JH ⟨⟨true,Z,true,t,p,a,b⟩,f,(v:Int)⟩).length I,Jk 0])/\JA w2 G (JH ⟨⟨true,Z,true,t,p,a,b⟩,f,(v:Int)⟩).length I (JH ⟨⟨true,Z,true,t,p,a,b⟩,f,(v:Int)⟩)/\Ji d w2)):=H λd r=>by
  refine(CS s n o _ d r B).mono ?_;rintro e w2 (⟨h,-⟩|⟨-,y,z,aM,G,I,rfl,-,ah,ar,-⟩)
  ·exact absurd aj h
  ·rw[N] at ah;refine⟨y,z,G,I,?_,ah.reads aq,ar⟩;rw[ad,W,S,N];rfl
 clear aj W S N Y ae ad u T M E B ao aa X ak;generalize JH ⟨⟨true,Z,true,t,p,a,b⟩,f,(v:Int)⟩=aw at*;generalize spL ⟨⟨true,Z,true,t,p,a,b⟩,f,(v:Int)⟩=aB at*;unfold sxF at R;go_enter func32,ntmps32
 go_wp2_with fail
 generalize w.alloc _=aE at*;refine Jb (ag _ (ab.below Q.out.out)) ?_;rintro e ax ⟨ay,aK,rfl,-,g⟩;have F:=H (Q.go g);clear g Q ag;have av:Jg ax w.heap.size 0 (.bool true):=F.cell 0 0 rfl rfl;go_wp2_with fail
 refine Jb (R _ (ab.below F.out.out)) ?_;rintro e V ⟨y,z,G,I,rfl,af,g⟩;have U:=H (((F.go g).box (JbB A (Jp J) (Jl C) L (64:Int) j l) 118).box #[.slice y 0 z,p] 96);have aJ:=H ((af.alloc (.cells (JbB A (Jp J) (Jl C) L (64:Int) j l) 118)).alloc (.cells #[.slice y 0 z,p] 96));have aL:Jg ((V.alloc (.cells (JbB A (Jp J) (Jl C) L (64:Int) j l) 118)).alloc (.cells #[.slice y 0 z,p] 96)) w.heap.size 34 (Jq p):=U.cell 2 34 rfl rfl;have aD:Jg ((V.alloc (.cells (JbB A (Jp J) (Jl C) L (64:Int) j l) 118)).alloc (.cells #[.slice y 0 z,p] 96)) w.heap.size 38 (Jk (v:Int)):=U.cell 2 38 rfl rfl;have aG:w.heap.size<V.heap.size:=Jd (F.lt 0 rfl) g.size;have aH:decide ((aw.length:Int)<(v:Int))=false:=by simp;omega
 clear af g F R av;go_wp2_with fail
 go_ret;exact .mk (by rw[al.out];simp) U.out.out
theorem Ha (Z l:Nat->Int)(p a b f:Int)(u:Nat)(T:EA ⟨⟨false,Z,false,l,p,a,b⟩,f,(u:Int)⟩)(J:Qy ⟨⟨false,Z,false,l,p,a,b⟩,f,(u:Int)⟩=0)(aO:ChG ⟨⟨false,Z,false,l,p,a,b⟩,f,(u:Int)⟩)(E:p=6\/p=17\/p=1\/p=58)(s:Option Addr)(n o:Nat)(w:World)(ac:JA w s n o (spL ⟨⟨false,Z,false,l,p,a,b⟩,f,(u:Int)⟩)):
 Jf 32 #[.agg (Jbw false false p (Jl a) (Jl b) f (Jk (u:Int)) Z l:Array Value),.slice s n o] w (Jz w (.bool true)):=by
 have aS:=H ac;have a8:=H T;have aC:n<=100000:=by have:=(ZT J).len;rw[<-(ZT J).is,ac.len] at this;omega
 obtain⟨⟨aP,bb⟩,ax,aQ,aM,av⟩:=aO;simp only[Jak] at aP;have aW:JF (JH ⟨⟨false,Z,false,l,p,a,b⟩,f,(u:Int)⟩):=QU T;have ai:Hid (Bx w (w.alloc (.cells (Jbw false false p (Jl a) (Jl b) f (Jk (u:Int)) Z l) 47)) [(w.heap.size,.cells (Jbw false false p (Jl a) (Jl b) f (Jk (u:Int)) Z l) 47 (0,0))]):=H ((Bx.start w).box _ _);obtain⟨X,S,am,hF,an,ae⟩:=av E;simp only[Jak] at ae S X am hF an
 have aL:Hid (∀d z A B y F C,JA d z (JH ⟨⟨false,Z,false,l,p,a,b⟩,f,(u:Int)⟩).length A (JH ⟨⟨false,Z,false,l,p,a,b⟩,f,(u:Int)⟩)->JA d B 4 y (Jt false Z)->JA d F 4 C (Jt false l)->Jf 78 #[p,.slice z (JH ⟨⟨false,Z,false,l,p,a,b⟩,f,(u:Int)⟩).length A,.slice B 4 y,.slice F 4 C] d (Jz d (.bool true))):=H λd z A B y F C aX a1 a0=>by
  have aK:u<=2048:=by have:=(ZT J).n1;simp only at this;omega
  exact Mx p E _ (Jt false Z) (Jt false l) u aK X S am an ae z _ A B F 4 y C d aX a1 a0 D
 obtain⟨t,al⟩:∃t,Fy p (JH ⟨⟨false,Z,false,l,p,a,b⟩,f,(u:Int)⟩)=t:=⟨_,rfl⟩
 have aj:Hid (∀d z A,JA d z (JH ⟨⟨false,Z,false,l,p,a,b⟩,f,(u:Int)⟩).length A (JH ⟨⟨false,Z,false,l,p,a,b⟩,f,(u:Int)⟩)->Jf 77 #[p,.slice z (JH ⟨⟨false,Z,false,l,p,a,b⟩,f,(u:Int)⟩).length A] d (Z6 d (ZS t) 0)):=H λd z A r=>by
  have h:=CT p E z (JH ⟨⟨false,Z,false,l,p,a,b⟩,f,(u:Int)⟩).length A _ d r O;unfold Qo at h;rw[X,YH rfl,al] at h;exact h
 rw[al] at S hF;have aZ:Hid (∀d,Jf 64 #[adV false Z] d (AY d 4 (Jt false Z))):=H λd=>(bytes_any false Z d).mono λ_ _ h=>h.n (JB _ _) (JL T.k.S false)
 have aU:Hid (∀d,Jf 64 #[adV false l] d (AY d 4 (Jt false l))):=H λd=>(bytes_any false l d).mono λ_ _ h=>h.n (JB _ _) (JL T.k.T false)
 have aw:=H (And.intro S hF);have aN:=H E;clear ae X S hF am an al;obtain⟨-,Y,au⟩:=ax rfl
 have aG:Hid (∀d,JA d s n o (spL ⟨⟨false,Z,false,l,p,a,b⟩,f,(u:Int)⟩)->Jf 76 #[.slice s n o] d (JO d (JH ⟨⟨false,Z,false,l,p,a,b⟩,f,(u:Int)⟩) 0)):=H λd r=>by
  have h:=Bq s n o _ d r aC;rw[Y,au] at h;exact h
 clear Y au ac T J E aC ax aQ aM av;generalize JH ⟨⟨false,Z,false,l,p,a,b⟩,f,(u:Int)⟩=U at*;generalize spL ⟨⟨false,Z,false,l,p,a,b⟩,f,(u:Int)⟩=ba at*;go_enter func32,ntmps32
 go_wp2_with fail
 generalize w.alloc _=be at*;refine Jb (aG _ (aS.below ai.out.out)) ?_;rintro e ad ⟨z,A,rfl,aE,g⟩;have V:=H (ai.go g);have ah:=H (aE.reads aW);clear aE g ai aG;have bq:Jg ad w.heap.size 0 (.bool false):=V.cell 0 0 rfl rfl;have a2:Jg ad w.heap.size 34 (Jq p):=V.cell 0 34 rfl rfl;have aT:Jg ad w.heap.size 38 (Jk (u:Int)):=V.cell 0 38 rfl rfl;have bl:decide ((U.length:Int)<(u:Int))=false:=by simp;omega
 have a5:(p==6)=true\/((p==6)=false/\(p==17)=true)\/((p==6)=false/\(p==17)=false/\(p==1)=true)\/((p==6)=false/\(p==17)=false/\(p==1)=false/\(p==58)=true):=by
  rcases aN.out with rfl|rfl|rfl|rfl<;>decide
 unfold ZS at aj;have br:((t.data.length:Int)==(u:Int))=true:=by rw[aw.1];simp
 have bh:(t.flags==f)=true:=by rw[aw.2];simp
 rcases a5 with ag|⟨ag,aF⟩|⟨ag,aF,Y⟩|⟨ag,aF,Y,bf⟩
 all_goals
  go_wp2_with fail
  refine Jb (aj _ z A ah) ?_;rintro e aA ⟨⟨aH,az,aa,ab,rfl⟩,g⟩;have L:=H ((V.go g).box (JbH (Jq t.proto) (Jl t.src) (Jl t.dst) (Jp t.seq) (Jp t.ack) (Jq t.flags) (Jl t.win) (Jl t.urg) (.slice aH t.opt.length az) (Jq t.type) (Jq t.code) (.slice aa t.data.length ab)) 149);have ay:=H ((ah.below g).alloc (.cells (JbH (Jq t.proto) (Jl t.src) (Jl t.dst) (Jp t.seq) (Jp t.ack) (Jq t.flags) (Jl t.win) (Jl t.urg) (.slice aH t.opt.length az) (Jq t.type) (Jq t.code) (.slice aa t.data.length ab)) 149));clear g V ah aj a2 aT;obtain⟨aJ,ar⟩:∃b,b=aA.heap.size:=⟨_,rfl⟩
  go_wp2_with fail
  rw[<-ar] at L|-;clear ar;generalize aA.alloc _=G at*;have P:w.heap.size<G.heap.size:=L.lt 1 rfl;have ao:Jg G w.heap.size 34 (Jq p):=L.cell 1 34 rfl rfl;have ap:Jv G w.heap.size 17 17=(Jbr false l:Array Value):=by rw[JG _ _ _ _ _ _ _ (L.at 1 rfl)];simp
  refine QO [.h,.h,.h,.h,.h,.h,.h,.h,.h,.h,.h,.h,.h,.h,.h,.h,.h,.h,.h,.h,.h,.h,.h,.h,.h,.w,.h,.h,.h] [(18,2,0),(19,2,0),(20,2,0),(21,2,0),(26,1,0),(27,1,0),(28,1,0)] (λ_ d=>Jg d w.heap.size 34 (Jq p)/\Jv d w.heap.size 17 17=(Jbr false l:Array Value)) [2] [(.w,25),(.w,29),(.w,30),(.q,31),(.q,32)] K K K K ?_;apply Exists.intro;refine⟨λN aD=>?_,?_,?_⟩
  ·have I:=H (L.go aD);have a6:=I.lt 1 rfl;have bn:=I.lt 0 rfl;have bm:Jg N w.heap.size 34 (Jq p):=I.cell 1 34 rfl rfl;have bc:Jg N w.heap.size 37 (Jq f):=I.cell 1 37 rfl rfl;have a7:Jg N w.heap.size 38 (Jk (u:Int)):=I.cell 1 38 rfl rfl;have a9:Jg N aJ 11 (.slice aa t.data.length ab):=I.cell 0 11 rfl rfl;have bg:Jg N aJ 5 (Jq t.flags):=I.cell 0 5 rfl rfl;have bo:Jv N w.heap.size 0 17=(Jbr false Z:Array Value):=by rw[JG _ _ _ _ _ _ _ (I.at 1 rfl)];simp
   have bk:Jv N w.heap.size 17 17=(Jbr false l:Array Value):=by rw[JG _ _ _ _ _ _ _ (I.at 1 rfl)];simp
   clear aD;exact JcB
  ·intro q aB bd M;simp only[YE,YF,YG] at aB;rcases aB with rfl|rfl|rfl|rfl|rfl|rfl|rfl
   ·exact JdA
   ·exact JdA
   ·cases M;exact⟨_,rfl,rfl,λw2 R=>by simp[execOp,go_sem,R.1]⟩
   ·exact JdA
   ·exact JdA
   ·exact JdA
   ·cases M;exact⟨_,rfl,rfl,λw2 R=>by simp[execOp,go_sem,R.2]⟩
  simp only[Qp,Ja0,Jbf];refine⟨λv W w2=>∃B y,v=.slice B 4 y/\JA w2 B 4 y (Jt false Z)/\JA w2 z U.length A U/\Ji G w2,?_,?_,?_⟩
  ·refine⟨rfl,λd Q=>.inr ⟨64,#[adV false Z],K,?_⟩⟩;obtain⟨⟨x,rfl⟩,-⟩:=Q;refine(aZ x.world).mono ?_;rintro e w2 ⟨B,y,rfl,j,g⟩;exact⟨_,rfl,B,y,rfl,j,(ay.later x).below g,Wx x.below g⟩
  ·rintro v W r-w2 ⟨B,y,-,-,-,g⟩;exact⟨(JK g P _ rfl).trans ao,(J0 g _ 17 17 P).trans ap⟩
  rintro v ⟨bp,B,y,rfl,-⟩;refine⟨λv W w2=>∃F C,v=.slice F 4 C/\JA w2 B 4 y (Jt false Z)/\JA w2 F 4 C (Jt false l)/\JA w2 z U.length A U/\Ji G w2,?_,?_,?_⟩
  ·refine⟨rfl,λd Q=>.inr ⟨64,#[adV false l],K,?_⟩⟩;obtain⟨aY,aR,J,j,aq,af⟩:=Q;obtain⟨rfl,rfl⟩:B=aY/\y=aR:=by simpa using J
   refine(aU d).mono ?_;rintro e w2 ⟨F,C,rfl,ak,g⟩;exact⟨_,rfl,F,C,rfl,j.below g,ak,aq.below g,Wx af g⟩
  ·rintro v W r-w2 ⟨F,C,-,-,-,-,g⟩;exact⟨(JK g P _ rfl).trans ao,(J0 g _ 17 17 P).trans ap⟩
  rintro v ⟨bj,F,C,rfl,-⟩;refine⟨λv W w2=>v=.bool true/\Ji G w2,?_,λ_ _=>J4 rfl,?_⟩
  ·refine⟨rfl,λd Q=>.inr ⟨78,#[p,.slice z U.length A,.slice B 4 y,.slice F 4 C],K,?_⟩⟩;obtain⟨a4,aV,J,j,ak,aq,af⟩:=Q;obtain⟨rfl,rfl⟩:F=a4/\C=aV:=by simpa using J
   refine(aL d z A B y F C aq j ak).mono ?_;rintro e w2 ⟨rfl,g⟩;exact⟨_,rfl,rfl,Wx af g⟩
  rintro v ⟨bs,rfl,-⟩;refine⟨.bool true,⟨rfl,λ_=>K⟩,?_⟩;refine⟨.bool true,⟨rfl,λ_=>K⟩,?_⟩;rintro bi ⟨-,aI⟩;have a3:=H (L.go aI).out;clear aI L ay P ao ap;simp only[Act.put,Ja6,Ja7,Ja8];go_wp2_with fail
  go_ret;exact .mk rfl a3
theorem HO (Z j:Nat->Int)(p a b f:Int)(y:Nat)(ad:EA ⟨⟨true,Z,true,j,p,a,b⟩,f,(y:Int)⟩)(P:Qy ⟨⟨true,Z,true,j,p,a,b⟩,f,(y:Int)⟩=0)(a4:ChG ⟨⟨true,Z,true,j,p,a,b⟩,f,(y:Int)⟩)(E:p=6\/p=17\/p=1\/p=58)(s:Option Addr)(n o:Nat)(w:World)(ak:JA w s n o (spL ⟨⟨true,Z,true,j,p,a,b⟩,f,(y:Int)⟩)):
 Jf 32 #[.agg (Jbw true true p (Jl a) (Jl b) f (Jk (y:Int)) Z j:Array Value),.slice s n o] w (Jz w (.bool true)):=by
 have aK:=H ak;have bw:=H ad;have an:n<=100000:=by have:=(ZT P).len;rw[<-(ZT P).is,ak.len] at this;omega
 obtain⟨⟨a5,bA⟩,a6,aI,a2,aF⟩:=a4;simp only[Jak] at a5;have bc:JF (JH ⟨⟨true,Z,true,j,p,a,b⟩,f,(y:Int)⟩):=QU ad;have ar:Hid (Bx w (w.alloc (.cells (Jbw true true p (Jl a) (Jl b) f (Jk (y:Int)) Z j) 47)) [(w.heap.size,.cells (Jbw true true p (Jl a) (Jl b) f (Jk (y:Int)) Z j) 47 (0,0))]):=H ((Bx.start w).box _ _);obtain⟨ag,ab,az,hF,aA,am⟩:=aF E;simp only[Jak] at am ab ag az hF aA
 have a1:Hid (∀d z A C B G F,JA d z (JH ⟨⟨true,Z,true,j,p,a,b⟩,f,(y:Int)⟩).length A (JH ⟨⟨true,Z,true,j,p,a,b⟩,f,(y:Int)⟩)->JA d C 16 B (Jt true Z)->JA d G 16 F (Jt true j)->Jf 78 #[p,.slice z (JH ⟨⟨true,Z,true,j,p,a,b⟩,f,(y:Int)⟩).length A,.slice C 16 B,.slice G 16 F] d (Jz d (.bool true))):=H λd z A C B G F bf bl bj=>by
  have a0:y<=2048:=by have:=(ZT P).n1;simp only at this;omega
  exact Mx p E _ (Jt true Z) (Jt true j) y a0 ag ab az aA am z _ A C G 16 B F d bf bl bj D
 obtain⟨u,ay⟩:∃u,Fy p (JH ⟨⟨true,Z,true,j,p,a,b⟩,f,(y:Int)⟩)=u:=⟨_,rfl⟩
 have av:Hid (∀d z A,JA d z (JH ⟨⟨true,Z,true,j,p,a,b⟩,f,(y:Int)⟩).length A (JH ⟨⟨true,Z,true,j,p,a,b⟩,f,(y:Int)⟩)->Jf 77 #[p,.slice z (JH ⟨⟨true,Z,true,j,p,a,b⟩,f,(y:Int)⟩).length A] d (Z6 d (ZS u) 0)):=H λd z A r=>by
  have h:=CT p E z (JH ⟨⟨true,Z,true,j,p,a,b⟩,f,(y:Int)⟩).length A _ d r O;unfold Qo at h;rw[ag,YH rfl,ay] at h;exact h
 rw[ay] at ab hF;have bh:Hid (∀d,Jf 64 #[adV true Z] d (AY d 16 (Jt true Z))):=H λd=>(bytes_any true Z d).mono λ_ _ h=>h.n (JB _ _) (JL ad.k.S true)
 have ba:Hid (∀d,Jf 64 #[adV true j] d (AY d 16 (Jt true j))):=H λd=>(bytes_any true j d).mono λ_ _ h=>h.n (JB _ _) (JL ad.k.T true)
 have aG:=H (And.intro ab hF);have a3:=H E;clear am ag ab hF az aA ay;obtain⟨aZ,aE,aw,ao,-,aH,-⟩:=aI rfl;simp only at aw;obtain⟨aV,aO,aR⟩:∃aV aO,∀d,JA d s n o (spL ⟨⟨true,Z,true,j,p,a,b⟩,f,(y:Int)⟩)->Jf 76 #[.slice s n o] d (JO d aV aO):=⟨_,_,λd r=>Bq s n o _ d r an⟩
 have aT:=H aR
 obtain⟨V,L,W,ae,l,t,aQ⟩:∃u1 u2 u3 u4 bm a7,sxA (spL ⟨⟨true,Z,true,j,p,a,b⟩,f,(y:Int)⟩)=sxF u1 u2 u3 u4 64 bm a7:=by
  have h:=Eq.refl (sxA (spL ⟨⟨true,Z,true,j,p,a,b⟩,f,(y:Int)⟩));conv at h=>rhs;unfold sxA;rw[aH]
  exact⟨_,_,_,_,_,_,h⟩
 have au:Hid (∀d,JA d s n o (spL ⟨⟨true,Z,true,j,p,a,b⟩,f,(y:Int)⟩)->Jf 54 #[.slice s n o] d (λe w2=>∃M N z A,e=.returned (.tuple #[.agg (sxF V L W ae 64 l t),.agg #[.slice M 0 N,Jq p],.slice z (JH ⟨⟨true,Z,true,j,p,a,b⟩,f,(y:Int)⟩).length A,Jk 0])/\JA w2 z (JH ⟨⟨true,Z,true,j,p,a,b⟩,f,(y:Int)⟩).length A (JH ⟨⟨true,Z,true,j,p,a,b⟩,f,(y:Int)⟩)/\Ji d w2)):=H λd r=>by
  refine(CS s n o _ d r an).mono ?_;rintro e w2 (⟨h,-⟩|⟨-,M,N,bR,z,A,rfl,-,aU,bi,-⟩)
  ·exact absurd aZ h
  ·rw[ao] at aU;refine⟨M,N,z,A,?_,aU.reads bc,bi⟩;rw[aQ,aE,aw,ao];rfl
 clear aZ aE aw ao aH aR aQ ak ad P E an a6 aI a2 aF;generalize JH ⟨⟨true,Z,true,j,p,a,b⟩,f,(y:Int)⟩=U at*;generalize spL ⟨⟨true,Z,true,j,p,a,b⟩,f,(y:Int)⟩=bz at*;unfold sxF at au;go_enter func32,ntmps32
 go_wp2_with fail
 generalize w.alloc _=bC at*;refine Jb (aT _ (aK.below ar.out.out)) ?_;rintro e bs ⟨bt,bQ,rfl,-,g⟩;have aa:=H (ar.go g);clear g ar aT;have bn:Jg bs w.heap.size 0 (.bool true):=aa.cell 0 0 rfl rfl;go_wp2_with fail
 refine Jb (au _ (aK.below aa.out.out)) ?_;rintro e aC ⟨M,N,z,A,rfl,aS,g⟩;have ah:=H (((aa.go g).box (JbB V (Jp L) (Jl W) ae (64:Int) l t) 118).box #[.slice M 0 N,p] 96);have aq:=H ((aS.alloc (.cells (JbB V (Jp L) (Jl W) ae (64:Int) l t) 118)).alloc (.cells #[.slice M 0 N,p] 96));have bo:Jg ((aC.alloc (.cells (JbB V (Jp L) (Jl W) ae (64:Int) l t) 118)).alloc (.cells #[.slice M 0 N,p] 96)) w.heap.size 34 (Jq p):=ah.cell 2 34 rfl rfl;have a9:Jg ((aC.alloc (.cells (JbB V (Jp L) (Jl W) ae (64:Int) l t) 118)).alloc (.cells #[.slice M 0 N,p] 96)) w.heap.size 38 (Jk (y:Int)):=ah.cell 2 38 rfl rfl;have bJ:w.heap.size<aC.heap.size:=Jd (aa.lt 0 rfl) g.size;have bK:decide ((U.length:Int)<(y:Int))=false:=by simp;omega
 clear aS g aa au bn;unfold ZS at av;have bS:((u.data.length:Int)==(y:Int))=true:=by rw[aG.1];simp
 have bF:(u.flags==f)=true:=by rw[aG.2];simp
 go_wp2_with fail
 all_goals
  first
  |(refine Jb (av _ z A aq) ?_
    rintro e aM ⟨⟨aW,aL,ai,aj,rfl⟩,g⟩;have Q:=H ((ah.go g).box (JbH (Jq u.proto) (Jl u.src) (Jl u.dst) (Jp u.seq) (Jp u.ack) (Jq u.flags) (Jl u.win) (Jl u.urg) (.slice aW u.opt.length aL) (Jq u.type) (Jq u.code) (.slice ai u.data.length aj)) 149);have aJ:=H ((aq.below g).alloc (.cells (JbH (Jq u.proto) (Jl u.src) (Jl u.dst) (Jp u.seq) (Jp u.ack) (Jq u.flags) (Jl u.win) (Jl u.urg) (.slice aW u.opt.length aL) (Jq u.type) (Jq u.code) (.slice ai u.data.length aj)) 149));clear g ah aq av bo a9;obtain⟨aY,aD⟩:∃b,b=aM.heap.size:=⟨_,rfl⟩
    go_wp2_with fail
    rw[<-aD] at Q|-;clear aD;generalize aM.alloc _=I at*;have X:w.heap.size<I.heap.size:=Q.lt 3 rfl;have aB:Jg I w.heap.size 34 (Jq p):=Q.cell 3 34 rfl rfl;have L:Jv I w.heap.size 17 17=(Jbr true j:Array Value):=by rw[JG _ _ _ _ _ _ _ (Q.at 3 rfl)];simp
    refine QO [.h,.h,.h,.h,.h,.h,.h,.h,.h,.h,.h,.h,.h,.h,.h,.h,.h,.h,.h,.h,.h,.h,.h,.h,.h,.w,.h,.h,.h] [(18,2,0),(19,2,0),(20,2,0),(21,2,0),(26,1,0),(27,1,0),(28,1,0)] (λ_ d=>Jg d w.heap.size 34 (Jq p)/\Jv d w.heap.size 17 17=(Jbr true j:Array Value)) [2] [(.w,25),(.w,29),(.w,30),(.q,31),(.q,32)] K K K K ?_;apply Exists.intro;refine⟨λT aP=>?_,?_,?_⟩
    ·have J:=H (Q.go aP);have bu:=J.lt 3 rfl;have bN:=J.lt 0 rfl;have bM:Jg T w.heap.size 34 (Jq p):=J.cell 3 34 rfl rfl;have bB:Jg T w.heap.size 37 (Jq f):=J.cell 3 37 rfl rfl;have bv:Jg T w.heap.size 38 (Jk (y:Int)):=J.cell 3 38 rfl rfl;have bx:Jg T aY 11 (.slice ai u.data.length aj):=J.cell 0 11 rfl rfl;have bE:Jg T aY 5 (Jq u.flags):=J.cell 0 5 rfl rfl;have bO:Jv T w.heap.size 0 17=(Jbr true Z:Array Value):=by rw[JG _ _ _ _ _ _ _ (J.at 3 rfl)];simp
     have bI:Jv T w.heap.size 17 17=(Jbr true j:Array Value):=by rw[JG _ _ _ _ _ _ _ (J.at 3 rfl)];simp
     clear aP;exact JcB
    ·intro q aN bD S;simp only[YE,YF,YG] at aN;rcases aN with rfl|rfl|rfl|rfl|rfl|rfl|rfl
     ·exact Jc7
     ·exact Jc7
     ·cases S;exact⟨_,rfl,rfl,λw2 R=>by simp[execOp,go_sem,R.1]⟩
     ·exact Jc7
     ·exact Jc7
     ·exact Jc7
     ·cases S;exact⟨_,rfl,rfl,λw2 R=>by simp[execOp,go_sem,R.2]⟩
    simp only[Qp,Ja0,Jbf];refine⟨λv af w2=>∃C B,v=.slice C 16 B/\JA w2 C 16 B (Jt true Z)/\JA w2 z U.length A U/\Ji I w2,?_,?_,?_⟩
    ·refine⟨rfl,λd Y=>.inr ⟨64,#[adV true Z],K,?_⟩⟩;obtain⟨⟨x,rfl⟩,-⟩:=Y;refine(bh x.world).mono ?_;rintro e w2 ⟨C,B,rfl,ac,g⟩;exact⟨_,rfl,C,B,rfl,ac,(aJ.later x).below g,Wx x.below g⟩
    ·rintro v af r-w2 ⟨C,B,-,-,-,g⟩;exact⟨(JK g X _ rfl).trans aB,(J0 g _ 17 17 X).trans L⟩
    rintro v ⟨bP,C,B,rfl,-⟩;refine⟨λv af w2=>∃G F,v=.slice G 16 F/\JA w2 C 16 B (Jt true Z)/\JA w2 G 16 F (Jt true j)/\JA w2 z U.length A U/\Ji I w2,?_,?_,?_⟩
    ·refine⟨rfl,λd Y=>.inr ⟨64,#[adV true j],K,?_⟩⟩;obtain⟨bg,a8,P,ac,al,ap⟩:=Y;obtain⟨rfl,rfl⟩:C=bg/\B=a8:=by simpa using P
     refine(ba d).mono ?_;rintro e w2 ⟨G,F,rfl,ax,g⟩;exact⟨_,rfl,G,F,rfl,ac.below g,ax,al.below g,Wx ap g⟩
    ·rintro v af r-w2 ⟨G,F,-,-,-,-,g⟩;exact⟨(JK g X _ rfl).trans aB,(J0 g _ 17 17 X).trans L⟩
    rintro v ⟨bH,G,F,rfl,-⟩;refine⟨λv af w2=>v=.bool true/\Ji I w2,?_,λ_ _=>J4 rfl,?_⟩
    ·refine⟨rfl,λd Y=>.inr ⟨78,#[p,.slice z U.length A,.slice C 16 B,.slice G 16 F],K,?_⟩⟩;obtain⟨bq,bb,P,ac,ax,al,ap⟩:=Y;obtain⟨rfl,rfl⟩:G=bq/\F=bb:=by simpa using P
     refine(a1 d z A C B G F al ac ax).mono ?_;rintro e w2 ⟨rfl,g⟩;exact⟨_,rfl,rfl,Wx ap g⟩
    rintro v ⟨bL,rfl,-⟩;refine⟨.bool true,⟨rfl,λ_=>K⟩,?_⟩;refine⟨.bool true,⟨rfl,λ_=>K⟩,?_⟩;rintro bG ⟨-,aX⟩;have bp:=H (Q.go aX).out;clear aX Q aJ X aB L;simp only[Act.put,Ja6,Ja7,Ja8];go_wp2_with fail
    go_ret;exact .mk rfl bp)
  |(exact absurd a3.out (by intro h;have bk:(p==6)=false:=(by assumption);have br:(p==17)=false:=(by assumption);have bd:(p==1)=false:=(by assumption);have be:(p==58)=false:=(by assumption);simp only[beq_eq_false_iff_ne,ne_eq] at bk br bd be;omega))
theorem My (G:Sp)(e:EA G)(d:Qy G=0)(g:ChG G)(s:Option Addr)(n o:Nat)(w:World)(u:JA w s n o (spL G)):
 Jf 32 #[.agg (spV G),.slice s n o] w (Jz w (.bool true)):=by
 have r:=ZT d;obtain⟨⟨G,Z,t,l,p,a,b⟩,f,N⟩:=G;have v:G=t:=r.st;subst v;obtain⟨j,L⟩:=Jaq r.n0;simp only at L;subst L;by_cases E:p=6\/p=17\/p=1\/p=58
 ·cases G
  ·exact Ha Z l p a b f j e d g E s n o w u
  ·exact HO Z l p a b f j e d g E s n o w u
 ·cases G
  ·exact G9 Z l p a b f j e d g E s n o w u
  ·exact HN Z l p a b f j e d g E s n o w u
end
end Go.Proofs.YtkgjbipfhhjlpaaGreatDoor
