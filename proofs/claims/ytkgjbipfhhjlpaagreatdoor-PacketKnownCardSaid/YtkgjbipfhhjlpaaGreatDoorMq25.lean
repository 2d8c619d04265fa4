import Derived.Test.YtkgjbipfhhjlpaaGreatDoorMq24
set_option linter.unusedVariables false
set_option linter.unusedSimpArgs false
set_option maxRecDepth 100000
set_option maxHeartbeats 32000000
namespace Go.Proofs.YtkgjbipfhhjlpaaGreatDoor
open Go.Proofs.Tryz
section
open Go.RowKit
theorem NQ (Z l:Nat->Int)(p a b f N:Int)(ab:EA ⟨⟨false,Z,false,l,p,a,b⟩,f,N⟩)(ao:X9 ⟨⟨false,Z,false,l,p,a,b⟩,f,N⟩=false)(aj:¬2048<N)(aI:J1 p=false)(aC:Qb p=false)(bj:(f != 0)=false)(w:World):
 Jf 16 #[.agg (spC false Z false l p a b f N)] w (QI w (spL ⟨⟨false,Z,false,l,p,a,b⟩,f,N⟩) (Qy ⟨⟨false,Z,false,l,p,a,b⟩,f,N⟩)):=by
 have M:Hid (Fz ⟨false,Z,false,l,p,a,b⟩):=H ab.k;have bW:Hid (Jm f):=H ab.f;have aM:=H ab;obtain⟨aV,bQ,-,y⟩:=BP ao;have bn:Hid (∀w,Jf 27 #[.agg (kyC false Z false l p a b)] w (Jz w (.bool true))):=H λw=>by have h:=QT false Z false l p a b w;rw[aV] at h;exact h
 obtain⟨n,W⟩:∃n:Sp,n=⟨⟨false,Z,false,l,p,a,b⟩,f,N⟩:=⟨_,rfl⟩
 rw[<-W];have F:=H W;have bP:=ab.n;have bJ:¬N<0:=Ja9 y;have cd:decide (2048<N)=false:=YA aj;have bb:Hid (X9 n=false):=H (by rw[W];exact ao);have aP:Hid (¬2048<n.n):=H (by rw[W];exact aj);have bk:=H aj;clear aV ab W ao aj;clear bQ;have E:=((Bx.start w).box (spC false Z false l p a b f N) 52).box (kyC false Z false l p a b) 38;rw[show(w.alloc (.cells (spC false Z false l p a b f N) 52)).heap.size=w.heap.size+1 by simp] at E;have a8:=H E;clear E;unfold spC kyC at*;go_enter func16,ntmps16
 go_wp2_with fail
 refine a8.ret (bn _) ?_;intro A aA S;clear aA a8;have bU:Jg A w.heap.size 37 (Jq f):=S.cell 1 37 rfl rfl;have bo:Jg A w.heap.size 38 (Jk N):=S.cell 1 38 rfl rfl;have I:Jg A (w.heap.size+1) 34 (Jq p):=S.cell 0 34 rfl rfl;obtain⟨o,au⟩:=Jaq (show 0<=N from O);have ah:o<=2048:=by have:=bk.out;omega
 have aB:=H (And.intro au ah);have bi:(Instr.makeSlice 22 (Jk N) (Jk N)).run prog A=.ok (.slice (some ⟨A.heap.size,0,none⟩) o o) (A.alloc (.cells ((JP o).map (.int .u8)).toArray 5)):=by rw[au];exact Zs A o ah
 have bm:=Qg (Zf (WP A (.cells ((JP o).map (.int .u8)).toArray 5)) ah);clear bP bJ au ah;go_wp2_with (with_reducible refine XD 68 ?_)
 refine JJ.mk ?_;refine Qi _ rfl 9 22 _ rfl 5 underlying9 underlying22 underlying5 (JP o) rfl (Qx o) (by have:=aB.2;simp[JP];omega) ?_;intro b9 L a5 ak;rw[show(JP o).length=o by simp[JP]] at ak|-;have Y:=H ((S.go (Below.all (Jc _ _) (.cells ((JP o).map (.int .u8)).toArray 5))).go a5);obtain⟨b7,a4⟩:∃bH,bH=some (⟨(A.alloc (.cells ((JP o).map (.int .u8)).toArray 5)).heap.size,0,none⟩:Addr):=⟨_,rfl⟩
 rw[<-a4] at ak|-;have a7:=H ak;clear a4 ak a5 bi bm I bU bo S;go_wp2_with fail
 obtain⟨u,ax⟩:∃m,(Jt false Z).length=m:=⟨_,rfl⟩
 have aQ:(Jt false l).length=u:=by rw[JB,<-ax,JB]
 have bY:Hid (((Jt false Z).length=(Jt false l).length)/\((Jt false Z).length=4\/(Jt false Z).length=16)):=H ⟨by rw[JB,JB],by rw[JB];exact .inl rfl⟩;have a1:Hid (∀d,Jf 45 #[adV false Z] d (AY d u (Jt false Z))):=H λd=>(QV false Z d).mono λ_ _ h=>h.n ax (JL M.S false)
 have aT:Hid (∀d,Jf 45 #[adV false l] d (AY d u (Jt false l))):=H λd=>(QV false l d).mono λ_ _ h=>h.n aQ (JL M.T false)
 have aw:w.heap.size+1<L.heap.size:=Y.lt 0 rfl;have bg:Jv L (w.heap.size+1) 17 17=(Jbr false l:Array Value):=by rw[JG _ _ _ _ _ _ _ (Y.at 0 rfl)];simp
 clear ax aQ;refine QO [.h,.h,.w,.w,.h,.h] [(4,1,0),(5,1,0)] (λ_ d=>Jv d (w.heap.size+1) 17 17=(Jbr false l:Array Value)) [1] [(.w,2),(.c,3),(.w,6),(.c,7),(.q,8),(.q,9)] K K K K ?_;apply Exists.intro;refine⟨λaK E=>?_,?_,?_⟩
 ·have an:=(Y.go E).at 0 rfl;have bZ:w.heap.size+1<aK.heap.size:=Jd aw E.size;have cb:Jv aK (w.heap.size+1) 0 17=(Jbr false Z:Array Value):=by rw[JG _ _ _ _ _ _ _ an];simp
  have b3:Jv aK (w.heap.size+1) 17 17=(Jbr false l:Array Value):=by rw[JG _ _ _ _ _ _ _ an];simp
  clear an E;exact JcB
 ·intro q aU b0 aX;simp only[YE,YF,YG] at aU;rcases aU with rfl|rfl
  ·cases aX;exact⟨_,rfl,rfl,λw2 R=>K⟩
  ·cases aX;exact⟨_,rfl,rfl,λw2 R=>by simp[execOp,go_sem,R]⟩
 simp only[Qp,Ja0,Jbf];refine⟨λv T w2=>∃z t,v=.slice z u t/\JA w2 z u t (Jt false Z)/\Ji L w2,?_,?_,?_⟩
 ·refine⟨rfl,λd ay=>.inr ⟨45,#[adV false Z],K,?_⟩⟩;obtain⟨⟨x,rfl⟩,-⟩:=ay;refine(a1 x.world).mono ?_;rintro e w2 ⟨z,t,rfl,j,g⟩;exact⟨_,rfl,z,t,rfl,j,Wx x.below g⟩
 ·rintro v T ca-w2 ⟨z,t,-,-,g⟩;exact(J0 g _ 17 17 aw).trans bg
 rintro v ⟨bM,z,t,rfl,-⟩;refine⟨.string (strOfNums (Jt false Z)),λd=>JA d z u t (Jt false Z),⟨rfl,λd R=>Xv _ _ K (Qg R)⟩,?_,?_⟩
 ·rintro T d ⟨aD,ar,X,j,-⟩;obtain⟨rfl,rfl⟩:z=aD/\t=ar:=by simpa using X
  exact j
 refine⟨λv T w2=>∃G B,v=.slice G u B/\JA w2 z u t (Jt false Z)/\JA w2 G u B (Jt false l)/\Ji L w2,?_,?_,?_⟩
 ·refine⟨rfl,λd ay=>.inr ⟨45,#[adV false l],K,?_⟩⟩;obtain⟨aD,ar,X,j,aA⟩:=ay;obtain⟨rfl,rfl⟩:z=aD/\t=ar:=by simpa using X
  refine(aT d).mono ?_;rintro e w2 ⟨G,B,rfl,y,g⟩;exact⟨_,rfl,G,B,rfl,j.below g,y,Wx aA g⟩
 ·intro v T;exact BO (J4 rfl) (λw2 ⟨_,_,_,j,_⟩=>j)
 rintro v ⟨bz,G,B,rfl,-⟩;refine⟨.string (strOfNums (Jt false l)),λd=>JA d G u B (Jt false l),⟨rfl,λd R=>Xv _ _ K (Qg R)⟩,?_,?_⟩
 ·rintro T d ⟨bd,aW,X,-,y,-⟩;obtain⟨rfl,rfl⟩:G=bd/\B=aW:=by simpa using X
  exact y
 refine⟨.string (strOfNums (Jt false Z)),⟨rfl,λ_=>K⟩,?_⟩;refine⟨.string (strOfNums (Jt false l)),⟨rfl,λ_=>K⟩,?_⟩;rintro br ⟨bd,aW,-,-,-,aH⟩;have aF:=H (Y.go aH);have a2:=H (a7.below aH);clear aH Y a7 a1 aT bM bz bg aw;have bl:=H (JL M.S false);have bR:=H (JL M.T false);have bf:Hid (∀d,Jf 46 #[p] d (Jz d (.bool false))):=H (λd=>by have h:=Xn p d;rw[aI] at h;exact h);have bT:Hid (∀d,Jf 47 #[p] d (Jz d (.bool false))):=H (λd=>by have h:=XH p d;rw[aC] at h;exact h);have I:Jg br (w.heap.size+1) 34 (Jq p):=aF.cell 0 34 rfl rfl;simp only[Act.put,Ja6,Ja7,Ja8];go_wp2_with fail
 refine aF.ret (bf _) ?_;intro bu aN aJ;have aZ:=H (a2.below aN);clear aN aF a2 I bf;have bC:(Qk n).length<=40:=by rw[Zg];split<;>omega
 have bv:(JH n).length<=2068:=by have:=ZG n;rw[F.out] at this|-;simp only at this;have:=aB.out;omega
 have b1:JF (JH n):=QU (by rw[F.out];exact aM);have bV:JF (Qk n):=Zz (by rw[F.out];exact aM)
 have av:Hid (∀d,Jf 49 #[.agg (JbX (Jl (20+((JH n).length:Int))) false false (64:Int) p (.string (strOfNums (Jt false Z))) (.string (strOfNums (Jt false l))):Array Value)] d (SE d (Qk n).length (Qk n) 0)):=H (λd=>by
  have bF:QF ⟨0,20+((JH n).length:Int),0,false,false,0,64,p,Jt false Z,Jt false l,[]⟩=true:=by
   unfold QF;simp;omega
  have h:=Z9 ⟨0,20+((JH n).length:Int),0,false,false,0,64,p,Jt false Z,Jt false l,[]⟩ d 4 D ⟨(show(0:Int)<=0/\(0:Int)<256 from D),⟨by show 0<=20+((JH n).length:Int);omega,by show 20+((JH n).length:Int)<65536;omega⟩,(show(0:Int)<=0/\(0:Int)<65536 from D),(show(0:Int)<=0/\(0:Int)<65536 from D),(show(0:Int)<=64/\(64:Int)<256 from D),M.p,⟨JB _ _,bl.out⟩,⟨JB _ _,bR.out⟩,λv bD=>by cases bD⟩ (by simp);unfold Ai Xs at h;rw[bF] at h;have e:Qk n=_:=CZ (by rw[F.out]);rw[e];rw[F.out] at h|-;exact h.mono λ_ _ h=>h.n rfl (by have:=bV;rw[e] at this;rw[F.out] at this;exact this))
 have bG:=H (λh=>Cu (s:=n) bb (by have:=aP.out;omega) h);have bS:=H (λh=>Cv (s:=n) bb (by have:=aP.out;omega) h)
 have bt:Hid (JH n=JP o):=H (by
  rw[F.out];unfold JH;simp only[aI,aC,JaL,if_false,aB.1,Jak])
 have cc:Hid (Jn b):=H M.b;clear bj aI aC;generalize JH n=U at*;generalize Qk n=J at*;obtain⟨r,ap⟩:∃aa,U.length=aa:=⟨_,rfl⟩
 obtain⟨Q,aG⟩:∃aa,J.length=aa:=⟨_,rfl⟩
 rw[ap] at av bv;rw[aG] at av bC;have aq:Hid (U.length=r/\J.length=Q):=H ⟨ap,aG⟩;clear ap aG;generalize strOfNums (Jt false Z)=b4 at*;generalize strOfNums (Jt false l)=b6 at*;generalize strOfNums (JP o)=b2 at*;have I:Jg bu (w.heap.size+1) 34 (Jq p):=aJ.cell 0 34 rfl rfl;go_wp2_with fail
 refine aJ.ret (bT _) ?_;intro bw bc ba;have aY:=H (aZ.below bc);clear bc aJ aZ I;have bx:=bt.out;subst bx;obtain rfl:r=o:=by rw[<-aq.1];simp[JP]
 have a6:=H aY.out;clear aY;obtain⟨bE,bq⟩:∃bs,bs=bw:=⟨_,rfl⟩
 subst bq;have az:=H ba.out;clear ba;generalize b8:JP r=U at*;have I:Jg bE (w.heap.size+1) 34 (Jq p):=az.cell 0 34 rfl rfl;have bK:IntKind.i64.wrap (20+(r:Int))=20+(r:Int):=by rw[JaI];omega
 have bO:IntKind.u16.wrap (20+(r:Int))=20+(r:Int):=by rw[Jbi];omega
 have bA:IntKind.u16.wrap (r:Int)=(r:Int):=by rw[Jbi];omega
 go_wp2_with fail
 refine Jb (av _) ?_;rintro e bI ⟨ac,ad,rfl,aR,aL⟩;have aE:=H (az.go aL);have a9:=H (a6.below aL);have aO:=H aR;clear aR aL az a6 I;have bN:Jg bI (w.heap.size+1) 0 (.bool false):=aE.cell 0 0 rfl rfl;obtain⟨C,al⟩:∃aa,(J++U).length=aa:=⟨_,rfl⟩
 have a3:Hid (∀d ac ad af am,JA d ac Q ad J->JA d af r am U->Jf 51 #[.slice ac Q ad,.slice af r am] d (AY d C (J++U))):=H (λd ac ad af am j y=>(Bits.join_any ac Q ad J af r am U d j y O O).mono λ_ _ h=>h.n al (Jx j.byte y.byte));have bX:Hid (C=Q+r):=H (by rw[<-al,WV,aq.1,aq.2,YR]);have ag:=H al;clear al;go_wp2_with fail
 refine Jb (a3 _ _ _ _ _ aO a9) ?_;rintro e b5 ⟨bB,bL,rfl,be,aS⟩;have a0:=H (aE.go aS).out;have bh:=H be;clear be aS aE aO a9 bN a3 bK bO bA;by_cases ai:2048<C
 ·have bp:decide ((2048:Int)<(C:Int))=true:=by simpa using(by omega:(2048:Int)<(C:Int))
  obtain⟨ae,P⟩:=bG.out (by rw[ag.out];exact ai);have V:=H (And.intro ae P);clear ae P ai;go_wp2_with fail
  go_ret2;rw[V.1,V.2];exact Au a0
 ·have bp:decide ((2048:Int)<(C:Int))=false:=by simpa using(by omega:¬(2048:Int)<(C:Int))
  obtain⟨ae,P⟩:=bS.out (by rw[ag.out];exact ai);have V:=H (And.intro ae P);clear ae P ai;go_wp2_with fail
  go_ret2;rw[V.1,V.2];exact⟨bB,bL,by rw[ag.out];rfl,by rw[ag.out];exact bh,a0.out⟩
theorem NR (Z l:Nat->Int)(p a b f N:Int)(aj:EA ⟨⟨false,Z,false,l,p,a,b⟩,f,N⟩)(aB:X9 ⟨⟨false,Z,false,l,p,a,b⟩,f,N⟩=false)(au:¬2048<N)(aR:J1 p=false)(aw:Qb p=true)(bB:(f != 0)=false)(w:World):
 Jf 16 #[.agg (spC false Z false l p a b f N)] w (QI w (spL ⟨⟨false,Z,false,l,p,a,b⟩,f,N⟩) (Qy ⟨⟨false,Z,false,l,p,a,b⟩,f,N⟩)):=by
 have J:Hid (Fz ⟨false,Z,false,l,p,a,b⟩):=H aj.k;have cj:Hid (Jm f):=H aj.f;have aX:=H aj;obtain⟨ba,cf,-,y⟩:=BP aB;have bH:Hid (∀w,Jf 27 #[.agg (kyC false Z false l p a b)] w (Jz w (.bool true))):=H λw=>by have h:=QT false Z false l p a b w;rw[ba] at h;exact h
 obtain⟨n,ad⟩:∃n:Sp,n=⟨⟨false,Z,false,l,p,a,b⟩,f,N⟩:=⟨_,rfl⟩
 rw[<-ad];have L:=H ad;have ce:=aj.n;have b8:¬N<0:=Ja9 y;have cw:decide (2048<N)=false:=YA au;have bo:Hid (X9 n=false):=H (by rw[ad];exact aB);have a1:Hid (¬2048<n.n):=H (by rw[ad];exact au);have bC:=H au;clear ba aj ad aB au;clear cf;have I:=((Bx.start w).box (spC false Z false l p a b f N) 52).box (kyC false Z false l p a b) 38;rw[show(w.alloc (.cells (spC false Z false l p a b f N) 52)).heap.size=w.heap.size+1 by simp] at I;have bm:=H I;clear I;unfold spC kyC at*;go_enter func16,ntmps16
 go_wp2_with fail
 refine bm.ret (bH _) ?_;intro C ag Y;clear ag bm;have aU:Jg C w.heap.size 37 (Jq f):=Y.cell 1 37 rfl rfl;have bI:Jg C w.heap.size 38 (Jk N):=Y.cell 1 38 rfl rfl;have t:Jg C (w.heap.size+1) 34 (Jq p):=Y.cell 0 34 rfl rfl;obtain⟨o,aF⟩:=Jaq (show 0<=N from O);have ap:o<=2048:=by have:=bC.out;omega
 have av:=H (And.intro aF ap);have bA:(Instr.makeSlice 22 (Jk N) (Jk N)).run prog C=.ok (.slice (some ⟨C.heap.size,0,none⟩) o o) (C.alloc (.cells ((JP o).map (.int .u8)).toArray 5)):=by rw[aF];exact Zs C o ap
 have bG:=Qg (Zf (WP C (.cells ((JP o).map (.int .u8)).toArray 5)) ap);clear ce b8 aF ap;go_wp2_with (with_reducible refine XD 68 ?_)
 refine JJ.mk ?_;refine Qi _ rfl 9 22 _ rfl 5 underlying9 underlying22 underlying5 (JP o) rfl (Qx o) (by have:=av.2;simp[JP];omega) ?_;intro ct S bj ax;rw[show(JP o).length=o by simp[JP]] at ax|-;have af:=H ((Y.go (Below.all (Jc _ _) (.cells ((JP o).map (.int .u8)).toArray 5))).go bj);obtain⟨cs,bi⟩:∃b5,b5=some (⟨(C.alloc (.cells ((JP o).map (.int .u8)).toArray 5)).heap.size,0,none⟩:Addr):=⟨_,rfl⟩
 rw[<-bi] at ax|-;have bl:=H ax;clear bi ax bj bA bG t aU bI Y;go_wp2_with fail
 obtain⟨z,aI⟩:∃m,(Jt false Z).length=m:=⟨_,rfl⟩
 have a2:(Jt false l).length=z:=by rw[JB,<-aI,JB]
 have aY:Hid (((Jt false Z).length=(Jt false l).length)/\((Jt false Z).length=4\/(Jt false Z).length=16)):=H ⟨by rw[JB,JB],by rw[JB];exact .inl rfl⟩;have bf:Hid (∀d,Jf 45 #[adV false Z] d (AY d z (Jt false Z))):=H λd=>(QV false Z d).mono λ_ _ h=>h.n aI (JL J.S false)
 have a8:Hid (∀d,Jf 45 #[adV false l] d (AY d z (Jt false l))):=H λd=>(QV false l d).mono λ_ _ h=>h.n a2 (JL J.T false)
 have aH:w.heap.size+1<S.heap.size:=af.lt 0 rfl;have bv:Jv S (w.heap.size+1) 17 17=(Jbr false l:Array Value):=by rw[JG _ _ _ _ _ _ _ (af.at 0 rfl)];simp
 clear aI a2;refine QO [.h,.h,.w,.w,.h,.h] [(4,1,0),(5,1,0)] (λ_ d=>Jv d (w.heap.size+1) 17 17=(Jbr false l:Array Value)) [1] [(.w,2),(.c,3),(.w,6),(.c,7),(.q,8),(.q,9)] K K K K ?_;apply Exists.intro;refine⟨λaV I=>?_,?_,?_⟩
 ·have aA:=(af.go I).at 0 rfl;have cl:w.heap.size+1<aV.heap.size:=Jd aH I.size;have cv:Jv aV (w.heap.size+1) 0 17=(Jbr false Z:Array Value):=by rw[JG _ _ _ _ _ _ _ aA];simp
  have co:Jv aV (w.heap.size+1) 17 17=(Jbr false l:Array Value):=by rw[JG _ _ _ _ _ _ _ aA];simp
  clear aA I;exact JcB
 ·intro q a9 cm bc;simp only[YE,YF,YG] at a9;rcases a9 with rfl|rfl
  ·cases bc;exact⟨_,rfl,rfl,λw2 R=>K⟩
  ·cases bc;exact⟨_,rfl,rfl,λw2 R=>by simp[execOp,go_sem,R]⟩
 simp only[Qp,Ja0,Jbf];refine⟨λv ab w2=>∃A u,v=.slice A z u/\JA w2 A z u (Jt false Z)/\Ji S w2,?_,?_,?_⟩
 ·refine⟨rfl,λd aJ=>.inr ⟨45,#[adV false Z],K,?_⟩⟩;obtain⟨⟨x,rfl⟩,-⟩:=aJ;refine(bf x.world).mono ?_;rintro e w2 ⟨A,u,rfl,j,g⟩;exact⟨_,rfl,A,u,rfl,j,Wx x.below g⟩
 ·rintro v ab cu-w2 ⟨A,u,-,-,g⟩;exact(J0 g _ 17 17 aH).trans bv
 rintro v ⟨cb,A,u,rfl,-⟩;refine⟨.string (strOfNums (Jt false Z)),λd=>JA d A z u (Jt false Z),⟨rfl,λd R=>Xv _ _ K (Qg R)⟩,?_,?_⟩
 ·rintro ab d ⟨aM,aE,ae,j,-⟩;obtain⟨rfl,rfl⟩:A=aM/\u=aE:=by simpa using ae
  exact j
 refine⟨λv ab w2=>∃M F,v=.slice M z F/\JA w2 A z u (Jt false Z)/\JA w2 M z F (Jt false l)/\Ji S w2,?_,?_,?_⟩
 ·refine⟨rfl,λd aJ=>.inr ⟨45,#[adV false l],K,?_⟩⟩;obtain⟨aM,aE,ae,j,ag⟩:=aJ;obtain⟨rfl,rfl⟩:A=aM/\u=aE:=by simpa using ae
  refine(a8 d).mono ?_;rintro e w2 ⟨M,F,rfl,y,g⟩;exact⟨_,rfl,M,F,rfl,j.below g,y,Wx ag g⟩
 ·intro v ab;exact BO (J4 rfl) (λw2 ⟨_,_,_,j,_⟩=>j)
 rintro v ⟨bQ,M,F,rfl,-⟩;refine⟨.string (strOfNums (Jt false l)),λd=>JA d M z F (Jt false l),⟨rfl,λd R=>Xv _ _ K (Qg R)⟩,?_,?_⟩
 ·rintro ab d ⟨bs,bb,ae,-,y,-⟩;obtain⟨rfl,rfl⟩:M=bs/\F=bb:=by simpa using ae
  exact y
 refine⟨.string (strOfNums (Jt false Z)),⟨rfl,λ_=>K⟩,?_⟩;refine⟨.string (strOfNums (Jt false l)),⟨rfl,λ_=>K⟩,?_⟩;rintro bM ⟨bs,bb,-,-,-,aQ⟩;have aO:=H (af.go aQ);have bg:=H (bl.below aQ);clear aQ af bl bf a8 cb bQ bv aH;have a5:=H (JL J.S false);have bp:=H (JL J.T false);have bu:Hid (∀d,Jf 46 #[p] d (Jz d (.bool false))):=H (λd=>by have h:=Xn p d;rw[aR] at h;exact h);have aT:Hid (∀d,Jf 47 #[p] d (Jz d (.bool true))):=H (λd=>by have h:=XH p d;rw[aw] at h;exact h);have t:Jg bM (w.heap.size+1) 34 (Jq p):=aO.cell 0 34 rfl rfl;simp only[Act.put,Ja6,Ja7,Ja8];go_wp2_with fail
 refine aO.ret (bu _) ?_;intro bO aZ aS;have bd:=H (bg.below aZ);clear aZ aO bg t bu;have bU:(Qk n).length<=40:=by rw[Zg];split<;>omega
 have bP:(JH n).length<=2068:=by have:=ZG n;rw[L.out] at this|-;simp only at this;have:=av.out;omega
 have cn:JF (JH n):=QU (by rw[L.out];exact aX);have ch:JF (Qk n):=Zz (by rw[L.out];exact aX)
 have aG:Hid (∀d,Jf 49 #[.agg (JbX (Jl (20+((JH n).length:Int))) false false (64:Int) p (.string (strOfNums (Jt false Z))) (.string (strOfNums (Jt false l))):Array Value)] d (SE d (Qk n).length (Qk n) 0)):=H (λd=>by
  have b2:QF ⟨0,20+((JH n).length:Int),0,false,false,0,64,p,Jt false Z,Jt false l,[]⟩=true:=by
   unfold QF;simp;omega
  have h:=Z9 ⟨0,20+((JH n).length:Int),0,false,false,0,64,p,Jt false Z,Jt false l,[]⟩ d 4 D ⟨(show(0:Int)<=0/\(0:Int)<256 from D),⟨by show 0<=20+((JH n).length:Int);omega,by show 20+((JH n).length:Int)<65536;omega⟩,(show(0:Int)<=0/\(0:Int)<65536 from D),(show(0:Int)<=0/\(0:Int)<65536 from D),(show(0:Int)<=64/\(64:Int)<256 from D),J.p,⟨JB _ _,a5.out⟩,⟨JB _ _,bp.out⟩,λv bV=>by cases bV⟩ (by simp);unfold Ai Xs at h;rw[b2] at h;have e:Qk n=_:=CZ (by rw[L.out]);rw[e];rw[L.out] at h|-;exact h.mono λ_ _ h=>h.n rfl (by have:=ch;rw[e] at this;rw[L.out] at this;exact this))
 have b3:=H (λh=>Cu (s:=n) bo (by have:=a1.out;omega) h);have cg:=H (λh=>Cv (s:=n) bo (by have:=a1.out;omega) h)
 have an:Hid (∀d,Jf 48 #[.agg (JbD p (Jq (b/256)) (Jq (b%256)) (.string (strOfNums (JP o))):Array Value),.string (strOfNums (Jt false Z)),.string (strOfNums (Jt false l))] d (QI d (JH n) 0)):=H (λd=>by
  have e:JH n=DR p (b/256) (b%256) 0 (JP o) (Jt false Z) (Jt false l):=by
   rw[L.out];unfold JH;simp only[aR,aw,JaL,if_false,YW,av.1,Jak]
  have bL:(JP o).length<=2048:=by simp[JP];exact av.2
  have b0:=J.b;simp only at b0;rw[e];exact Iq p _ _ (by simpa[Qb] using aw) _ _ _ bL (Qx _) aY.1 aY.2 a5 bp O O d)
 have bq:Hid (Jn b):=H J.b;clear bB aR aw;generalize JH n=U at*;generalize Qk n=Q at*;obtain⟨r,aD⟩:∃ah,U.length=ah:=⟨_,rfl⟩
 obtain⟨X,aP⟩:∃ah,Q.length=ah:=⟨_,rfl⟩
 unfold QI at an;rw[aD] at an aG bP;rw[aP] at aG bU;have a6:Hid (U.length=r/\Q.length=X):=H ⟨aD,aP⟩;clear aD aP;generalize strOfNums (Jt false Z)=cp at*;generalize strOfNums (Jt false l)=cr at*;generalize strOfNums (JP o)=ar at*;have t:Jg bO (w.heap.size+1) 34 (Jq p):=aS.cell 0 34 rfl rfl;go_wp2_with fail
 refine aS.ret (aT _) ?_;intro E br B;have bR:=H (bd.below br);clear br aS bd t;have aK:=bq.1;have ag:=bq.2;have bx:Int.tdiv b 256=b/256:=Jaw aK;have bJ:Int.tmod b 256=b%256:=Jax aK;have bE:IntKind.u16.wrap (b/256)=b/256:=by rw[Jbi];omega
 have bF:IntKind.u16.wrap (b%256)=b%256:=by rw[Jbi];omega
 have bD:IntKind.u8.wrap (b/256)=b/256:=by rw[Jbj];omega
 have bw:IntKind.u8.wrap (b%256)=b%256:=by rw[Jbj];omega
 have b4:b/256%256=b/256:=O;have t:Jg E (w.heap.size+1) 34 (Jq p):=B.cell 0 34 rfl rfl;have bW:Jg E (w.heap.size+1) 35 (Jl a):=B.cell 0 35 rfl rfl;have aC:Jg E (w.heap.size+1) 36 (Jl b):=B.cell 0 36 rfl rfl;have aU:Jg E w.heap.size 37 (Jq f):=B.cell 1 37 rfl rfl;have bN:=B.lt 1 rfl;have bY:=B.lt 0 rfl;have b7:=B.out.out.size;clear bR;go_wp2_with fail
 have W:=H (B.box (JbK p (Jl a) (Jl b) f (.string ar)) 102);clear t bW aC aU B;refine W.ret (aT _) ?_;intro aa az P;clear az W aT;have t:Jg aa (w.heap.size+1) 34 (Jq p):=P.cell 1 34 rfl rfl;have aC:Jg aa (w.heap.size+1) 36 (Jl b):=P.cell 1 36 rfl rfl;have b1:JE aa E.heap.size 12=true:=P.row 0 rfl rfl;have bX:Jv (aa.setRow E.heap.size (JbD p (Jq (b/256)) (Jq (b%256)) (.string ar))) E.heap.size 0 12=(JbD p (Jq (b/256)) (Jq (b%256)) (.string ar):Array Value):=Ju (JC (P.at 0 rfl)) rfl;have W:=H (P.set (JbD p (Jq (b/256)) (Jq (b%256)) (.string ar)) O (by simp;omega));have ci:E.heap.size<aa.heap.size:=P.lt 0 rfl;clear bN bY b7;go_wp2_with fail
 refine Jb (an _) ?_;rintro e bZ ⟨T,ai,rfl,a4,az⟩;have aL:=H (W.go az);have bk:=H a4;clear a4 az W P t aC b1 bX ci an bx bJ bE bF bD bw b4 aK ag;have t:Jg bZ (w.heap.size+1) 34 (Jq p):=aL.cell 1 34 rfl rfl;have b9:IntKind.i64.wrap (20+(r:Int))=20+(r:Int):=by rw[JaI];omega
 have cd:IntKind.u16.wrap (20+(r:Int))=20+(r:Int):=by rw[Jbi];omega
 have bS:IntKind.u16.wrap (r:Int)=(r:Int):=by rw[Jbi];omega
 go_wp2_with fail
 refine Jb (aG _) ?_;rintro e b6 ⟨ak,al,rfl,a3,aW⟩;have aN:=H (aL.go aW);have bn:=H (bk.below aW);have a0:=H a3;clear a3 aW aL bk t;have cc:Jg b6 (w.heap.size+1) 0 (.bool false):=aN.cell 1 0 rfl rfl;obtain⟨G,ay⟩:∃ah,(Q++U).length=ah:=⟨_,rfl⟩
 have bh:Hid (∀d ak al T ai,JA d ak X al Q->JA d T r ai U->Jf 51 #[.slice ak X al,.slice T r ai] d (AY d G (Q++U))):=H (λd ak al T ai j y=>(Bits.join_any ak X al Q T r ai U d j y O O).mono λ_ _ h=>h.n ay (Jx j.byte y.byte));have ck:Hid (G=X+r):=H (by rw[<-ay,WV,a6.1,a6.2,YR]);have ao:=H ay;clear ay;go_wp2_with fail
 refine Jb (bh _ _ _ _ _ a0 bn) ?_;rintro e cq ⟨bT,ca,rfl,bt,a7⟩;have be:=H (aN.go a7).out;have bz:=H bt;clear bt a7 aN a0 bn cc bh b9 cd bS;by_cases aq:2048<G
 ·have bK:decide ((2048:Int)<(G:Int))=true:=by simpa using(by omega:(2048:Int)<(G:Int))
  obtain⟨am,V⟩:=b3.out (by rw[ao.out];exact aq);have ac:=H (And.intro am V);clear am V aq;go_wp2_with fail
  go_ret2;rw[ac.1,ac.2];exact Au be
 ·have bK:decide ((2048:Int)<(G:Int))=false:=by simpa using(by omega:¬(2048:Int)<(G:Int))
  obtain⟨am,V⟩:=cg.out (by rw[ao.out];exact aq);have ac:=H (And.intro am V);clear am V aq;go_wp2_with fail
  go_ret2;rw[ac.1,ac.2];exact⟨bT,ca,by rw[ao.out];rfl,by rw[ao.out];exact bz,be.out⟩
theorem PG (Z l:Nat->Int)(p a b f N:Int)(ah:EA ⟨⟨true,Z,true,l,p,a,b⟩,f,N⟩)(aC:X9 ⟨⟨true,Z,true,l,p,a,b⟩,f,N⟩=false)(aw:¬2048<N)(ai:J1 p=true)(W:(f != 0)=false\/((f != 0)=true/\(p != 6)=false))(w:World):
 Jf 16 #[.agg (spC true Z true l p a b f N)] w (QI w (spL ⟨⟨true,Z,true,l,p,a,b⟩,f,N⟩) (Qy ⟨⟨true,Z,true,l,p,a,b⟩,f,N⟩)):=by
 have u:Hid (Fz ⟨true,Z,true,l,p,a,b⟩):=H ah.k;have bA:Hid (Jm f):=H ah.f;have aV:=H ah;obtain⟨a8,bq,-,y⟩:=BP aC;have bJ:Hid (∀w,Jf 27 #[.agg (kyC true Z true l p a b)] w (Jz w (.bool true))):=H λw=>by have h:=QT true Z true l p a b w;rw[a8] at h;exact h
 obtain⟨o,ac⟩:∃o:Sp,o=⟨⟨true,Z,true,l,p,a,b⟩,f,N⟩:=⟨_,rfl⟩
 rw[<-ac];have S:=H ac;have cf:=ah.n;have b8:¬N<0:=Ja9 y;have cB:decide (2048<N)=false:=YA aw;have br:Hid (X9 o=false):=H (by rw[ac];exact aC);have aY:Hid (¬2048<o.n):=H (by rw[ac];exact aw);have bG:=H aw;clear a8 ah ac aC aw;obtain⟨b7,bC,cb,b1⟩:=(A7 p).2 bq;clear bq;have J:=((Bx.start w).box (spC true Z true l p a b f N) 52).box (kyC true Z true l p a b) 38;rw[show(w.alloc (.cells (spC true Z true l p a b f N) 52)).heap.size=w.heap.size+1 by simp] at J;have bn:=H J;clear J;unfold spC kyC at*;go_enter func16,ntmps16
 go_wp2_with fail
 refine bn.ret (bJ _) ?_;intro E aK Y;clear aK bn b7 bC cb b1;have aR:Jg E w.heap.size 37 (Jq f):=Y.cell 1 37 rfl rfl;have bK:Jg E w.heap.size 38 (Jk N):=Y.cell 1 38 rfl rfl;have C:Jg E (w.heap.size+1) 34 (Jq p):=Y.cell 0 34 rfl rfl;rcases W with W|⟨W,bP⟩
 all_goals
  obtain⟨r,aF⟩:=Jaq (show 0<=N from O);have ao:r<=2048:=by have:=bG.out;omega
  have ax:=H (And.intro aF ao);have bE:(Instr.makeSlice 22 (Jk N) (Jk N)).run prog E=.ok (.slice (some ⟨E.heap.size,0,none⟩) r r) (E.alloc (.cells ((JP r).map (.int .u8)).toArray 5)):=by rw[aF];exact Zs E r ao
  have bI:=Qg (Zf (WP E (.cells ((JP r).map (.int .u8)).toArray 5)) ao);clear cf b8 aF ao;go_wp2_with (with_reducible refine XD 68 ?_)
  refine JJ.mk ?_;refine Qi _ rfl 9 22 _ rfl 5 underlying9 underlying22 underlying5 (JP r) rfl (Qx r) (by have:=ax.2;simp[JP];omega) ?_;intro cw Q bk ay;rw[show(JP r).length=r by simp[JP]] at ay|-;have ae:=H ((Y.go (Below.all (Jc _ _) (.cells ((JP r).map (.int .u8)).toArray 5))).go bk);obtain⟨cv,bj⟩:∃b4,b4=some (⟨(E.alloc (.cells ((JP r).map (.int .u8)).toArray 5)).heap.size,0,none⟩:Addr):=⟨_,rfl⟩
  rw[<-bj] at ay|-;have bm:=H ay;clear bj ay bk bE bI C aR bK Y;go_wp2_with fail
  obtain⟨A,aH⟩:∃m,(Jt true Z).length=m:=⟨_,rfl⟩
  have aZ:(Jt true l).length=A:=by rw[JB,<-aH,JB]
  have aq:Hid (((Jt true Z).length=(Jt true l).length)/\((Jt true Z).length=4\/(Jt true Z).length=16)):=H ⟨by rw[JB,JB],by rw[JB];exact .inr rfl⟩;have bf:Hid (∀d,Jf 45 #[adV true Z] d (AY d A (Jt true Z))):=H λd=>(QV true Z d).mono λ_ _ h=>h.n aH (JL u.S true)
  have a5:Hid (∀d,Jf 45 #[adV true l] d (AY d A (Jt true l))):=H λd=>(QV true l d).mono λ_ _ h=>h.n aZ (JL u.T true)
  have aG:w.heap.size+1<Q.heap.size:=ae.lt 0 rfl;have bz:Jv Q (w.heap.size+1) 17 17=(Jbr true l:Array Value):=by rw[JG _ _ _ _ _ _ _ (ae.at 0 rfl)];simp
  clear aH aZ;refine QO [.h,.h,.w,.w,.h,.h] [(4,1,0),(5,1,0)] (λ_ d=>Jv d (w.heap.size+1) 17 17=(Jbr true l:Array Value)) [1] [(.w,2),(.c,3),(.w,6),(.c,7),(.q,8),(.q,9)] K K K K ?_;apply Exists.intro;refine⟨λaS J=>?_,?_,?_⟩
  ·have aB:=(ae.go J).at 0 rfl;have cl:w.heap.size+1<aS.heap.size:=Jd aG J.size;have cy:Jv aS (w.heap.size+1) 0 17=(Jbr true Z:Array Value):=by rw[JG _ _ _ _ _ _ _ aB];simp
   have cr:Jv aS (w.heap.size+1) 17 17=(Jbr true l:Array Value):=by rw[JG _ _ _ _ _ _ _ aB];simp
   clear aB J;exact JcB
  ·intro q a7 cm bb;simp only[YE,YF,YG] at a7;rcases a7 with rfl|rfl
   ·cases bb;exact⟨_,rfl,rfl,λw2 R=>K⟩
   ·cases bb;exact⟨_,rfl,rfl,λw2 R=>by simp[execOp,go_sem,R]⟩
  simp only[Qp,Ja0,Jbf];refine⟨λv aa w2=>∃B z,v=.slice B A z/\JA w2 B A z (Jt true Z)/\Ji Q w2,?_,?_,?_⟩
  ·refine⟨rfl,λd aI=>.inr ⟨45,#[adV true Z],K,?_⟩⟩;obtain⟨⟨x,rfl⟩,-⟩:=aI;refine(bf x.world).mono ?_;rintro e w2 ⟨B,z,rfl,j,g⟩;exact⟨_,rfl,B,z,rfl,j,Wx x.below g⟩
  ·rintro v aa cx-w2 ⟨B,z,-,-,g⟩;exact(J0 g _ 17 17 aG).trans bz
  rintro v ⟨cc,B,z,rfl,-⟩;refine⟨.string (strOfNums (Jt true Z)),λd=>JA d B A z (Jt true Z),⟨rfl,λd R=>Xv _ _ K (Qg R)⟩,?_,?_⟩
  ·rintro aa d ⟨aL,aE,ad,j,-⟩;obtain⟨rfl,rfl⟩:B=aL/\z=aE:=by simpa using ad
   exact j
  refine⟨λv aa w2=>∃M G,v=.slice M A G/\JA w2 B A z (Jt true Z)/\JA w2 M A G (Jt true l)/\Ji Q w2,?_,?_,?_⟩
  ·refine⟨rfl,λd aI=>.inr ⟨45,#[adV true l],K,?_⟩⟩;obtain⟨aL,aE,ad,j,aK⟩:=aI;obtain⟨rfl,rfl⟩:B=aL/\z=aE:=by simpa using ad
   refine(a5 d).mono ?_;rintro e w2 ⟨M,G,rfl,y,g⟩;exact⟨_,rfl,M,G,rfl,j.below g,y,Wx aK g⟩
  ·intro v aa;exact BO (J4 rfl) (λw2 ⟨_,_,_,j,_⟩=>j)
  rintro v ⟨bQ,M,G,rfl,-⟩;refine⟨.string (strOfNums (Jt true l)),λd=>JA d M A G (Jt true l),⟨rfl,λd R=>Xv _ _ K (Qg R)⟩,?_,?_⟩
  ·rintro aa d ⟨bs,ba,ad,-,y,-⟩;obtain⟨rfl,rfl⟩:M=bs/\G=ba:=by simpa using ad
   exact y
  refine⟨.string (strOfNums (Jt true Z)),⟨rfl,λ_=>K⟩,?_⟩;refine⟨.string (strOfNums (Jt true l)),⟨rfl,λ_=>K⟩,?_⟩;rintro bM ⟨bs,ba,-,-,-,aQ⟩;have aM:=H (ae.go aQ);have bg:=H (bm.below aQ);clear aQ ae bm bf a5 cc bQ bz aG;have ar:=H (JL u.S true);have aA:=H (JL u.T true);have bx:Hid (∀d,Jf 46 #[p] d (Jz d (.bool true))):=H (λd=>by have h:=Xn p d;rw[ai] at h;exact h);have bd:Qb p=false:=by rcases(by simpa[J1] using ai:p=6\/p=17) with rfl|rfl<;>rfl
  have bv:Hid (∀d,Jf 47 #[p] d (Jz d (.bool false))):=H (λd=>by have h:=XH p d;rw[bd] at h;exact h);have C:Jg bM (w.heap.size+1) 34 (Jq p):=aM.cell 0 34 rfl rfl;simp only[Act.put,Ja6,Ja7,Ja8];go_wp2_with fail
  refine aM.ret (bx _) ?_;intro av aX F;have bU:=H (bg.below aX);clear aX aM bg C bx;have bW:(Qk o).length<=40:=by rw[Zg];split<;>omega
  have bO:(JH o).length<=2068:=by have:=ZG o;rw[S.out] at this|-;simp only at this;have:=ax.out;omega
  have cn:JF (JH o):=QU (by rw[S.out];exact aV);have ci:JF (Qk o):=Zz (by rw[S.out];exact aV);obtain⟨be,a1,aU⟩:∃be a1,∀d,Jf 49 #[.agg (JbX (Jl (20+((JH o).length:Int))) false false (64:Int) p (.string (strOfNums (Jt true Z))) (.string (strOfNums (Jt true l))):Array Value)] d (Sg d be a1):=⟨_,_,λd=>(Z9 ⟨0,20+((JH o).length:Int),0,false,false,0,64,p,Jt true Z,Jt true l,[]⟩ d 16 D ⟨(show(0:Int)<=0/\(0:Int)<256 from D),⟨by show 0<=20+((JH o).length:Int);omega,by show 20+((JH o).length:Int)<65536;omega⟩,(show(0:Int)<=0/\(0:Int)<65536 from D),(show(0:Int)<=0/\(0:Int)<65536 from D),(show(0:Int)<=64/\(64:Int)<256 from D),u.p,⟨JB _ _,ar.out⟩,⟨JB _ _,aA.out⟩,λv bX=>by cases bX⟩ (by simp)).mono λ_ _ ⟨bS,bB,b2,_,b5⟩=>⟨bS,bB,b2,b5⟩⟩
  have a9:=H aU;clear aU
  have aP:Hid (∀d,Jf 50 #[.agg (Jch (Jl ((JH o).length:Int)) p (64:Int) (.string (strOfNums (Jt true Z))) (.string (strOfNums (Jt true l))):Array Value)] d (SE d (Qk o).length (Qk o) 0)):=H (λd=>by
   have e:Qk o=An ⟨0,0,((JH o).length:Int),p,64,Jt true Z,Jt true l⟩:=by
    rw[C1 (by rw[S.out]),S.out];rfl
   have h:=EV ⟨0,0,((JH o).length:Int),p,64,Jt true Z,Jt true l⟩ d ⟨(show(0:Int)<=0/\(0:Int)<256 from D),(show(0:Int)<=0/\(0:Int)<4294967296 from D),⟨by show 0<=((JH o).length:Int);omega,by show((JH o).length:Int)<65536;omega⟩,u.p,(show(0:Int)<=64/\(64:Int)<256 from D),⟨JB _ _,ar.out⟩,⟨JB _ _,aA.out⟩⟩;rw[<-e] at h;exact h.mono λ_ _ h=>JO.n rfl ci h)
  have b3:=H (λh=>Cu (s:=o) br (by have:=aY.out;omega) h);have cg:=H (λh=>Cv (s:=o) br (by have:=aY.out;omega) h)
  have am:Hid (∀d,Jf 48 #[.agg (JbK p (Jl a) (Jl b) f (.string (strOfNums (JP r))):Array Value),.string (strOfNums (Jt true Z)),.string (strOfNums (Jt true l))] d (QI d (JH o) 0)):=H (λd=>by
   have e:JH o=DR p a b f (JP r) (Jt true Z) (Jt true l):=by
    rw[S.out];unfold JH;simp only[ai,YW,ax.1,Jak]
   have a6:(JP r).length<=2048:=by simp[JP];exact ax.2
   rw[e];rcases(by simpa[J1] using ai:p=6\/p=17) with rfl|rfl
   ·exact Ml a b f _ _ _ a6 (Qx _) aq.1 aq.2 ar aA u.a u.b bA d
   ·have bF:f=0:=by first|(simpa using W;done)|(simp at bP)
    subst bF;exact Mm a b _ _ _ a6 (Qx _) aq.1 aq.2 ar aA u.a u.b d)
  have cz:Hid (Jn b):=H u.b;clear W ai bd;generalize JH o=U at*;generalize Qk o=P at*;obtain⟨t,aD⟩:∃n,U.length=n:=⟨_,rfl⟩
  obtain⟨X,aO⟩:∃n,P.length=n:=⟨_,rfl⟩
  unfold QI at am;rw[aD] at am a9 aP bO;rw[aO] at aP bW;have a3:Hid (U.length=t/\P.length=X):=H ⟨aD,aO⟩;clear aD aO;generalize strOfNums (Jt true Z)=cs at*;generalize strOfNums (Jt true l)=cu at*;generalize strOfNums (JP r)=bR at*;have C:Jg av (w.heap.size+1) 34 (Jq p):=F.cell 0 34 rfl rfl;have bY:Jg av (w.heap.size+1) 35 (Jl a):=F.cell 0 35 rfl rfl;have bH:Jg av (w.heap.size+1) 36 (Jl b):=F.cell 0 36 rfl rfl;have aR:Jg av w.heap.size 37 (Jq f):=F.cell 1 37 rfl rfl;have bN:=F.lt 1 rfl;have bZ:=F.lt 0 rfl;go_wp2_with fail
  have bo:=H (F.box (JbK p (Jl a) (Jl b) f (.string bR)) 102);clear C bY bH aR bN bZ F bU;refine bo.ret (bv _) ?_;intro co ch ap;clear ch bo bv;have b6:=ap.part (n:=12) 0 rfl rfl;have cj:=ap.lt 0 rfl;go_wp2_with fail
  refine Jb (am _) ?_;rintro e b0 ⟨T,ag,rfl,a2,bp⟩;have aJ:=H (ap.go bp);have bl:=H a2;clear a2 bp ap b6 cj am;have C:Jg b0 (w.heap.size+1) 34 (Jq p):=aJ.cell 1 34 rfl rfl;have b9:IntKind.i64.wrap (20+(t:Int))=20+(t:Int):=by rw[JaI];omega
  have ce:IntKind.u16.wrap (20+(t:Int))=20+(t:Int):=by rw[Jbi];omega
  have bT:IntKind.u16.wrap (t:Int)=(t:Int):=by rw[Jbi];omega
  go_wp2_with fail
  refine Jb (a9 _) ?_;rintro e bh ⟨cp,cA,rfl,aT⟩;have L:=H (aJ.go aT);have af:=H (bl.below aT);clear aT aJ bl C;have C:Jg bh (w.heap.size+1) 34 (Jq p):=L.cell 1 34 rfl rfl;have cd:Jg bh (w.heap.size+1) 0 (.bool true):=L.cell 1 0 rfl rfl;obtain⟨I,az⟩:∃n,(P++U).length=n:=⟨_,rfl⟩
  have bi:Hid (∀d aj ak T ag,JA d aj X ak P->JA d T t ag U->Jf 51 #[.slice aj X ak,.slice T t ag] d (AY d I (P++U))):=H (λd aj ak T ag j y=>(Bits.join_any aj X ak P T t ag U d j y O O).mono λ_ _ h=>h.n az (Jx j.byte y.byte));have ck:Hid (I=X+t):=H (by rw[<-az,WV,a3.1,a3.2,YR]);have an:=H az;clear az;go_wp2_with fail
  refine Jb (aP _) ?_;rintro e cq ⟨aj,ak,rfl,a0,aN⟩;have bu:=H (L.go aN);have bw:=H (af.below aN);have aW:=H a0;clear a0 aN C L af;have L:=H bu.out;have af:=H bw.out;clear bu bw;go_wp2_with fail
  refine Jb (bi _ _ _ _ _ aW af) ?_;rintro e ct ⟨bV,ca,rfl,bt,a4⟩;have bc:=H (L.go a4).out;have bD:=H bt;clear bt a4 L aW af cd bi b9 ce bT;by_cases au:2048<I
  ·have bL:decide ((2048:Int)<(I:Int))=true:=by simpa using(by omega:(2048:Int)<(I:Int))
   obtain⟨al,V⟩:=b3.out (by rw[an.out];exact au);have ab:=H (And.intro al V);clear al V au;go_wp2_with fail
   go_ret2;rw[ab.1,ab.2];exact Au bc
  ·have bL:decide ((2048:Int)<(I:Int))=false:=by simpa using(by omega:¬(2048:Int)<(I:Int))
   obtain⟨al,V⟩:=cg.out (by rw[an.out];exact au);have ab:=H (And.intro al V);clear al V au;go_wp2_with fail
   go_ret2;rw[ab.1,ab.2];exact⟨bV,ca,by rw[an.out];rfl,by rw[an.out];exact bD,bc.out⟩
theorem PH (Z l:Nat->Int)(p a b f N:Int)(ad:EA ⟨⟨true,Z,true,l,p,a,b⟩,f,N⟩)(aq:X9 ⟨⟨true,Z,true,l,p,a,b⟩,f,N⟩=false)(al:¬2048<N)(aK:J1 p=false)(aD:Qb p=false)(bw:(f != 0)=false)(w:World):
 Jf 16 #[.agg (spC true Z true l p a b f N)] w (QI w (spL ⟨⟨true,Z,true,l,p,a,b⟩,f,N⟩) (Qy ⟨⟨true,Z,true,l,p,a,b⟩,f,N⟩)):=by
 have G:Hid (Fz ⟨true,Z,true,l,p,a,b⟩):=H ad.k;have ca:Hid (Jm f):=H ad.f;have aP:=H ad;obtain⟨a0,bi,-,y⟩:=BP aq;have bA:Hid (∀w,Jf 27 #[.agg (kyC true Z true l p a b)] w (Jz w (.bool true))):=H λw=>by have h:=QT true Z true l p a b w;rw[a0] at h;exact h
 obtain⟨n,X⟩:∃n:Sp,n=⟨⟨true,Z,true,l,p,a,b⟩,f,N⟩:=⟨_,rfl⟩
 rw[<-X];have P:=H X;have b5:=ad.n;have bY:¬N<0:=Ja9 y;have cu:decide (2048<N)=false:=YA al;have bj:Hid (X9 n=false):=H (by rw[X];exact aq);have aS:Hid (¬2048<n.n):=H (by rw[X];exact al);have bx:=H al;clear a0 ad X aq al;obtain⟨bX,bt,b1,bS⟩:=(A7 p).2 bi;clear bi;have F:=((Bx.start w).box (spC true Z true l p a b f N) 52).box (kyC true Z true l p a b) 38;rw[show(w.alloc (.cells (spC true Z true l p a b f N) 52)).heap.size=w.heap.size+1 by simp] at F;have bg:=H F;clear F;unfold spC kyC at*;go_enter func16,ntmps16
 go_wp2_with fail
 refine bg.ret (bA _) ?_;intro B aB T;clear aB bg bX bt b1 bS;have b8:Jg B w.heap.size 37 (Jq f):=T.cell 1 37 rfl rfl;have bB:Jg B w.heap.size 38 (Jk N):=T.cell 1 38 rfl rfl;have A:Jg B (w.heap.size+1) 34 (Jq p):=T.cell 0 34 rfl rfl;obtain⟨o,aw⟩:=Jaq (show 0<=N from O);have aj:o<=2048:=by have:=bx.out;omega
 have aC:=H (And.intro aw aj);have bv:(Instr.makeSlice 22 (Jk N) (Jk N)).run prog B=.ok (.slice (some ⟨B.heap.size,0,none⟩) o o) (B.alloc (.cells ((JP o).map (.int .u8)).toArray 5)):=by rw[aw];exact Zs B o aj
 have bz:=Qg (Zf (WP B (.cells ((JP o).map (.int .u8)).toArray 5)) aj);clear b5 bY aw aj;go_wp2_with (with_reducible refine XD 68 ?_)
 refine JJ.mk ?_;refine Qi _ rfl 9 22 _ rfl 5 underlying9 underlying22 underlying5 (JP o) rfl (Qx o) (by have:=aC.2;simp[JP];omega) ?_;intro cp M bd am;rw[show(JP o).length=o by simp[JP]] at am|-;have aa:=H ((T.go (Below.all (Jc _ _) (.cells ((JP o).map (.int .u8)).toArray 5))).go bd);obtain⟨cn,bc⟩:∃bV,bV=some (⟨(B.alloc (.cells ((JP o).map (.int .u8)).toArray 5)).heap.size,0,none⟩:Addr):=⟨_,rfl⟩
 rw[<-bc] at am|-;have bf:=H am;clear bc am bd bv bz A b8 bB T;go_wp2_with fail
 obtain⟨u,ay⟩:∃m,(Jt true Z).length=m:=⟨_,rfl⟩
 have aT:(Jt true l).length=u:=by rw[JB,<-ay,JB]
 have cc:Hid (((Jt true Z).length=(Jt true l).length)/\((Jt true Z).length=4\/(Jt true Z).length=16)):=H ⟨by rw[JB,JB],by rw[JB];exact .inr rfl⟩;have a8:Hid (∀d,Jf 45 #[adV true Z] d (AY d u (Jt true Z))):=H λd=>(QV true Z d).mono λ_ _ h=>h.n ay (JL G.S true)
 have aY:Hid (∀d,Jf 45 #[adV true l] d (AY d u (Jt true l))):=H λd=>(QV true l d).mono λ_ _ h=>h.n aT (JL G.T true)
 have ax:w.heap.size+1<M.heap.size:=aa.lt 0 rfl;have br:Jv M (w.heap.size+1) 17 17=(Jbr true l:Array Value):=by rw[JG _ _ _ _ _ _ _ (aa.at 0 rfl)];simp
 clear ay aT;refine QO [.h,.h,.w,.w,.h,.h] [(4,1,0),(5,1,0)] (λ_ d=>Jv d (w.heap.size+1) 17 17=(Jbr true l:Array Value)) [1] [(.w,2),(.c,3),(.w,6),(.c,7),(.q,8),(.q,9)] K K K K ?_;apply Exists.intro;refine⟨λaM F=>?_,?_,?_⟩
 ·have ap:=(aa.go F).at 0 rfl;have cd:w.heap.size+1<aM.heap.size:=Jd ax F.size;have cr:Jv aM (w.heap.size+1) 0 17=(Jbr true Z:Array Value):=by rw[JG _ _ _ _ _ _ _ ap];simp
  have cj:Jv aM (w.heap.size+1) 17 17=(Jbr true l:Array Value):=by rw[JG _ _ _ _ _ _ _ ap];simp
  clear ap F;exact JcB
 ·intro q aZ ce a3;simp only[YE,YF,YG] at aZ;rcases aZ with rfl|rfl
  ·cases a3;exact⟨_,rfl,rfl,λw2 R=>K⟩
  ·cases a3;exact⟨_,rfl,rfl,λw2 R=>by simp[execOp,go_sem,R]⟩
 simp only[Qp,Ja0,Jbf];refine⟨λv V w2=>∃z t,v=.slice z u t/\JA w2 z u t (Jt true Z)/\Ji M w2,?_,?_,?_⟩
 ·refine⟨rfl,λd az=>.inr ⟨45,#[adV true Z],K,?_⟩⟩;obtain⟨⟨x,rfl⟩,-⟩:=az;refine(a8 x.world).mono ?_;rintro e w2 ⟨z,t,rfl,j,g⟩;exact⟨_,rfl,z,t,rfl,j,Wx x.below g⟩
 ·rintro v V cq-w2 ⟨z,t,-,-,g⟩;exact(J0 g _ 17 17 ax).trans br
 rintro v ⟨b2,z,t,rfl,-⟩;refine⟨.string (strOfNums (Jt true Z)),λd=>JA d z u t (Jt true Z),⟨rfl,λd R=>Xv _ _ K (Qg R)⟩,?_,?_⟩
 ·rintro V d ⟨aE,av,Y,j,-⟩;obtain⟨rfl,rfl⟩:z=aE/\t=av:=by simpa using Y
  exact j
 refine⟨λv V w2=>∃J C,v=.slice J u C/\JA w2 z u t (Jt true Z)/\JA w2 J u C (Jt true l)/\Ji M w2,?_,?_,?_⟩
 ·refine⟨rfl,λd az=>.inr ⟨45,#[adV true l],K,?_⟩⟩;obtain⟨aE,av,Y,j,aB⟩:=az;obtain⟨rfl,rfl⟩:z=aE/\t=av:=by simpa using Y
  refine(aY d).mono ?_;rintro e w2 ⟨J,C,rfl,y,g⟩;exact⟨_,rfl,J,C,rfl,j.below g,y,Wx aB g⟩
 ·intro v V;exact BO (J4 rfl) (λw2 ⟨_,_,_,j,_⟩=>j)
 rintro v ⟨bL,J,C,rfl,-⟩;refine⟨.string (strOfNums (Jt true l)),λd=>JA d J u C (Jt true l),⟨rfl,λd R=>Xv _ _ K (Qg R)⟩,?_,?_⟩
 ·rintro V d ⟨bm,a2,Y,-,y,-⟩;obtain⟨rfl,rfl⟩:J=bm/\C=a2:=by simpa using Y
  exact y
 refine⟨.string (strOfNums (Jt true Z)),⟨rfl,λ_=>K⟩,?_⟩;refine⟨.string (strOfNums (Jt true l)),⟨rfl,λ_=>K⟩,?_⟩;rintro bE ⟨bm,a2,-,-,-,aJ⟩;have aF:=H (aa.go aJ);have a9:=H (bf.below aJ);clear aJ aa bf a8 aY b2 bL br ax;have aW:=H (JL G.S true);have bk:=H (JL G.T true);have bq:Hid (∀d,Jf 46 #[p] d (Jz d (.bool false))):=H (λd=>by have h:=Xn p d;rw[aK] at h;exact h);have b7:Hid (∀d,Jf 47 #[p] d (Jz d (.bool false))):=H (λd=>by have h:=XH p d;rw[aD] at h;exact h);have A:Jg bE (w.heap.size+1) 34 (Jq p):=aF.cell 0 34 rfl rfl;simp only[Act.put,Ja6,Ja7,Ja8];go_wp2_with fail
 refine aF.ret (bq _) ?_;intro bH aQ aL;have a5:=H (a9.below aQ);clear aQ aF a9 A bq;have bP:(Qk n).length<=40:=by rw[Zg];split<;>omega
 have bI:(JH n).length<=2068:=by have:=ZG n;rw[P.out] at this|-;simp only at this;have:=aC.out;omega
 have cf:JF (JH n):=QU (by rw[P.out];exact aP);have b9:JF (Qk n):=Zz (by rw[P.out];exact aP);obtain⟨a7,aV,aO⟩:∃a7 aV,∀d,Jf 49 #[.agg (JbX (Jl (20+((JH n).length:Int))) false false (64:Int) p (.string (strOfNums (Jt true Z))) (.string (strOfNums (Jt true l))):Array Value)] d (Sg d a7 aV):=⟨_,_,λd=>(Z9 ⟨0,20+((JH n).length:Int),0,false,false,0,64,p,Jt true Z,Jt true l,[]⟩ d 16 D ⟨(show(0:Int)<=0/\(0:Int)<256 from D),⟨by show 0<=20+((JH n).length:Int);omega,by show 20+((JH n).length:Int)<65536;omega⟩,(show(0:Int)<=0/\(0:Int)<65536 from D),(show(0:Int)<=0/\(0:Int)<65536 from D),(show(0:Int)<=64/\(64:Int)<256 from D),G.p,⟨JB _ _,aW.out⟩,⟨JB _ _,bk.out⟩,λv bQ=>by cases bQ⟩ (by simp)).mono λ_ _ ⟨bM,bs,bT,_,bW⟩=>⟨bM,bs,bT,bW⟩⟩
 have a1:=H aO;clear aO
 have aI:Hid (∀d,Jf 50 #[.agg (Jch (Jl ((JH n).length:Int)) p (64:Int) (.string (strOfNums (Jt true Z))) (.string (strOfNums (Jt true l))):Array Value)] d (SE d (Qk n).length (Qk n) 0)):=H (λd=>by
  have e:Qk n=An ⟨0,0,((JH n).length:Int),p,64,Jt true Z,Jt true l⟩:=by
   rw[C1 (by rw[P.out]),P.out];rfl
  have h:=EV ⟨0,0,((JH n).length:Int),p,64,Jt true Z,Jt true l⟩ d ⟨(show(0:Int)<=0/\(0:Int)<256 from D),(show(0:Int)<=0/\(0:Int)<4294967296 from D),⟨by show 0<=((JH n).length:Int);omega,by show((JH n).length:Int)<65536;omega⟩,G.p,(show(0:Int)<=64/\(64:Int)<256 from D),⟨JB _ _,aW.out⟩,⟨JB _ _,bk.out⟩⟩;rw[<-e] at h;exact h.mono λ_ _ h=>JO.n rfl b9 h)
 have bU:=H (λh=>Cu (s:=n) bj (by have:=aS.out;omega) h);have b6:=H (λh=>Cv (s:=n) bj (by have:=aS.out;omega) h)
 have bG:Hid (JH n=JP o):=H (by
  rw[P.out];unfold JH;simp only[aK,aD,JaL,if_false,aC.1,Jak])
 have cs:Hid (Jn b):=H G.b;clear bw aK aD;generalize JH n=U at*;generalize Qk n=L at*;obtain⟨r,ar⟩:∃ac,U.length=ac:=⟨_,rfl⟩
 obtain⟨S,aH⟩:∃ac,L.length=ac:=⟨_,rfl⟩
 rw[ar] at a1 aI bI;rw[aH] at aI bP;have au:Hid (U.length=r/\L.length=S):=H ⟨ar,aH⟩;clear ar aH;generalize strOfNums (Jt true Z)=ck at*;generalize strOfNums (Jt true l)=cm at*;generalize strOfNums (JP o)=cg at*;have A:Jg bH (w.heap.size+1) 34 (Jq p):=aL.cell 0 34 rfl rfl;go_wp2_with fail
 refine aL.ret (b7 _) ?_;intro bJ bl bh;have a4:=H (a5.below bl);clear bl aL a5 A;have bK:=bG.out;subst bK;obtain rfl:r=o:=by rw[<-au.1];simp[JP]
 have be:=H a4.out;clear a4;obtain⟨bR,bD⟩:∃bF,bF=bJ:=⟨_,rfl⟩
 subst bD;have aA:=H bh.out;clear bh;generalize co:JP r=U at*;have A:Jg bR (w.heap.size+1) 34 (Jq p):=aA.cell 0 34 rfl rfl;have bZ:IntKind.i64.wrap (20+(r:Int))=20+(r:Int):=by rw[JaI];omega
 have b4:IntKind.u16.wrap (20+(r:Int))=20+(r:Int):=by rw[Jbi];omega
 have bN:IntKind.u16.wrap (r:Int)=(r:Int):=by rw[Jbi];omega
 go_wp2_with fail
 refine Jb (a1 _) ?_;rintro e ba ⟨ch,ct,rfl,aN⟩;have I:=H (aA.go aN);have ab:=H (be.below aN);clear aN aA be A;have A:Jg ba (w.heap.size+1) 34 (Jq p):=I.cell 0 34 rfl rfl;have b3:Jg ba (w.heap.size+1) 0 (.bool true):=I.cell 0 0 rfl rfl;obtain⟨E,an⟩:∃ac,(L++U).length=ac:=⟨_,rfl⟩
 have bb:Hid (∀d ae af ah ao,JA d ae S af L->JA d ah r ao U->Jf 51 #[.slice ae S af,.slice ah r ao] d (AY d E (L++U))):=H (λd ae af ah ao j y=>(Bits.join_any ae S af L ah r ao U d j y O O).mono λ_ _ h=>h.n an (Jx j.byte y.byte));have cb:Hid (E=S+r):=H (by rw[<-an,WV,au.1,au.2,YR]);have ai:=H an;clear an;go_wp2_with fail
 refine Jb (aI _) ?_;rintro e ci ⟨ae,af,rfl,aU,aG⟩;have bo:=H (I.go aG);have bp:=H (ab.below aG);have aR:=H aU;clear aU aG A I ab;have I:=H bo.out;have ab:=H bp.out;clear bo bp;go_wp2_with fail
 refine Jb (bb _ _ _ _ _ aR ab) ?_;rintro e cl ⟨bO,b0,rfl,bn,aX⟩;have a6:=H (I.go aX).out;have bu:=H bn;clear bn aX I aR ab b3 bb bZ b4 bN;by_cases ak:2048<E
 ·have bC:decide ((2048:Int)<(E:Int))=true:=by simpa using(by omega:(2048:Int)<(E:Int))
  obtain⟨ag,Q⟩:=bU.out (by rw[ai.out];exact ak);have W:=H (And.intro ag Q);clear ag Q ak;go_wp2_with fail
  go_ret2;rw[W.1,W.2];exact Au a6
 ·have bC:decide ((2048:Int)<(E:Int))=false:=by simpa using(by omega:¬(2048:Int)<(E:Int))
  obtain⟨ag,Q⟩:=b6.out (by rw[ai.out];exact ak);have W:=H (And.intro ag Q);clear ag Q ak;go_wp2_with fail
  go_ret2;rw[W.1,W.2];exact⟨bO,b0,by rw[ai.out];rfl,by rw[ai.out];exact bu,a6.out⟩
theorem PI (Z l:Nat->Int)(p a b f N:Int)(al:EA ⟨⟨true,Z,true,l,p,a,b⟩,f,N⟩)(aD:X9 ⟨⟨true,Z,true,l,p,a,b⟩,f,N⟩=false)(aw:¬2048<N)(aV:J1 p=false)(ay:Qb p=true)(bM:(f != 0)=false)(w:World):
 Jf 16 #[.agg (spC true Z true l p a b f N)] w (QI w (spL ⟨⟨true,Z,true,l,p,a,b⟩,f,N⟩) (Qy ⟨⟨true,Z,true,l,p,a,b⟩,f,N⟩)):=by
 have F:Hid (Fz ⟨true,Z,true,l,p,a,b⟩):=H al.k;have cx:Hid (Jm f):=H al.f;have a2:=H al;obtain⟨bf,bv,-,y⟩:=BP aD;have bS:Hid (∀w,Jf 27 #[.agg (kyC true Z true l p a b)] w (Jz w (.bool true))):=H λw=>by have h:=QT true Z true l p a b w;rw[bf] at h;exact h
 obtain⟨n,ae⟩:∃n:Sp,n=⟨⟨true,Z,true,l,p,a,b⟩,f,N⟩:=⟨_,rfl⟩
 rw[<-ae];have T:=H ae;have ct:=al.n;have cm:¬N<0:=Ja9 y;have cN:decide (2048<N)=false:=YA aw;have bw:Hid (X9 n=false):=H (by rw[ae];exact aD);have a6:Hid (¬2048<n.n):=H (by rw[ae];exact aw);have bN:=H aw;clear bf al ae aD aw;obtain⟨cl,bJ,cp,ce⟩:=(A7 p).2 bv;clear bv;have J:=((Bx.start w).box (spC true Z true l p a b f N) 52).box (kyC true Z true l p a b) 38;rw[show(w.alloc (.cells (spC true Z true l p a b f N) 52)).heap.size=w.heap.size+1 by simp] at J;have bu:=H J;clear J;unfold spC kyC at*;go_enter func16,ntmps16
 go_wp2_with fail
 refine bu.ret (bS _) ?_;intro C ah aa;clear ah bu cl bJ cp ce;have aY:Jg C w.heap.size 37 (Jq f):=aa.cell 1 37 rfl rfl;have bT:Jg C w.heap.size 38 (Jk N):=aa.cell 1 38 rfl rfl;have r:Jg C (w.heap.size+1) 34 (Jq p):=aa.cell 0 34 rfl rfl;obtain⟨o,aI⟩:=Jaq (show 0<=N from O);have ar:o<=2048:=by have:=bN.out;omega
 have ax:=H (And.intro aI ar);have bL:(Instr.makeSlice 22 (Jk N) (Jk N)).run prog C=.ok (.slice (some ⟨C.heap.size,0,none⟩) o o) (C.alloc (.cells ((JP o).map (.int .u8)).toArray 5)):=by rw[aI];exact Zs C o ar
 have bR:=Qg (Zf (WP C (.cells ((JP o).map (.int .u8)).toArray 5)) ar);clear ct cm aI ar;go_wp2_with (with_reducible refine XD 68 ?_)
 refine JJ.mk ?_;refine Qi _ rfl 9 22 _ rfl 5 underlying9 underlying22 underlying5 (JP o) rfl (Qx o) (by have:=ax.2;simp[JP];omega) ?_;intro cJ S br az;rw[show(JP o).length=o by simp[JP]] at az|-;have ag:=H ((aa.go (Below.all (Jc _ _) (.cells ((JP o).map (.int .u8)).toArray 5))).go br);obtain⟨cI,bq⟩:∃ci,ci=some (⟨(C.alloc (.cells ((JP o).map (.int .u8)).toArray 5)).heap.size,0,none⟩:Addr):=⟨_,rfl⟩
 rw[<-bq] at az|-;have bt:=H az;clear bq az br bL bR r aY bT aa;go_wp2_with fail
 obtain⟨z,aK⟩:∃m,(Jt true Z).length=m:=⟨_,rfl⟩
 have a7:(Jt true l).length=z:=by rw[JB,<-aK,JB]
 have a3:Hid (((Jt true Z).length=(Jt true l).length)/\((Jt true Z).length=4\/(Jt true Z).length=16)):=H ⟨by rw[JB,JB],by rw[JB];exact .inr rfl⟩;have bm:Hid (∀d,Jf 45 #[adV true Z] d (AY d z (Jt true Z))):=H λd=>(QV true Z d).mono λ_ _ h=>h.n aK (JL F.S true)
 have bd:Hid (∀d,Jf 45 #[adV true l] d (AY d z (Jt true l))):=H λd=>(QV true l d).mono λ_ _ h=>h.n a7 (JL F.T true)
 have aJ:w.heap.size+1<S.heap.size:=ag.lt 0 rfl;have bF:Jv S (w.heap.size+1) 17 17=(Jbr true l:Array Value):=by rw[JG _ _ _ _ _ _ _ (ag.at 0 rfl)];simp
 clear aK a7;refine QO [.h,.h,.w,.w,.h,.h] [(4,1,0),(5,1,0)] (λ_ d=>Jv d (w.heap.size+1) 17 17=(Jbr true l:Array Value)) [1] [(.w,2),(.c,3),(.w,6),(.c,7),(.q,8),(.q,9)] K K K K ?_;apply Exists.intro;refine⟨λaZ J=>?_,?_,?_⟩
 ·have aC:=(ag.go J).at 0 rfl;have cz:w.heap.size+1<aZ.heap.size:=Jd aJ J.size;have cL:Jv aZ (w.heap.size+1) 0 17=(Jbr true Z:Array Value):=by rw[JG _ _ _ _ _ _ _ aC];simp
  have cE:Jv aZ (w.heap.size+1) 17 17=(Jbr true l:Array Value):=by rw[JG _ _ _ _ _ _ _ aC];simp
  clear aC J;exact JcB
 ·intro q be cA bi;simp only[YE,YF,YG] at be;rcases be with rfl|rfl
  ·cases bi;exact⟨_,rfl,rfl,λw2 R=>K⟩
  ·cases bi;exact⟨_,rfl,rfl,λw2 R=>by simp[execOp,go_sem,R]⟩
 simp only[Qp,Ja0,Jbf];refine⟨λv ac w2=>∃A u,v=.slice A z u/\JA w2 A z u (Jt true Z)/\Ji S w2,?_,?_,?_⟩
 ·refine⟨rfl,λd aL=>.inr ⟨45,#[adV true Z],K,?_⟩⟩;obtain⟨⟨x,rfl⟩,-⟩:=aL;refine(bm x.world).mono ?_;rintro e w2 ⟨A,u,rfl,j,g⟩;exact⟨_,rfl,A,u,rfl,j,Wx x.below g⟩
 ·rintro v ac cK-w2 ⟨A,u,-,-,g⟩;exact(J0 g _ 17 17 aJ).trans bF
 rintro v ⟨cq,A,u,rfl,-⟩;refine⟨.string (strOfNums (Jt true Z)),λd=>JA d A z u (Jt true Z),⟨rfl,λd R=>Xv _ _ K (Qg R)⟩,?_,?_⟩
 ·rintro ac d ⟨aO,aH,af,j,-⟩;obtain⟨rfl,rfl⟩:A=aO/\u=aH:=by simpa using af
  exact j
 refine⟨λv ac w2=>∃M G,v=.slice M z G/\JA w2 A z u (Jt true Z)/\JA w2 M z G (Jt true l)/\Ji S w2,?_,?_,?_⟩
 ·refine⟨rfl,λd aL=>.inr ⟨45,#[adV true l],K,?_⟩⟩;obtain⟨aO,aH,af,j,ah⟩:=aL;obtain⟨rfl,rfl⟩:A=aO/\u=aH:=by simpa using af
  refine(bd d).mono ?_;rintro e w2 ⟨M,G,rfl,y,g⟩;exact⟨_,rfl,M,G,rfl,j.below g,y,Wx ah g⟩
 ·intro v ac;exact BO (J4 rfl) (λw2 ⟨_,_,_,j,_⟩=>j)
 rintro v ⟨b1,M,G,rfl,-⟩;refine⟨.string (strOfNums (Jt true l)),λd=>JA d M z G (Jt true l),⟨rfl,λd R=>Xv _ _ K (Qg R)⟩,?_,?_⟩
 ·rintro ac d ⟨bA,bh,af,-,y,-⟩;obtain⟨rfl,rfl⟩:M=bA/\G=bh:=by simpa using af
  exact y
 refine⟨.string (strOfNums (Jt true Z)),⟨rfl,λ_=>K⟩,?_⟩;refine⟨.string (strOfNums (Jt true l)),⟨rfl,λ_=>K⟩,?_⟩;rintro bX ⟨bA,bh,-,-,-,aT⟩;have aP:=H (ag.go aT);have bn:=H (bt.below aT);clear aT ag bt bm bd cq b1 bF aJ;have aG:=H (JL F.S true);have aU:=H (JL F.T true);have bE:Hid (∀d,Jf 46 #[p] d (Jz d (.bool false))):=H (λd=>by have h:=Xn p d;rw[aV] at h;exact h);have aX:Hid (∀d,Jf 47 #[p] d (Jz d (.bool true))):=H (λd=>by have h:=XH p d;rw[ay] at h;exact h);have r:Jg bX (w.heap.size+1) 34 (Jq p):=aP.cell 0 34 rfl rfl;simp only[Act.put,Ja6,Ja7,Ja8];go_wp2_with fail
 refine aP.ret (bE _) ?_;intro bZ a4 aW;have bj:=H (bn.below a4);clear a4 aP bn r bE;have b6:(Qk n).length<=40:=by rw[Zg];split<;>omega
 have b0:(JH n).length<=2068:=by have:=ZG n;rw[T.out] at this|-;simp only at this;have:=ax.out;omega
 have cB:JF (JH n):=QU (by rw[T.out];exact a2);have cv:JF (Qk n):=Zz (by rw[T.out];exact a2);obtain⟨bl,a9,a1⟩:∃bl a9,∀d,Jf 49 #[.agg (JbX (Jl (20+((JH n).length:Int))) false false (64:Int) p (.string (strOfNums (Jt true Z))) (.string (strOfNums (Jt true l))):Array Value)] d (Sg d bl a9):=⟨_,_,λd=>(Z9 ⟨0,20+((JH n).length:Int),0,false,false,0,64,p,Jt true Z,Jt true l,[]⟩ d 16 D ⟨(show(0:Int)<=0/\(0:Int)<256 from D),⟨by show 0<=20+((JH n).length:Int);omega,by show 20+((JH n).length:Int)<65536;omega⟩,(show(0:Int)<=0/\(0:Int)<65536 from D),(show(0:Int)<=0/\(0:Int)<65536 from D),(show(0:Int)<=64/\(64:Int)<256 from D),F.p,⟨JB _ _,aG.out⟩,⟨JB _ _,aU.out⟩,λv b7=>by cases b7⟩ (by simp)).mono λ_ _ ⟨b3,bH,cf,_,cj⟩=>⟨b3,bH,cf,cj⟩⟩
 have bg:=H a1;clear a1
 have aS:Hid (∀d,Jf 50 #[.agg (Jch (Jl ((JH n).length:Int)) p (64:Int) (.string (strOfNums (Jt true Z))) (.string (strOfNums (Jt true l))):Array Value)] d (SE d (Qk n).length (Qk n) 0)):=H (λd=>by
  have e:Qk n=An ⟨0,0,((JH n).length:Int),p,64,Jt true Z,Jt true l⟩:=by
   rw[C1 (by rw[T.out]),T.out];rfl
  have h:=EV ⟨0,0,((JH n).length:Int),p,64,Jt true Z,Jt true l⟩ d ⟨(show(0:Int)<=0/\(0:Int)<256 from D),(show(0:Int)<=0/\(0:Int)<4294967296 from D),⟨by show 0<=((JH n).length:Int);omega,by show((JH n).length:Int)<65536;omega⟩,F.p,(show(0:Int)<=64/\(64:Int)<256 from D),⟨JB _ _,aG.out⟩,⟨JB _ _,aU.out⟩⟩;rw[<-e] at h;exact h.mono λ_ _ h=>JO.n rfl cv h)
 have cg:=H (λh=>Cu (s:=n) bw (by have:=a6.out;omega) h);have cu:=H (λh=>Cv (s:=n) bw (by have:=a6.out;omega) h)
 have ap:Hid (∀d,Jf 48 #[.agg (JbD p (Jq (b/256)) (Jq (b%256)) (.string (strOfNums (JP o))):Array Value),.string (strOfNums (Jt true Z)),.string (strOfNums (Jt true l))] d (QI d (JH n) 0)):=H (λd=>by
  have e:JH n=DR p (b/256) (b%256) 0 (JP o) (Jt true Z) (Jt true l):=by
   rw[T.out];unfold JH;simp only[aV,ay,JaL,if_false,YW,ax.1,Jak]
  have bW:(JP o).length<=2048:=by simp[JP];exact ax.2
  have cc:=F.b;simp only at cc;rw[e];exact Iq p _ _ (by simpa[Qb] using ay) _ _ _ bW (Qx _) a3.1 a3.2 aG aU O O d)
 have bx:Hid (Jn b):=H F.b;clear bM aV ay;generalize JH n=U at*;generalize Qk n=Q at*;obtain⟨t,aF⟩:∃aj,U.length=aj:=⟨_,rfl⟩
 obtain⟨Y,aR⟩:∃aj,Q.length=aj:=⟨_,rfl⟩
 unfold QI at ap;rw[aF] at ap bg aS b0;rw[aR] at aS b6;have bb:Hid (U.length=t/\Q.length=Y):=H ⟨aF,aR⟩;clear aF aR;generalize strOfNums (Jt true Z)=cF at*;generalize strOfNums (Jt true l)=cH at*;generalize strOfNums (JP o)=av at*;have r:Jg bZ (w.heap.size+1) 34 (Jq p):=aW.cell 0 34 rfl rfl;go_wp2_with fail
 refine aW.ret (aX _) ?_;intro E bz B;have b2:=H (bj.below bz);clear bz aW bj r;have aM:=bx.1;have ah:=bx.2;have bI:Int.tdiv b 256=b/256:=Jaw aM;have bU:Int.tmod b 256=b%256:=Jax aM;have bP:IntKind.u16.wrap (b/256)=b/256:=by rw[Jbi];omega
 have bQ:IntKind.u16.wrap (b%256)=b%256:=by rw[Jbi];omega
 have bO:IntKind.u8.wrap (b/256)=b/256:=by rw[Jbj];omega
 have bG:IntKind.u8.wrap (b%256)=b%256:=by rw[Jbj];omega
 have ch:b/256%256=b/256:=O;have r:Jg E (w.heap.size+1) 34 (Jq p):=B.cell 0 34 rfl rfl;have b8:Jg E (w.heap.size+1) 35 (Jl a):=B.cell 0 35 rfl rfl;have aE:Jg E (w.heap.size+1) 36 (Jl b):=B.cell 0 36 rfl rfl;have aY:Jg E w.heap.size 37 (Jq f):=B.cell 1 37 rfl rfl;have bY:=B.lt 1 rfl;have ca:=B.lt 0 rfl;have ck:=B.out.out.size;clear b2;go_wp2_with fail
 have X:=H (B.box (JbK p (Jl a) (Jl b) f (.string av)) 102);clear r b8 aE aY B;refine X.ret (aX _) ?_;intro ab aB P;clear aB X aX;have r:Jg ab (w.heap.size+1) 34 (Jq p):=P.cell 1 34 rfl rfl;have aE:Jg ab (w.heap.size+1) 36 (Jl b):=P.cell 1 36 rfl rfl;have cd:JE ab E.heap.size 12=true:=P.row 0 rfl rfl;have b9:Jv (ab.setRow E.heap.size (JbD p (Jq (b/256)) (Jq (b%256)) (.string av))) E.heap.size 0 12=(JbD p (Jq (b/256)) (Jq (b%256)) (.string av):Array Value):=Ju (JC (P.at 0 rfl)) rfl;have X:=H (P.set (JbD p (Jq (b/256)) (Jq (b%256)) (.string av)) O (by simp;omega));have cw:E.heap.size<ab.heap.size:=P.lt 0 rfl;clear bY ca ck;go_wp2_with fail
 refine Jb (ap _) ?_;rintro e cb ⟨V,ak,rfl,ba,aB⟩;have aN:=H (X.go aB);have bs:=H ba;clear ba aB X P r aE cd b9 cw ap bI bU bP bQ bO bG ch aM ah;have r:Jg cb (w.heap.size+1) 34 (Jq p):=aN.cell 1 34 rfl rfl;have cn:IntKind.i64.wrap (20+(t:Int))=20+(t:Int):=by rw[JaI];omega
 have cs:IntKind.u16.wrap (20+(t:Int))=20+(t:Int):=by rw[Jbi];omega
 have b4:IntKind.u16.wrap (t:Int)=(t:Int):=by rw[Jbi];omega
 go_wp2_with fail
 refine Jb (bg _) ?_;rintro e bo ⟨cC,cM,rfl,a0⟩;have L:=H (aN.go a0);have ai:=H (bs.below a0);clear a0 aN bs r;have r:Jg bo (w.heap.size+1) 34 (Jq p):=L.cell 1 34 rfl rfl;have cr:Jg bo (w.heap.size+1) 0 (.bool true):=L.cell 1 0 rfl rfl;obtain⟨I,aA⟩:∃aj,(Q++U).length=aj:=⟨_,rfl⟩
 have bp:Hid (∀d am an V ak,JA d am Y an Q->JA d V t ak U->Jf 51 #[.slice am Y an,.slice V t ak] d (AY d I (Q++U))):=H (λd am an V ak j y=>(Bits.join_any am Y an Q V t ak U d j y O O).mono λ_ _ h=>h.n aA (Jx j.byte y.byte));have cy:Hid (I=Y+t):=H (by rw[<-aA,WV,bb.1,bb.2,YR]);have aq:=H aA;clear aA;go_wp2_with fail
 refine Jb (aS _) ?_;rintro e cD ⟨am,an,rfl,a8,aQ⟩;have bC:=H (L.go aQ);have bD:=H (ai.below aQ);have a5:=H a8;clear a8 aQ r L ai;have L:=H bC.out;have ai:=H bD.out;clear bC bD;go_wp2_with fail
 refine Jb (bp _ _ _ _ _ a5 ai) ?_;rintro e cG ⟨b5,co,rfl,bB,bc⟩;have bk:=H (L.go bc).out;have bK:=H bB;clear bB bc L a5 ai cr bp cn cs b4;by_cases au:2048<I
 ·have bV:decide ((2048:Int)<(I:Int))=true:=by simpa using(by omega:(2048:Int)<(I:Int))
  obtain⟨ao,W⟩:=cg.out (by rw[aq.out];exact au);have ad:=H (And.intro ao W);clear ao W au;go_wp2_with fail
  go_ret2;rw[ad.1,ad.2];exact Au bk
 ·have bV:decide ((2048:Int)<(I:Int))=false:=by simpa using(by omega:¬(2048:Int)<(I:Int))
  obtain⟨ao,W⟩:=cu.out (by rw[aq.out];exact au);have ad:=H (And.intro ao W);clear ao W au;go_wp2_with fail
  go_ret2;rw[ad.1,ad.2];exact⟨b5,co,by rw[aq.out];rfl,by rw[aq.out];exact bK,bk.out⟩
theorem Tx (G:Sp)(e:EA G)(w:World):Jf 16 #[.agg (spV G)] w (QI w (spL G) (Qy G)):=by
 obtain⟨⟨G,Z,t,d,p,a,b⟩,f,N⟩:=G;show Jf 16 #[.agg (spC G Z t d p a b f N)] w _;by_cases g:X9 ⟨⟨G,Z,t,d,p,a,b⟩,f,N⟩=true\/(X9 ⟨⟨G,Z,t,d,p,a,b⟩,f,N⟩=false/\2048<N)
 ·cases G
  ·exact KQ Z t d p a b f N g e w
  ·exact Mo Z t d p a b f N g e w
 have j:X9 ⟨⟨G,Z,t,d,p,a,b⟩,f,N⟩=false:=by
  cases h:X9 ⟨⟨G,Z,t,d,p,a,b⟩,f,N⟩ with
  |false=>rfl
  |true=>exact absurd (.inl h) g
 have B:¬2048<N:=λh=>g (.inr ⟨j,h⟩)
 obtain⟨u,s,n,-⟩:=BP j
 have o:G=t:=by
  unfold JS at u;simp only[YO,Y2] at u;exact u.2.2.1
 subst o;cases hip:J1 p with
 |true=>
  have l:(f != 0)=false\/((f != 0)=true/\(p != 6)=false):=by
   cases h1:(f != 0) with
   |false=>exact .inl rfl
   |true=>rw[h1] at n;exact .inr ⟨rfl,by simpa using n⟩
  cases G
  ·exact NP Z d p a b f N e j B hip l w
  ·exact PG Z d p a b f N e j B hip l w
 |false=>
  have l:(f != 0)=false:=by
   cases h1:(f != 0) with
   |false=>rfl
   |true=>
    rw[h1] at n;have r:p=6:=by simpa using n
    rw[r] at hip;cases hip
  cases hii:Qb p with
  |true=>
   cases G
   ·exact NR Z d p a b f N e j B hip hii l w
   ·exact PI Z d p a b f N e j B hip hii l w
  |false=>
   cases G
   ·exact NQ Z d p a b f N e j B hip hii l w
   ·exact PH Z d p a b f N e j B hip hii l w
theorem Sh (G:Sp):(spL G).length<=2048:=by
 unfold spL;split
 ·next h=>
  have:¬2048<(Qk G++JH G).length:=λM=>by
   unfold Qy at h;rw[YH M] at h;by_cases j:X9 G=true
   ·rw[YH j] at h;omega
   ·rw[Yw j] at h;by_cases y:2048<G.n
    ·rw[YH y] at h;omega
    ·rw[Yw y] at h;omega
  omega
 ·simp
end
end Go.Proofs.YtkgjbipfhhjlpaaGreatDoor
