import Derived.Test.YtkgjbipfhhjlpaaGreatDoorMq13
set_option linter.unusedVariables false
set_option linter.unusedSimpArgs false
set_option maxRecDepth 100000
set_option maxHeartbeats 32000000
namespace Go.Proofs.YtkgjbipfhhjlpaaGreatDoor
open Go.Proofs.Tryz
section
open Go.RowKit Bits
theorem JcB{p:Prop}(h:p:=by
 simp only[JW];repeat go_big_quiet_step (fail)
 exact Jaa rfl):p:=h
theorem JcF{p:Prop}(h:p:=by
 rcases av with rfl|rfl|rfl|rfl|rfl|rfl|rfl|rfl|rfl|rfl|rfl|rfl|rfl|rfl|rfl|rfl|rfl
 ·cases z;exact⟨_,rfl,rfl,λw2 R=>K⟩
 ·cases z;exact⟨_,rfl,rfl,λw2 R=>K⟩
 ·cases z;exact⟨_,rfl,rfl,λw2 R=>K⟩
 ·cases z;exact⟨_,rfl,rfl,λw2 R=>K⟩
 ·cases z;exact⟨_,rfl,rfl,λw2 R=>K⟩
 ·cases z;exact⟨_,rfl,rfl,λw2 R=>K⟩
 ·cases z;exact⟨_,rfl,rfl,λw2 R=>K⟩
 ·cases z;exact⟨_,rfl,rfl,λw2 R=>by simp[execOp,go_sem,R.1.1]⟩
 ·cases z;exact⟨_,rfl,rfl,λw2 R=>K⟩
 ·cases z;exact⟨_,rfl,rfl,λw2 R=>by simp[execOp,go_sem,bo];intro h;exfalso;omega⟩
 ·cases z;exact⟨_,rfl,rfl,λw2 R=>by simp[execOp,go_sem,R.2]⟩
 ·cases z;exact⟨_,rfl,rfl,λw2 R=>K⟩
 ·cases z;exact⟨_,rfl,rfl,λw2 R=>K⟩
 ·cases z;exact⟨_,rfl,rfl,λw2 R=>K⟩
 ·cases z;exact⟨_,rfl,rfl,λw2 R=>by simp[execOp,go_sem,R.1.2]⟩
 ·cases z;exact⟨_,rfl,rfl,λw2 R=>K⟩
 ·cases z;exact⟨_,rfl,rfl,λw2 R=>by simp[execOp,go_sem,br]⟩):p:=h
theorem JcN{p:Prop}(h:p:=by
 go_enter func162,ntmps162
 go_wp2_with fail
 refine JM K K ?_;repeat go_big_quiet_step (fail)
 refine Jaa ?_;intro x;go_wp2_with fail
 go_ret;exact Ze.err S D (M.trans (x.below.mono M.size))):p:=h
theorem Jd1{p:Prop}(h:p:=by
 refine au.cell ((JK L a0 _ rfl).trans a4) (λh=>?_);obtain⟨a,j,y⟩:=Yb.1 h.symm;have:=(al.own.lt j).1;simp only at y;omega):p:=h
theorem Jd6{p:Prop}(h:p:=by
 have ac:=bU.out a ha;refine⟨by show r+1<=a.block;omega,Jd ac.2.1 L.size,λcl bL=>?_⟩;have:=(ag.own.lt bL).2;omega):p:=h
theorem Jec{p:Prop}(h:p:=by
 refine Yr (L.mono O) au O (λq av=>?_);obtain⟨a,j,y⟩:=Yb.1 av;have:=(al.own.lt j).1;omega):p:=h
theorem Jeu{p:Prop}(h:p:=by
 clear aO ag ae ap;go_enter func162,ntmps162
 go_wp2_with fail
 go_ret;exact Ze.err S D M):p:=h
def Ze (b:World)(r:Nat)(g:AB)(p:Int)(i:Nat)(j:Option Addr)(n o:Nat)(l:List Int):Ending->World->Prop:=λe d=>match ZU g p (l.drop i) with
 | .err er=>e=.returned (Jk er)/\er≠0/\Ji b d
 | .ok k N next m=>e=.returned (Jk 0)/\GL b d r (g++[(k,N)]) next (i+m) j n o l
theorem Ze.err {b d:World}{r:Nat}{j:AB}{p:Int}{i:Nat}{s:Option Addr}{n o:Nat}{l:List Int}{e:Int}(h:ZU j p (l.drop i)=.err e)(X:e≠0)(g:Ji b d):Ze b r j p i s n o l (.returned (Jk e)) d:=by
 unfold Ze;rw[h];exact⟨rfl,X,g⟩
structure BH (z:World)(r:Nat)(A:Option Addr)(n cap:Nat)(oe:Option Addr)(ce:Nat)(xs:AB)(es:List XA)(c0 c1 c3:Value)(w:World):Prop where
 box:Jh w r #[c0,c1,.slice A n cap,c3] 261
 exts:QD w (r+1) oe ce xs es
 out:Below r z w
theorem BH.set0 {a:World}{T:Nat}{e:Option Addr}{n o:Nat}{l:Option Addr}{d:Nat}{g:AB}{j:List XA}{r p b:Value}{w:World}(h:BH a T e n o l d g j r p b w)(v:Value):BH a T e n o l d g j v p b (w.setCell ⟨T,0,none⟩ v):=
 ⟨by rw[Jae _ T 0 _ _ v h.box];rfl,h.exts.other (Jam _) _ _,h.out.setCell (Je T) v⟩
theorem BH.set1 {a:World}{T:Nat}{g:Option Addr}{n o:Nat}{p:Option Addr}{e:Nat}{j:AB}{l:List XA}{d r b:Value}{w:World}(h:BH a T g n o p e j l d r b w)(v:Value):BH a T g n o p e j l d v b (w.setCell ⟨T,1,none⟩ v):=
 ⟨by rw[Jae _ T 1 _ _ v h.box];rfl,h.exts.other (Jam _) _ _,h.out.setCell (Je T) v⟩
theorem BH.set3 {a:World}{T:Nat}{e:Option Addr}{n o:Nat}{l:Option Addr}{d:Nat}{g:AB}{j:List XA}{b p r:Value}{w:World}(h:BH a T e n o l d g j b p r w)(v:Value):BH a T e n o l d g j b p v (w.setCell ⟨T,3,none⟩ v):=
 ⟨by rw[Jae _ T 3 _ _ v h.box];rfl,h.exts.other (Jam _) _ _,h.out.setCell (Je T) v⟩
theorem Kz:(prog.info? 170).map (λi=>(i.zero,i.size,i.bytes))=some (some (.agg #[(),Jbo]),2,32):=K
theorem GM (b:Operand->Value)(w:World){p:Option Tmp}{n:TypeId}{e:String}{l:Array Edge}{r:Option (Nat×Bool)}(x:Operand)(d v:Value)(g:b x=.agg #[d,v]):
 (execOp b ⟨p,.buildSlice 94 1 #[(0,x)],n,e,l,r⟩).run prog w=.ok (.value (.slice (some ⟨w.heap.size,0,none⟩) 1 1)) (w.alloc (.cells #[d,v] 170)):=by
 obtain⟨s,j,o,a,t⟩:=WT Kz;refine ET b w 94 170 1 _ _ s (.agg #[(),Jbo]) K j o (by rw[a];decide) (by rw[a];decide) ?_;rw[a];simp[Instr.fill,Value.cells,go_sem,g]
theorem Uu (bf Q:World)(r:Nat)(A:AB)(p:Int)(i:Nat)(J:Option Addr)(n o:Nat)(l:List Int)(t:GL bf Q r A p i J n o l)(cp:A.length<=16)(cS:Qe p=true)(cN:n<=100000):
 Jf 162 #[.pointer (some ⟨r,0,none⟩)] Q (Ze bf r A p i J n o l):=by
 obtain⟨⟨V,X,Z,ab,b4⟩,bp,aR,b0,bb,cH,bg⟩:=t;have ag:=H b4;have ae:=H bp;have M:=H b0;have ap:=H ab;have cM:=bp.len;have aQ:r<Q.heap.size:=(Ja ab).1;have cn:Jg Q r 0 (.slice V A.length X):=WF 0 ab;have b2:Jg Q r 1 (Jq p):=WF 1 ab;have cR:Jg Q r 2 (.slice J n o):=WF 2 ab;have cT:Jg Q r 3 (Jk (i:Int)):=WF 3 ab;clear ab b4 bp b0;obtain⟨k,bd⟩:∃k,A.length=k:=⟨_,rfl⟩
 rw[bd] at cn cp;have ao:=H bd;have aO:Hid (ZU A p (l.drop i)=if k=16\/(p=0/\0<k) then .err 60 else if (l.drop i).length<2 then .err 10 else (λ(m:Nat)=>if (l.drop i).length<m then .err 10 else if p=44/\((l.drop i).getD 1 0≠0\/Xa 44 (((l.drop i).take m).drop 2)=false) then .err 60 else .ok p (((l.drop i).take m).drop 2) ((l.drop i).getD 0 0) m) (if p=44 then 8 else 8*(((l.drop i).getD 1 0).toNat+1))):=H (by unfold ZU;rw[bd]);clear bd;by_cases bZ:k=16
 ·have cj:((k:Int)==16)=true:=by simp;omega
  have S:Hid (ZU A p (l.drop i)=.err 60):=H (by rw[aO.out,YH (.inl bZ)]);exact Jeu
 have cj:((k:Int)==16)=false:=by simp;omega
 by_cases a8:p=0/\0<k
 ·have cL:(p==0)=true:=by simp[a8.1]
  have bh:decide ((0:Int)<(k:Int))=true:=by simp;exact a8.2
  have S:Hid (ZU A p (l.drop i)=.err 60):=H (by rw[aO.out,YH (.inr a8)]);exact Jeu
 have ay:Hid (ZU A p (l.drop i)=if (l.drop i).length<2 then .err 10 else (λ(m:Nat)=>if (l.drop i).length<m then .err 10 else if p=44/\((l.drop i).getD 1 0≠0\/Xa 44 (((l.drop i).take m).drop 2)=false) then .err 60 else .ok p (((l.drop i).take m).drop 2) ((l.drop i).getD 0 0) m) (if p=44 then 8 else 8*(((l.drop i).getD 1 0).toNat+1))):=H (by rw[aO.out,Yw (by intro h;rcases h with h|h;exact bZ h;exact a8 h)]);clear aO;have cK:=ae.le;have hcut:∀w,(Instr.slice 22 (.slice J n o) (some (.int .i64 (i:Int))) none none).run prog w=.ok (.slice (JQ J i o 1) (n-i) (o-i)) w:=λw=>B4 _ J n o 1 elemBytes sizeBytes i _ rfl bg w
 have U:Hid (JA Q (JQ J i o 1) (n-i) (o-i) (l.drop i)):=H (ae.cut i bg)
 have aN:Hid (∀a,JQ J i o 1=some a->a.block<r):=H (λa ha=>by
  unfold JQ at ha;split at ha
  ·exact aR a ha
  ·obtain⟨ce,j,rfl⟩:=Yb.1 ha;unfold Addr.add;split<;>exact aR ce j)
 obtain⟨I,ct⟩:∃I,n-i=I:=⟨_,rfl⟩
 rw[ct] at U hcut;generalize aD:l.drop i=Y at*;generalize JQ J i o 1=cI at*;generalize o-i=W at*;have ca:=U.len;rw[ca] at ay;have cP:i+I=n:=O;have cJ:∀b:Bool,(if (p==0)=b then True else True):=λ_=>by split<;>trivial
 have cG:I<=100000:=O;by_cases b6:p=44
 ·obtain rfl:p=44:=b6;by_cases y:I<2
  ·have bT:decide ((I:Int)<2)=true:=by simp;omega
   have S:Hid (ZU A (44:Int) (l.drop i)=.err 10):=H (by rw[aD,ay.out,YH y]);clear ay ag ae ap U aN;exact JcN
  have bT:decide ((I:Int)<2)=false:=by simp;omega
  obtain⟨B,G,rfl,aI,aK⟩:=U.here O;have bj:B<r:=aN.out _ rfl;obtain⟨T,a2⟩:∃b,Y.getD 0 0=b:=⟨_,rfl⟩
  obtain⟨N,ac⟩:∃b,Y.getD 1 0=b:=⟨_,rfl⟩
  have a5:=U.getD 0;have bM:=U.getD 1;have ax:=aK 0 O;have aX:=aK 1 O;rw[a2] at a5 ax;rw[ac] at bM aX;rw[Jal] at ax;obtain⟨m,aM⟩:∃m:Nat,(if (44:Int)=44 then 8 else 8*(N.toNat+1))=m:=⟨_,rfl⟩
  have cd:(m:Int)=8/\8<=m/\m<=2048:=by rw[YH rfl] at aM;omega
  have aA:Hid (ZU A (44:Int) Y=if I<m then .err 10 else if (44:Int)=44/\(N≠0\/Xa 44 ((Y.take m).drop 2)=false) then .err 60 else .ok (44:Int) ((Y.take m).drop 2) T m):=H (by rw[ay.out,Yw y,a2,ac,aM]);clear ay aM aK;have cf:(1:Int)<(I:Int):=O;have bo:(0:Int)<(I:Int):=O;by_cases a9:I<m
  ·have bB:decide ((I:Int)<8)=true:=by simp;omega
   have S:Hid (ZU A (44:Int) (l.drop i)=.err 10):=H (by rw[aD,aA.out,YH a9]);clear aA ag ae ap U aN;exact JcN
  have bB:decide ((I:Int)<8)=false:=by simp;omega
  have bF:Hid (∀cF:List Int,True):=H (λ_=>trivial);clear bF;obtain⟨u,aj⟩:∃u,(Y.take m).drop 2=u:=⟨_,rfl⟩
  have a1:u.length=m-2:=by rw[<-aj,W4,WR];omega
  have aC:Hid (ZU A (44:Int) Y=if (44:Int)=44/\(N≠0\/Xa 44 u=false) then .err 60 else .ok (44:Int) u T m):=H (by rw[aA.out,Yw a9,aj]);clear aA;have cu:∀w,(Instr.slice 22 (.slice (some ⟨B,G,none⟩) I W) (some (.int .i64 2)) (some (.int .i64 (8))) none).run prog w=.ok (.slice (JQ (some ⟨B,G,none⟩) 2 W 1) (m-2) (W-2)) w:=λw=>QB (P:=prog) 22 (some ⟨B,G,none⟩) I W 1 elemBytes sizeBytes 2 m 2 (8) rfl O O (by have:=U.le;omega) w
  have aV:Hid (∀d,Ji Q d->Jf 116 #[.slice (JQ (some ⟨B,G,none⟩) 2 W 1) (m-2) (W-2)] d (J5 d u)):=H (λd g=>by
   have:=EW _ _ _ _ d (((U.below g).cut 2 O).take (m-2) O) O;rwa [<-List.drop_take,aj] at this)
  generalize bw:JQ (some ⟨B,G,none⟩) 2 W 1=bS at*;clear bw;have bu:Hid (JF u):=H (aj▸Qv (QL U.byte _) _);clear aj;go_enter func162,ntmps162
  go_wp2_with fail
  refine JM K K ?_;repeat go_big_quiet_step (fail)
  refine Jaa ?_;intro x;have b7:=H (M.trans (x.below.mono M.size));have cy:=H (ag.below x.below);have aE:Hid (Jh x.world r #[.slice V k X,Jq (44:Int),.slice J n o,Jk (i:Int)] 261):=H ((x.below.block r aQ).trans (by rw[ap.out,ao.out]));have cc:=H (ae.later x);have aa:Hid (Ji Q x.world):=H x.below;go_wp2_with fail
  generalize x.world=cC at*;refine Dd [.h,.h,.h,.h,.h,.h,.h,.h,.w,.q,.f] 10 (.cells #[(),Jbo] 170) K rfl rfl ⟨λ_=>rfl,λ_ _=>K⟩ K K ?_;apply Exists.intro;refine⟨λba ab=>?_,?_⟩
  ·have cB:Jg ba r 1 (Jq (44:Int)):=WF 1 ((ab.block r (Ja aE).1).trans aE);have ck:r<ba.heap.size:=Jd (Ja aE).1 ab.size;exact JcB
  simp only[ZI,Y8,Y9,Yy,Jau];refine H4 (SB u) (Gr.call 116 #[.slice bS (m-2) (W-2)] rfl (λ_=>K) (λaw ac _=>(aV aw (aa.trans (ac.mono aa.size))).mono (λb5 w2 h=>Dt h))) (V2 _ _) ?_;rintro cs bg v bE ch ⟨cr,e,s,rfl,-,-⟩;refine Gs (.agg #[(44:Int),.slice e u.length s]) (Zx.plain rfl (λ_=>K)) ?_;intro b d aU bA a7 aL;obtain⟨bO,bI,a3,ar,aZ⟩:=aL.fact2;obtain⟨rfl,rfl⟩:e=bO/\s=bI:=by injection a3 with bW b8 bP;exact⟨bW,bP⟩
  have a6:=aL.two;clear aL a3;rw[a1] at ar|-;have am:Hid (Ji Q d):=H (aa.trans (aU.mono aa.size));have aT:Q.heap.size<=b:=WJ aa.size bA;have cv:B≠b:=O;have ci:r≠b:=O;have aB:=H ar;have aq:Hid (∀a,e=some a->a.block≠b):=H (λa ha=>by have j:=(ar.lt ha).1;have y:=aZ a ha;rcases a6 with h|h<;>simp only at h<;>omega);have ad:=H a7;clear a7 ar aZ a6 aU;have bN:Jg d B (G+1) (Jq N):=(JK am aI (⟨B,G+1,none⟩:Addr) rfl).trans aX;have bV:Jg d B G (Jq T):=(JK am aI (⟨B,G,none⟩:Addr) rfl).trans ax;have bx:Jg d r 1 (Jq (44:Int)):=(JK am aQ (⟨r,1,none⟩:Addr) rfl).trans b2;have bG:Jg d b 0 (Jq 0):=WF 0 ad;have bC:Jg d b 1 (.slice none 0 0):=WF 1 ad;have bm:d.frozen? ⟨b,0,none⟩=false:=Jad _ _ _ _ _ ad;have bH:d.frozen? ⟨b,1,none⟩=false:=Jad _ _ _ _ _ ad;unfold XK;have aG:Hid (Below Q.heap.size Q ((d.setCell ⟨b,0,none⟩ (Jq (44:Int))).setCell ⟨b,1,none⟩ (.slice e (m-2) s))):=H ((am.trans (Zp aT)).trans (Zp aT));have aS:Hid (Jh ((d.setCell ⟨b,0,none⟩ (Jq (44:Int))).setCell ⟨b,1,none⟩ (.slice e (m-2) s)) b #[Jq (44:Int),.slice e (m-2) s] 170):=H (GD _ _ ad);have aP:Hid (JA ((d.setCell ⟨b,0,none⟩ (Jq (44:Int))).setCell ⟨b,1,none⟩ (.slice e (m-2) s)) e (m-2) s u):=H (((aB.reads bu).other (λa ha=>aq.out a ha) _).other (λa ha=>aq.out a ha) _);have aF:Hid (∀a,e=some a->Q.heap.size<=a.block/\a.block<((d.setCell ⟨b,0,none⟩ (Jq (44:Int))).setCell ⟨b,1,none⟩ (.slice e (m-2) s)).heap.size/\a.block≠b):=H (λa ha=>⟨WJ (WJ aa.size bE) (aB.lt ha).1,by simpa using(aB.lt ha).2,aq.out a ha⟩);by_cases be:N=0
  rotate_left
  ·have cb:(N != 0)=true:=by simpa using be
   have S:Hid (ZU A (44:Int) (l.drop i)=.err 60):=H (by rw[aD,aC.out,YH ⟨trivial,.inl be⟩]);go_wp2_with fail
   go_ret;exact Ze.err S D (M.trans (aG.mono M.size))
  have cb:(N != 0)=false:=by simp[be]
  have bJ:Hid (∀aw,JA aw e (m-2) s u->Jf 91 #[.agg #[Jq (44:Int),.slice e (m-2) s]] aw (Jz aw (.bool (Xa (44:Int) u)))):=H (λaw j=>by
   have:=H9 (44:Int) e s u aw (by rw[a1];exact j) O;rwa [a1] at this)
  obtain⟨b3,cx⟩:∃cD,Xa (44:Int) u=cD:=⟨_,rfl⟩
  rw[cx] at bJ aC;go_wp2_with fail
  generalize ((d.setCell ⟨b,0,none⟩ (Jq (44:Int))).setCell ⟨b,1,none⟩ (.slice e (m-2) s))=cO at*;refine Jb (bJ _ aP) ?_;rintro b5 C ⟨rfl,L⟩;have af:=H (aG.trans (L.mono aG.size));have aH:=H ((L.block b (Ja aS).1).trans aS);have bk:=H (aP.below L);have bU:Hid (∀a,e=some a->Q.heap.size<=a.block/\a.block<C.heap.size/\a.block≠b):=H (λa ha=>⟨(aF a ha).1,Jd (aF a ha).2.1 L.size,(aF a ha).2.2⟩);clear L aG aS aP aF bJ;by_cases bY:b3=true
  rotate_left
  ·have b1:b3=false:=by simpa using bY
   have S:Hid (ZU A (44:Int) (l.drop i)=.err 60):=H (by rw[aD,aC.out,YH ⟨trivial,.inr b1⟩]);subst b1;go_wp2_with fail
   go_ret;exact Ze.err S D (M.trans (af.mono M.size))
  subst bY;have S:Hid (ZU A (44:Int) (l.drop i)=.ok (44:Int) u T m):=H (by rw[aD,aC.out,Yw (by intro h;rcases h.2 with h|h;exact h be;cases h)]);go_wp2_with fail
  clear aC aV bN bV bx bG bC bm bH aB aq ad am;have ah:Jh C r #[.slice V k X,Jq (44:Int),.slice J n o,Jk (i:Int)] 261:=(af.block r aQ).trans (by rw[ap.out,ao.out]);have bQ:=H ah;have ak:r<C.heap.size:=(Ja ah).1;have cm:b<C.heap.size:=(Ja aH).1;have a0:B<C.heap.size:=Jbc bj ak;have bs:Jg C r 0 (.slice V k X):=WF 0 ah;have bz:Jg C r 3 (Jk (i:Int)):=WF 3 ah;have b9:Jg C b 0 (Jq (44:Int)):=WF 0 aH;have cw:Jg C b 1 (.slice e (m-2) s):=WF 1 aH;have bK:Jg C B G (Jq T):=(JK af aI (⟨B,G,none⟩:Addr) rfl).trans ax;have a4:=H bK;clear ah;refine Az [.h,.h,.h,.h,.h,.h,.h,.h,.h,.w,.w,.h,.h,.h,.h,.h,.h,.h,.h,.h,.w,.w,.w,.w,.w,.w,.w,.w,.w,.w,.w] [(0,2,1),(1,6,1),(2,10,1),(3,1,1),(4,1,1),(5,1,1),(6,1,1),(7,1,0),(11,2,1),(12,2,1),(13,2,0),(14,2,1),(15,2,1),(16,2,1),(17,2,0),(18,10,1),(19,10,1)] (Us λd=>(Jg d r 0 (.slice V k X)/\Jg d r 3 (Jk (i:Int)))/\Jg d B G (Jq T)) [2,13] K rfl K K ?_;simp only[JW,ZI,Jap,JaM];repeat go_big_quiet_step (fail)
  refine Jaa ⟨?_,?_⟩
  ·intro q av cg z;simp only[YE,YF,YG] at av;have br:IntKind.i64.wrap ((i:Int)+8)=(i:Int)+8:=Jay _ O;exact JcF
  refine Eb (λv w2=>∃x:J2 C,v=.slice (some ⟨x.world.heap.size,0,none⟩) 1 1/\w2=x.world.alloc (.cells #[Jq (44:Int),.slice e (m-2) s] 170)) rfl ?_ ?_ ?_
  ·rintro w2 ⟨x,rfl⟩;exact⟨_,_,GM _ _ _ _ _ rfl,x,rfl,rfl⟩
  ·intro v;refine Ak ?_;rintro w2 ⟨x,-,rfl⟩;have g:=Below.all x.below (.cells #[Jq (44:Int),.slice e (m-2) s] 170);exact⟨⟨(JK g ak _ rfl).trans bs,(JK g ak _ rfl).trans bz⟩,(JK g a0 _ rfl).trans a4⟩
  rintro v ⟨w2,aW,rfl,-⟩;generalize aW.world.heap.size=bn;clear aW w2;refine Eb (λv w2=>∃F E,v=.slice F (k+1) E/\BH C r J n o F E (A++[((44:Int),u)]) (Z++[⟨(44:Int),e,m-2,s⟩]) (.slice V k X) (Jq (44:Int)) (Jk (i:Int)) w2/\Jg w2 B G (Jq T)) rfl ?_ ?_ ?_
  ·rintro w2 ⟨x,aJ,rfl⟩;obtain rfl:bn=x.world.heap.size:=by injection aJ with h;injection h with h;injection h
   have L:=Below.all x.below (.cells #[Jq (44:Int),.slice e (m-2) s] 170);have al:=(ag.below af).below L;obtain⟨F,E,cE,bt,bR,au,bi⟩:=ZJ (P:=prog) _ 94 94 170 _ 2 32 (r+1) K Kz rfl D V k X (Zv Z) (by rw[<-ao.out];exact al.own) ⟨x.world.heap.size,0,none⟩ 1 1 [.int .u8 (44:Int),.slice e (m-2) s] rfl (X5 x.world #[Jq (44:Int),.slice e (m-2) s] 170) (by intro co aY;simp only[YE,YF,YG] at aY;rcases aY with rfl|rfl<;>rfl) D (by unfold maxLen;omega) O (by have:=L.size;omega)
   have bD:some r≠V.map Addr.block:=by
    intro h;obtain⟨a,j,y⟩:=Yb.1 h.symm;have:=(al.own.lt j).1;omega
   have bv:r<(x.world.alloc (.cells #[Jq (44:Int),.slice e (m-2) s] 170)).heap.size:=Jd ak L.size;refine⟨_,_,Z0 _ _ rfl rfl bt,F,E,rfl,⟨?_,?_,?_⟩,?_⟩
   ·exact(au.block r bv bD).trans ((L.block r ak).trans bQ)
   ·refine al.snoc ⟨(44:Int),e,m-2,s⟩ ((44:Int),u) ⟨rfl,bk.below L,λa ha=>?_⟩ (by rw[ao.out];exact bR) au bi;exact Jd6
   ·exact Jec
   ·exact Jd1
  ·intro v;refine Ak ?_;rintro w2 ⟨F,E,-,t,bq⟩;exact⟨⟨WF 0 t.box,WF 3 t.box⟩,bq⟩
  rintro v ⟨w2,F,E,rfl,-⟩;refine Ea (C3:=BH C r J n o F E (A++[((44:Int),u)]) (Z++[⟨(44:Int),e,m-2,s⟩]) (.slice V k X) (Jq (44:Int)) (Jk (i:Int))) (by rintro w2 ⟨cA,cz,aJ,t,-⟩;injection aJ with j y bX;subst j;subst bX;exact t) ?_;clear w2;refine QM (Jj r) rfl (λw2 _=>K) (Qq D) ?_;refine QM (Jj r) rfl (λw2 _=>K) (Qq D) ?_;refine QM (Jj r) rfl (λw2 _=>K) (Qq D) ?_;refine Aj (BH C r J n o F E (A++[((44:Int),u)]) (Z++[⟨(44:Int),e,m-2,s⟩]) (.slice F (k+1) E) (Jq (44:Int)) (Jk (i:Int))) rfl (λw2 t=>⟨_,?_,t.set0 _⟩) (Qq D) ?_
  ·have ai:=WF 0 t.box;have an:=Jad _ _ 0 _ _ t.box;simp[execOp,go_sem,ai,an]
  refine QM (Jj r) rfl (λw2 _=>K) (Qq D) ?_;refine QM (Jj r) rfl (λw2 _=>K) (Qq D) ?_;refine QM (.pointer (some ⟨r,1,none⟩)) rfl (λw2 _=>K) (Qq D) ?_;refine Aj (BH C r J n o F E (A++[((44:Int),u)]) (Z++[⟨(44:Int),e,m-2,s⟩]) (.slice F (k+1) E) (Jq T) (Jk (i:Int))) rfl (λw2 t=>⟨_,?_,t.set1 _⟩) (Qq D) ?_
  ·have ai:=WF 1 t.box;have an:=Jad _ _ 1 _ _ t.box;simp[execOp,go_sem,ai,an]
  refine QM (Jj r) rfl (λw2 _=>K) (Qq D) ?_;refine QM (.pointer (some ⟨r,3,none⟩)) rfl (λw2 _=>K) (Qq D) ?_;refine Aj (BH C r J n o F E (A++[((44:Int),u)]) (Z++[⟨(44:Int),e,m-2,s⟩]) (.slice F (k+1) E) (Jq T) (Jk ((i:Int)+8))) rfl (λw2 t=>⟨_,?_,t.set3 _⟩) (Qq D) ?_
  ·have ai:=WF 3 t.box;have an:=Jad _ _ 3 _ _ t.box;simp[execOp,go_sem,ai,an]
  intro w2 t;have az:=H t;clear t;go_wp2_with fail
  go_ret;show Ze bf r A (44:Int) i J n o l _ _;unfold Ze;rw[S.out];have bl:(A++[((44:Int),u)]).length=k+1:=by rw[WV,ao.out];rfl
  refine⟨rfl,⟨F,E,Z++[⟨(44:Int),e,m-2,s⟩],?_,az.exts⟩,?_,aR,?_,bb,a5,?_⟩
  ·have g:=az.box;rw[show(i:Int)+(8)=((i+m:Nat):Int) from O] at g;rw[bl];exact g
  ·exact(ae.below af).belowB az.out.out aR
  ·exact(M.trans (af.mono M.size)).trans (az.out.out.mono bb)
  ·omega
 have bh:p=0->¬0<k:=λh j=>a8 ⟨h,j⟩
 by_cases bc:p=0<;>(
  first
  |(have cq:(p==0)=true:=by simp[bc]
    replace bh:=bh bc)
  |(have cq:(p==0)=false:=by simp[bc]
    clear bh)
  clear bc;have cQ:(p==44)=false:=by simp;omega
  by_cases y:I<2
  ·have bT:decide ((I:Int)<2)=true:=by simp;omega
   have S:Hid (ZU A p (l.drop i)=.err 10):=H (by rw[aD,ay.out,YH y]);clear ay ag ae ap U aN;exact JcN
  have bT:decide ((I:Int)<2)=false:=by simp;omega
  obtain⟨B,G,rfl,aI,aK⟩:=U.here O;have bj:B<r:=aN.out _ rfl;obtain⟨T,a2⟩:∃b,Y.getD 0 0=b:=⟨_,rfl⟩
  obtain⟨N,ac⟩:∃b,Y.getD 1 0=b:=⟨_,rfl⟩
  have a5:=U.getD 0;have bM:=U.getD 1;have ax:=aK 0 O;have aX:=aK 1 O;rw[a2] at a5 ax;rw[ac] at bM aX;rw[Jal] at ax;obtain⟨m,aM⟩:∃m:Nat,(if p=44 then 8 else 8*(N.toNat+1))=m:=⟨_,rfl⟩
  have cd:(m:Int)=8*(N+1)/\8<=m/\m<=2048:=by rw[Yw O] at aM;omega
  have aA:Hid (ZU A p Y=if I<m then .err 10 else if p=44/\(N≠0\/Xa 44 ((Y.take m).drop 2)=false) then .err 60 else .ok p ((Y.take m).drop 2) T m):=H (by rw[ay.out,Yw y,a2,ac,aM]);clear ay aM aK;have cf:(1:Int)<(I:Int):=O;have bo:(0:Int)<(I:Int):=O;by_cases a9:I<m
  ·have bB:decide ((I:Int)<8*(N+1))=true:=by simp;omega
   have S:Hid (ZU A p (l.drop i)=.err 10):=H (by rw[aD,aA.out,YH a9]);clear aA ag ae ap U aN;exact JcN
  have bB:decide ((I:Int)<8*(N+1))=false:=by simp;omega
  have bF:Hid (∀cF:List Int,True):=H (λ_=>trivial);clear bF;obtain⟨u,aj⟩:∃u,(Y.take m).drop 2=u:=⟨_,rfl⟩
  have a1:u.length=m-2:=by rw[<-aj,W4,WR];omega
  have aC:Hid (ZU A p Y=if p=44/\(N≠0\/Xa 44 u=false) then .err 60 else .ok p u T m):=H (by rw[aA.out,Yw a9,aj]);clear aA;have cu:∀w,(Instr.slice 22 (.slice (some ⟨B,G,none⟩) I W) (some (.int .i64 2)) (some (.int .i64 (8*(N+1)))) none).run prog w=.ok (.slice (JQ (some ⟨B,G,none⟩) 2 W 1) (m-2) (W-2)) w:=λw=>QB (P:=prog) 22 (some ⟨B,G,none⟩) I W 1 elemBytes sizeBytes 2 m 2 (8*(N+1)) rfl O O (by have:=U.le;omega) w
  have aV:Hid (∀d,Ji Q d->Jf 116 #[.slice (JQ (some ⟨B,G,none⟩) 2 W 1) (m-2) (W-2)] d (J5 d u)):=H (λd g=>by
   have:=EW _ _ _ _ d (((U.below g).cut 2 O).take (m-2) O) O;rwa [<-List.drop_take,aj] at this)
  generalize bw:JQ (some ⟨B,G,none⟩) 2 W 1=bS at*;clear bw;have bu:Hid (JF u):=H (aj▸Qv (QL U.byte _) _);clear aj;go_enter func162,ntmps162
  go_wp2_with fail
  refine JM K K ?_;repeat go_big_quiet_step (fail)
  refine Jaa ?_;intro x;have b7:=H (M.trans (x.below.mono M.size));have cy:=H (ag.below x.below);have aE:Hid (Jh x.world r #[.slice V k X,p,.slice J n o,Jk (i:Int)] 261):=H ((x.below.block r aQ).trans (by rw[ap.out,ao.out]));have cc:=H (ae.later x);have aa:Hid (Ji Q x.world):=H x.below;go_wp2_with fail
  generalize x.world=cC at*;refine Dd [.h,.h,.h,.h,.h,.h,.h,.h,.w,.q,.f] 10 (.cells #[(),Jbo] 170) K rfl rfl ⟨λ_=>rfl,λ_ _=>K⟩ K K ?_;apply Exists.intro;refine⟨λba ab=>?_,?_⟩
  ·have cB:Jg ba r 1 (Jq p):=WF 1 ((ab.block r (Ja aE).1).trans aE);have ck:r<ba.heap.size:=Jd (Ja aE).1 ab.size;exact JcB
  simp only[ZI,Y8,Y9,Yy,Jau];refine H4 (SB u) (Gr.call 116 #[.slice bS (m-2) (W-2)] rfl (λ_=>K) (λaw ac _=>(aV aw (aa.trans (ac.mono aa.size))).mono (λb5 w2 h=>Dt h))) (V2 _ _) ?_;rintro cs bg v bE ch ⟨cr,e,s,rfl,-,-⟩;refine Gs (.agg #[p,.slice e u.length s]) (Zx.plain rfl (λ_=>K)) ?_;intro b d aU bA a7 aL;obtain⟨bO,bI,a3,ar,aZ⟩:=aL.fact2;obtain⟨rfl,rfl⟩:e=bO/\s=bI:=by injection a3 with bW b8 bP;exact⟨bW,bP⟩
  have a6:=aL.two;clear aL a3;rw[a1] at ar|-;have am:Hid (Ji Q d):=H (aa.trans (aU.mono aa.size));have aT:Q.heap.size<=b:=WJ aa.size bA;have cv:B≠b:=O;have ci:r≠b:=O;have aB:=H ar;have aq:Hid (∀a,e=some a->a.block≠b):=H (λa ha=>by have j:=(ar.lt ha).1;have y:=aZ a ha;rcases a6 with h|h<;>simp only at h<;>omega);have ad:=H a7;clear a7 ar aZ a6 aU;have bN:Jg d B (G+1) (Jq N):=(JK am aI (⟨B,G+1,none⟩:Addr) rfl).trans aX;have bV:Jg d B G (Jq T):=(JK am aI (⟨B,G,none⟩:Addr) rfl).trans ax;have bx:Jg d r 1 (Jq p):=(JK am aQ (⟨r,1,none⟩:Addr) rfl).trans b2;have bG:Jg d b 0 (Jq 0):=WF 0 ad;have bC:Jg d b 1 (.slice none 0 0):=WF 1 ad;have bm:d.frozen? ⟨b,0,none⟩=false:=Jad _ _ _ _ _ ad;have bH:d.frozen? ⟨b,1,none⟩=false:=Jad _ _ _ _ _ ad;unfold XK;have aG:Hid (Below Q.heap.size Q ((d.setCell ⟨b,0,none⟩ (Jq p)).setCell ⟨b,1,none⟩ (.slice e (m-2) s))):=H ((am.trans (Zp aT)).trans (Zp aT));have aS:Hid (Jh ((d.setCell ⟨b,0,none⟩ (Jq p)).setCell ⟨b,1,none⟩ (.slice e (m-2) s)) b #[p,.slice e (m-2) s] 170):=H (GD _ _ ad);have aP:Hid (JA ((d.setCell ⟨b,0,none⟩ (Jq p)).setCell ⟨b,1,none⟩ (.slice e (m-2) s)) e (m-2) s u):=H (((aB.reads bu).other (λa ha=>aq.out a ha) _).other (λa ha=>aq.out a ha) _);have aF:Hid (∀a,e=some a->Q.heap.size<=a.block/\a.block<((d.setCell ⟨b,0,none⟩ (Jq p)).setCell ⟨b,1,none⟩ (.slice e (m-2) s)).heap.size/\a.block≠b):=H (λa ha=>⟨WJ (WJ aa.size bE) (aB.lt ha).1,by simpa using(aB.lt ha).2,aq.out a ha⟩);have S:Hid (ZU A p (l.drop i)=.ok p u T m):=H (by rw[aD,aC.out,Yw (by intro h;exact b6 h.1)]);go_wp2_with fail
  generalize ((d.setCell ⟨b,0,none⟩ (Jq p)).setCell ⟨b,1,none⟩ (.slice e (m-2) s))=C at*;have af:=H aG.out;have aH:=H aS.out;have bk:=H aP.out;have bU:=H aF.out;clear aG aS aP aF;clear aC aV bN bV bx bG bC bm bH aB aq ad am;have ah:Jh C r #[.slice V k X,p,.slice J n o,Jk (i:Int)] 261:=(af.block r aQ).trans (by rw[ap.out,ao.out]);have bQ:=H ah;have ak:r<C.heap.size:=(Ja ah).1;have cm:b<C.heap.size:=(Ja aH).1;have a0:B<C.heap.size:=Jbc bj ak;have bs:Jg C r 0 (.slice V k X):=WF 0 ah;have bz:Jg C r 3 (Jk (i:Int)):=WF 3 ah;have b9:Jg C b 0 (Jq p):=WF 0 aH;have cw:Jg C b 1 (.slice e (m-2) s):=WF 1 aH;have bK:Jg C B G (Jq T):=(JK af aI (⟨B,G,none⟩:Addr) rfl).trans ax;have a4:=H bK;clear ah;refine Az [.h,.h,.h,.h,.h,.h,.h,.h,.h,.w,.w,.h,.h,.h,.h,.h,.h,.h,.h,.h,.w,.w,.w,.w,.w,.w,.w,.w,.w,.w,.w] [(0,2,1),(1,6,1),(2,10,1),(3,1,1),(4,1,1),(5,1,1),(6,1,1),(7,1,0),(11,2,1),(12,2,1),(13,2,0),(14,2,1),(15,2,1),(16,2,1),(17,2,0),(18,10,1),(19,10,1)] (Us λd=>(Jg d r 0 (.slice V k X)/\Jg d r 3 (Jk (i:Int)))/\Jg d B G (Jq T)) [2,13] K rfl K K ?_;simp only[JW,ZI,Jap,JaM];repeat go_big_quiet_step (fail)
  refine Jaa ⟨?_,?_⟩
  ·intro q av cg z;simp only[YE,YF,YG] at av;have br:IntKind.i64.wrap ((i:Int)+8*(N+1))=(i:Int)+8*(N+1):=Jay _ O;exact JcF
  refine Eb (λv w2=>∃x:J2 C,v=.slice (some ⟨x.world.heap.size,0,none⟩) 1 1/\w2=x.world.alloc (.cells #[p,.slice e (m-2) s] 170)) rfl ?_ ?_ ?_
  ·rintro w2 ⟨x,rfl⟩;exact⟨_,_,GM _ _ _ _ _ rfl,x,rfl,rfl⟩
  ·intro v;refine Ak ?_;rintro w2 ⟨x,-,rfl⟩;have g:=Below.all x.below (.cells #[p,.slice e (m-2) s] 170);exact⟨⟨(JK g ak _ rfl).trans bs,(JK g ak _ rfl).trans bz⟩,(JK g a0 _ rfl).trans a4⟩
  rintro v ⟨w2,aW,rfl,-⟩;generalize aW.world.heap.size=bn;clear aW w2;refine Eb (λv w2=>∃F E,v=.slice F (k+1) E/\BH C r J n o F E (A++[(p,u)]) (Z++[⟨p,e,m-2,s⟩]) (.slice V k X) (Jq p) (Jk (i:Int)) w2/\Jg w2 B G (Jq T)) rfl ?_ ?_ ?_
  ·rintro w2 ⟨x,aJ,rfl⟩;obtain rfl:bn=x.world.heap.size:=by injection aJ with h;injection h with h;injection h
   have L:=Below.all x.below (.cells #[p,.slice e (m-2) s] 170);have al:=(ag.below af).below L;obtain⟨F,E,cE,bt,bR,au,bi⟩:=ZJ (P:=prog) _ 94 94 170 _ 2 32 (r+1) K Kz rfl D V k X (Zv Z) (by rw[<-ao.out];exact al.own) ⟨x.world.heap.size,0,none⟩ 1 1 [.int .u8 p,.slice e (m-2) s] rfl (X5 x.world #[p,.slice e (m-2) s] 170) (by intro co aY;simp only[YE,YF,YG] at aY;rcases aY with rfl|rfl<;>rfl) D (by unfold maxLen;omega) O (by have:=L.size;omega)
   have bD:some r≠V.map Addr.block:=by
    intro h;obtain⟨a,j,y⟩:=Yb.1 h.symm;have:=(al.own.lt j).1;omega
   have bv:r<(x.world.alloc (.cells #[p,.slice e (m-2) s] 170)).heap.size:=Jd ak L.size;refine⟨_,_,Z0 _ _ rfl rfl bt,F,E,rfl,⟨?_,?_,?_⟩,?_⟩
   ·exact(au.block r bv bD).trans ((L.block r ak).trans bQ)
   ·refine al.snoc ⟨p,e,m-2,s⟩ (p,u) ⟨rfl,bk.below L,λa ha=>?_⟩ (by rw[ao.out];exact bR) au bi;exact Jd6
   ·exact Jec
   ·exact Jd1
  ·intro v;refine Ak ?_;rintro w2 ⟨F,E,-,t,bq⟩;exact⟨⟨WF 0 t.box,WF 3 t.box⟩,bq⟩
  rintro v ⟨w2,F,E,rfl,-⟩;refine Ea (C3:=BH C r J n o F E (A++[(p,u)]) (Z++[⟨p,e,m-2,s⟩]) (.slice V k X) (Jq p) (Jk (i:Int))) (by rintro w2 ⟨cA,cz,aJ,t,-⟩;injection aJ with j y bX;subst j;subst bX;exact t) ?_;clear w2;refine QM (Jj r) rfl (λw2 _=>K) (Qq D) ?_;refine QM (Jj r) rfl (λw2 _=>K) (Qq D) ?_;refine QM (Jj r) rfl (λw2 _=>K) (Qq D) ?_;refine Aj (BH C r J n o F E (A++[(p,u)]) (Z++[⟨p,e,m-2,s⟩]) (.slice F (k+1) E) (Jq p) (Jk (i:Int))) rfl (λw2 t=>⟨_,?_,t.set0 _⟩) (Qq D) ?_
  ·have ai:=WF 0 t.box;have an:=Jad _ _ 0 _ _ t.box;simp[execOp,go_sem,ai,an]
  refine QM (Jj r) rfl (λw2 _=>K) (Qq D) ?_;refine QM (Jj r) rfl (λw2 _=>K) (Qq D) ?_;refine QM (.pointer (some ⟨r,1,none⟩)) rfl (λw2 _=>K) (Qq D) ?_;refine Aj (BH C r J n o F E (A++[(p,u)]) (Z++[⟨p,e,m-2,s⟩]) (.slice F (k+1) E) (Jq T) (Jk (i:Int))) rfl (λw2 t=>⟨_,?_,t.set1 _⟩) (Qq D) ?_
  ·have ai:=WF 1 t.box;have an:=Jad _ _ 1 _ _ t.box;simp[execOp,go_sem,ai,an]
  refine QM (Jj r) rfl (λw2 _=>K) (Qq D) ?_;refine QM (.pointer (some ⟨r,3,none⟩)) rfl (λw2 _=>K) (Qq D) ?_;refine Aj (BH C r J n o F E (A++[(p,u)]) (Z++[⟨p,e,m-2,s⟩]) (.slice F (k+1) E) (Jq T) (Jk ((i:Int)+8*(N+1)))) rfl (λw2 t=>⟨_,?_,t.set3 _⟩) (Qq D) ?_
  ·have ai:=WF 3 t.box;have an:=Jad _ _ 3 _ _ t.box;simp[execOp,go_sem,ai,an]
  intro w2 t;have az:=H t;clear t;go_wp2_with fail
  go_ret;show Ze bf r A p i J n o l _ _;unfold Ze;rw[S.out];have bl:(A++[(p,u)]).length=k+1:=by rw[WV,ao.out];rfl
  refine⟨rfl,⟨F,E,Z++[⟨p,e,m-2,s⟩],?_,az.exts⟩,?_,aR,?_,bb,a5,?_⟩
  ·have g:=az.box;rw[show(i:Int)+(8*(N+1))=((i+m:Nat):Int) from O] at g;rw[bl];exact g
  ·exact(ae.below af).belowB az.out.out aR
  ·exact(M.trans (af.mono M.size)).trans (az.out.out.mono bb)
  ·omega)
theorem Jdo{p:Prop}(h:p:=by
 cases G;exact⟨_,rfl,rfl,λw2 R=>K⟩):p:=h
theorem Jds{p:Prop}(h:p:=by
 rintro w2 ⟨x,rfl⟩;refine⟨_,?_,x,rfl⟩;have F:=(x.below.block w.heap.size O).trans B;have X:=WF 0 F;have ad:=WF 1 F;have Z:=Jad _ _ 0 _ _ F;have ac:=Jad _ _ 1 _ _ F;simp[execOp,go_sem,X,ad,Z,ac]):p:=h
def Cl (w:World)(n:Nat)(c:PW):Ending->World->Prop:=λe d=>match c with
 | .err er=>e=.returned (.tuple #[.agg #[.slice none 0 0,Jq 0],Jk 0,Jk er])/\er≠0/\Ji w d
 | .done xs p i=>(∃g b j,e=.returned (.tuple #[.agg #[.slice g xs.length b,Jq p],Jk (i:Int),Jk 0])/\QD d w.heap.size g b xs j)/\Ji w d/\MC xs/\(Qe p=false\/QQ xs=true)/\(Jm p)/\i<=n
theorem Cl.mk_err {w d:World}{n:Nat}{c:PW}{b:Int}(h:c=.err b)(X:b≠0)(g:Ji w d):Cl w n c (.returned (.tuple #[.agg #[.slice none 0 0,Jq 0],Jk 0,Jk b])) d:=by
 subst h;exact⟨rfl,X,g⟩
theorem O8 {f:Nat}{b:AB}{p:Int}{i:Nat}{l:List Int}(g:Qe p=true):By (f+1) b p i l=match ZU b p (l.drop i) with
 | .err e=>.err e
 | .ok k N next n=>if At k N then .done (b++[(k,N)]) next (i+n) else By f (b++[(k,N)]) next (i+n) l:=by
 rw[By,YH g];rfl
theorem EX {f:Nat}{b:AB}{p:Int}{i:Nat}{l:List Int}(g:Qe p=false):By f b p i l=.done b p i:=by
 cases f with
 |zero=>rfl
 |succ f=>rw[By,g];rfl
theorem Ia:(prog.info? 96).map (·.size)=some 2:=K
theorem EY {l:Ending->World->Prop}{d:World}{e S:Array Value}{j g:Value}{t:TypeId}(b:Nat)(E:e.getD 4 undef=.pointer (some ⟨b,0,none⟩))(n:e.getD 5 undef=j)(o:e.getD 6 undef=g)(s:Jh d b S t)(z:S.size=2)(p:l (.returned (.tuple #[.agg S,j,g])) d):
 bodyPost prog f115 l .ret { tmps:=e,defers:=[] } d:=
 Jag (v:=.tuple #[.agg S,j,g]) (XR rfl _ _ b 2 _ _ _ underlying96 rfl Ia E n o S (by rw[JG _ _ _ _ _ _ _ s,show(0+2:Nat)=2 from rfl,<-z];simp) z) rfl p
theorem GL.kind {b Q:World}{r:Nat}{e:AB}{p:Int}{i:Nat}{d:Option Addr}{n o:Nat}{l:List Int}(h:GL b Q r e p i d n o l):Jg Q r 1 (Jq p):=by
 obtain⟨t,j,s,g,-⟩:=h.st;exact WF 1 g
theorem GL.lt {b Q:World}{r:Nat}{e:AB}{p:Int}{i:Nat}{d:Option Addr}{n o:Nat}{l:List Int}(h:GL b Q r e p i d n o l):r<Q.heap.size:=by
 obtain⟨y,j,t,g,-⟩:=h.st;exact(Ja g).1
theorem GL.last {G Q:World}{r:Nat}{b:AB}{k:Int}{N:List Int}{p:Int}{i:Nat}{F:Option Addr}{n o:Nat}{l:List Int}(h:GL G Q r (b++[(k,N)]) p i F n o l):
 ∃j d u y C,Jg Q r 0 (.slice (some ⟨j,d,none⟩) (b.length+1) u)/\j<Q.heap.size/\Jg Q j (d+b.length*2) (Jq k)/\Jg Q j (d+b.length*2+1) (.slice y N.length C)/\JA Q y N.length C N:=by
 obtain⟨L,u,s,g,v⟩:=h.st;have M:(b++[(k,N)]).length=b.length+1:=by simp
 have J:s.length=b.length+1:=v.len.trans M;obtain⟨e,z⟩:∃e,s[b.length]? =some e:=⟨s[b.length],W2 O⟩
 have t:=v.each b.length e (k,N) z (by simp);have B:=Ck s b.length e z;have A:=v.own;rw[M] at A;obtain⟨j,d,rfl,P,E,I,-⟩:=A.here O;have W:e.m=N.length:=t.rd.len.symm;refine⟨j,d,u,e.a,e.c,?_,E,?_,?_,?_⟩
 ·have:=WN Q r 0 _ _ (0,0) g;rw[M] at this;exact this
 ·have:=I _ _ B.1;rw[show d+b.length*2=d+2*b.length from O,this,t.k]
 ·have:=I _ _ B.2;rw[show d+b.length*2+1=d+(2*b.length+1) from O,this,W]
 ·have:=t.rd;rwa [W] at this
theorem O9 (y:Int)(C:Option Addr)(n o:Nat)(l:List Int)(w:World)(al:JA w C n o l)(bc:∀a,C=some a->a.block<w.heap.size)(ba:n<=100000)(aV:Jm y):
 Jf 115 #[y,.slice C n o] w (Cl w n (By 17 [] y 0 l)):=by
 have a0:Hid (JF l):=H al.byte;have t:=WP w (.cells #[Jbo,()] 96);obtain⟨V,aa⟩:∃V,w.alloc (.cells #[Jbo,()] 96)=V:=⟨_,rfl⟩
 have bf:V.heap.size=w.heap.size+1:=by rw[<-aa];simp
 have ah:Hid (Ji w V):=H (aa▸Below.all (Jc _ _) _);have aK:Hid (JA V C n o l):=H (aa▸al.alloc _);rw[aa] at t;have ar:=H t;have aI:=WP V (.cells #[Jbo,y,.slice C n o,Jk 0] 261)
 have ST:Hid (GL V (V.alloc (.cells #[Jbo,y,.slice C n o,Jk 0] 261)) V.heap.size [] y 0 C n o l):=
  H ⟨⟨none,0,[],aI,QD.nil _ _⟩,aK.alloc _,λa ha=>by have:=bc a ha;omega,Below.all (Jc _ _) _,Je _,aV,WG _⟩
 clear al t aI;rw[bf] at ST;go_enter func115,ntmps115
 go_wp2_with fail
 go_step3
 go_wp2_with fail
 go_step3
 go_wp2_with fail
 go_loopg [8] 17 (λbj u8 wr=>∃(E:World) (b:AB) (p:Int) (i:Nat),E=wr/\b.length+bj=17/\Hid (GL V E (w.heap.size+1) b p i C n o l)/\Hid (MC b/\QQ b=false/\By 17 [] y 0 l=By (17-b.length) b p i l))
 case atStart=>exact⟨_,[],y,0,rfl,rfl,ST,H ⟨MC.nil,rfl,rfl⟩⟩
 case round=>
  obtain⟨E,b,p,i,aZ,bp,J,Q⟩:=hrel;subst aZ;have aN:=J.kind;have aU:=J.p;have bv:=J.lt;have bo:=Q.1.le;by_cases g:Qe p=true
  rotate_left
  ·have aH:Qe p=false:=by simpa using g
   have aw:=H aH;clear g aH;go_wp2_with (go_at_call 93;refine(ZE _ _).mono ?_;rintro e d ⟨rfl,rfl⟩;rw[aw.out])
   have ax:Hid (By 17 [] y 0 l=.done b p i):=H (by rw[Q.2.2,EX aw.out]);have A:=J;clear J aN;obtain⟨j,s,ay,t,U⟩:=A.st;have ai:=H U;have T:=H A.out.out;have az:=H A.i;have aB:=H A.p;have B:Hid (Jh E w.heap.size #[Jbo,()] 96):=H ((T.block _ O).trans ar);have af:w.heap.size+1<E.heap.size:=(Ja t).1;have a4:Jg E (w.heap.size+1) 0 (.slice j b.length s):=WF 0 t;have aX:Jg E (w.heap.size+1) 1 (Jq p):=WF 1 t;have ao:Jg E (w.heap.size+1) 3 (Jk ((i:Nat):Int)):=WF 3 t;clear t U A;generalize ag:b.length=z at*;refine Az [.h,.h,.h,.h,.h,.h,.h,.h,.w,.w,.w] [(4,1,1),(5,1,1),(6,1,1),(7,1,0)] (Us λd=>Jg d (w.heap.size+1) 3 (Jk ((i:Nat):Int))) [1,3] K rfl K K ?_;simp only[JW,ZI,Jap,JaM];repeat go_big_quiet_step (fail)
   refine Jaa ⟨?_,?_⟩
   ·intro q S a2 G;simp only[YE,YF,YG] at S;rcases S with rfl|rfl|rfl|rfl
    ·exact Jdo
    ·exact Jdo
    ·exact Jdo
    ·cases G;exact⟨_,rfl,rfl,λw2 R=>by have R:Jg w2 (w.heap.size+1) 3 (Jk ((i:Nat):Int)):=R;simp[execOp,go_sem,R]⟩
   refine Aj (λw2=>∃x:J2 E,w2=(x.world.setCell ⟨w.heap.size,0,none⟩ (.slice j z s)).setCell ⟨w.heap.size,1,none⟩ (Jq p)) rfl ?_ (Ak ?_) ?_
   ·exact Jds
   ·rintro w2 ⟨x,rfl⟩;rw[WH (w:=E) (a:=⟨w.heap.size+1,3,none⟩) (by rw[YX _ _ _ _ (by show w.heap.size+1≠w.heap.size;omega),YX _ _ _ _ (by show w.heap.size+1≠w.heap.size;omega)];exact x.below.block _ af)];exact ao
   refine QM (Jk ((i:Nat):Int)) rfl (λw2 _=>K) (Qq D) ?_;refine QM (Jk 0) rfl (λw2 _=>K) (Qq D) ?_;rintro w2 ⟨x,rfl⟩;have au:=H ((x.below.block w.heap.size O).trans B);have aA:Hid (Below w.heap.size w ((x.world.setCell ⟨w.heap.size,0,none⟩ (.slice j z s)).setCell ⟨w.heap.size,1,none⟩ (Jq p))):=H ((((ah.trans (T.mono O)).trans (x.below.mono O)).trans (Zp (Je _))).trans (Zp (Je _)));have aq:=H (((ai.below x.below).other (r:=w.heap.size) O 0 (.slice j z s)).other (r:=w.heap.size) O 1 (Jq p));have L:=H (GD (.slice j z s) (Jq p) au);generalize (x.world.setCell ⟨w.heap.size,0,none⟩ (.slice j z s)).setCell ⟨w.heap.size,1,none⟩ (.int .u8 p)=bb at*;have aT:=WF 0 L;have bm:=WF 1 L;go_wp2_with fail
   refine EY w.heap.size rfl rfl rfl L rfl ?_;rw[ax.out];refine⟨⟨j,s,ay,?_,aq.mono O⟩,aA.out,Q.1,.inl aw,aB.out,az.out⟩;rw[ag];rfl
  ·have Y:=H g;clear g;go_wp2_with (go_at_call 93;refine(ZE _ _).mono ?_;rintro e d ⟨rfl,rfl⟩;rw[Y.out])
   refine Jb (Uu V _ _ b p i C n o l J O Y ba) ?_;intro e w2 W;obtain⟨ab,bn⟩:∃ab,17-b.length=ab+1:=⟨16-b.length,O⟩
   have M:Hid (By 17 [] y 0 l=match ZU b p (l.drop i) with
    | .err e=>.err e
    | .ok k N next n=>if At k N then .done (b++[(k,N)]) next (i+n) else By ab (b++[(k,N)]) next (i+n) l):=H (by rw[Q.2.2,bn,O8 Y.out])
   unfold Ze at W;cases hco:ZU b p (l.drop i) with
   |err aY=>
    rw[hco] at W M;obtain⟨rfl,aE,aQ⟩:=W;have aF:=H aQ;have bt:(aY != 0)=true:=by simpa using aE
    have B:Hid (Jh w2 w.heap.size #[Jbo,()] 96):=H ((aF.block _ O).trans ar);have X:=WF 0 B;have ad:=WF 1 B;have Z:=Jad _ _ 0 _ _ B;have ac:=Jad _ _ 1 _ _ B;clear aQ J hco;go_wp2_with fail
    refine EY w.heap.size rfl rfl rfl (GD _ _ B) rfl ?_;exact Cl.mk_err M aE (((ah.trans (aF.mono O)).trans (Zp (Je _))).trans (Zp (Je _)))
   |ok k N next m=>
    rw[hco] at W M;obtain⟨rfl,am⟩:=W;have aR:=H hco;have an:=H am;obtain⟨br,j,s,ae,aj,a7,bs,bd,bg,aG⟩:=am.last;have aP:=H aG;have aW:=an.lt;have aO:Hid (MC (b++[(k,N)])):=H (Q.1.snoc Q.2.1 (Qv a0 _) Y aU aR);have bi:N.length<=100000:=by have bh:=(Ix aR);obtain⟨-,-,-,-,aC,-,ap,-,-⟩:=bh;have bu:=aK.len;rw[ap,W4,WR,W4];omega
    have aJ:Hid (∀d,JA d ae N.length aj N->Jf 92 #[.agg #[Jq k,.slice ae N.length aj]] d (Jz d (.bool (At k N)))):=H (λd h=>EU k ae aj N d h bi);clear aG am J hco aN;generalize ak:At k N=aM at*;have aD:=H ak;have aL:Hid (QQ (b++[(k,N)])=aM):=H (by rw[Hj];exact ak);clear ak;have bq:b.length<=16:=bo;go_wp2_with fail
    refine JM K K ?_;repeat go_big_quiet_step ((go_at_call 92;exact JD (aJ _ (aP.later _))))
    refine Jaa ?_;intro x
    have av:Hid (GL V x.world (w.heap.size+1) (b++[(k,N)]) next (i+m) C n o l):=H (by
     obtain⟨⟨a5,a8,a9,bk,a1⟩,bl,a6,a3,aC,aS,ap⟩:=an.out;exact⟨⟨a5,a8,a9,(x.below.block _ aW).trans bk,a1.below x.below⟩,bl.below x.below,a6,Wx a3 x.below,aC,aS,ap⟩)
    clear an aP aJ a7 bd bg;cases aM
    ·have be:Hid (By 17 [] y 0 l=By (17-(b++[(k,N)]).length) (b++[(k,N)]) next (i+m) l):=H (by
      rw[M.out,show 17-(b++[(k,N)]).length=ab by rw[WV,Ys];omega];simp only[aD.out];rfl)
     generalize x.world=I at*;go_wp2_with fail
     go_roundg (16-b.length)
     case measure=>omega
     case rel=>exact⟨_,b++[(k,N)],next,i+m,rfl,by rw[WV,Ys];omega,av,H ⟨aO.out,aL.out,be.out⟩⟩
    ·have ax:Hid (By 17 [] y 0 l=.done (b++[(k,N)]) next (i+m)):=H (by
      rw[M.out];simp only[aD.out];rfl)
     have A:=av;clear av M;generalize x.world=I at*;go_wp2_with fail
     obtain⟨j,s,ay,t,U⟩:=A.st;have ai:=H U;have T:=H A.out.out;have az:=H A.i;have aB:=H A.p;have B:Hid (Jh I w.heap.size #[Jbo,()] 96):=H ((T.block _ O).trans ar);have af:w.heap.size+1<I.heap.size:=(Ja t).1;have a4:Jg I (w.heap.size+1) 0 (.slice j (b++[(k,N)]).length s):=WF 0 t;have aX:Jg I (w.heap.size+1) 1 (Jq next):=WF 1 t;have ao:Jg I (w.heap.size+1) 3 (Jk ((i+m:Nat):Int)):=WF 3 t;clear t U A;generalize ag:(b++[(k,N)]).length=z at*;refine Az [.h,.h,.h,.h,.h,.h,.h,.h,.w,.w,.w] [(4,1,1),(5,1,1),(6,1,1),(7,1,0)] (Us λd=>Jg d (w.heap.size+1) 3 (Jk ((i+m:Nat):Int))) [1,3] K rfl K K ?_;simp only[JW,ZI,Jap,JaM];repeat go_big_quiet_step (fail)
     refine Jaa ⟨?_,?_⟩
     ·intro q S a2 G;simp only[YE,YF,YG] at S;rcases S with rfl|rfl|rfl|rfl
      ·exact Jdo
      ·exact Jdo
      ·exact Jdo
      ·cases G;exact⟨_,rfl,rfl,λw2 R=>by have R:Jg w2 (w.heap.size+1) 3 (Jk ((i+m:Nat):Int)):=R;simp[execOp,go_sem,R]⟩
     refine Aj (λw2=>∃x:J2 I,w2=(x.world.setCell ⟨w.heap.size,0,none⟩ (.slice j z s)).setCell ⟨w.heap.size,1,none⟩ (Jq next)) rfl ?_ (Ak ?_) ?_
     ·exact Jds
     ·rintro w2 ⟨x,rfl⟩;rw[WH (w:=I) (a:=⟨w.heap.size+1,3,none⟩) (by rw[YX _ _ _ _ (by show w.heap.size+1≠w.heap.size;omega),YX _ _ _ _ (by show w.heap.size+1≠w.heap.size;omega)];exact x.below.block _ af)];exact ao
     refine QM (Jk ((i+m:Nat):Int)) rfl (λw2 _=>K) (Qq D) ?_;refine QM (Jk 0) rfl (λw2 _=>K) (Qq D) ?_;rintro w2 ⟨x,rfl⟩;have au:=H ((x.below.block w.heap.size O).trans B);have aA:Hid (Below w.heap.size w ((x.world.setCell ⟨w.heap.size,0,none⟩ (.slice j z s)).setCell ⟨w.heap.size,1,none⟩ (Jq next))):=H ((((ah.trans (T.mono O)).trans (x.below.mono O)).trans (Zp (Je _))).trans (Zp (Je _)));have aq:=H (((ai.below x.below).other (r:=w.heap.size) O 0 (.slice j z s)).other (r:=w.heap.size) O 1 (Jq next));have L:=H (GD (.slice j z s) (Jq next) au);generalize (x.world.setCell ⟨w.heap.size,0,none⟩ (.slice j z s)).setCell ⟨w.heap.size,1,none⟩ (.int .u8 next)=bb at*;have aT:=WF 0 L;have bm:=WF 1 L;go_wp2_with fail
     refine EY w.heap.size rfl rfl rfl L rfl ?_;rw[ax.out];refine⟨⟨j,s,ay,?_,aq.mono O⟩,aA.out,aO.out,.inr aL,aB.out,az.out⟩;rw[ag];rfl
end
end Go.Proofs.YtkgjbipfhhjlpaaGreatDoor
