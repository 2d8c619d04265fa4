import Derived.Test.YtkgjbipfhhjlpaaGreatDoorMq18
set_option linter.unusedVariables false
set_option linter.unusedSimpArgs false
set_option maxRecDepth 100000
set_option maxHeartbeats 32000000
namespace Go.Proofs.YtkgjbipfhhjlpaaGreatDoor
open Go.Proofs.Tryz
section
open Go.RowKit Bits
theorem JcM{p:Prop}(h:p:=by
 rw[z.out];rw[y] at ad|-;clear z U E W y V ah ae aj ab aa ac ax;go_enter func87,ntmps87
 go_wp2_with fail
 rw[<-v] at b|-;generalize w.alloc (.cells JbE 102)=af at*;refine Jb (C _) ?_;rintro e ai ⟨rfl,g⟩;have r:=H ((g.block _ (Ja b).1).trans b);have t:=H (Wx A g);clear g b A v;go_wp2_with fail
 refine Jb (C _) ?_;rintro e o ⟨rfl,g⟩;have a:=H ((g.block _ (Ja r).1).trans r);have u:=H (Wx t g);have X:JE o s 12=true:=by rw[Jw _ _ _ _ _ a.out];rfl
 have L:s<o.heap.size:=(Ja a).1;clear g r t;go_wp2_with fail
 refine Zl (cs:=rtZ) s rfl rfl ?_ rfl rfl ?_
 ·exact Ju ((YU _ _ (by simpa using L)).trans (JC a)) rfl
 ·exact Below.all (u.trans (Jy _ (Jbh Z.symm))) _):p:=h
theorem JcT{p:Prop}(h:p:=by
 rw[z.out,y];clear z E W y V;go_enter func87,ntmps87
 go_wp2_with fail
 rw[<-v] at b|-;generalize w.alloc (.cells JbE 102)=af at*;refine Jb (C _) ?_;rintro e ai ⟨rfl,g⟩;have r:=H ((g.block _ (Ja b).1).trans b);have t:=H (Wx A g);clear g b A v;go_wp2_with fail
 refine Jb (C _) ?_;rintro e o ⟨rfl,g⟩;have a:=H ((g.block _ (Ja r).1).trans r);have u:=H (Wx t g);have X:JE o s 12=true:=by rw[Jw _ _ _ _ _ a.out];rfl
 have L:s<o.heap.size:=(Ja a).1;clear g r t;go_wp2_with fail
 exact Zl (cs:=rtZ) s rfl rfl (Ju (JC a) rfl) rfl rfl (u.trans (Jy _ (Jbh Z.symm)))):p:=h
theorem Nz (p:Int)(ar:p=6)(l:List Int)(M:JF l)(aO:l.length<=100000)(w:World):
 Jf 87 #[p,.string (strOfNums l)] w (Jz w (rtR p l)):=by
 have W:tHead p=20:=by subst ar;rfl
 have C:Hid (∀d,Jf 96 #[p] d (Jz d (Jk 20))):=H (λd=>by have:=Aq p d;rw[W] at this;exact this);have b:=H (WP w (.cells JbE 102));have A:Hid (Below w.heap.size w (w.alloc (.cells JbE 102))):=H (Below.all (Jc _ _) _);obtain⟨ak,y⟩:∃ak,strOfNums l=ak:=⟨_,rfl⟩
 have aX:ak.size=l.length:=by rw[<-y,Jbe]
 have E:Hid (Ab p l=if l.length<20 then 10 else if 65535<l.length then 51 else if p=6 then (if H1 l<20 then 51 else if l.length<H1 l then 10 else 0) else if p=17 then (if w2 l 4<8 then 51 else if (l.length:Int)<w2 l 4 then 10 else 0) else 0):=H (by unfold Ab;rw[W,Yw D]);obtain⟨s,v⟩:∃an,an=w.heap.size:=⟨_,rfl⟩
 have Z:=H v;obtain⟨n,V⟩:∃n,l.length=n:=⟨_,rfl⟩
 have bk:=H V;rw[V] at aX E aO;subst ar;by_cases al:n<20
 ·have aP:decide ((n:Int)<20)=true:=by simp;omega
  have z:=H (Bg (err:=10) (by rw[E.out,YH al]) D);exact JcT
 have aP:decide ((n:Int)<20)=false:=by simp;omega
 by_cases aE:65535<n
 ·have a1:decide ((n:Int)>65535)=true:=by simp;omega
  have z:=H (Bg (err:=51) (by rw[E.out,Yw al,YH aE]) D);exact JcT
 have a1:decide ((n:Int)>65535)=false:=by simp;omega
 have U:Hid (Ab 6 l=if H1 l<20 then 51 else if n<H1 l then 10 else 0):=H (by rw[E.out,Yw al,Yw aE,YH rfl]);have ae:=QC M 12;have ab:Hid (H1 l=(l.getD 12 0/16).toNat*4):=H rfl;have ad:=λw=>CW l M 12 O 12 rfl w
 have aj:=λw=>CW l M 13 O 13 rfl w
 obtain⟨I,ac⟩:∃I:Nat,l.getD 12 0=(I:Int):=⟨(l.getD 12 0).toNat,O⟩
 rw[ac] at ae ad ab;obtain⟨j,ah⟩:∃j:Nat,I/16*4=j:=⟨_,rfl⟩
 have aa:Hid (H1 l=j):=H (by rw[ab.out,<-ah];omega);rw[aa.out] at U;have aJ:(0:Int)<=(I:Int):=O;have be:(I:Int)<=255:=O;have a6:Int.tdiv (I:Int) 16=(I:Int)/16:=Jaw aJ;have bc:(I:Int)/16*4=(j:Int):=O;have ax:j<=60:=O;by_cases am:j<20
 ·have aI:decide ((j:Int)<20)=true:=by simp;omega
  have z:=H (Bg (err:=51) (by rw[U.out,YH am]) D);exact JcM
 have aI:decide ((j:Int)<20)=false:=by simp;omega
 by_cases aq:n<j
 ·have aV:decide ((n:Int)<(j:Int))=true:=by simp;omega
  have z:=H (Bg (err:=10) (by rw[U.out,Yw am,YH aq]) D);exact JcM
 have aV:decide ((n:Int)<(j:Int))=false:=by simp;omega
 have aA:Hid (Ab 6 l=0):=H (by rw[U.out,Yw am,Yw aq])
 have au:Hid (∀d,Jf 149 #[.string (strOfNums l),Jk 0,Jk 2] d (Jz d (Jo (w2 l 0)))):=H (λd=>by
  have:=XU l M 0 2 D D O O 0 2 rfl rfl d;rwa [Qw l 0 O] at this)
 have av:Hid (∀d,Jf 149 #[.string (strOfNums l),Jk 2,Jk 2] d (Jz d (Jo (w2 l 2)))):=H (λd=>by
  have:=XU l M 2 2 D D O O 2 2 rfl rfl d;rwa [Qw l 2 O] at this)
 have aD:Hid (∀d,Jf 149 #[.string (strOfNums l),Jk 4,Jk 4] d (Jz d (Jo (w4 l 4)))):=H (λd=>by
  have:=XU l M 4 4 D D O O 4 4 rfl rfl d;rwa [AE l 4 O] at this)
 have ay:Hid (∀d,Jf 149 #[.string (strOfNums l),Jk 8,Jk 4] d (Jz d (Jo (w4 l 8)))):=H (λd=>by
  have:=XU l M 8 4 D D O O 8 4 rfl rfl d;rwa [AE l 8 O] at this)
 have aw:Hid (∀d,Jf 149 #[.string (strOfNums l),Jk 14,Jk 2] d (Jz d (Jo (w2 l 14)))):=H (λd=>by
  have:=XU l M 14 2 D D O O 14 2 rfl rfl d;rwa [Qw l 14 O] at this)
 have az:Hid (∀d,Jf 149 #[.string (strOfNums l),Jk 18,Jk 2] d (Jz d (Jo (w2 l 18)))):=H (λd=>by
  have:=XU l M 18 2 D D O O 18 2 rfl rfl d;rwa [Qw l 18 O] at this)
 have aW:=Xw M 0;have aM:=Xw M 2;have aN:=OD M 4;have a2:=OD M 8;have aL:=Xw M 14;have aT:=Xw M 18
 have aG:Hid (rtR 6 l=.tuple #[.agg (JbM (6:Int) (Jl (w2 l 0)) (Jl (w2 l 2)) (Jp (w4 l 4)) (Jp (w4 l 8)) (Jq (l.getD 13 0)) (Jl (w2 l 14)) (Jl (w2 l 18)) (.string (strOfNums ((l.take j).drop 20))) (.string (strOfNums (l.drop j))):Array Value),Jk 0]):=H (by
  unfold rtR Qo Fy rtC;rw[aA.out,YH rfl,YH rfl,aa.out])
 have aS:=λw=>If l 20 j O O 20 (j:Int) rfl rfl w
 have aR:=λw=>Dj l j O (j:Int) rfl w
 rw[aG.out];rw[y] at au av aD ay aw az aS aR ad aj|-;generalize w2 l 0=N at*;generalize w2 l 2=P at*;generalize w4 l 4=S at*;generalize w4 l 8=F at*;generalize w2 l 14=R at*;generalize w2 l 18=J at*;generalize l.getD 13 0=Q at*;generalize strOfNums ((l.take j).drop 20)=G at*;generalize strOfNums (l.drop j)=T at*;clear aA U E W y V aG ah ae ab aa ac;go_enter func87,ntmps87
 go_wp2_with fail
 rw[<-v] at b|-;generalize w.alloc (.cells JbE 102)=af at*;refine Jb (C _) ?_;rintro e ai ⟨rfl,g⟩;have r:=H ((g.block _ (Ja b).1).trans b);have t:=H (Wx A g);clear g b A v;go_wp2_with fail
 refine Jb (C _) ?_;rintro e o ⟨rfl,g⟩;have a:=H ((g.block _ (Ja r).1).trans r);have u:=H (Wx t g);have X:JE o s 12=true:=by rw[Jw _ _ _ _ _ a.out];rfl
 have L:s<o.heap.size:=(Ja a).1;clear g r t;go_wp2_with fail
 have ag:=H (WP o (.cells (JbL (6:Int)) 102));have ao:Hid (_=_):=H ((YU o (.cells (JbL (6:Int)) 102) L).trans a);have aF:Hid (Below w.heap.size w (o.alloc (.cells (JbL (6:Int)) 102))):=H (Below.all u _);obtain⟨B,ap⟩:∃an,an=o.heap.size:=⟨_,rfl⟩
 rw[<-ap] at ag|-;have aU:s≠B:=O;have aZ:Hid (w.heap.size<=B):=H (by rw[ap];exact u.size);generalize o.alloc (.cells (JbL (6:Int)) 102)=a0 at*;clear ap a u X L;obtain⟨a5,a8⟩:=aW;obtain⟨a9,bj⟩:=aM;obtain⟨bd,ba⟩:=aN;obtain⟨bl,bh⟩:=a2;obtain⟨bf,bg⟩:=aL;obtain⟨bi,bb⟩:=aT;have aH:B<a0.heap.size:=(Ja ag).1;refine Xe 28 K K ?_;simp only[Y6,Y7];repeat go_big_quiet_step ((first|(with_reducible exact JD (au.out _))|(with_reducible exact JD (av.out _))|(with_reducible exact JD (aD.out _))|(with_reducible exact JD (ay.out _))|(with_reducible exact JD (aw.out _))|(with_reducible exact JD (az.out _))))
 refine Jaa ?_;intro x;simp only[Y8,Y9];have aQ:=H ((x.below.block _ (Ja ao).1).trans ao);have aC:=H ((x.below.block _ aH).trans ag);have aK:=H (Wx aF x.below);clear ao ag aF;generalize x.world=Y at*;have a4:JE Y B 12=true:=by rw[Jw _ _ _ _ _ aC.out];rfl
 have aY:Hid (Jh (Y.setRow B (JbM (6:Int) (Jl N) (Jl P) (Jp S) (Jp F) Q (Jl R) (Jl J) (.string G) (.string T))) B (JbM (6:Int) (Jl N) (Jl P) (Jp S) (Jp F) Q (Jl R) (Jl J) (.string G) (.string T)) 102):=H (JC aC);have aB:=H ((Ja5 Y B s (JbM (6:Int) (Jl N) (Jl P) (Jp S) (Jp F) Q (Jl R) (Jl J) (.string G) (.string T)) aU).trans aQ);have a3:=H (aK.trans (Jy (JbM (6:Int) (Jl N) (Jl P) (Jp S) (Jp F) Q (Jl R) (Jl J) (.string G) (.string T)) aZ));have a7:Jv (Y.setRow B (JbM (6:Int) (Jl N) (Jl P) (Jp S) (Jp F) Q (Jl R) (Jl J) (.string G) (.string T))) B 0 12=(JbM (6:Int) (Jl N) (Jl P) (Jp S) (Jp F) Q (Jl R) (Jl J) (.string G) (.string T):Array Value):=Ju aY rfl;have X:JE (Y.setRow B (JbM (6:Int) (Jl N) (Jl P) (Jp S) (Jp F) Q (Jl R) (Jl J) (.string G) (.string T))) s 12=true:=by rw[Jw _ _ _ _ _ aB.out];rfl
 go_wp2_with fail
 exact Zl (cs:=(JbM (6:Int) (Jl N) (Jl P) (Jp S) (Jp F) Q (Jl R) (Jl J) (.string G) (.string T))) s rfl rfl (Ju (JC aB) rfl) rfl rfl (a3.trans (Jy _ (Jbh Z.symm)))
theorem G0 (p:Int)(E:p=6\/p=17\/p=1\/p=58)(l:List Int)(M:JF l)(B:l.length<=100000)(w:World):
 Jf 87 #[p,.string (strOfNums l)] w (Jz w (rtR p l)):=by
 rcases E with h|h|h
 ·exact Nz p h l M B w
 ·exact Ny p h l M B w
 ·exact L2 p h l M B w
theorem Xn (p:Int)(w:World):Jf 46 #[p] w (Jz w (.bool (J1 p))):=by
 by_cases a:p=6
 ·subst a;go_enter func46,ntmps46
  exact Jdf
 ·have g:(p==6)=false:=by simpa using a
  have L:decide (p=6)=false:=by simpa using a
  have F:J1 p=(p==17):=by unfold J1;rw[g];rfl
  rw[F];go_enter func46,ntmps46
  exact Jdf
theorem XH (p:Int)(w:World):Jf 47 #[p] w (Jz w (.bool (Qb p))):=by
 by_cases a:p=1
 ·subst a;go_enter func47,ntmps47
  exact Jdf
 ·have g:(p==1)=false:=by simpa using a
  have L:decide (p=1)=false:=by simpa using a
  have F:Qb p=(p==58):=by unfold Qb;rw[g];rfl
  rw[F];go_enter func47,ntmps47
  exact Jdf
theorem L3 {w d:World}{S:Array Value}{a:Array Value}(b:Nat)(E:a.getD 2 undef=.pointer (some ⟨b,0,none⟩))(I:Jv d b 0 17=S)(z:S.size=17)(g:Ji w d):
 bodyPost prog f84 (Jz w (.agg S)) .ret { tmps:=a,defers:=[] } d:=
 Jag (v:=.agg S) (XO rfl _ _ b 17 _ underlying36 rfl K E S I z) rfl (.mk rfl g)
theorem Ig (l:List Int)(M:JF l)(B:l.length=4)(w:World):Jf 84 #[.string (strOfNums l)] w (Jz w (adV false (Qj l))):=by
 have n:=H (WP w (.cells (JbF false) 36));have A:Hid (Below w.heap.size w (w.alloc (.cells (JbF false) 36))):=H (Below.all (Jc _ _) _)
 have E:Hid (∀d s o,JA d s 4 o l->Jf 145 #[.slice s 4 o] d (Jz d (.tuple #[adV false (Qj l),Jk 0]))):=H (λd s o j=>by
  have:=K2 s 4 o l d j D;rwa [Gc B] at this)
 obtain⟨Z,y⟩:∃Z,strOfNums l=Z:=⟨_,rfl⟩
 have L:=H y;rw[y];unfold adV at*;generalize Qj l=U at*;clear y;obtain⟨r,z⟩:∃b,b=w.heap.size:=⟨_,rfl⟩
 go_enter func84,ntmps84
 go_wp2_with (with_reducible refine XD 7 ?_)
 rw[<-z] at n|-;have G:=H z;clear z;generalize w.alloc (.cells (JbF false) 36)=Q at*;refine JJ.mk ?_;refine Qi _ rfl 9 22 _ rfl 5 underlying9 underlying22 underlying5 l (by show Value.string Z=_;rw[L.out]) M O ?_;intro P V g j;rw[B] at j|-;have F:=H j;have t:=H ((g.block _ (Ja n).1).trans n);have C:=H (Wx A g);clear j g n A;go_wp2_with fail
 refine Jb (E _ _ _ F) ?_;rintro e w2 ⟨rfl,g⟩;have p:=H ((g.block _ (Ja t).1).trans t);have I:=H (Wx C g);have J:r<w2.heap.size:=(Ja p).1;have N:JE w2 r 17=true:=by rw[Jw _ _ _ _ _ p.out];rfl
 clear g t C;go_wp2_with fail
 refine L3 r rfl ?_ rfl ?_
 ·exact Ju ((YU _ _ (by simpa using J)).trans (JC p)) rfl
 ·exact Below.all (I.trans (Jy _ (Jbh G.symm))) _
theorem G1 (l:List Int)(M:JF l)(B:l.length=16)(w:World):Jf 84 #[.string (strOfNums l)] w (Jz w (adV true (Qj l))):=by
 have j:=H (WP w (.cells (JbF false) 36));have z:Hid (Below w.heap.size w (w.alloc (.cells (JbF false) 36))):=H (Below.all (Jc _ _) _)
 have C:Hid (∀d s o,JA d s 16 o l->Jf 145 #[.slice s 16 o] d (Jz d (.tuple #[adV true (Qj l),Jk 0]))):=H (λd s o a=>by
  have:=K2 s 16 o l d a D;rwa [DH B] at this)
 obtain⟨Z,t⟩:∃Z,strOfNums l=Z:=⟨_,rfl⟩
 have J:=H t;rw[t];unfold adV at*;generalize Qj l=U at*;clear t;obtain⟨p,y⟩:∃b,b=w.heap.size:=⟨_,rfl⟩
 go_enter func84,ntmps84
 go_wp2_with (with_reducible refine XD 7 ?_)
 rw[<-y] at j|-;have F:=H y;clear y;generalize w.alloc (.cells (JbF false) 36)=Q at*;refine JJ.mk ?_;refine Qi _ rfl 9 22 _ rfl 5 underlying9 underlying22 underlying5 l (by show Value.string Z=_;rw[J.out]) M O ?_;intro N V g a;rw[B] at a|-;have E:=H a;have r:=H ((g.block _ (Ja j).1).trans j);have A:=H (Wx z g);clear a g j z;go_wp2_with fail
 refine Jb (C _ _ _ E) ?_;rintro e w2 ⟨rfl,g⟩;have n:=H ((g.block _ (Ja r).1).trans r);have G:=H (Wx A g);have I:p<w2.heap.size:=(Ja n).1;have L:JE w2 p 17=true:=by rw[Jw _ _ _ _ _ n.out];rfl
 clear g r A;go_wp2_with fail
 refine L3 p rfl ?_ rfl ?_
 ·exact Ju ((YU _ _ (by simpa using I)).trans (JC n)) rfl
 ·exact Below.all (G.trans (Jy _ (Jbh F.symm))) _
open Go.RowKit
theorem Jc3{p:Prop}(h:p:=by
 go_wp2_with fail
 go_ret;exact .mk (J6 d.out.symm) (Ww (Below.all (Jc _ _) _))):p:=h
theorem QT (s:Bool)(Z:Nat->Int)(t:Bool)(e:Nat->Int)(p a b:Int)(w:World):
 Jf 27 #[.agg (kyC s Z t e p a b)] w (Jz w (.bool (JS ⟨s,Z,t,e,p,a,b⟩))):=by
 have z:Hid (JS ⟨s,Z,t,e,p,a,b⟩=(Qr s Z&&(Qr t e&&(s==t&&(J1 p||(a==0&&(Qb p||b==0))))))):=H rfl;have j:∀w,Jf 69 #[adV s Z] w (Jz w (.bool (Qr s Z))):=λw=>Bh s Z w
 have l:∀w,Jf 69 #[adV t e] w (Jz w (.bool (Qr t e))):=λw=>Bh t e w
 have o:=Xn p;have A:=XH p;generalize Qr s Z=C at*;generalize Qr t e=E at*;generalize J1 p=y at*;generalize Qb p=u at*;generalize JS ⟨s,Z,t,e,p,a,b⟩=g at*;have d:=z.out;clear z;unfold adV kyC at*;cases C
 ·have d:=H (show g=false from d);go_enter func27,ntmps27
  go_wp2_with fail
  refine Calls.later (j _) ?_;intro x;exact Jc3
 cases E
 ·have d:=H (show g=false from d);go_enter func27,ntmps27
  go_wp2_with fail
  refine Calls.later (j _) ?_;intro x;go_wp2_with fail
  refine Wz (l _) ?_;intro Q;exact Jc3
 by_cases r:s=t
 rotate_left
 ·have d:Hid (g=false):=H (by rw[d];simp[r]);have G:(s==t)=false:=by simpa using r
  go_enter func27,ntmps27
  go_wp2_with fail
  refine Calls.later (j _) ?_;intro x;go_wp2_with fail
  refine Wz (l _) ?_;intro Q;exact Jc3
 subst r;have d:=H (show g=(y||(a==0&&(u||b==0))) by rw[d];simp);cases y;rotate_left
 ·go_enter func27,ntmps27
  go_wp2_with fail
  refine Calls.later (j _) ?_;intro x;go_wp2_with fail
  refine Wz (l _) ?_;intro Q;go_wp2_with fail
  refine Wz (o _) ?_;intro v;exact Jc3
 by_cases ha:a=0
 rotate_left
 ·have d:Hid (g=false):=H (by rw[d.out];simp[ha]);have F:decide (a=0)=false:=by simpa using ha
  go_enter func27,ntmps27
  go_wp2_with fail
  refine Calls.later (j _) ?_;intro x;go_wp2_with fail
  refine Wz (l _) ?_;intro Q;go_wp2_with fail
  refine Wz (o _) ?_;intro v;exact Jc3
 subst ha;have d:=H (show g=(u||b==0) by rw[d.out];simp);cases u;rotate_left
 ·go_enter func27,ntmps27
  go_wp2_with fail
  refine Calls.later (j _) ?_;intro x;go_wp2_with fail
  refine Wz (l _) ?_;intro Q;go_wp2_with fail
  refine Wz (o _) ?_;intro v;go_wp2_with fail
  refine Wz (A _) ?_;intro B;exact Jc3
 ·have d:=H (show g=decide (b=0) by rw[d.out];simp only[Y3];rfl);go_enter func27,ntmps27
  go_wp2_with fail
  refine Calls.later (j _) ?_;intro x;go_wp2_with fail
  refine Wz (l _) ?_;intro Q;go_wp2_with fail
  refine Wz (o _) ?_;intro v;go_wp2_with fail
  refine Wz (A _) ?_;intro B;exact Jc3
open Go.RowKit
theorem JdX{p:Prop}(h:p:=by
 go_wp2_with fail
 refine Calls.later (e _) ?_;intro x;go_wp2_with fail
 go_ret;exact .mk (J8.nil _ _ _) rfl (Ww (Below.all (Jc _ _) _))):p:=h
theorem RZ (G:Bool)(Z:Nat->Int)(t:Bool)(d:Nat->Int)(p a b:Int)(u:JS ⟨G,Z,t,d,p,a,b⟩=false)(w:World):
 Jf 24 #[.agg (kyC G Z t d p a b)] w (J5 w (JZ ⟨G,Z,t,d,p,a,b⟩)):=by
 have g:JZ ⟨G,Z,t,d,p,a,b⟩=[]:=by unfold JZ;rw[Yw (by rw[u];decide)]
 rw[g];have e:=λw=>X4 G Z t d p a b w
 rw[u] at e;clear g u;unfold kyC at*;go_enter func24,ntmps24
 exact JdX
theorem Ps (G:Bool)(Z:Nat->Int)(t:Bool)(d:Nat->Int)(p a b:Int)(u:JS ⟨G,Z,t,d,p,a,b⟩=false)(w:World):
 Jf 25 #[.agg (kyC G Z t d p a b)] w (J5 w (JZ ⟨G,Z,t,d,p,a,b⟩)):=by
 have g:JZ ⟨G,Z,t,d,p,a,b⟩=[]:=by unfold JZ;rw[Yw (by rw[u];decide)]
 rw[g];have e:=λw=>QT G Z t d p a b w
 rw[u] at e;clear g u;unfold kyC at*;go_enter func25,ntmps25
 exact JdX
theorem Tq (G:Bool)(Z:Nat->Int)(t:Bool)(d:Nat->Int)(p a b:Int)(u:JS ⟨G,Z,t,d,p,a,b⟩=false)(w:World):
 Jf 28 #[.agg (kyC G Z t d p a b)] w (Jz w (.string ⟨#[]⟩)):=by
 have e:=λw=>X4 G Z t d p a b w
 rw[u] at e;clear u;unfold kyC at*;go_enter func28,ntmps28
 go_wp2_with fail
 refine Calls.later (e _) ?_;exact Jdu
theorem R0 (G:Bool)(Z:Nat->Int)(t:Bool)(d:Nat->Int)(p a b:Int)(u:JS ⟨G,Z,t,d,p,a,b⟩=false)(w:World):
 Jf 29 #[.agg (kyC G Z t d p a b)] w (Jz w (.string ⟨#[]⟩)):=by
 have e:=λw=>QT G Z t d p a b w
 rw[u] at e;clear u;unfold kyC at*;go_enter func29,ntmps29
 go_wp2_with fail
 refine Calls.later (e _) ?_;exact Jdu
open Go.Lib
theorem JcW{p:Prop}(h:p:=by
 rw[d 0 D,d 1 D,d 2 D,d 3 D,d 4 D,d 5 D,d 6 D,d 7 D,d 8 D,d 9 D,d 10 D,d 11 D,d 12 D,d 13 D,d 14 D,d 15 D,
  e 0 D,e 1 D,e 2 D,e 3 D,e 4 D,e 5 D,e 6 D,e 7 D,e 8 D,e 9 D,e 10 D,e 11 D,e 12 D,e 13 D,e 14 D,e 15 D]):p:=h
theorem R1 (d:Nat)(h:d<16):hexc d≠32:=by
 exact Jdt
theorem Uy (a:Nat):(32:UInt8)∉X1 16 a:=λh=>by
 obtain⟨N,L,e⟩:=CK 16 O O a a (Je _) _ h;exact R1 N L e.symm
theorem Om (a:Nat):(32:UInt8)∉decDigits a:=λh=>by
 obtain⟨N,L,e⟩:=Gi a _ h;exact R1 N L e.symm
theorem L4 (G:Bool)(U:Nat->Int):(32:UInt8)∉QX G U:=by
 intro h
 have a:∀(c:UInt8) (b:List (List UInt8)),c≠32->(∀p∈b,(32:UInt8)∉p)->(32:UInt8)∉XX c b:=λc b I d h=>by
  rcases Lu _ _ _ h with h|⟨p,E,P⟩
  ·exact I h.symm
  ·exact d p E P
 have W:∀p∈(List.range 8).map λi=>X1 16 (grpN U i),(32:UInt8)∉p:=λp E=>by
  obtain⟨i,-,rfl⟩:=Yq.1 E;exact Uy _
 unfold QX at h;split at h
 ·split at h
  ·rw[I1] at h;split at h
   ·exact a 58 _ D W h
   ·rcases Ye.1 h with h|h
    ·rcases Ye.1 h with h|h
     ·exact a 58 _ D (λp E=>W p (Ym E)) h
     ·simp at h
    ·exact a 58 _ D (λp E=>W p (Yl E)) h
  ·refine a 46 _ D (λp E=>?_) h;obtain⟨i,-,rfl⟩:=Yq.1 E;exact Om _
 ·simp at h
theorem Ih (c:UInt8):∀l:List UInt8,XX c (Ql c l)=l
 |[]=>rfl
 |x::T=>by
  have a:=Ih c T;unfold Ql;cases hc:Ql c T with
  |nil=>exact absurd hc (CC c T)
  |cons h t=>
   rw[hc] at a;by_cases P:x=c
   ·rw[YH P,Zw,a,P];rfl
   ·rw[Yw P];cases t with
    |nil=>simp only[XX] at a|-;rw[a]
    |cons q t=>rw[Zw] at a|-;rw[Yx,a]
def Cq (k:Ky):List (List UInt8):=[decDigits k.p.toNat,QX k.s k.S,decDigits k.a.toNat,QX k.t k.T,decDigits k.b.toNat]
theorem CX {k:Ky}(h:JS k=true):QY k=XX 32 (Cq k):=by unfold QY;rw[YH h];rfl
theorem G2 {k:Ky}(h:JS k=false):QY k=[]:=by unfold QY;rw[Yw (by rw[h];decide)]
theorem NA {k:Ky}(h:JS k=true):Ql 32 (QY k)=Cq k:=by
 rw[CX h];refine HU 32 _ (by simp[Cq]) (λp E=>?_);simp only[Cq,YE,YF,YG] at E;rcases E with rfl|rfl|rfl|rfl|rfl
 ·exact Om _
 ·exact L4 _ _
 ·exact Om _
 ·exact L4 _ _
 ·exact Om _
def XB (G:List UInt8):Option Ky:=match Ql 32 G with
 |[x0,l,o,j,n]=>match DJ 256 x0,Zb l,DJ 65536 o,Zb j,DJ 65536 n with
  |some p,some (g,Z),some a,some (e,d),some b=>if JS ⟨g,Z,e,d,p,a,b⟩=true/\QX g Z=l/\QX e d=j then some ⟨g,Z,e,d,p,a,b⟩ else none
  |_,_,_,_,_=>none
 |_=>none
def As (o:Option Ky):Value:=match o with
 |some k=>.tuple #[.agg (kyV k),Jk 0]
 |none=>.tuple #[.agg (kyV kyZ),Jk 40]
theorem Ii {s:List UInt8}(h:(Ql 32 s).length≠5):XB s=none:=by
 unfold XB;split
 ·rename_i e;rw[e] at h;exact absurd rfl h
 ·rfl
theorem Ij {G b a g d e:List UInt8}(I:Ql 32 G=[b,a,g,d,e])(h:Zb a=none):XB G=none:=by
 unfold XB;rw[I];simp only[h];split<;>first|rfl|contradiction
theorem Ik {G b e g a d:List UInt8}(I:Ql 32 G=[b,e,g,a,d])(h:Zb a=none):XB G=none:=by
 unfold XB;rw[I];simp only[h];split<;>first|rfl|contradiction
theorem L5 {G B A F v C:List UInt8}(I:Ql 32 G=[B,A,F,v,C]){e d:Bool}{Z g:Nat->Int}(j:Zb A=some (e,Z))(Y:Zb v=some (d,g))(u0 u2 u4:Nat)(L:u0<256)(N:u2<65536)(S:u4<65536)
 (R:∀n,n<256->B=decDigits n->u0=n)(w2:∀n,n<65536->F=decDigits n->u2=n)(w4:∀n,n<65536->C=decDigits n->u4=n):
 XB G=if QY ⟨e,Z,d,g,u0,u2,u4⟩=G then some ⟨e,Z,d,g,u0,u2,u4⟩ else none:=by
 by_cases l:QY ⟨e,Z,d,g,u0,u2,u4⟩=G
 ·rw[YH l];cases hr:JS ⟨e,Z,d,g,u0,u2,u4⟩ with
  |false=>
   rw[G2 hr] at l;subst l;cases I
  |true=>
   have E:=NA hr;rw[l,I] at E;simp only[Cq,Jak,JaD,and_true] at E;obtain⟨r,z,o,u,t⟩:=E;unfold XB;rw[I];simp only[Zn.2 ⟨L,r⟩,Zn.2 ⟨N,o⟩,Zn.2 ⟨S,t⟩,j,Y];rw[YH ⟨hr,z.symm,u.symm⟩]
 ·rw[Yw l];unfold XB;rw[I];simp only[j,Y];split
  ·rename_i p V U a T W b X z y u P;cases z;cases u;obtain⟨Q,r⟩:=Zn.1 X;obtain⟨J,o⟩:=Zn.1 y;obtain⟨M,t⟩:=Zn.1 P;obtain rfl:=R p Q r;obtain rfl:=w2 a J o;obtain rfl:=w4 b M t;by_cases s:JS ⟨e,Z,d,g,u0,u2,u4⟩=true/\QX e Z=A/\QX d g=v
   ·refine absurd ?_ l;rw[CX s.1,<-Ih 32 G,I];simp only[Cq,Jak];rw[s.2.1,s.2.2,<-r,<-o,<-t]
   ·rw[Yw s]
  ·rfl
theorem R2 {G t:Bool}{Z g j l:Nat->Int}{p a b:Int}(d:∀i,i<16->g i=Z i)(e:∀i,i<16->l i=j i):kyC G g t l p a b=kyC G Z t j p a b:=by
 unfold kyC;exact JcW
open Go.RowKit
theorem Jdq{p:Prop}(h:p:=by
 rintro e d ⟨rfl,R⟩;refine⟨b,_,rfl,?_,λn B h=>?_,?_⟩
 ·have:=Lib.parseUintB_le hR;omega
 ·have:=L n B h;rw[hR] at this;exact Lib.NumEnd.ok.inj this
 ·rcases R with rfl|rfl
  ·exact Jc _ _
  ·exact Xm _ _):p:=h
theorem Er (a:Nat):∀(l:List UInt8) (acc:Nat) (T:List UInt8) (m:Nat),Lib.parseUintM a acc l=.ok m->Lib.parseUintM a acc (l++T)=Lib.parseUintM a m T
 |[],acc,T,m,h=>by simp only[Lib.parseUintM,Lib.NumEnd.ok.injEq] at h;subst h;rfl
 |c::l,acc,T,m,h=>by
  rw[Yx,Lib.parseUintM];rw[Lib.parseUintM] at h;split
  ·rename_i I;rw[YH I] at h;split
   ·rename_i y;rw[YH y] at h;cases h
   ·rename_i y;rw[Yw y] at h;split
    ·rename_i Y;rw[YH Y] at h;cases h
    ·rename_i Y;rw[Yw Y] at h;exact Er a l _ T m h
  ·rename_i I;rw[Yw I] at h;cases h
theorem Il (a:Nat)(b:a<=65535):∀(k u:Nat),u<=k->u<=a->Lib.parseUintM a 0 (Lib.decDigits u)=.ok u
 |0,u,A,W=>by
  obtain rfl:u=0:=O;rw[Lib.decDigits,Jan O,Lib.parseUintM,Bi 0 O,YH O,Yw O,Yw O,Lib.parseUintM]
 |k+1,u,A,W=>by
  rw[Lib.decDigits];by_cases h:u<10
  ·rw[Jan h,Lib.parseUintM,Bi u h,YH O,Yw O,Yw O,Lib.parseUintM];congr 1;omega
  ·rw[dif_neg h,Er a _ _ _ _ (Il a b k (u/10) O O),Lib.parseUintM,Bi _ O,YH O,Yw O,Yw O,Lib.parseUintM];congr 1;omega
def L6 (w:World)(b:Nat)(l:List UInt8):Ending->World->Prop:=λe d=>∃(a:Nat) (g:Value),e=.returned (.tuple #[Jo a,g])/\a<b/\(∀n,n<b->l=Lib.decDigits n->a=n)/\Ji w d
theorem TS (U:Nat)(a:2^U-1<=65535)(l:List UInt8)(n:Nat)(B:n<2^U)(h:l=Lib.decDigits n):Lib.parseUintB U l=.ok n:=by
 subst h;unfold Lib.parseUintB;rw[Yw (B7 n)];exact Il _ a n n (Je _) O
theorem Uz (t:ByteArray)(s:t.size<=1000)(w:World)(l:Env w):
 Jf 58 #[.string t,Jk 10,Jk 8] w (L6 w 256 t.data.toList):=by
 have L:∀n,n<256->t.data.toList=Lib.decDigits n->Lib.parseUintB 8 t.data.toList=.ok n:=λn B h=>TS 8 D _ n O h
 obtain⟨u,p,j⟩:=l.syn;obtain⟨r,o,y⟩:=l.rng;rcases hR:Lib.parseUintB 8 t.data.toList with b|_|_
 ·refine(strconv_ParseUint_10_at8_ok t O b hR w).mono ?_;exact Jdq
 ·first
  |(refine(strconv_ParseUint_10_at8_syntax t O (hR.trans rfl) _ w j (.inr ⟨_,_,rfl⟩)).mono ?_
    rintro e d ⟨a,rfl,-,-,g⟩;exact⟨0,_,rfl,O,(λn B h=>by have:=L n B h;rw[hR] at this;cases this),g⟩)
  |(refine(strconv_ParseUint_10_at8_range t O hR _ w y (.inr ⟨_,_,rfl⟩)).mono ?_
    rintro e d ⟨a,rfl,-,-,g⟩;exact⟨255,_,rfl,O,(λn B h=>by have:=L n B h;rw[hR] at this;cases this),g⟩)
 ·first
  |(refine(strconv_ParseUint_10_at8_range t O hR _ w y (.inr ⟨_,_,rfl⟩)).mono ?_
    rintro e d ⟨a,rfl,-,-,g⟩;exact⟨255,_,rfl,O,(λn B h=>by have:=L n B h;rw[hR] at this;cases this),g⟩)
  |(refine(strconv_ParseUint_10_at8_syntax t O (hR.trans rfl) _ w j (.inr ⟨_,_,rfl⟩)).mono ?_
    rintro e d ⟨a,rfl,-,-,g⟩;exact⟨0,_,rfl,O,(λn B h=>by have:=L n B h;rw[hR] at this;cases this),g⟩)
theorem On (t:ByteArray)(s:t.size<=1000)(w:World)(l:Env w):
 Jf 58 #[.string t,Jk 10,Jk 16] w (L6 w 65536 t.data.toList):=by
 have L:∀n,n<65536->t.data.toList=Lib.decDigits n->Lib.parseUintB 16 t.data.toList=.ok n:=λn B h=>TS 16 D _ n O h
 obtain⟨u,p,j⟩:=l.syn;obtain⟨r,o,y⟩:=l.rng;rcases hR:Lib.parseUintB 16 t.data.toList with b|_|_
 ·refine(strconv_ParseUint_10_at16_ok t O b hR w).mono ?_;exact Jdq
 ·first
  |(refine(strconv_ParseUint_10_at16_syntax t O (hR.trans rfl) _ w j (.inr ⟨_,_,rfl⟩)).mono ?_
    rintro e d ⟨a,rfl,-,-,g⟩;exact⟨0,_,rfl,O,(λn B h=>by have:=L n B h;rw[hR] at this;cases this),g⟩)
  |(refine(strconv_ParseUint_10_at16_range t O hR _ w y (.inr ⟨_,_,rfl⟩)).mono ?_
    rintro e d ⟨a,rfl,-,-,g⟩;exact⟨65535,_,rfl,O,(λn B h=>by have:=L n B h;rw[hR] at this;cases this),g⟩)
 ·first
  |(refine(strconv_ParseUint_10_at16_range t O hR _ w y (.inr ⟨_,_,rfl⟩)).mono ?_
    rintro e d ⟨a,rfl,-,-,g⟩;exact⟨65535,_,rfl,O,(λn B h=>by have:=L n B h;rw[hR] at this;cases this),g⟩)
  |(refine(strconv_ParseUint_10_at16_syntax t O (hR.trans rfl) _ w j (.inr ⟨_,_,rfl⟩)).mono ?_
    rintro e d ⟨a,rfl,-,-,g⟩;exact⟨0,_,rfl,O,(λn B h=>by have:=L n B h;rw[hR] at this;cases this),g⟩)
open Go.RowKit
theorem AA {w:World}{b:Nat}{vs:List Value}{t:TypeId}(h:Jh w b vs.toArray t)(W:vs.length<=maxLen):J8 w b 1 (some ⟨b,0,none⟩) vs.length vs.length vs:=by
 refine⟨by simp,Je _,W,.inr ⟨b,0,rfl,Je _,(Ja h).1,λJ d a=>?_,λJ e=>⟨?_,?_⟩⟩⟩
 ·rw[WM,WN _ _ _ _ _ _ h];simpa using a
 ·rw[WM,WN _ _ _ _ _ _ h];simp;omega
 ·exact Jad _ _ _ _ _ h
def AY (w:World)(m:Nat)(l:List Int):Ending->World->Prop:=λe d=>∃b o,e=.returned (.slice b m o)/\JA d b m o l/\Ji w d
theorem J5.n {w:World}{m:Nat}{l:List Int}(W:l.length=m)(M:∀v∈l,Jm v){e:Ending}{d:World}(h:J5 w l e d):AY w m l e d:=by
 subst W;obtain⟨A,o,h1,j,Y⟩:=h;exact⟨A,o,h1,j.reads M,Y⟩
theorem JL {U:Nat->Int}(d:U8 U)(s:Bool):JF (Jt s U):=by
 intro v b;unfold Jt at b;obtain⟨i,-,rfl⟩:=Yq.1 b;exact d i
def spC (s:Bool)(S:Nat->Int)(t:Bool)(T:Nat->Int)(p a b f d:Int):Array Value:=(Jbw s t p (Jl a) (Jl b) f (Jk d) S T)
theorem Pt (Z b:Nat->Int)(p d:Int)(j:U8 Z)(n:U8 b)(E:Jm p)(l:20<=d/\d<65536)(w:World):
 Jf 53 #[.agg (Jcp (Jl d) false false (64:Int) p Z b:Array Value)] w (JO w (Q7 ⟨0,d,0,false,false,0,64,p,Jt false Z,Jt false b,[]⟩) 0):=by
 have g:QF ⟨0,d,0,false,false,0,64,p,Jt false Z,Jt false b,[]⟩=true:=by
  unfold QF;simp;omega
 have h:=GF ⟨0,d,0,false,false,0,64,p,Jt false Z,Jt false b,[]⟩ none 0 w ⟨(show(0:Int)<=0/\(0:Int)<256 from D),⟨by show 0<=d;omega,l.2⟩,(show(0:Int)<=0/\(0:Int)<65536 from D),(show(0:Int)<=0/\(0:Int)<65536 from D),(show(0:Int)<=64/\(64:Int)<256 from D),E,⟨JB _ _,JL j _⟩,⟨JB _ _,JL n _⟩,λv e=>by cases e⟩ ⟨rfl,Je _,WG _,(λv e=>by cases e),.inl rfl⟩ (λa h=>by cases h) g;unfold Ai Xs at h;rw[g] at h;exact h
theorem E3 (Z a:Nat->Int)(p n:Int)(b:U8 Z)(d:U8 a)(E:Jm p)(B:Jn n)(w:World):
 Jf 55 #[.agg (JbN (Jl n) p (64:Int) Z a:Array Value)] w (JO w (Bits.be4 1610612736++be2 n++[p,64]++Jt true Z++Jt true a) 0):=
 RQ ⟨0,0,n,p,64,Jt true Z,Jt true a⟩ w ⟨(show(0:Int)<=0/\(0:Int)<256 from D),(show(0:Int)<=0/\(0:Int)<4294967296 from D),B,E,(show(0:Int)<=64/\(64:Int)<256 from D),⟨JB _ _,JL b _⟩,⟨JB _ _,JL d _⟩⟩
theorem Pu (Z:Nat->Int)(t:Bool)(d:Nat->Int)(p a b f N:Int)(n:Nat)(B:n<=60000)(j:U8 Z)(l:U8 d)(E:Jm p)(w:World):
 Jf 44 #[.agg (spC true Z t d p a b f N),Jk n] w (JO w (Bits.be4 1610612736++be2 (n:Int)++[p,64]++Jt true Z++Jt true d) 0):=by
 have u:=H (E3 Z d p n j l E O);have R:IntKind.u16.wrap (n:Int)=n:=by rw[Jbi];omega
 generalize Bits.be4 1610612736++be2 (n:Int)++[p,64]++Jt true Z++Jt true d=y at*;clear j l E B;unfold spC;go_enter func44,ntmps44
 go_wp2_with fail
 refine Jb (u _) ?_;rintro e w2 ⟨v,o,rfl,r,g⟩;go_wp2_with fail
 go_ret2;exact⟨v,o,rfl,r.mono (by simp),Wx (Below.all (Jc _ _) _) g⟩
theorem NB (Z:Nat->Int)(t:Bool)(d:Nat->Int)(p a b f N:Int)(n:Nat)(ac:n<=60000)(F:U8 Z)(I:U8 d)(E:Jm p)(w:World):
 Jf 44 #[.agg (spC false Z t d p a b f N),Jk n] w (JO w (Q7 ⟨0,20+(n:Int),0,false,false,0,64,p,Jt false Z,Jt false d,[]⟩) 0):=by
 have ab:=H (Pt Z d p (20+(n:Int)) F I E O);have al:IntKind.u16.wrap (20+(n:Int))=20+(n:Int):=by rw[Jbi];omega
 have ai:IntKind.i64.wrap (20+(n:Int))=20+(n:Int):=by rw[JaI];omega
 have aj:(n:Int)<=60000:=O;generalize Q7 ⟨0,20+(n:Int),0,false,false,0,64,p,Jt false Z,Jt false d,[]⟩=r at*;clear F I E ac;have J:Jh (w.alloc (.cells (spC false Z t d p a b f N) 47)) w.heap.size (spC false Z t d p a b f N) 47:=WP w _;have u:Hid (Below w.heap.size w (w.alloc (.cells (spC false Z t d p a b f N) 47))):=H (Below.all (Jc _ _) _);have C:=H J;clear J;unfold spC at u|-;go_enter func44,ntmps44
 go_wp2_with fail
 have o:=C.out;unfold spC at o;obtain⟨e,A⟩:∃b,b=w.heap.size:=⟨_,rfl⟩
 rw[<-A] at o|-;have ah:=H A;clear A;generalize w.alloc _=Q at*;have G:e<Q.heap.size:=(Ja o).1;have X:=H o;clear o C;refine QN [.h,.h,.h,.h,.h,.h,.h,.h,.h,.h,.h,.h,.h,.h,.h,.h,.h,.h,.h] [] (λ_ _=>True) [] [(.w,19),(.q,20),(.q,21),(.q,22),(.q,23)] K K K K ?_;apply Exists.intro;refine⟨λz B=>?_,by simp,?_⟩
 ·have y:=(B.block e G).trans X;have ap:e<z.heap.size:=Jd G B.size;have ak:Jg z e 34 (Jq p):=WF 34 y;have am:=CO (P:=prog) 111 _ underlying111 (some ⟨e,1,none⟩) 4 16 O;have ag:=CO (P:=prog) 111 _ underlying111 (some ⟨e,18,none⟩) 4 16 O;have ae:Jv z e 1 4=(#[Z 0,Z 1,Z 2,Z 3]:Array Value):=by rw[JG _ _ _ _ _ _ _ y];simp
  have ad:Jv z e 18 4=(#[d 0,d 1,d 2,d 3]:Array Value):=by rw[JG _ _ _ _ _ _ _ y];simp
  clear y B;exact JcB
 simp only[Qp,Ja0,Jbf];refine⟨λv V w2=>∃l j,v=.tuple #[.slice l r.length j,Jk 0]/\J8 w2 Q.heap.size 1 l r.length j (r.map (.int .u8))/\Ji Q w2,?_,λ_ _=>Ap,(λh=>by cases h),?_⟩
 ·rintro V rfl;refine⟨rfl,λao Y=>.inr ⟨53,#[.agg (Jcp (Jl (20+(n:Int))) false false (64:Int) p Z d:Array Value)],K,?_⟩⟩;obtain⟨⟨x,rfl⟩,-⟩:=Y;refine(ab x.world).mono ?_;rintro an w2 ⟨l,j,rfl,U,g⟩;exact⟨_,rfl,l,j,rfl,U.mono x.below.size,Wx x.below g⟩
 rintro v ⟨T,aa,l,j,rfl,-⟩;refine⟨.slice l r.length j,⟨rfl,λ_=>K⟩,?_⟩;refine⟨.int .i64 0,⟨rfl,λ_=>K⟩,?_⟩;refine⟨.slice l r.length j,⟨rfl,λ_=>K⟩,?_⟩;refine⟨.int .i64 0,⟨rfl,λ_=>K⟩,?_⟩;rintro af ⟨W,S,L,M,R⟩;obtain⟨rfl,rfl⟩:l=W/\j=S:=by simpa using L
 clear L aa T;go_wp2_with fail
 go_ret2;exact⟨_,_,rfl,M.mono u.size,u.trans (R.mono u.size)⟩
open Go.RowKit
theorem XI (u:Nat)(h:u<65536):(Lib.decDigits u).length<=65536:=by
 rw[<-CE u u (Je _)];have:=Aw 10 u u (Je _);omega
theorem UA {j:Array Oper}{w:World}{C:Oper}{a:Act}{g:List Bj}(l:List (List UInt8))(b:Nat)(e:Array (Nat×Operand))(o:C.op=.buildSlice 76 b e)(R:Region.wanted C (yielded j a.tmps)=true)
 (M:0<b/\b<=100)(r:Instr.fill (λi=>some (i*1,1)) ((Array.range (b*1)).map ((Value.string ⟨#[]⟩).cells[·%(Value.string ⟨#[]⟩).cells.size]!)) (e.map λ(i,x)=>(i,a.eval x)).toList=some (l.map Bv).toArray):
 B2 prog j w g C (LO (.cells (l.map Bv).toArray 9) b) a:=by
 obtain⟨p,n,s,d,t⟩:=WT DL;refine LA.f (ER 76 9 b e o R _ p (.string ⟨#[]⟩) K n s ?_ ?_ ?_) g
 ·rw[d];omega
 ·rw[d];omega
 ·rw[d];exact r
theorem R3 (G:Bool)(Z:Nat->Int)(t:Bool)(e:Nat->Int)(p a b:Nat)(u:JS ⟨G,Z,t,e,p,a,b⟩=true)(r:U8 Z)(s:U8 e)(aj:p<256)(ha:a<65536)(g:b<65536)(w:World)(C:Env w):
 Jf 28 #[.agg (kyC G Z t e p a b)] w (Jz w (.string ⟨(XX 32 [Lib.decDigits p,QX G Z,Lib.decDigits a,QX t e,Lib.decDigits b]).toArray⟩)):=by
 have y:=λw=>X4 G Z t e p a b w
 rw[u] at y;have W:=H C;have T:=H (λw h=>FM p O w h);have X:=H (λw h=>FM a O w h);have aa:=H (λw h=>FM b O w h);have M:=H (λw h=>N3 G Z r w h);have Y:=H (λw h=>N3 t e s w h)
 have F:(XX 32 [Lib.decDigits p,QX G Z,Lib.decDigits a,QX t e,Lib.decDigits b]).length<=140737488355328:=by
  refine WJ (Zo 32 100000 _ λq E=>?_) (by simp);simp only[YE,YF,YG] at E;rcases E with rfl|rfl|rfl|rfl|rfl
  ·have:=XI p O;omega
  ·have:=CM G Z r;omega
  ·have:=XI a O;omega
  ·have:=CM t e s;omega
  ·have:=XI b O;omega
 have Q:=H (λI w N=>join_any (some ⟨I,0,none⟩) 5 5 I [Lib.decDigits p,QX G Z,Lib.decDigits a,QX t e,Lib.decDigits b] 32 w N F D);clear u C r s F;generalize XX 32 [Lib.decDigits p,QX G Z,Lib.decDigits a,QX t e,Lib.decDigits b]=ac at*;generalize Lib.decDigits p=S at*;generalize QX G Z=J at*;generalize Lib.decDigits a=P at*;generalize QX t e=U at*;generalize Lib.decDigits b=V at*;unfold kyC adV at*;go_enter func28,ntmps28
 go_wp2_with fail
 refine Calls.later (y _) ?_;intro x;have j:Jh x.world w.heap.size (kyC G Z t e p a b) 30:=(x.below.block _ (by simp)).trans (WP w (.cells (kyC G Z t e p a b) 30));have o:Hid (Ji w x.world):=H (Ww (Below.all (Jc _ _) _));go_wp2_with fail
 generalize x.world=af at*;have z:=H j;clear j;refine Xf 18 [true] K K K ?_;apply Exists.intro;refine⟨λl v=>?_,?_⟩
 ·have u:Jh l w.heap.size (kyC G Z t e p a b) 30:=(v.block _ (Ja z).1).trans z;have al:w.heap.size<l.heap.size:=(Ja u).1;have n:=H ((W.below o).below v);have ah:Jv l w.heap.size 0 17=(Jbr G Z:Array Value):=by rw[JG _ _ _ _ _ _ _ u];simp[kyC]
  have ad:Jv l w.heap.size 17 17=(Jbr t e:Array Value):=by rw[JG _ _ _ _ _ _ _ u];simp[kyC]
  have ai:Jg l w.heap.size 34 (Jq (p:Int)):=WF 34 u;have ae:Jg l w.heap.size 35 (Jl (a:Int)):=WF 35 u;have an:Jg l w.heap.size 36 (Jl (b:Int)):=WF 36 u;clear u v;simp only[Y6,Y7];repeat go_big_quiet_step (fail)
  go_big_quiet_step ((go_at_call 71;exact JD (T _ (n.below (J2.below _)))))
  repeat go_big_quiet_step (fail)
  go_big_quiet_step ((go_at_call 72;exact JD (M _ (n.below (J2.below _)))))
  repeat go_big_quiet_step (fail)
  go_big_quiet_step ((go_at_call 71;exact JD (X _ (n.below (J2.below _)))))
  repeat go_big_quiet_step (fail)
  go_big_quiet_step ((go_at_call 72;exact JD (Y _ (n.below (J2.below _)))))
  repeat go_big_quiet_step (fail)
  go_big_quiet_step ((go_at_call 71;exact JD (aa _ (n.below (J2.below _)))))
  exact Jaa rfl
 ·simp only[Y8,Y9,Jba,Jbb,Yy,Jau];refine Xz _ (UA [S,J,P,U,V] 5 _ rfl rfl D (by simp[Instr.fill,Value.cells,go_sem,Bv])) (ZM _ _) ?_;rintro ap ab aq ag ak-⟨ao,rfl,-⟩;refine ZD ?_;intro d g A;have B:=((A _ (Yf ..)).2 d (Jc _ _)).2.2;clear A;have L:=H (AA B (by simp[maxLen]));clear B;go_wp2_with fail
  refine Jb (Q _ d L) ?_;rintro am ar ⟨rfl,R⟩;go_wp2_with fail
  go_ret;exact .mk rfl ((o.trans (g.mono o.size)).trans (R.mono (WJ o.size g.size)))
theorem Cr (k:Ky)(A:Fz k)(w:World)(n:Env w):
 Jf 28 #[.agg (kyV k)] w (Jz w (.string ⟨(QY k).toArray⟩)):=by
 obtain⟨G,Z,t,d,p,a,b⟩:=k;obtain⟨e,j,E,ha,g⟩:=A;simp only at e j E ha g;cases hr:JS ⟨G,Z,t,d,p,a,b⟩ with
 |false=>rw[G2 hr];exact Tq G Z t d p a b hr w
 |true=>
  obtain⟨p,rfl⟩:=Jaq E.1;obtain⟨a,rfl⟩:=Jaq ha.1;obtain⟨b,rfl⟩:=Jaq g.1;rw[CX hr];simp only[Cq,Jak];exact R3 G Z t d p a b hr e j O O O w n
open Go.RowKit
structure Bx (W w:World)(fs:List (Nat×Obj)):Prop where
 all:∀b o,(b,o)∈fs->w.heap[b]? =some o
 out:Ji W w
theorem Bx.start (W:World):Bx W W []:=⟨λ_ _ h=>absurd h YF,Jc _ _⟩
theorem Bx.go {e w d:World}{j:List (Nat×Obj)}(h:Bx e w j)(g:Ji w d):Bx e d j:=
 ⟨λb a W=>(g.block b (Ja (h.all b a W)).1).trans (h.all b a W),Wx h.out g⟩
theorem Bx.box {a w:World}{g:List (Nat×Obj)}(h:Bx a w g)(S:Array Value)(t:TypeId):Bx a (w.alloc (.cells S t)) ((w.heap.size,.cells S t (0,0))::g):=by
 have d:=h.go (Below.all (Jc _ _) (.cells S t));refine⟨λb C W=>?_,d.out⟩;rcases YE.1 W with e|W
 ·cases e;exact WP w _
 ·exact d.all b C W
theorem Bx.at {J w:World}{A:List (Nat×Obj)}(h:Bx J w A)(i:Nat){b:Nat}{o:Obj}(I:A[i]? =some (b,o)):w.heap[b]? =some o:=h.all b o (YD I)
theorem Bx.lt {e w:World}{d:List (Nat×Obj)}(h:Bx e w d)(i:Nat){b:Nat}{g:Obj}(F:d[i]? =some (b,g)):b<w.heap.size:=(Ja (h.at i F)).1
theorem Bx.part {e w:World}{d:List (Nat×Obj)}(h:Bx e w d)(i:Nat){b n:Nat}{S:Array Value}{t:TypeId}(F:d[i]? =some (b,.cells S t (0,0)))(z:S.size=n):Jv w b 0 n=S:=Ju (h.at i F) z
theorem Bx.row {e w:World}{d:List (Nat×Obj)}(h:Bx e w d)(i:Nat){b n:Nat}{S:Array Value}{t:TypeId}(F:d[i]? =some (b,.cells S t (0,0)))(z:(S.size==n)=true):JE w b n=true:=by rw[Jw _ _ _ _ _ (h.at i F)];exact z
theorem Bx.cell {o w:World}{d:List (Nat×Obj)}(h:Bx o w d)(i J:Nat){b:Nat}{S:Array Value}{t:TypeId}{v:Value}(F:d[i]? =some (b,.cells S t (0,0)))(j:S[J]? =some v):Jg w b J v:=by rw[WN _ _ _ _ _ _ (h.at i F)];exact j
theorem Bx.ret {a:Program}{f:FuncId}{j:Array Value}{p w:World}{b:List (Nat×Obj)}{v:Value}{o:Ending->World->Prop}(h:Bx p w b)(I:Calls a f j w (Jz w v))(k:∀d,Ji w d->Hid (Bx p d b)->o (.returned v) d):Calls a f j w o:=
 I.mono λe d ⟨r,g⟩=>by subst r;exact k d g (H (h.go g))
def OBx (z:World)(b:Nat)(S:Array Value)(t:TypeId)(w:World):Prop:=Jh w b S t/\Below b z w/\∀i,i≠b->i<z.heap.size->w.heap[i]? =z.heap[i]?
theorem OBx.set {z w:World}{b:Nat}{cs:Array Value}{t:TypeId}(h:OBx z b cs t w)(k:Nat)(v:Value):OBx z b (cs.setIfInBounds k v) t (w.setCell ⟨b,k,none⟩ v):=
 ⟨Jae _ b k cs t v h.1,h.2.1.setCell (Je _) _,λi F M=>(WK _ _ _ _ F).trans (h.2.2 i F M)⟩
theorem OBx.later {e w d:World}{b:Nat}{S:Array Value}{t:TypeId}(h:OBx e b S t w)(g:Ji w d):OBx e b S t d:=by
 have M:b<w.heap.size:=(Ja h.1).1;exact⟨(g.block b M).trans h.1,h.2.1.trans (g.mono (Ja1 M)),λi F j=>(g.block i (Jd j h.2.1.size)).trans (h.2.2 i F j)⟩
open Go.RowKit
theorem JdH{p:Prop}(h:p:=by
 go_wp2_with fail
 exact Bt (k:=kyZ) _ rfl rfl (Ju (Oo _ _ o.box) rfl) (by rw[<-E.out,n.out];rfl) (Below.all (Below.all (below_setRow o.bel (Je _) _) _) _)):p:=h
structure A6 (w0:World)(t:TypeId)(g off:Nat)(L:List (List UInt8))(w:World):Prop where
 box:Jh w w0.heap.size (kyV kyZ) t
 row:∀j x,L[j]? =some x->Jg w g (off+j) (Bv x)
 bel:Ji w0 w
theorem A6.go {a w d:World}{t:TypeId}{r b:Nat}{j:List (List UInt8)}(h:A6 a t r b j w)(g:Ji w d):A6 a t r b j d:=
 ⟨(g.block _ (Ja h.box).1).trans h.box,λJ x e=>(g.cell (Jar w _ (h.row J x e))).trans (h.row J x e),h.bel.trans (g.mono h.bel.size)⟩
theorem A6.at {w0 w:World}{t:TypeId}{g o:Nat}{L:List (List UInt8)}(h:A6 w0 t g o L w)(j:Nat){x:List UInt8}(A:L[j]? =some x):Jg w g (o+j) (.string ⟨x.toArray⟩):=h.row j x A
theorem A6.lt {b w:World}{t:TypeId}{e d:Nat}{g:List (List UInt8)}(h:A6 b t e d g w):b.heap.size<w.heap.size:=(Ja h.box).1
theorem A6.free {b w:World}{t:TypeId}{r d:Nat}{e:List (List UInt8)}(h:A6 b t r d e w):JE w b.heap.size 37=true:=by rw[Jw _ _ _ _ _ h.box];rfl
theorem A6.alloc {d w:World}{t:TypeId}{j g:Nat}{o:List (List UInt8)}(h:A6 d t j g o w)(A:Obj):A6 d t j g o (w.alloc A):=h.go (Below.all (Jc _ _) A)
theorem CY (x:List UInt8):∃(G:Bool) (U:Nat->Int) (e:Int),DQ (Zb x)=.tuple #[adV G U,Jk e]/\((e=0/\Zb x=some (G,U)/\U8 U)\/(e=40/\Zb x=none)):=by
 rcases Lt x with ⟨G,U,j,-,Y,a⟩|⟨j,a⟩
 ·exact⟨G,U,0,a,.inl ⟨rfl,j,Y⟩⟩
 ·exact⟨false,λ_=>0,40,a,.inr ⟨rfl,j⟩⟩
theorem Oo {w:World}{b:Nat}{cs g:Array Value}{t:TypeId}(a d:Obj)(h:Jh w b g t):Jh (((w.setRow b cs).alloc a).alloc d) b cs t:=by
 have j:=JC (cs:=cs) h;have e:=(Ja j).1;have y:=(YU _ a e).trans j;exact(YU _ d (Ja y).1).trans y
theorem V3 {d:Type}{l:List d}(h:l.length=5):∃a b c N e,l=[a,b,c,N,e]:=by
 match l,h with
 |[a,b,c,N,e],_=>exact⟨a,b,c,N,e,rfl⟩
theorem Bt {w d:World}{a:Array Value}{k:Ky}{err:Int}(b:Value)(E:a.getD 2 undef=.pointer (some ⟨w.heap.size,0,none⟩))(Y:a.getD 3 undef=.int .i64 err)(I:Jv d w.heap.size 0 37=kyV k)(e:b=.tuple #[.agg (kyV k),Jk err])(g:Ji w d):
 bodyPost prog f22 (Jz w b) .ret { tmps:=a,defers:=[] } d:=
 Jag (v:=.tuple #[.agg (kyV k),Jk err]) (QS rfl _ _ w.heap.size 37 _ _ underlying30 rfl N6 E Y (kyV k) I rfl) rfl (.mk e.symm g)
theorem AR (l:List UInt8)(w:World)(aI:l.length<=1000)(aE:Env w):Jf 22 #[.string ⟨l.toArray⟩] w (Jz w (As (XB l))):=by
 have r:=H aE;have al:Hid (∀w,Env w->Jf 57 #[.string ⟨l.toArray⟩,.string ⟨#[32]⟩] w (CG w (Ql 32 l))):=H (λw h=>Gf ⟨l.toArray⟩ 32 w h (by simpa[ByteArray.size] using aI));have aV:Hid ((Ql 32 l).length<=1001):=H (by have:=Xy 32 l;omega);have p:Hid (∀au∈Ql 32 l,au.length<=1000):=H (λau aY=>by have:=ZK 32 _ au aY;omega);have aS:Jh (w.alloc (.cells (kyV kyZ) 30)) w.heap.size (kyV kyZ) 30:=WP w _;have aF:Below w.heap.size w (w.alloc (.cells (kyV kyZ) 30)):=Below.all (Jc _ _) _;have L:=H aS;have C:=H aF;clear aS aF;unfold kyV kyZ kyC at L C;simp only at L C;obtain⟨Q,ae⟩:∃Q,Ql 32 l=Q:=⟨_,rfl⟩
 rw[ae] at al aV p;have ad:=H ae;clear ae aI aE;obtain⟨ax,an⟩:∃ax,As (XB l)=ax:=⟨_,rfl⟩
 rw[an];have E:=H an;clear an;go_enter func22,ntmps22
 go_wp2_with fail
 generalize w.alloc _=bw at*;refine Jb (al _ (r.below C)) ?_;rintro e w2 ⟨bM,bI,rfl,av,ai⟩;have ay:=H av;have ah:=H (C.trans (ai.mono C.size));have W:=H ((ai.block _ (Ja L).1).trans L);clear av ai L C;by_cases P:Q.length=5
 rotate_left
 ·have bD:¬((Q.length:Int)=5):=O;have n:Hid (XB l=none):=H (Ii (by rw[ad.out];exact P));have bf:JE w2 w.heap.size 37=true:=by rw[Jw _ _ _ _ _ W.out];rfl
  clear P;go_wp2_with fail
  exact Bt (k:=kyZ) _ rfl rfl (Xx W) (by rw[<-E.out,n.out];rfl) (below_setRow ah (Je _) _)
 obtain⟨v,t,A,s,z,rfl⟩:=V3 P;clear P;have bc:=p.out v (by simp);have be:=p.out t (by simp);have bj:=p.out A (by simp);have a8:=p.out s (by simp);have bh:=p.out z (by simp);have a4:Hid (∀d,Env d->Jf 58 #[.string ⟨v.toArray⟩,Jk 10,Jk 8] d (L6 d 256 v)):=H λd h=>Uz ⟨v.toArray⟩ (by simp[ByteArray.size];omega) d h
 have aZ:Hid (∀d,Env d->Jf 58 #[.string ⟨A.toArray⟩,Jk 10,Jk 16] d (L6 d 65536 A)):=H λd h=>On ⟨A.toArray⟩ (by simp[ByteArray.size];omega) d h
 have aX:Hid (∀d,Env d->Jf 58 #[.string ⟨z.toArray⟩,Jk 10,Jk 16] d (L6 d 65536 z)):=H λd h=>On ⟨z.toArray⟩ (by simp[ByteArray.size];omega) d h
 have aN:Hid (∀d,Env d->Jf 59 #[.string ⟨t.toArray⟩] d (Jz d (DQ (Zb t)))):=H λd h=>Lq ⟨t.toArray⟩ d (by simp[ByteArray.size];omega) h
 have ar:Hid (∀d,Env d->Jf 59 #[.string ⟨s.toArray⟩] d (Jz d (DQ (Zb s)))):=H λd h=>Lq ⟨s.toArray⟩ d (by simp[ByteArray.size];omega) h
 obtain⟨g,Z,bN,aB,aG⟩:=CY t;obtain⟨b,a,bJ,aA,aW⟩:=CY s;rw[aB] at aN;rw[aA] at ar;have bg:=H aG;have bq:=H aW;clear bc be bj a8 bh aB aA aG aW p aV al;obtain⟨bm,bi,bl,br,a0,aC,-⟩:=ay.here (by simp);subst bl;have ac:Hid (A6 w 30 bm bi [v,t,A,s,z] w2):=H ⟨W.out,λbs x a3=>aC bs (Bv x) (by simp only[Yk,a3];rfl),ah.out⟩;clear aC ay W ah br a0;have aP:=ac.at 0 (x:=v) rfl;rw[Jal] at aP;simp only[Yy,Jau];go_wp2_with fail
 refine Jb (a4 _ (r.below ac.bel)) ?_;rintro e bO ⟨u0,bK,rfl,aO,aU,aQ⟩;have Y:=H (And.intro aO aU);clear aO aU;have R:=H (ac.go aQ);clear aQ aP ac;have ba:=R.at 2 (x:=A) rfl;go_wp2_with fail
 refine Jb (aZ _ (r.below R.bel)) ?_;rintro e w4 ⟨u2,bx,rfl,aK,aR,az⟩;have U:=H (And.intro aK aR);clear aK aR;have S:=H (R.go az);clear az ba R;have bo:=S.at 4 (x:=z) rfl;go_wp2_with fail
 refine Jb (aX _ (r.below S.bel)) ?_;rintro e bH ⟨u4,bC,rfl,aH,aM,aT⟩;have ab:=H (And.intro aH aM);clear aH aM;have T:=H (S.go aT);clear aT bo S;have a6:=T.at 1 (x:=t) rfl;go_wp2_with fail
 refine Jb (aN _ (r.below T.bel)) ?_;rintro e ag ⟨rfl,J⟩;have M:=H ((T.go J).alloc (.cells (Jbr g Z) 27));have I:=H (WP ag (.cells (Jbr g Z) 27));clear J a6 T;unfold adV at ar|-;have bd:=M.at 3 (x:=s) rfl;go_wp2_with fail
 obtain⟨ao,J⟩:∃aq,aq=ag.heap.size:=⟨_,rfl⟩
 rw[<-J] at I|-;clear J bd;generalize ag.alloc _=bA at*;refine Jb (ar _ (r.below M.bel)) ?_;rintro e j ⟨rfl,N⟩;have bL:=H ((M.go N).alloc (.cells (Jbr b a) 27));have aD:=H ((YU _ (.cells (Jbr b a) 27) (Jd (Ja I).1 N.size)).trans ((N.block ao (Ja I).1).trans I));have bE:=H (WP j (.cells (Jbr b a) 27));have bp:ao<(j.alloc (.cells (Jbr b a) 27)).heap.size:=(Ja aD).1;have bk:Jv (j.alloc (.cells (Jbr b a) 27)) ao 0 17=(Jbr g Z:Array Value):=Ju aD rfl;have o:=H (M.go N);have bb:w.heap.size<j.heap.size:=o.lt;have a5:JE j w.heap.size 37=true:=o.free;have bB:(u0:Int)%256=u0:=by have:=Y.1;omega
 have bF:IntKind.u16.wrap (u2:Int)=u2:=by rw[Jbi];have:=U.1;omega
 have bv:IntKind.u16.wrap (u4:Int)=u4:=by rw[Jbi];have:=ab.1;omega
 have a2:JE ((j.alloc (.cells (Jbr b a) 27)).alloc (.cells (Jbs g b (Jq u0) (Jl u2) (Jl u4) Z a) 30)) w.heap.size 37=true:=(o.alloc _ |>.alloc _).free;clear N M I;rcases bg.out with ⟨rfl,B,V⟩|⟨rfl,B⟩;rotate_left
 ·have n:Hid (XB l=none):=H (Ij ad B);clear B;exact JdH
 rcases bq.out with ⟨rfl,G,aw⟩|⟨rfl,G⟩;rotate_left
 ·have n:Hid (XB l=none):=H (Ik ad G);have bG:=H V;clear B G V;exact JdH
 have X:=H (L5 ad B G u0 u2 u4 Y.1 U.1 ab.1 Y.2 U.2 ab.2);have bn:Hid (Fz ⟨g,Z,b,a,u0,u2,u4⟩):=H ⟨V,aw,(by show(0:Int)<=u0/\(u0:Int)<256;have:=Y.1;omega),(by show(0:Int)<=u2/\(u2:Int)<65536;have:=U.1;omega),(by show(0:Int)<=u4/\(u4:Int)<65536;have:=ab.1;omega)⟩;have a7:Hid (∀d,Env d->Jf 28 #[.agg (Jbs g b (Jq u0) (Jl u2) (Jl u4) Z a:Array Value)] d (Jz d (.string ⟨(QY ⟨g,Z,b,a,u0,u2,u4⟩).toArray⟩))):=H λd h=>Cr _ bn d h
 clear B G V aw;generalize QY ⟨g,Z,b,a,u0,u2,u4⟩=am at*;have ak:=H ((o.alloc (.cells (Jbr b a) 27)).alloc (.cells (Jbs g b (Jq u0) (Jl u2) (Jl u4) Z a) 30));have af:=WP (j.alloc (.cells (Jbr b a) 27)) (.cells (Jbs g b (Jq u0) (Jl u2) (Jl u4) Z a) 30);rw[show(j.alloc (.cells (Jbr b a) 27)).heap.size=j.heap.size+1 by simp] at af;have aa:=H af;clear af;go_wp2_with fail
 generalize (j.alloc _).alloc _=bz at*;obtain⟨ap,aL⟩:∃aq,aq=j.heap.size+1:=⟨_,rfl⟩
 rw[<-aL] at aa|-;have bu:Hid (w.heap.size≠ap):=H O;clear aL a2 a5 bb bk bp;refine Jb (a7 _ (r.below ak.bel)) ?_;rintro e aJ ⟨rfl,aj⟩;have F:=H (ak.go aj);have a9:=H ((aj.block ap (Ja aa).1).trans aa);clear aj ak aa;have bt:Jv aJ ap 0 37=(Jbs g b (Jq u0) (Jl u2) (Jl u4) Z a:Array Value):=Ju a9 rfl;have bf:JE aJ w.heap.size 37=true:=F.free;by_cases u:am=l
 ·have y:=X.out;rw[YH u] at y;have n:=H y;have a1:(am==l)=true:=by simpa using u
  clear y u X;go_wp2_with fail
  exact Bt (k:=⟨g,Z,b,a,u0,u2,u4⟩) _ rfl rfl (Ju (JC F.box) rfl) (by rw[<-E.out,n.out];rfl) (below_setRow F.bel (Je _) _)
 ·have y:=X.out;rw[Yw u] at y;have n:=H y;have a1:(am==l)=false:=by simpa using u
  clear y u X;go_wp2_with fail
  exact Bt (k:=kyZ) _ rfl rfl (Ju (JC F.box) rfl) (by rw[<-E.out,n.out];rfl) (below_setRow F.bel (Je _) _)
end
end Go.Proofs.YtkgjbipfhhjlpaaGreatDoor
