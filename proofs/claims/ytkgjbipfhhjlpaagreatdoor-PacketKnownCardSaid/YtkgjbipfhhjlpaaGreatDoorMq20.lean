import Derived.Test.YtkgjbipfhhjlpaaGreatDoorMq19
set_option linter.unusedVariables false
set_option linter.unusedSimpArgs false
set_option maxRecDepth 100000
set_option maxHeartbeats 32000000
namespace Go.Proofs.YtkgjbipfhhjlpaaGreatDoor
open Go.Proofs.Tryz
section
open Go.RowKit
theorem JcX{p:Prop}(h:p:=by
 cases E;exact⟨_,rfl,rfl,λw2 R=>K⟩):p:=h
theorem JdE{p:Prop}(h:p:=by
 rintro v ae ax-w2 ⟨-,r⟩;have:=(r.2.2 l (λh=>ay h.symm) aa)
 exact⟨(WH (a:=⟨l,36,none⟩) this).trans aC,(WH (a:=⟨l,37,none⟩) this).trans aB⟩):p:=h
theorem Jd5{p:Prop}(h:p:=by
 cases E;exact⟨_,rfl,rfl,λw2 R=>by simp[execOp,go_sem,R.2]⟩):p:=h
theorem Jd9{p:Prop}(h:p:=by
 have y:=(Ja j.2).1;exact⟨j.1,O,(YU _ _ y).trans j.2⟩):p:=h
theorem Jea{p:Prop}(h:p:=by
 cases E;exact⟨_,rfl,rfl,λw2 R=>by simp[execOp,go_sem,R]⟩):p:=h
theorem Im (n:Nat):madeCells #[Value.int .u8 0] n=((JP n).map (.int .u8)).toArray:=by
 apply Array.ext
 ·simp[madeCells,JP]
 ·intro i j y;simp[madeCells,JP,Nat.mod_one]
theorem Zs (w:World)(n:Nat)(B:n<=2048):(Instr.makeSlice 22 (Jk n) (Jk n)).run prog w=.ok (.slice (some ⟨w.heap.size,0,none⟩) n n) (w.alloc (.cells ((JP n).map (.int .u8)).toArray 5)):=by
 obtain⟨j,e,g,b,d⟩:=WT Bits.infoU8;have h:=run_makeSlice (P:=prog) (w:=w) 22 5 j (Jq 0) underlying22 e g .i64 .i64 (n:Int) (n:Int) O (YC _) (by rw[b];simp;omega) (by rw[d];omega) O;rw[b,JaA,Jak] at h;rw[h,<-Im];rfl
theorem Cs (b:Operand->Value)(w:World){n:Option Tmp}{j:TypeId}{d:String}{g:Array Edge}{r:Option (Nat×Bool)}{t:TypeId}{x Q:Operand}{vx vy v:Value}{w2:World}(P:b x=vx)(e:b Q=vy)
 (u:(Instr.makeSlice t vx vy).run prog w=.ok v w2):(execOp b ⟨n,.makeSlice t x Q,j,d,g,r⟩).run prog w=.ok (.value v) w2:=by
 simp[execOp,P,e,u,Result.andThen]
theorem Zf {w:World}{b n:Nat}{t:TypeId}(h:Jh w b ((JP n).map (.int .u8)).toArray t)(B:n<=2048):JA w (some ⟨b,0,none⟩) n n (JP n):=by
 refine⟨by simp[JP],Je _,by unfold maxLen;omega,λv d=>?_,.inr ⟨b,0,rfl,(Ja h).1,λJ e=>?_⟩⟩
 ·rw[(JaJ.1 d).2];decide
 ·rw[WM,WN _ _ _ _ _ _ h];simp[JP,e]
theorem Pv (G:Bool)(Z E:Nat->Int)(p a b f:Int)(N:Nat)(L:N<=2048)(al:J1 p=false)(ag:Qb p=false)(w:World):
 Jf 43 #[.agg (spC G Z G E p a b f N)] w (JO w (JP N) 0):=by
 have ao:Hid (∀d,Jf 35 #[p] d (Jz d (.bool (J1 p)))):=H (λd=>Zr p d);have an:Hid (∀d,Jf 36 #[p] d (Jz d (.bool (Qb p)))):=H (λd=>XT p d);rw[al] at ao;rw[ag] at an;have ac:=H L;have u:Jh (w.alloc (.cells (spC G Z G E p a b f N) 47)) w.heap.size (spC G Z G E p a b f N) 47:=WP w _;have z:Hid (Below w.heap.size w (w.alloc (.cells (spC G Z G E p a b f N) 47))):=H (Below.all (Jc _ _) _);clear L al ag;unfold spC at z u|-;go_enter func43,ntmps43
 go_wp2_with fail
 obtain⟨e,S⟩:∃b,b=w.heap.size:=⟨_,rfl⟩
 have aR:=H S;rw[<-S] at u|-;clear S;generalize w.alloc _=Q at*;have r:e<Q.heap.size:=(Ja u).1;have B:=H u;clear u;have ah:Jg Q e 34 (Jq p):=WF 34 B;refine QZ [.h,.h,.h,.h,.h] [(0,1,0),(1,1,0),(2,1,0)] (λ_ d=>Jg d e 34 (Jq p)) [1] [(.w,5),(.q,6)] [(.w,8)] 7 (.cells ZR 149) K K rfl rfl ⟨λ_=>rfl,λ_ _=>K⟩ K K ?_;apply Exists.intro;refine⟨λX n=>?_,?_,?_⟩
 ·have I:=(n.block e r).trans B;have aO:e<X.heap.size:=Jd r n.size;have ak:Jg X e 34 (Jq p):=WF 34 I;have aP:Jg X e 38 (Jk N):=WF 38 I;clear I n;exact JcB
 ·intro q aa aQ P;simp only[YE,YF,YG] at aa;rcases aa with rfl|rfl|rfl
  ·cases P;exact⟨_,rfl,rfl,λw2 R=>K⟩
  ·cases P;exact⟨_,rfl,rfl,λw2 R=>K⟩
  ·cases P;exact⟨_,rfl,rfl,λw2 R=>by simp[execOp,go_sem,R]⟩
 simp only[Qp,Ja0,Jbf];refine⟨λv o w2=>∃T,v=.slice (some ⟨T,0,none⟩) N N/\Q.heap.size<=T/\Ji Q w2/\Jh w2 T ((JP N).map (.int .u8)).toArray 5/\∀l,o=some l->Q.heap.size<=l/\l≠T/\Jh w2 l ZR 149,?_,?_,?_,?_⟩
 ·rintro o-;refine JX.made rfl ?_;rintro d ⟨⟨x,rfl⟩,M⟩;refine⟨_,_,Cs _ _ (vx:=.int .i64 N) (vy:=.int .i64 N) K K (Zs x.world N ac),x.world.heap.size,rfl,x.below.size,Below.all x.below _,WP _ _,λl W=>?_⟩;have j:=(M l W)
  exact Jd9
 ·rintro v o aS-w2 ⟨T,-,-,Y,-⟩;exact(JK Y r _ rfl).trans ah
 ·rintro-v w2 ⟨T,j,y,Y,A,-⟩;have az:=(Ja A).1;exact⟨T,j,y,Below.all Y _,(YU _ _ az).trans A,λl W=>by cases W;exact⟨Y.size,O,WP _ _⟩⟩
 rintro v ⟨aN,aH,T,rfl,-⟩;refine⟨.agg (X0 p 0 0 0 0 0 (some ⟨T,0,none⟩) N N),⟨rfl,λ_=>K⟩,?_⟩;intro g;refine⟨λv o w2=>v=undef/\(Q.heap.size<=g/\Q.heap.size<=T/\g≠T/\Ji Q w2/\Jh w2 T ((JP N).map (.int .u8)).toArray 5/\Jh w2 g (X0 p 0 0 0 0 0 (some ⟨T,0,none⟩) N N) 149),?_,λ_ _=>J4 rfl,(λh=>by cases h),?_⟩
 ·rintro o rfl;refine JX.skip rfl ?_;rintro d ⟨aE,aK,y,Y,A,M⟩;obtain rfl:T=aE:=by simpa using aK
  obtain⟨aj,U,n⟩:=M g rfl;exact⟨_,Ao _ d g (X0 p 0 0 0 0 0 (some ⟨T,0,none⟩) N N) K K (by rw[Jw _ _ _ _ _ n];rfl) rfl rfl,aj,y,U,Y.trans (Jy _ aj),(Ja5 _ g _ _ (λh=>U h.symm)).trans A,JC n⟩
 rintro v ⟨aB,ar,rfl,-⟩;rintro s ⟨-,aU,ay,U,C,J,V⟩;have ax:=H C;have aI:=H V;have aw:=H J;have ai:=H ((C.block e r).trans B);have aF:e<s.heap.size:=Jd r C.size;have av:g<s.heap.size:=(Ja V).1;have aq:T<s.heap.size:=(Ja J).1;have aV:g≠e:=O;have ak:Jg s e 34 (Jq p):=WF 34 ai;clear C V J aN aB aH ar B ah;unfold XK;simp only[Act.put,Ja6,Ja7,Ja8];go_wp2_with fail
 refine Jb (ao s) ?_;rintro aM ad ⟨rfl,t⟩;have aC:=H (Wx ax t);have aJ:=H ((t.block e aF).trans ai);have af:=H ((t.block g av).trans aI);have ab:=H ((t.block T aq).trans aw);have aD:Jg ad e 34 (Jq p):=WF 34 aJ;clear t ak;go_wp2_with fail
 refine Jb (an ad) ?_;rintro aM aA ⟨rfl,F⟩;have au:=H (Wx aC F);have aG:=H ((F.block g (Ja af).1).trans af);have aL:=H ((F.block T (Ja ab).1).trans ab);have aT:Jg aA g 11 (.slice (some ⟨T,0,none⟩) N N):=WF 11 aG;clear F aD;go_wp2_with fail
 go_ret2;have ae:((JP N).map (.int .u8:Int->Value)).length=N:=by simp[JP]
 have ap:(JP N).length=N:=by simp[JP]
 have am:=AA aL (by rw[ae];have:=ac.out;unfold maxLen;omega);rw[ae] at am;exact⟨some ⟨T,0,none⟩,N,by rw[ap];rfl,by rw[ap];exact am.mono (WJ z.size ay),z.trans (au.mono z.size)⟩
theorem G3 (G:Bool)(Z e:Nat->Int)(p a b f:Int)(N:Nat)(aY:N<=2048)(a9:U8 Z)(bb:U8 e)(bj:J1 p=true)(aA:List Int->List Int)(bi:∀(V:Option Addr) (n W:Nat) (a8:List Int) (t z:Option Addr) (k s u:Nat) (w:World),JA w V n W a8->JA w t k s (Jt G Z)->JA w z k u (Jt G e)->(k=4\/k=16)->n<=60000->Jf 94 #[.agg (X0 p a b f 0 0 V n W),.slice t k s,.slice z k u] w (JO w (aA a8) 0))(w:World):
 Jf 43 #[.agg (spC G Z G e p a b f N)] w (JO w (aA (JP N)) 0):=by
 have bl:Hid (∀d,Jf 35 #[p] d (Jz d (.bool (J1 p)))):=H (λd=>Zr p d);have bY:Hid (∀d,Jf 36 #[p] d (Jz d (.bool (Qb p)))):=H (λd=>XT p d);rw[bj] at bl;obtain⟨S,aT⟩:∃S,aA (JP N)=S:=⟨_,rfl⟩
 have bG:Hid (∀(V:Option Addr) (n W:Nat) (t z:Option Addr) (k s u:Nat) (w:World),JA w V n W (JP N)->JA w t k s (Jt G Z)->JA w z k u (Jt G e)->(k=4\/k=16)->n<=60000->Jf 94 #[.agg (X0 p a b f 0 0 V n W),.slice t k s,.slice z k u] w (JO w S 0)):=H (λV n W t z k s u w bB j y Y ab=>by rw[<-aT];exact bi V n W _ t z k s u w bB j y Y ab);rw[aT];have aG:=H aY;have ap:Jh (w.alloc (.cells (spC G Z G e p a b f N) 47)) w.heap.size (spC G Z G e p a b f N) 47:=WP w _;have ar:Hid (Below w.heap.size w (w.alloc (.cells (spC G Z G e p a b f N) 47))):=H (Below.all (Jc _ _) _);clear aY bj bi aT;unfold spC at ar ap|-;go_enter func43,ntmps43
 go_wp2_with fail
 obtain⟨l,aJ⟩:∃b,b=w.heap.size:=⟨_,rfl⟩
 have bU:=H aJ;rw[<-aJ] at ap|-;clear aJ;generalize w.alloc _=Q at*;have ac:l<Q.heap.size:=(Ja ap).1;have au:=H ap;clear ap;have ba:Jg Q l 34 (Jq p):=WF 34 au;refine QZ [.h,.h,.h,.h,.h] [(0,1,0),(1,1,0),(2,1,0)] (λ_ d=>Jg d l 34 (Jq p)) [1] [(.w,5),(.q,6)] [(.w,8)] 7 (.cells ZR 149) K K rfl rfl ⟨λ_=>rfl,λ_ _=>K⟩ K K ?_;apply Exists.intro;refine⟨λB A=>?_,?_,?_⟩
 ·have I:=(A.block l ac).trans au;have a3:l<B.heap.size:=Jd ac A.size;have bh:Jg B l 34 (Jq p):=WF 34 I;have bQ:Jg B l 38 (Jk N):=WF 38 I;clear I A;exact JcB
 ·intro q P a5 E;simp only[YE,YF,YG] at P;rcases P with rfl|rfl|rfl
  ·exact JcX
  ·exact JcX
  ·exact Jea
 simp only[Qp,Ja0,Jbf];refine⟨λv C w2=>∃T,v=.slice (some ⟨T,0,none⟩) N N/\Q.heap.size<=T/\Ji Q w2/\Jh w2 T ((JP N).map (.int .u8)).toArray 5/\∀X,C=some X->Q.heap.size<=X/\X≠T/\Jh w2 X ZR 149,?_,?_,?_,?_⟩
 ·rintro C-;refine JX.made rfl ?_;rintro d ⟨⟨x,rfl⟩,aH⟩;refine⟨_,_,Cs _ _ (vx:=.int .i64 N) (vy:=.int .i64 N) K K (Zs x.world N aG),x.world.heap.size,rfl,x.below.size,Below.all x.below _,WP _ _,λX aO=>?_⟩;have j:=(aH X aO)
  exact Jd9
 ·rintro v C ax-w2 ⟨T,-,-,Y,-⟩;exact(JK Y ac _ rfl).trans ba
 ·rintro-v w2 ⟨T,j,y,Y,ab,-⟩;have bv:=(Ja ab).1;exact⟨T,j,y,Below.all Y _,(YU _ _ bv).trans ab,λX aO=>by cases aO;exact⟨Y.size,O,WP _ _⟩⟩
 rintro v ⟨bN,bH,T,rfl,-⟩;refine⟨.agg (X0 p 0 0 0 0 0 (some ⟨T,0,none⟩) N N),⟨rfl,λ_=>K⟩,?_⟩;intro o;refine⟨λv C w2=>v=undef/\(Q.heap.size<=o/\Q.heap.size<=T/\o≠T/\Ji Q w2/\Jh w2 T ((JP N).map (.int .u8)).toArray 5/\Jh w2 o (X0 p 0 0 0 0 0 (some ⟨T,0,none⟩) N N) 149),?_,λ_ _=>J4 rfl,(λh=>by cases h),?_⟩
 ·rintro C rfl;refine JX.skip rfl ?_;rintro d ⟨bC,bJ,y,Y,ab,aH⟩;obtain rfl:T=bC:=by simpa using bJ
  obtain⟨be,an,A⟩:=aH o rfl;exact⟨_,Ao _ d o (X0 p 0 0 0 0 0 (some ⟨T,0,none⟩) N N) K K (by rw[Jw _ _ _ _ _ A];rfl) rfl rfl,be,y,an,Y.trans (Jy _ be),(Ja5 _ o _ _ (λh=>an h.symm)).trans ab,JC A⟩
 rintro v ⟨bz,bn,rfl,-⟩;rintro ak ⟨-,bk,bu,an,aw,aE,aM⟩;have a6:=H aw;have bd:=H aM;have a4:=H aE;have aP:=H ((aw.block l ac).trans au);have bc:l<ak.heap.size:=Jd ac aw.size;have a2:o<ak.heap.size:=(Ja aM).1;have aX:T<ak.heap.size:=(Ja aE).1;have ay:o≠l:=O;have bh:Jg ak l 34 (Jq p):=WF 34 aP;clear aw aM aE bN bz bH bn au ba;unfold XK;simp only[Act.put,Ja6,Ja7,Ja8];go_wp2_with fail
 refine Jb (bl ak) ?_;rintro ag L ⟨rfl,ao⟩;have a7:=H (Wx a6 ao);have af:=H ((ao.block l bc).trans aP);have aL:=H ((ao.block o a2).trans bd);have aF:=H ((ao.block T aX).trans a4);clear ao bh aP bd a4 a6;go_wp2_with fail
 have aa:l<L.heap.size:=(Ja af).1;have bw:o<L.heap.size:=(Ja aL).1;have a0:T<L.heap.size:=(Ja aF).1;refine QN [.h,.h,.h,.h,.h,.h,.h,.h,.h] [(3,1,0),(4,1,0),(5,1,0),(6,2,0),(7,2,0)] (λ_ d=>Jg d l 36 (Jl b)/\Jg d l 37 (Jq f)) [2] [(.w,9),(.q,10),(.w,11),(.q,12),(.w,13)] K K K K ?_;apply Exists.intro;refine⟨λB A=>?_,?_,?_⟩
 ·have I:=(A.block l aa).trans af;have bR:Jg B l 35 (Jl a):=WF 35 I;have bS:Jg B l 36 (Jl b):=WF 36 I;have bP:Jg B l 37 (Jq f):=WF 37 I;have a3:l<B.heap.size:=Jd aa A.size;clear I A;exact JcB
 ·intro q P a5 E;simp only[YE,YF,YG] at P;rcases P with rfl|rfl|rfl|rfl|rfl
  ·exact JcX
  ·exact JcX
  ·cases E;exact⟨_,rfl,rfl,λw2 R=>by simp[execOp,go_sem,R.1]⟩
  ·exact JcX
  ·exact Jd5
 have aC:Jg L l 36 (Jl b):=WF 36 af;have aB:Jg L l 37 (Jq f):=WF 37 af;simp only[Qp,Ja0,Jbf];refine⟨λv ae w2=>v=undef/\OBx L o (X0 p a 0 0 0 0 (some ⟨T,0,none⟩) N N) 149 w2,?_,?_,(λh=>by cases h),?_⟩
 ·rintro C rfl;refine JX.skip rfl ?_;rintro d ⟨⟨x,rfl⟩,-⟩;have r:OBx L o (X0 p 0 0 0 0 0 (some ⟨T,0,none⟩) N N) 149 x.world:=OBx.later ⟨aL.out,Jc _ _,λ_ _ _=>rfl⟩ x.below;have am:Jg x.world o 1 (Jl 0):=WF 1 r.1;have aq:=Jad _ _ 1 _ _ r.1;refine⟨_,?_,r.set 1 (Jl a)⟩;simp[execOp,go_sem,am,aq]
 ·exact JdE
 rintro v ⟨aR,aQ,rfl,-⟩;refine⟨.pointer (some ⟨o,2,none⟩),⟨rfl,λ_=>K⟩,?_⟩;refine⟨λv ae w2=>v=undef/\OBx L o (X0 p a b 0 0 0 (some ⟨T,0,none⟩) N N) 149 w2,?_,?_,(λh=>by cases h),?_⟩
 ·rintro C rfl;refine JX.skip rfl ?_;rintro d ⟨-,r⟩;have am:Jg d o 2 (Jl 0):=WF 2 r.1;have aq:=Jad _ _ 2 _ _ r.1;refine⟨_,?_,r.set 2 (Jl b)⟩;simp[execOp,go_sem,am,aq]
 ·exact JdE
 rintro v ⟨aU,aI,rfl,-⟩;refine⟨.pointer (some ⟨o,5,none⟩),⟨rfl,λ_=>K⟩,?_⟩;refine⟨λv ae w2=>v=undef/\OBx L o (X0 p a b f 0 0 (some ⟨T,0,none⟩) N N) 149 w2,?_,λ_ _=>J4 rfl,(λh=>by cases h),?_⟩
 ·rintro C rfl;refine JX.skip rfl ?_;rintro d ⟨-,r⟩;have am:Jg d o 5 (Jq 0):=WF 5 r.1;have aq:=Jad _ _ 5 _ _ r.1;refine⟨_,?_,r.set 5 (Jq f)⟩;simp[execOp,go_sem,am,aq]
 rintro v ⟨az,aV,rfl,-⟩;rintro J ⟨-,r⟩;have aK:=H r.1;have aS:=H ((r.2.2 l (λh=>ay h.symm) aa).trans af);have bp:=H ((r.2.2 T (λh=>an h.symm) a0).trans aF);have aN:Hid (Ji Q J):=H (a7.trans (r.2.1.mono bk));clear r aC aB aR aU az aQ aI aV aL af aF a7 aa bw a0;have bV:Hid ((X0 p a b f 0 0 (some ⟨T,0,none⟩) N N).size=12):=H rfl;simp only[Act.put,Ja6,Ja7,Ja8];go_wp2_with fail
 have ai:l<J.heap.size:=(Ja aS).1;have aj:o<J.heap.size:=(Ja aK).1;obtain⟨F,av⟩:∃m,(Jt G Z).length=m:=⟨_,rfl⟩
 have a1:(Jt G e).length=F:=by rw[JB,<-av,JB]
 have bD:Hid (F=4\/F=16):=H (by rw[<-av,JB];cases G;exact .inl rfl;exact .inr rfl);have bF:Hid (∀d,Jf 64 #[adV G Z] d (AY d F (Jt G Z))):=H λd=>(bytes_any G Z d).mono λ_ _ h=>h.n av (JL a9 G)
 have bs:Hid (∀d,Jf 64 #[adV G e] d (AY d F (Jt G e))):=H λd=>(bytes_any G e d).mono λ_ _ h=>h.n a1 (JL bb G)
 have bI:=H (Zf bp aG);refine QN [.h,.h,.h,.h,.w,.h,.h,.h] [(0,2,0),(5,1,0),(6,1,0),(7,1,0)] (λ_ d=>Jv d o 0 12=X0 p a b f 0 0 (some ⟨T,0,none⟩) N N/\Jv d l 17 17=(Jbr G e:Array Value)) [2] [(.w,4),(.w,8),(.w,9),(.q,10),(.q,11),(.q,12),(.q,13)] K K K K ?_;apply Exists.intro;refine⟨λB A=>?_,?_,?_⟩
 ·have I:=(A.block l ai).trans aS;have bg:=(A.block o aj).trans aK;have a3:l<B.heap.size:=Jd ai A.size;have br:o<B.heap.size:=Jd aj A.size;have bL:Jv B o 0 12=X0 p a b f 0 0 (some ⟨T,0,none⟩) N N:=Ju bg rfl
  have bW:∀x:J2 B,Xj prog 149 x.world (Jj o)=.ok (.value (.agg (X0 p a b f 0 0 (some ⟨T,0,none⟩) N N))) x.world:=λx=>by
   have ag:Jv x.world o 0 12=_:=(J2.part x o 0 12 br).trans bL;rw[Af x.world o 0 (by rw[ag];rfl),ag]
  have bX:Jv B l 0 17=(Jbr G Z:Array Value):=by rw[JG _ _ _ _ _ _ _ I];simp
  have bT:Jv B l 17 17=(Jbr G e:Array Value):=by rw[JG _ _ _ _ _ _ _ I];simp
  clear I bg A;exact JcB
 ·intro q P a5 E;simp only[YE,YF,YG] at P;rcases P with rfl|rfl|rfl|rfl
  ·cases E;exact⟨_,rfl,rfl,λw2 R=>GN _ w2 o _ K R.1 rfl⟩
  ·exact JcX
  ·exact JcX
  ·exact Jd5
 have aD:Jv J o 0 12=X0 p a b f 0 0 (some ⟨T,0,none⟩) N N:=Ju aK rfl;have aW:Jv J l 17 17=(Jbr G e:Array Value):=by rw[JG _ _ _ _ _ _ _ aS.out];simp
 simp only[Qp,Ja0,Jbf];refine⟨λv C w2=>∃t s,v=.slice t F s/\JA w2 t F s (Jt G Z)/\Ji J w2,?_,?_,(λh=>by cases h),?_⟩
 ·rintro C rfl;refine⟨rfl,λd ah=>.inr ⟨64,#[adV G Z],K,?_⟩⟩;obtain⟨⟨x,rfl⟩,-⟩:=ah;refine(bF x.world).mono ?_;rintro ag w2 ⟨t,s,rfl,j,g⟩;exact⟨_,rfl,t,s,rfl,j,Wx x.below g⟩
 ·rintro v ae ax-w2 ⟨t,s,-,-,g⟩;exact⟨(J0 g o 0 12 aj).trans aD,(J0 g l 17 17 ai).trans aW⟩
 rintro v ⟨aR,aQ,t,s,rfl,-⟩;refine⟨λv C w2=>∃z u,v=.slice z F u/\JA w2 t F s (Jt G Z)/\JA w2 z F u (Jt G e)/\Ji J w2,?_,?_,(λh=>by cases h),?_⟩
 ·rintro C rfl;refine⟨rfl,λd ah=>.inr ⟨64,#[adV G e],K,?_⟩⟩;obtain⟨bE,bq,ad,j,al⟩:=ah;obtain⟨rfl,rfl⟩:t=bE/\s=bq:=by simpa using ad
  refine(bs d).mono ?_;rintro ag w2 ⟨z,u,rfl,y,g⟩;exact⟨_,rfl,z,u,rfl,j.below g,y,Wx al g⟩
 ·rintro v ae ax-w2 ⟨z,u,-,-,-,g⟩;exact⟨(J0 g o 0 12 aj).trans aD,(J0 g l 17 17 ai).trans aW⟩
 rintro v ⟨aU,aI,z,u,rfl,-⟩;refine⟨λv C w2=>∃U M,v=.tuple #[.slice U S.length M,Jk 0]/\J8 w2 J.heap.size 1 U S.length M (S.map (.int .u8))/\Ji J w2,?_,λ_ _=>J4 rfl,(λh=>by cases h),?_⟩
 ·rintro C rfl;refine⟨rfl,λd ah=>.inr ⟨94,#[.agg (X0 p a b f 0 0 (some ⟨T,0,none⟩) N N),.slice t F s,.slice z F u],K,?_⟩⟩;obtain⟨bM,bA,ad,j,y,al⟩:=ah;obtain⟨rfl,rfl⟩:z=bM/\u=bA:=by simpa using ad
  refine(bG _ N N t z F s u d (bI.below al) j y bD (by have:=aG.out;omega)).mono ?_;rintro ag w2 ⟨U,M,rfl,bK,g⟩;exact⟨_,rfl,U,M,rfl,bK.mono al.size,Wx al g⟩
 rintro v ⟨az,aV,U,M,rfl,-⟩;refine⟨.slice U S.length M,⟨rfl,λ_=>K⟩,?_⟩;refine⟨.int .i64 0,⟨rfl,λ_=>K⟩,?_⟩;refine⟨.slice U S.length M,⟨rfl,λ_=>K⟩,?_⟩;refine⟨.int .i64 0,⟨rfl,λ_=>K⟩,?_⟩;rintro bO ⟨bx,bm,ad,aZ,bf⟩;obtain⟨rfl,rfl⟩:U=bx/\M=bm:=by simpa using ad
 have bt:=H aZ;have bo:=H bf;clear ad aR aU az aQ aI aV aD aW av a1 aZ bf ai aj bc a2 aX ac an ay bk bu a9 bb;simp only[Act.put,Ja6,Ja7,Ja8];go_wp2_with fail
 go_ret2;exact⟨_,_,rfl,bt.mono (WJ ar.size aN.size),ar.trans ((aN.trans (bo.mono aN.size)).mono ar.size)⟩
theorem Pw (G:Bool)(Z l:Nat->Int)(p a b f:Int)(N:Nat)(a2:N<=2048)(be:U8 Z)(bg:U8 l)(bm:J1 p=false)(aL:Qb p=true)(g:Jn b)(w:World):
 Jf 43 #[.agg (spC G Z G l p a b f N)] w (JO w (DR p (b/256) (b%256) 0 (JP N) (Jt G Z) (Jt G l)) 0):=by
 have bp:Hid (∀d,Jf 35 #[p] d (Jz d (.bool (J1 p)))):=H (λd=>Zr p d);have bo:Hid (∀d,Jf 36 #[p] d (Jz d (.bool (Qb p)))):=H (λd=>XT p d);have bd:p=1\/p=58:=by simpa[Qb] using aL
 rw[bm] at bp;rw[aL] at bo;have aC:=H g;have bM:Hid (∀(ap:Option Addr) (an aq:Nat) (u A:Option Addr) (k s z:Nat) (w:World),JA w ap an aq (JP N)->JA w u k s (Jt G Z)->JA w A k z (Jt G l)->(k=4\/k=16)->an<=60000->Jf 94 #[.agg (X0 p 0 0 0 (b/256) (b%256) ap an aq),.slice u k s,.slice A k z] w (JO w (DR p (b/256) (b%256) 0 (JP N) (Jt G Z) (Jt G l)) 0)):=H (λap an aq u A k s z w bG j y Y X=>RW p (b/256) (b%256) ap an aq (JP N) u A k s z _ _ w bG j y Y X O O bd);generalize DR p (b/256) (b%256) 0 (JP N) (Jt G Z) (Jt G l)=ac at*;have aG:=H a2;have ao:Jh (w.alloc (.cells (spC G Z G l p a b f N) 47)) w.heap.size (spC G Z G l p a b f N) 47:=WP w _;have ar:Hid (Below w.heap.size w (w.alloc (.cells (spC G Z G l p a b f N) 47))):=H (Below.all (Jc _ _) _);clear a2 bm aL g bd;unfold spC at ar ao|-;go_enter func43,ntmps43
 go_wp2_with fail
 obtain⟨n,aI⟩:∃b,b=w.heap.size:=⟨_,rfl⟩
 have b0:=H aI;rw[<-aI] at ao|-;clear aI;generalize w.alloc _=Q at*;have aa:n<Q.heap.size:=(Ja ao).1;have av:=H ao;clear ao;have bf:Jg Q n 34 (Jq p):=WF 34 av;refine QZ [.h,.h,.h,.h,.h] [(0,1,0),(1,1,0),(2,1,0)] (λ_ d=>Jg d n 34 (Jq p)) [1] [(.w,5),(.q,6)] [(.w,8)] 7 (.cells ZR 149) K K rfl rfl ⟨λ_=>rfl,λ_ _=>K⟩ K K ?_;apply Exists.intro;refine⟨λF r=>?_,?_,?_⟩
 ·have J:=(r.block n aa).trans av;have a8:n<F.heap.size:=Jd aa r.size;have aA:Jg F n 34 (Jq p):=WF 34 J;have bX:Jg F n 38 (Jk N):=WF 38 J;clear J r;exact JcB
 ·intro q M ba E;simp only[YE,YF,YG] at M;rcases M with rfl|rfl|rfl
  ·exact JcX
  ·exact JcX
  ·exact Jea
 simp only[Qp,Ja0,Jbf];refine⟨λv C w2=>∃T,v=.slice (some ⟨T,0,none⟩) N N/\Q.heap.size<=T/\Ji Q w2/\Jh w2 T ((JP N).map (.int .u8)).toArray 5/\∀W,C=some W->Q.heap.size<=W/\W≠T/\Jh w2 W ZR 149,?_,?_,?_,?_⟩
 ·rintro C-;refine JX.made rfl ?_;rintro d ⟨⟨x,rfl⟩,aH⟩;refine⟨_,_,Cs _ _ (vx:=.int .i64 N) (vy:=.int .i64 N) K K (Zs x.world N aG),x.world.heap.size,rfl,x.below.size,Below.all x.below _,WP _ _,λW aR=>?_⟩;have j:=(aH W aR)
  exact Jd9
 ·rintro v C aS-w2 ⟨T,-,-,Y,-⟩;exact(JK Y aa _ rfl).trans bf
 ·rintro-v w2 ⟨T,j,y,Y,X,-⟩;have bC:=(Ja X).1;exact⟨T,j,y,Below.all Y _,(YU _ _ bC).trans X,λW aR=>by cases aR;exact⟨Y.size,O,WP _ _⟩⟩
 rintro v ⟨bV,bN,T,rfl,-⟩;refine⟨.agg (X0 p 0 0 0 0 0 (some ⟨T,0,none⟩) N N),⟨rfl,λ_=>K⟩,?_⟩;intro o;refine⟨λv C w2=>v=undef/\(Q.heap.size<=o/\Q.heap.size<=T/\o≠T/\Ji Q w2/\Jh w2 T ((JP N).map (.int .u8)).toArray 5/\Jh w2 o (X0 p 0 0 0 0 0 (some ⟨T,0,none⟩) N N) 149),?_,λ_ _=>J4 rfl,(λh=>by cases h),?_⟩
 ·rintro C rfl;refine JX.skip rfl ?_;rintro d ⟨bI,bQ,y,Y,X,aH⟩;obtain rfl:T=bI:=by simpa using bQ
  obtain⟨bj,al,r⟩:=aH o rfl;exact⟨_,Ao _ d o (X0 p 0 0 0 0 0 (some ⟨T,0,none⟩) N N) K K (by rw[Jw _ _ _ _ _ r];rfl) rfl rfl,bj,y,al,Y.trans (Jy _ bj),(Ja5 _ o _ _ (λh=>al h.symm)).trans X,JC r⟩
 rintro v ⟨bE,bt,rfl,-⟩;rintro ai ⟨-,bn,bB,al,ax,aE,aO⟩;have bb:=H ax;have bi:=H aO;have a9:=H aE;have aT:=H ((ax.block n aa).trans av);have bh:n<ai.heap.size:=Jd aa ax.size;have a7:o<ai.heap.size:=(Ja aO).1;have a1:T<ai.heap.size:=(Ja aE).1;have aY:o≠n:=O;have aA:Jg ai n 34 (Jq p):=WF 34 aT;clear ax aO aE bV bE bN bt av bf;unfold XK;simp only[Act.put,Ja6,Ja7,Ja8];go_wp2_with fail
 refine Jb (bp ai) ?_;rintro e ae ⟨rfl,am⟩;have bc:=H (Wx bb am);have az:=H ((am.block n bh).trans aT);have aK:=H ((am.block o a7).trans bi);have aF:=H ((am.block T a1).trans a9);clear am aA aT bi a9 bb;have P:n<ae.heap.size:=(Ja az).1;have au:o<ae.heap.size:=(Ja aK).1;have ad:T<ae.heap.size:=(Ja aF).1;have aA:Jg ae n 34 (Jq p):=WF 34 az;go_wp2_with fail
 refine Jb (bo ae) ?_;rintro e V ⟨rfl,U⟩;have a6:=H (Wx bc U);have ak:=H ((U.block n P).trans az);have aN:=H ((U.block o au).trans aK);have aX:=H ((U.block T ad).trans aF);clear U aA az aK aF bc P au ad;go_wp2_with fail
 have P:n<V.heap.size:=(Ja ak).1;have au:o<V.heap.size:=(Ja aN).1;have ad:T<V.heap.size:=(Ja aX).1;have bO:IntKind.u8.wrap (b/256)=b/256:=by rw[Jbj];have:=aC.out;omega
 have bk:IntKind.u8.wrap b=b%256:=by rw[Jbj]
 have br:=aC.1;have bq:=aC.2;refine QN [.h,.h,.h,.h,.h,.h,.h,.h,.h,.h] [(5,1,0),(6,1,0),(7,1,0),(8,1,0)] (λ_ d=>Jg d n 36 (Jl b)) [1] [(.w,10),(.q,11),(.w,12)] K K K K ?_;apply Exists.intro;refine⟨λF r=>?_,?_,?_⟩
 ·have J:=(r.block n P).trans ak;have bY:Jg F n 36 (Jl b):=WF 36 J;have a8:n<F.heap.size:=Jd P r.size;clear J r;exact JcB
 ·intro q M ba E;simp only[YE,YF,YG] at M;rcases M with rfl|rfl|rfl|rfl
  ·exact JcX
  ·exact JcX
  ·exact Jea
  ·cases E;exact⟨_,rfl,rfl,λw2 R=>by simp[execOp,go_sem,bk]⟩
 have a4:Jg V n 36 (Jl b):=WF 36 ak;simp only[Qp,Ja0,Jbf];refine⟨λv ay w2=>v=undef/\OBx V o (X0 p 0 0 0 (b/256) 0 (some ⟨T,0,none⟩) N N) 149 w2,?_,?_,(λh=>by cases h),?_⟩
 ·rintro C rfl;refine JX.skip rfl ?_;rintro d ⟨⟨x,rfl⟩,-⟩;have t:OBx V o (X0 p 0 0 0 0 0 (some ⟨T,0,none⟩) N N) 149 x.world:=OBx.later ⟨aN.out,Jc _ _,λ_ _ _=>rfl⟩ x.below;have aM:Jg x.world o 9 (Jq 0):=WF 9 t.1;have aP:=Jad _ _ 9 _ _ t.1;refine⟨_,?_,t.set 9 (Jq (b/256))⟩;simp[execOp,go_sem,aM,aP]
 ·rintro v ay aS-w2 ⟨-,t⟩;have:=(t.2.2 n (λh=>aY h.symm) P)
  exact(WH (a:=⟨n,36,none⟩) this).trans a4
 rintro v ⟨aV,aU,rfl,-⟩;refine⟨.pointer (some ⟨o,10,none⟩),⟨rfl,λ_=>K⟩,?_⟩;refine⟨λv ay w2=>v=undef/\OBx V o (X0 p 0 0 0 (b/256) (b%256) (some ⟨T,0,none⟩) N N) 149 w2,?_,λ_ _=>J4 rfl,(λh=>by cases h),?_⟩
 ·rintro C rfl;refine JX.skip rfl ?_;rintro d ⟨-,t⟩;have aM:Jg d o 10 (Jq 0):=WF 10 t.1;have aP:=Jad _ _ 10 _ _ t.1;refine⟨_,?_,t.set 10 (Jq (b%256))⟩;simp[execOp,go_sem,aM,aP]
 rintro v ⟨aB,aZ,rfl,-⟩;rintro I ⟨-,t⟩;have aJ:=H t.1;have aW:=H ((t.2.2 n (λh=>aY h.symm) P).trans ak);have bv:=H ((t.2.2 T (λh=>al h.symm) ad).trans aX);have aQ:Hid (Ji Q I):=H (a6.trans (t.2.1.mono bn));clear t a4 aV aB aU aZ aN ak aX a6 P au ad bO bk br bq;have b1:Hid ((X0 p 0 0 0 (b/256) (b%256) (some ⟨T,0,none⟩) N N).size=12):=H rfl;simp only[Act.put,Ja6,Ja7,Ja8];go_wp2_with fail
 have ag:n<I.heap.size:=(Ja aW).1;have ah:o<I.heap.size:=(Ja aJ).1;obtain⟨B,aw⟩:∃m,(Jt G Z).length=m:=⟨_,rfl⟩
 have a5:(Jt G l).length=B:=by rw[JB,<-aw,JB]
 have bJ:Hid (B=4\/B=16):=H (by rw[<-aw,JB];cases G;exact .inl rfl;exact .inr rfl);have bL:Hid (∀d,Jf 64 #[adV G Z] d (AY d B (Jt G Z))):=H λd=>(bytes_any G Z d).mono λ_ _ h=>h.n aw (JL be G)
 have bz:Hid (∀d,Jf 64 #[adV G l] d (AY d B (Jt G l))):=H λd=>(bytes_any G l d).mono λ_ _ h=>h.n a5 (JL bg G)
 have bP:=H (Zf bv aG);refine QN [.h,.h,.h,.h,.w,.h,.h,.h] [(0,2,0),(5,1,0),(6,1,0),(7,1,0)] (λ_ d=>Jv d o 0 12=X0 p 0 0 0 (b/256) (b%256) (some ⟨T,0,none⟩) N N/\Jv d n 17 17=(Jbr G l:Array Value)) [2] [(.w,4),(.w,8),(.w,9),(.q,10),(.q,11),(.q,12),(.q,13)] K K K K ?_;apply Exists.intro;refine⟨λF r=>?_,?_,?_⟩
 ·have J:=(r.block n ag).trans aW;have bl:=(r.block o ah).trans aJ;have a8:n<F.heap.size:=Jd ag r.size;have bx:o<F.heap.size:=Jd ah r.size;have bS:Jv F o 0 12=X0 p 0 0 0 (b/256) (b%256) (some ⟨T,0,none⟩) N N:=Ju bl rfl
  have b2:∀x:J2 F,Xj prog 149 x.world (Jj o)=.ok (.value (.agg (X0 p 0 0 0 (b/256) (b%256) (some ⟨T,0,none⟩) N N))) x.world:=λx=>by
   have e:Jv x.world o 0 12=_:=(J2.part x o 0 12 bx).trans bS;rw[Af x.world o 0 (by rw[e];rfl),e]
  have b3:Jv F n 0 17=(Jbr G Z:Array Value):=by rw[JG _ _ _ _ _ _ _ J];simp
  have bZ:Jv F n 17 17=(Jbr G l:Array Value):=by rw[JG _ _ _ _ _ _ _ J];simp
  clear J bl r;exact JcB
 ·intro q M ba E;simp only[YE,YF,YG] at M;rcases M with rfl|rfl|rfl|rfl
  ·cases E;exact⟨_,rfl,rfl,λw2 R=>GN _ w2 o _ K R.1 rfl⟩
  ·exact JcX
  ·exact JcX
  ·exact Jd5
 have aD:Jv I o 0 12=X0 p 0 0 0 (b/256) (b%256) (some ⟨T,0,none⟩) N N:=Ju aJ rfl;have a0:Jv I n 17 17=(Jbr G l:Array Value):=by rw[JG _ _ _ _ _ _ _ aW.out];simp
 simp only[Qp,Ja0,Jbf];refine⟨λv C w2=>∃u s,v=.slice u B s/\JA w2 u B s (Jt G Z)/\Ji I w2,?_,?_,(λh=>by cases h),?_⟩
 ·rintro C rfl;refine⟨rfl,λd af=>.inr ⟨64,#[adV G Z],K,?_⟩⟩;obtain⟨⟨x,rfl⟩,-⟩:=af;refine(bL x.world).mono ?_;rintro e w2 ⟨u,s,rfl,j,g⟩;exact⟨_,rfl,u,s,rfl,j,Wx x.below g⟩
 ·rintro v ay aS-w2 ⟨u,s,-,-,g⟩;exact⟨(J0 g o 0 12 ah).trans aD,(J0 g n 17 17 ag).trans a0⟩
 rintro v ⟨aV,aU,u,s,rfl,-⟩;refine⟨λv C w2=>∃A z,v=.slice A B z/\JA w2 u B s (Jt G Z)/\JA w2 A B z (Jt G l)/\Ji I w2,?_,?_,(λh=>by cases h),?_⟩
 ·rintro C rfl;refine⟨rfl,λd af=>.inr ⟨64,#[adV G l],K,?_⟩⟩;obtain⟨bK,bw,ab,j,aj⟩:=af;obtain⟨rfl,rfl⟩:u=bK/\s=bw:=by simpa using ab
  refine(bz d).mono ?_;rintro e w2 ⟨A,z,rfl,y,g⟩;exact⟨_,rfl,A,z,rfl,j.below g,y,Wx aj g⟩
 ·rintro v ay aS-w2 ⟨A,z,-,-,-,g⟩;exact⟨(J0 g o 0 12 ah).trans aD,(J0 g n 17 17 ag).trans a0⟩
 rintro v ⟨bU,bH,A,z,rfl,-⟩;refine⟨λv C w2=>∃S L,v=.tuple #[.slice S ac.length L,Jk 0]/\J8 w2 I.heap.size 1 S ac.length L (ac.map (.int .u8))/\Ji I w2,?_,λ_ _=>J4 rfl,(λh=>by cases h),?_⟩
 ·rintro C rfl;refine⟨rfl,λd af=>.inr ⟨94,#[.agg (X0 p 0 0 0 (b/256) (b%256) (some ⟨T,0,none⟩) N N),.slice u B s,.slice A B z],K,?_⟩⟩;obtain⟨bT,bF,ab,j,y,aj⟩:=af;obtain⟨rfl,rfl⟩:A=bT/\z=bF:=by simpa using ab
  refine(bM _ N N u A B s z d (bP.below aj) j y bJ (by have:=aG.out;omega)).mono ?_;rintro e w2 ⟨S,L,rfl,bR,g⟩;exact⟨_,rfl,S,L,rfl,bR.mono aj.size,Wx aj g⟩
 rintro v ⟨aB,aZ,S,L,rfl,-⟩;refine⟨.slice S ac.length L,⟨rfl,λ_=>K⟩,?_⟩;refine⟨.int .i64 0,⟨rfl,λ_=>K⟩,?_⟩;refine⟨.slice S ac.length L,⟨rfl,λ_=>K⟩,?_⟩;refine⟨.int .i64 0,⟨rfl,λ_=>K⟩,?_⟩;rintro bW ⟨bD,bs,ab,a3,U⟩;obtain⟨rfl,rfl⟩:S=bD/\L=bs:=by simpa using ab
 have bA:=H a3;have bu:=H U;clear ab aV bU aB aU bH aZ aD a0 aw a5 a3 U ag ah bh a7 a1 aa al aY bn bB be bg;simp only[Act.put,Ja6,Ja7,Ja8];go_wp2_with fail
 go_ret2;exact⟨_,_,rfl,bA.mono (WJ ar.size aQ.size),ar.trans ((aQ.trans (bu.mono aQ.size)).mono ar.size)⟩
def Xu (n a:Int)(b d:List Int):List Int:=Bits.be4 1610612736++be2 n++[a,64]++b++d
theorem KK {x:Bool}{Z l g j:Nat->Int}{p a b n f:Int}{r:Bool}(d:∀i,i<16->l i=Z i)(e:∀i,i<16->j i=g i):Xl ⟨x,l,j,p,a,b,n,f,r⟩=Xl ⟨x,Z,g,p,a,b,n,f,r⟩:=by
 unfold Xl;simp only;exact JcW
structure VI (s:Sp):Prop where
 right:JS s.k=true
 S:Qr s.k.s s.k.S=true
 T:Qr s.k.t s.k.T=true
 st:s.k.s=s.k.t
 plain:Cc s.k.p s.k.a s.k.b=true
 chain:s.k.s=true->Qe s.k.p=false
 flags:s.k.p≠6->s.f=0
 n0:0<=s.n
 n1:s.n<=2048
 len:(Qk s++JH s).length<=2048
 is:spL s=Qk s++JH s
theorem ZT {G:Sp}(a:Qy G=0):VI G:=by
 have e:spL G=Qk G++JH G:=by unfold spL;rw[YH a]
 unfold Qy at a;by_cases j:X9 G=true
 ·rw[YH j] at a;cases a
 rw[Yw j] at a;by_cases y:2048<G.n
 ·rw[YH y] at a;cases a
 rw[Yw y] at a;by_cases Y:2048<(Qk G++JH G).length
 ·rw[YH Y] at a;cases a
 unfold X9 at j;simp only[Bool.or_eq_true,YO,JaW,YS,bne_iff_ne,not_or,not_and,Bool.not_eq_false,Bool.not_eq_true,Decidable.not_not] at j;obtain⟨u,I,d,B⟩:=j;have b:=u;unfold JS at b;simp only[YO,Y2] at b;exact⟨u,b.1,b.2.1,b.2.2.1,b.2.2.2,I,λh=>Decidable.byContradiction λg=>h (d g),O,O,O,e⟩
theorem Tr (s:Sp):(JP s.n.toNat).length=s.n.toNat:=by simp[JP]
theorem CZ {s:Sp}(z:s.k.s=false):Qk s=Q7 ⟨0,20+((JH s).length:Int),0,false,false,0,64,s.k.p,Jt false s.k.S,Jt false s.k.T,[]⟩:=by
 unfold Qk;rw[z,Yw D];rfl
theorem C1 {s:Sp}(z:s.k.s=true):Qk s=Xu ((JH s).length:Nat) s.k.p (Jt true s.k.S) (Jt true s.k.T):=by
 unfold Qk;rw[z,YH rfl];rfl
theorem Ct (h:IpH)(a:h.src.length=4)(d:h.dst.length=4)(b:h.opt=[]):(Q7 h).length=20:=by
 unfold Q7 Qc;simp[be2,a,d,b]
theorem Z7 (n d:Int)(a b:List Int)(g:a.length=16)(e:b.length=16):(Xu n d a b).length=40:=by
 simp[Xu,be2,Bits.be4,g,e]
theorem Zg {s:Sp}:(Qk s).length=if s.k.s=true then 40 else 20:=by
 cases hs:s.k.s
 ·rw[CZ hs,Ct _ (JB _ _) (JB _ _) rfl];rfl
 ·rw[C1 hs,Z7 _ _ _ _ (JB _ _) (JB _ _)];rfl
def BJ (s:Sp)(cut:Nat):List Int:=(if s.k.s=true then Xu (8+cut:Nat) 44 (Jt true s.k.S) (Jt true s.k.T)++[s.k.p,0,0,1,0,0,0,7] else Q7 ⟨0,20+(cut:Int),0,false,true,0,64,s.k.p,Jt false s.k.S,Jt false s.k.T,[]⟩)++(JH s).take cut
def BK (s:Sp)(cut:Nat):List Int:=(if s.k.s=true then Xu (8+((JH s).length-cut):Nat) 44 (Jt true s.k.S) (Jt true s.k.T)++[s.k.p,0,((cut/256:Nat):Int),((cut%256:Nat):Int),0,0,0,7] else Q7 ⟨0,20+(((JH s).length-cut:Nat):Int),0,false,false,((cut/8:Nat):Int),64,s.k.p,Jt false s.k.S,Jt false s.k.T,[]⟩)++(JH s).drop cut
theorem JcY{p:Prop}(h:p:=by
 split
 ·refine Jx (Jx (Jx (Jx (Jx (JN _) (JN _)) ?_) (JN _)) ?_) L
  ·intro v d;simp only[YE,YF,YG] at d;rcases d with rfl|rfl|rfl|rfl|rfl|rfl|rfl|rfl|rfl|rfl|rfl|rfl<;>first|exact e|decide
  ·intro v d;simp only[YE,YF,YG] at d;rcases d with rfl|rfl<;>decide
 ·split
  ·exact Jx (Jx (Jx (Jx (JN _) (JN _)) (JN _)) (JN _)) L
  ·rename_i j y;have:=E O;refine Jx (Jx ?_ (JN _)) L;intro v d;simp only[YE,YF,YG] at d;rcases d with rfl|rfl
   ·exact this.1
   ·exact this.2):p:=h
theorem Jdx{p:Prop}(h:p:=by
 go_wp2_with fail
 go_ret2;rw[j.1,j.2];exact AS n.out.out):p:=h
theorem JdL{p:Prop}(h:p:=by
 go_wp2_with fail
 go_ret2;rw[j.1,j.2];exact AS r.out.out):p:=h
theorem Jej{p:Prop}(h:p:=by
 exact⟨this,by unfold spL;rw[this];rfl⟩):p:=h
theorem KL {s:Sp}(h:X9 s=true):Qy s=2/\spL s=[]:=by
 have:Qy s=2:=by unfold Qy;rw[YH h]
 exact Jej
theorem Oq {s:Sp}(h:X9 s=false)(B:2048<s.n):Qy s=3/\spL s=[]:=by
 have:Qy s=3:=by unfold Qy;rw[Yw (by rw[h];decide),YH B]
 exact Jej
theorem Cu {s:Sp}(h:X9 s=false)(B:¬2048<s.n)(M:2048<(Qk s++JH s).length):Qy s=3/\spL s=[]:=by
 have:Qy s=3:=by unfold Qy;rw[Yw (by rw[h];decide),Yw B,YH M]
 exact Jej
theorem Cv {s:Sp}(h:X9 s=false)(B:¬2048<s.n)(M:¬2048<(Qk s++JH s).length):Qy s=0/\spL s=Qk s++JH s:=by
 have:Qy s=0:=by unfold Qy;rw[Yw (by rw[h];decide),Yw B,Yw M]
 exact Jej
theorem Ot (p a b f:Int)(N d e:List Int):(DR p a b f N d e).length<=20+N.length:=by
 unfold DR JU;split
 ·simp[be2];omega
 ·split
  ·simp[be2];omega
  ·simp[be2];omega
theorem L7 (p a b f:Int)(N g l:List Int)(E:¬(p=6\/p=17)->(Jm a)/\(Jm b))(e:Jm f)(L:JF N):JF (DR p a b f N g l):=by
 unfold DR JU;exact JcY
theorem Qx (n:Nat):JF (JP n):=λv a=>by rw[(JaJ.1 a).2];decide
theorem ZG (s:Sp):(JH s).length<=20+s.n.toNat:=by
 unfold JH;have a:=Tr s;simp only;split
 ·have:=Ot s.k.p s.k.a s.k.b s.f (JP s.n.toNat) (Jt s.k.s s.k.S) (Jt s.k.t s.k.T);omega
 ·split
  ·have:=Ot s.k.p (s.k.b/256) (s.k.b%256) 0 (JP s.n.toNat) (Jt s.k.s s.k.S) (Jt s.k.t s.k.T);omega
  ·omega
theorem QU {s:Sp}(a:EA s):JF (JH s):=by
 unfold JH;have g:=a.k.b;simp only;split
 ·rename_i h;have b:s.k.p=6\/s.k.p=17:=by simpa[J1] using h
  exact L7 _ _ _ _ _ _ _ (λh=>absurd b h) a.f (Qx _)
 ·split
  ·exact L7 _ _ _ _ _ _ _ (λ_=>⟨O,O⟩) D (Qx _)
  ·exact Qx _
theorem Zz {s:Sp}(b:EA s):JF (Qk s):=by
 unfold Qk;have E:=b.k.p;split
 ·unfold U2;refine Jx (Jx (Jx (Jx (Ed _) (JN _)) ?_) (JL b.k.S _)) (JL b.k.T _);intro v a;simp only[YE,YF,YG] at a;rcases a with rfl|rfl
  ·exact E
  ·decide
 ·unfold Q7 Qc TN;refine Jx (Jx (Jx (Jx (Jx (Jx ?_ (JN _)) (JN _)) (JN _)) ?_) (JN _)) (Jx (Jx (JL b.k.S _) (JL b.k.T _)) (λv a=>by cases a))
  ·intro v a;simp only[YE,YF,YG,Jau] at a;rcases a with rfl|rfl<;>decide
  ·intro v a;simp only[YE,YF,YG] at a;rcases a with rfl|rfl
   ·decide
   ·exact E
theorem BL {G:Sp}(a:EA G):JF (spL G):=by
 unfold spL;split
 ·exact Jx (Zz a) (QU a)
 ·intro v b;cases b
theorem AS {w d:World}{err:Int}(h:Ji w d):JO w [] err (.returned (.tuple #[Jbo,Jk err])) d:=
 ⟨none,0,rfl,by simpa using J8.nil d w.heap.size 1,h⟩
theorem Fr (p:Int)(w:World):Jf 42 #[.agg #[.slice none 0 0,Jq p]] w (Jz w (.bool (!Qe p))):=by
 have:=GZ 0 none 0 [] [] p w ⟨J8.nil _ _ _,rfl,λi e x h=>by simp at h⟩ .nil (λx P=>by cases P);rwa [show QQ []=false from rfl,Bool.or_false] at this
theorem L8 (s:Bool)(Z:Nat->Int)(t:Bool)(d:Nat->Int)(p a b f:Int)(N:Nat)(L:N<=2048)(A:Fz ⟨s,Z,t,d,p,a,b⟩)(M:Jm f)(F:X9 ⟨⟨s,Z,t,d,p,a,b⟩,f,N⟩=false)(w:World):
 Jf 43 #[.agg (spC s Z t d p a b f N)] w (JO w (JH ⟨⟨s,Z,t,d,p,a,b⟩,f,N⟩) 0):=by
 have E:=A.p;have ha:=A.a;have g:=A.b;simp only at E ha g;unfold X9 at F;simp only[Bool.or_eq_false_iff,Bool.not_eq_false',Bool.and_eq_false_iff,bne_eq_false_iff_eq,decide_eq_false_iff_not] at F;obtain⟨I,-,J,-⟩:=F;unfold JS at I;simp only[YO,Y2] at I;obtain rfl:s=t:=I.2.2.1;have e:=A.S;have o:=A.T;simp only at e o;unfold JH;simp only[Jak];cases hip:J1 p with
 |true=>
  rw[YH rfl];rcases(by simpa[J1] using hip:p=6\/p=17) with rfl|rfl
  ·exact G3 s Z d 6 a b f N L e o hip (λl=>DR 6 a b f l (Jt s Z) (Jt s d)) (λr n G l z u k C v w X j y A B=>Tj a b f r n G l z u k C v _ _ w X j y A B ha g M) w
  ·obtain rfl:f=0:=by rcases J with h|h;exact h;cases h
   exact G3 s Z d 17 a b 0 N L e o hip (λl=>DR 17 a b 0 l (Jt s Z) (Jt s d)) (λr n G l z u k C v w X j y A B=>Ti a b r n G l z u k C v _ _ w X j y A B ha g) w
 |false=>
  rw[Yw D];cases hii:Qb p with
  |true=>
   rw[YH rfl];exact Pw s Z d p a b f N L e o hip hii g w
  |false=>
   rw[Yw D];exact Pv s Z d p a b f N L hip hii w
theorem Px (Z:Nat->Int)(t:Bool)(d:Nat->Int)(p a b f N:Int)(G:EA ⟨⟨false,Z,t,d,p,a,b⟩,f,N⟩)(w:World):
 Jf 15 #[.agg (spC false Z t d p a b f N)] w (JO w (spL ⟨⟨false,Z,t,d,p,a,b⟩,f,N⟩) (Qy ⟨⟨false,Z,t,d,p,a,b⟩,f,N⟩)):=by
 have Q:Hid (Fz ⟨false,Z,t,d,p,a,b⟩):=H G.k;have aD:Hid (Jm f):=H G.f;have aG:=H G;have al:Hid (∀w,Jf 26 #[.agg (kyC false Z t d p a b)] w (Jz w (.bool (JS ⟨false,Z,t,d,p,a,b⟩)))):=H λw=>X4 false Z t d p a b w
 have aZ:Hid (∀w,Jf 42 #[.agg #[.slice none 0 0,Jq p]] w (Jz w (.bool (!Qe p)))):=H λw=>Fr p w
 obtain⟨e,M⟩:∃e:Sp,e=⟨⟨false,Z,t,d,p,a,b⟩,f,N⟩:=⟨_,rfl⟩
 rw[<-M];have z:=H M;obtain⟨T,u⟩:∃T,JS ⟨false,Z,t,d,p,a,b⟩=T:=⟨_,rfl⟩
 obtain⟨aK,af⟩:∃T,Qe p=T:=⟨_,rfl⟩
 rw[u] at al;rw[af] at aZ;have J:Hid (X9 e=(!T||((false&&aK)||((f != 0&&p != 6)||decide (N<0))))):=H (by rw[M,<-u,<-af];rfl);have F:=G.n;clear u af G M;have ac:=((Bx.start w).box (spC false Z t d p a b f N) 47).box (kyC false Z t d p a b) 30;rw[show(w.alloc (.cells (spC false Z t d p a b f N) 47)).heap.size=w.heap.size+1 by simp] at ac;have az:=H ac;clear ac;unfold spC kyC at*;go_enter func15,ntmps15
 go_wp2_with fail
 refine az.ret (al _) ?_;intro U aP r;clear aP az;cases T
 ·obtain⟨l,g⟩:=KL (s:=e) (by rw[J.out];rfl);have j:=H (And.intro l g);clear l g F;exact JdL
 have a0:Jg U w.heap.size 37 (Jq f):=r.cell 1 37 rfl rfl;have aM:Jg U w.heap.size 38 (Jk N):=r.cell 1 38 rfl rfl;have aV:Jg U (w.heap.size+1) 34 (Jq p):=r.cell 0 34 rfl rfl;have aE:Jv U w.heap.size 0 39=(Jbw false t p (Jl a) (Jl b) f (Jk N) Z d:Array Value):=r.part 1 rfl rfl;rcases(by cases a7:(f != 0)<;>cases y:(p != 6)<;>simp:(f != 0)=false\/((f != 0)=true/\(p != 6)=false)\/((f != 0)=true/\(p != 6)=true)) with A|⟨A,ab⟩|⟨A,ab⟩;rotate_right
 ·obtain⟨l,g⟩:=KL (s:=e) (by rw[J.out,A,ab];simp);have j:=H (And.intro l g);clear l g F;exact JdL
 all_goals
  by_cases E:N<0
  ·have y:decide (N<0)=true:=by simpa using E
   obtain⟨l,g⟩:=KL (s:=e) (by rw[J.out,A,y];simp);have j:=H (And.intro l g);clear l g F E;exact JdL
  ·have y:decide (N<0)=false:=by simpa using E
   have C:X9 e=false:=by rw[J.out,y];first|(rw[A,ab];rfl)|(rw[A];rfl)
   by_cases B:2048<N
   ·have a4:decide (2048<N)=true:=by simpa using B
    obtain⟨l,g⟩:=Oq (s:=e) C (by rw[z.out];exact B);have j:=H (And.intro l g);clear l g F E B C;exact JdL
   ·have a4:decide (2048<N)=false:=by simpa using B
    have aA:=H C;have ak:Hid (¬2048<e.n):=H (by rw[z.out];exact B);obtain⟨au,Y⟩:=Jaq (show 0<=N from O);have aj:au<=2048:=O
    have X:Hid (∀w,Jf 43 #[.agg (Jbw false t p (Jl a) (Jl b) f (Jk N) Z d:Array Value)] w (JO w (JH e) 0)):=H (λw=>by
     have:=L8 false Z t d p a b f au aj Q aD (by rw[<-Y,<-z.out];exact C) w;rw[<-Y,<-z.out] at this;exact this)
    have ap:(JH e).length<=2068:=by have:=ZG e;rw[z.out] at this|-;simp only at this;omega
    have ao:JF (JH e):=QU (by rw[z.out];exact aG)
    have L:Hid (∀w,Jf 44 #[.agg (Jbw false t p (Jl a) (Jl b) f (Jk N) Z d:Array Value),Jk ((JH e).length:Nat)] w (JO w (Qk e) 0)):=H (λw=>by
     have:=NB Z t d p a b f N (JH e).length O Q.S Q.T Q.p w;have aF:Qk e=_:=CZ (by rw[z.out]);rw[aF];rw[z.out] at this|-;exact this)
    have aq:(Qk e).length<=40:=by rw[Zg];split<;>omega
    have aQ:=H (λh=>Cu (s:=e) aA ak h);have aW:=H (λh=>Cv (s:=e) aA ak h);generalize JH e=ag at*;generalize Qk e=ah at*;have aH:=H ao;obtain⟨n,W⟩:∃ad,ag.length=ad:=⟨_,rfl⟩
    obtain⟨o,ae⟩:∃ad,ah.length=ad:=⟨_,rfl⟩
    unfold JO at X L;rw[W] at X L ap;rw[ae] at L aq;have v:Hid (ag.length=n/\ah.length=o):=H ⟨W,ae⟩;clear C B E F aj Y ao W ae;go_wp2_with fail
    refine Jb (X _) ?_;rintro aY am ⟨ax,aT,rfl,R,ar⟩;have P:=H (r.go ar);have aS:=H R;have ay:=H (R.reads aH);have a1:=H (λa (h:ax=some a)=>(R.lt h).2);clear R ar r aV a0 aM aE;have aC:Jv am w.heap.size 0 39=(Jbw false t p (Jl a) (Jl b) f (Jk N) Z d:Array Value):=P.part 1 rfl rfl;go_wp2_with fail
    refine Jb (L _) ?_;rintro aY a5 ⟨aX,a3,rfl,ai,S⟩;have aw:=H (P.go S);have an:=H ai;have aR:=H (ay.below S);have av:=H S.size;have aa:=H P.out.out.size;clear ai S P ay aS aC a1;have a6:IntKind.i64.wrap ((o:Int)+(n:Int))=(o:Int)+(n:Int):=by rw[JaI];omega
    by_cases I:2048<o+n
    ·have aN:decide ((2048:Int)<(o:Int)+(n:Int))=true:=by simpa using(by omega:(2048:Int)<(o:Int)+(n:Int))
     obtain⟨l,g⟩:=aQ.out (by rw[WV,v.1,v.2];exact I);have j:=H (And.intro l g);clear l g I;go_wp2_with fail
     go_ret2;rw[j.1,j.2];exact AS aw.out.out
    ·have aN:decide ((2048:Int)<(o:Int)+(n:Int))=false:=by simpa using(by omega:¬(2048:Int)<(o:Int)+(n:Int))
     obtain⟨l,g⟩:=aW.out (by rw[WV,v.1,v.2];exact I);have j:=H (And.intro l g);clear l g;have aL:Hid (o+n<=2048):=H O;clear I ap aq;go_wp2_with (at_builtin;refine JJ.of ?_)
     refine JJ.mk ?_;refine JI _ rfl _ _ 22 rfl 5 am.heap.size underlying22 Bits.infoU8 aX o a3 _ rfl an ax n aT ag rfl aR (by have:=aL.out;omega) av ?_;intro aU aI a8 V aB aJ;have a2:=H (Wv (aw.out.out) (an.mono aa) (Je _) aB (WJ aa av));rw[<-Jaj] at V;have aO:=H V;clear V aB aJ;go_wp2_with fail
     go_ret2;rw[j.1,j.2];exact⟨aU,aI,by rw[WV,v.1,v.2];rfl,by rw[WV,v.1,v.2];exact aO.mono aa,a2.out⟩
theorem R4 (Z:Nat->Int)(t:Bool)(d:Nat->Int)(p a b f N:Int)(I:EA ⟨⟨true,Z,t,d,p,a,b⟩,f,N⟩)(w:World):
 Jf 15 #[.agg (spC true Z t d p a b f N)] w (JO w (spL ⟨⟨true,Z,t,d,p,a,b⟩,f,N⟩) (Qy ⟨⟨true,Z,t,d,p,a,b⟩,f,N⟩)):=by
 have R:Hid (Fz ⟨true,Z,t,d,p,a,b⟩):=H I.k;have aI:Hid (Jm f):=H I.f;have aL:=H I;have Y:Hid (∀w,Jf 26 #[.agg (kyC true Z t d p a b)] w (Jz w (.bool (JS ⟨true,Z,t,d,p,a,b⟩)))):=H λw=>X4 true Z t d p a b w
 have aF:Hid (∀w,Jf 42 #[.agg #[.slice none 0 0,Jq p]] w (Jz w (.bool (!Qe p)))):=H λw=>Fr p w
 obtain⟨e,P⟩:∃e:Sp,e=⟨⟨true,Z,t,d,p,a,b⟩,f,N⟩:=⟨_,rfl⟩
 rw[<-P];have v:=H P;obtain⟨T,ab⟩:∃T,JS ⟨true,Z,t,d,p,a,b⟩=T:=⟨_,rfl⟩
 obtain⟨ao,ai⟩:∃T,Qe p=T:=⟨_,rfl⟩
 rw[ab] at Y;rw[ai] at aF;have E:Hid (X9 e=(!T||((true&&ao)||((f != 0&&p != 6)||decide (N<0))))):=H (by rw[P,<-ab,<-ai];rfl);have B:=I.n;clear ab ai I P;have ae:=((Bx.start w).box (spC true Z t d p a b f N) 47).box (kyC true Z t d p a b) 30;rw[show(w.alloc (.cells (spC true Z t d p a b f N) 47)).heap.size=w.heap.size+1 by simp] at ae;have aD:=H ae;clear ae;unfold spC kyC at*;go_enter func15,ntmps15
 go_wp2_with fail
 refine aD.ret (aF _) ?_;intro aP aU F;clear aU aD;have ap:Jv aP (w.heap.size+1) 0 37=(Jbs true t p (Jl a) (Jl b) Z d:Array Value):=F.part 0 rfl rfl;cases ao;rotate_left
 ·obtain⟨l,g⟩:=KL (s:=e) (by rw[E.out];cases T<;>rfl);have j:=H (And.intro l g);clear l g B;go_wp2_with fail
  refine F.ret (Y _) ?_;intro J af n;clear af F ap;cases T
  all_goals
   exact Jdx
 go_wp2_with fail
 refine F.ret (Y _) ?_;intro J af n;clear af F ap;cases T
 ·obtain⟨l,g⟩:=KL (s:=e) (by rw[E.out];rfl);have j:=H (And.intro l g);clear l g B;exact Jdx
 have a4:Jg J w.heap.size 37 (Jq f):=n.cell 1 37 rfl rfl;have aR:Jg J w.heap.size 38 (Jk N):=n.cell 1 38 rfl rfl;have a0:Jg J (w.heap.size+1) 34 (Jq p):=n.cell 0 34 rfl rfl;have aJ:Jv J w.heap.size 0 39=(Jbw true t p (Jl a) (Jl b) f (Jk N) Z d:Array Value):=n.part 1 rfl rfl;rcases(by cases bb:(f != 0)<;>cases y:(p != 6)<;>simp:(f != 0)=false\/((f != 0)=true/\(p != 6)=false)\/((f != 0)=true/\(p != 6)=true)) with z|⟨z,ad⟩|⟨z,ad⟩;rotate_right
 ·obtain⟨l,g⟩:=KL (s:=e) (by rw[E.out,z,ad];simp);have j:=H (And.intro l g);clear l g B;exact Jdx
 all_goals
  by_cases G:N<0
  ·have y:decide (N<0)=true:=by simpa using G
   obtain⟨l,g⟩:=KL (s:=e) (by rw[E.out,z,y];simp);have j:=H (And.intro l g);clear l g B G;exact Jdx
  ·have y:decide (N<0)=false:=by simpa using G
   have C:X9 e=false:=by rw[E.out,y];first|(rw[z,ad];rfl)|(rw[z];rfl)
   by_cases A:2048<N
   ·have a8:decide (2048<N)=true:=by simpa using A
    obtain⟨l,g⟩:=Oq (s:=e) C (by rw[v.out];exact A);have j:=H (And.intro l g);clear l g B G A C;exact Jdx
   ·have a8:decide (2048<N)=false:=by simpa using A
    have aE:=H C;have an:Hid (¬2048<e.n):=H (by rw[v.out];exact A);obtain⟨ay,aa⟩:=Jaq (show 0<=N from O);have am:ay<=2048:=O
    have X:Hid (∀w,Jf 43 #[.agg (Jbw true t p (Jl a) (Jl b) f (Jk N) Z d:Array Value)] w (JO w (JH e) 0)):=H (λw=>by
     have:=L8 true Z t d p a b f ay am R aI (by rw[<-aa,<-v.out];exact C) w;rw[<-aa,<-v.out] at this;exact this)
    have av:(JH e).length<=2068:=by have:=ZG e;rw[v.out] at this|-;simp only at this;omega
    have au:JF (JH e):=QU (by rw[v.out];exact aL)
    have M:Hid (∀w,Jf 44 #[.agg (Jbw true t p (Jl a) (Jl b) f (Jk N) Z d:Array Value),Jk ((JH e).length:Nat)] w (JO w (Qk e) 0)):=H (λw=>by
     have:=Pu Z t d p a b f N (JH e).length O R.S R.T R.p w;have aK:Qk e=_:=C1 (by rw[v.out]);rw[aK];rw[v.out] at this|-;exact this)
    have aw:(Qk e).length<=40:=by rw[Zg];split<;>omega
    have aV:=H (λh=>Cu (s:=e) aE an h);have a1:=H (λh=>Cv (s:=e) aE an h);generalize JH e=aj at*;generalize Qk e=ak at*;have aM:=H au;obtain⟨o,W⟩:∃ag,aj.length=ag:=⟨_,rfl⟩
    obtain⟨r,ah⟩:∃ag,ak.length=ag:=⟨_,rfl⟩
    unfold JO at X M;rw[W] at X M av;rw[ah] at M aw;have u:Hid (aj.length=o/\ak.length=r):=H ⟨W,ah⟩;clear C A G B am aa au W ah;go_wp2_with fail
    refine Jb (X _) ?_;rintro a3 aq ⟨aB,aY,rfl,S,ax⟩;have Q:=H (n.go ax);have aX:=H S;have aC:=H (S.reads aM);have a5:=H (λa (h:aB=some a)=>(S.lt h).2);clear S ax n a0 a4 aR aJ;have aH:Jv aq w.heap.size 0 39=(Jbw true t p (Jl a) (Jl b) f (Jk N) Z d:Array Value):=Q.part 1 rfl rfl;go_wp2_with fail
    refine Jb (M _) ?_;rintro a3 a9 ⟨a2,a7,rfl,al,U⟩;have aA:=H (Q.go U);have ar:=H al;have aW:=H (aC.below U);have az:=H U.size;have ac:=H Q.out.out.size;clear al U Q aC aX aH a5;have ba:IntKind.i64.wrap ((r:Int)+(o:Int))=(r:Int)+(o:Int):=by rw[JaI];omega
    by_cases L:2048<r+o
    ·have aS:decide ((2048:Int)<(r:Int)+(o:Int))=true:=by simpa using(by omega:(2048:Int)<(r:Int)+(o:Int))
     obtain⟨l,g⟩:=aV.out (by rw[WV,u.1,u.2];exact L);have j:=H (And.intro l g);clear l g L;go_wp2_with fail
     go_ret2;rw[j.1,j.2];exact AS aA.out.out
    ·have aS:decide ((2048:Int)<(r:Int)+(o:Int))=false:=by simpa using(by omega:¬(2048:Int)<(r:Int)+(o:Int))
     obtain⟨l,g⟩:=a1.out (by rw[WV,u.1,u.2];exact L);have j:=H (And.intro l g);clear l g;have aQ:Hid (r+o<=2048):=H O;clear L av aw;go_wp2_with (at_builtin;refine JJ.of ?_)
     refine JJ.mk ?_;refine JI _ rfl _ _ 22 rfl 5 aq.heap.size underlying22 Bits.infoU8 a2 r a7 _ rfl ar aB o aY aj rfl aW (by have:=aQ.out;omega) az ?_;intro aZ aN bc V aG aO;have a6:=H (Wv (aA.out.out) (ar.mono ac) (Je _) aG (WJ ac az));rw[<-Jaj] at V;have aT:=H V;clear V aG aO;go_wp2_with fail
     go_ret2;rw[j.1,j.2];exact⟨aZ,aN,by rw[WV,u.1,u.2];rfl,by rw[WV,u.1,u.2];exact aT.mono ac,a6.out⟩
theorem AT (G:Sp)(e:EA G)(w:World):Jf 15 #[.agg (spV G)] w (JO w (spL G) (Qy G)):=by
 obtain⟨⟨G,Z,t,d,p,a,b⟩,f,N⟩:=G;cases G
 ·exact Px Z t d p a b f N e w
 ·exact R4 Z t d p a b f N e w
open Go.RowKit Bits
def Dy (w:World)(b:Nat)(S:Array Value)(err:Int):Ending->World->Prop:=λe d=>e=.returned (Jk err)/\Jh d b S 85/\Below b w d/\∀i,i≠b->i<w.heap.size->d.heap[i]? =w.heap[i]?
theorem L9 (b:Nat)(C y:Bool)(Z a:Nat->Int)(p A l u B:Int)(r z:Bool)(s:Option Addr)(n o:Nat)(w:World)(v err:Int)(E:Qb p=true)(U:Jn v)
 (P:Jh w b (JbA C y p (Jl A) (Jl l) (Jk u) B r (.slice s n o) z Z a) 85)
 (G:∀x:J2 w,Jf 81 #[.slice s n o,Jk 0,Jk 2] x.world (Jz x.world (.tuple #[Jo v,Jk err]))):
 Jf 37 #[.pointer (some ⟨b,0,none⟩)] w (Dy w b (JbA C y p (Jl A) (Jl v) (Jk u) B r (.slice s n o) z Z a) err):=by
 have L:=H P;have Q:=H (G ⟨w,Jc _ _⟩);have J:b<w.heap.size:=(Ja P).1;have T:Jg w b 40 (.slice s n o):=WF 40 P;have R:Hid (∀d,Jf 36 #[p] d (Jz d (.bool true))):=H (λd=>by rw[<-E];exact XT p d);clear P G E;go_enter func37,ntmps37
 go_wp2_with fail
 refine Jb Q ?_;rintro e V ⟨rfl,g⟩;have t:=H ((g.block b J).trans L);have N:=H g;have S:Jg V b 34 (Jq p):=WF 34 t;clear g T;go_wp2_with fail
 refine Jb (R V) ?_;rintro e w2 ⟨rfl,g⟩;have j:=H ((g.block b (Ja t).1).trans t);have I:=H (Wx N g);have W:Jg w2 b 36 (Jl l):=WF 36 j;have X:=Jad _ _ 36 _ _ j;clear g S;go_wp2_with fail
 go_ret;exact⟨rfl,(Jae _ b 36 (JbA C y p (Jl A) (Jl l) (Jk u) B r (.slice s n o) z Z a) _ _ j).trans rfl,(I.mono (Ja1 J)).setCell (Je _) _,λi F M=>(WK _ _ _ _ F).trans (I.block i M)⟩
open Go.RowKit Bits
theorem Ts (b:Nat)(z A:Bool)(Z a:Nat->Int)(p J l t y:Int)(r u:Bool)(s:Option Addr)(n o:Nat)(w:World)(v ab B err:Int)(E:Qb p=false)(M:p≠6)(aj:Jn B)(af:Jn v)
 (P:Jh w b (JbA z A p (Jl J) (Jl l) (Jk t) y r (.slice s n o) u Z a) 85)
 (N:∀x:J2 w,Jf 81 #[.slice s n o,Jk 0,Jk 2] x.world (Jz x.world (.tuple #[Jo v,Jk ab])))
 (U:∀x:J2 w,Jf 81 #[.slice s n o,Jk 2,Jk 2] x.world (Jz x.world (.tuple #[Jo B,Jk err]))):
 Jf 37 #[.pointer (some ⟨b,0,none⟩)] w (Dy w b (JbA z A p (Jl v) (Jl B) (Jk t) y r (.slice s n o) u Z a) err):=by
 have W:=H P;have ac:=H (N ⟨w,Jc _ _⟩);have R:b<w.heap.size:=(Ja P).1;have L:Jg w b 40 (.slice s n o):=WF 40 P;have ae:Hid (∀d,Jf 36 #[p] d (Jz d (.bool false))):=H (λd=>by rw[<-E];exact XT p d);have Y:=H U;have ag:(p==6)=false:=by simpa using M
 have ah:decide (p=6)=false:=by simpa using M
 clear P N E U;go_enter func37,ntmps37
 go_wp2_with fail
 refine Jb ac ?_;rintro e V ⟨rfl,g⟩;have I:=H ((g.block b R).trans W);have aa:=H g;have T:Jg V b 34 (Jq p):=WF 34 I;clear g L;go_wp2_with fail
 refine Jb (ae V) ?_;rintro e w2 ⟨rfl,g⟩;have G:=H ((g.block b (Ja I).1).trans I);have Q:=H (Wx aa g);have L:Jg w2 b 40 (.slice s n o):=WF 40 G;clear g T;go_wp2_with fail
 refine Jb (Y ⟨w2,Q.out⟩) ?_;rintro e C ⟨rfl,g⟩;have j:=H ((g.block b (Ja G).1).trans G);have S:=H (Wx Q g);have al:Jg C b 35 (Jl J):=WF 35 j;have ak:Jg C b 36 (Jl l):=WF 36 j;have ai:=Jad _ _ 35 _ _ j;have am:=Jad _ _ 36 _ _ j;have T:Jg C b 34 (Jq p):=WF 34 j;clear g L;go_wp2_with fail
 go_ret;have X:Jh (C.setCell ⟨b,35,none⟩ (Jl v)) b (JbA z A p (Jl v) (Jl l) (Jk t) y r (.slice s n o) u Z a) 85:=(Jae _ b 35 (JbA z A p (Jl J) (Jl l) (Jk t) y r (.slice s n o) u Z a) _ _ j).trans rfl;exact⟨rfl,(Jae _ b 36 (JbA z A p (Jl v) (Jl l) (Jk t) y r (.slice s n o) u Z a) _ _ X).trans rfl,((S.mono (Ja1 R)).setCell (Je _) _).setCell (Je _) _,λi F ad=>(WK _ _ _ _ F).trans ((WK _ _ _ _ F).trans (S.block i ad))⟩
open Go.RowKit Bits
theorem HL (b:Nat)(z t:Bool)(Z a:Nat->Int)(G l r y:Int)(p u:Bool)(s:Option Addr)(n o:Nat)(w:World)(v X B err:Int)(ah:n<14)(af:Jn B)(ac:Jn v)
 (P:Jh w b (JbA z t (6:Int) (Jl G) (Jl l) (Jk r) y p (.slice s n o) u Z a) 85)
 (J:∀x:J2 w,Jf 81 #[.slice s n o,Jk 0,Jk 2] x.world (Jz x.world (.tuple #[Jo v,Jk X])))
 (R:∀x:J2 w,Jf 81 #[.slice s n o,Jk 2,Jk 2] x.world (Jz x.world (.tuple #[Jo B,Jk err]))):
 Jf 37 #[.pointer (some ⟨b,0,none⟩)] w (Dy w b (JbA z t (6:Int) (Jl v) (Jl B) (Jk r) y p (.slice s n o) u Z a) err):=by
 have S:=H P;have Y:=H (J ⟨w,Jc _ _⟩);have M:b<w.heap.size:=(Ja P).1;have I:Jg w b 40 (.slice s n o):=WF 40 P;have ab:Hid (∀d,Jf 36 #[(6:Int)] d (Jz d (.bool false))):=H (λd=>XT 6 d);have U:=H R;have ae:decide ((n:Int)>=14)=false:=by simp;omega
 clear P J R;go_enter func37,ntmps37
 go_wp2_with fail
 refine Jb Y ?_;rintro e V ⟨rfl,g⟩;have E:=H ((g.block b M).trans S);have W:=H g;have Q:Jg V b 34 (Jq 6):=WF 34 E;clear g I;go_wp2_with fail
 refine Jb (ab V) ?_;rintro e w2 ⟨rfl,g⟩;have C:=H ((g.block b (Ja E).1).trans E);have L:=H (Wx W g);have I:Jg w2 b 40 (.slice s n o):=WF 40 C;clear g Q;go_wp2_with fail
 refine Jb (U ⟨w2,L.out⟩) ?_;rintro e A ⟨rfl,g⟩;have j:=H ((g.block b (Ja C).1).trans C);have N:=H (Wx L g);have ai:Jg A b 35 (Jl G):=WF 35 j;have ag:Jg A b 36 (Jl l):=WF 36 j;have ad:=Jad _ _ 35 _ _ j;have aj:=Jad _ _ 36 _ _ j;have I:Jg A b 40 (.slice s n o):=WF 40 j;have Q:Jg A b 34 (Jq 6):=WF 34 j;clear g;go_wp2_with fail
 go_ret;have T:Jh (A.setCell ⟨b,35,none⟩ (Jl v)) b (JbA z t (6:Int) (Jl v) (Jl l) (Jk r) y p (.slice s n o) u Z a) 85:=(Jae _ b 35 (JbA z t (6:Int) (Jl G) (Jl l) (Jk r) y p (.slice s n o) u Z a) _ _ j).trans rfl;exact⟨rfl,(Jae _ b 36 (JbA z t (6:Int) (Jl v) (Jl l) (Jk r) y p (.slice s n o) u Z a) _ _ T).trans rfl,((N.mono (Ja1 M)).setCell (Je _) _).setCell (Je _) _,λi F aa=>(WK _ _ _ _ F).trans ((WK _ _ _ _ F).trans (N.block i aa))⟩
open Go.RowKit Bits
theorem KM (b:Nat)(A B:Bool)(Z a:Nat->Int)(I C t z:Int)(s u:Bool)(r j n o:Nat)(w:World)(v ac y err:Int)(ap:14<=n)(J:Int)(R:Jg w r (j+13) (Jq J))(ai:r≠b)(ae:r<w.heap.size)(am:Jn y)(aj:Jn v)
 (P:Jh w b (JbA A B (6:Int) (Jl I) (Jl C) (Jk t) z s (.slice (some ⟨r,j,none⟩) n o) u Z a) 85)
 (N:∀x:J2 w,Jf 81 #[.slice (some ⟨r,j,none⟩) n o,Jk 0,Jk 2] x.world (Jz x.world (.tuple #[Jo v,Jk ac])))
 (U:∀x:J2 w,Jf 81 #[.slice (some ⟨r,j,none⟩) n o,Jk 2,Jk 2] x.world (Jz x.world (.tuple #[Jo y,Jk err]))):
 Jf 37 #[.pointer (some ⟨b,0,none⟩)] w (Dy w b (JbA A B (6:Int) (Jl v) (Jl y) (Jk t) J s (.slice (some ⟨r,j,none⟩) n o) u Z a) err):=by
 have W:=H P;have ad:=H (N ⟨w,Jc _ _⟩);have S:b<w.heap.size:=(Ja P).1;have M:Jg w b 40 (.slice (some ⟨r,j,none⟩) n o):=WF 40 P;have ag:Hid (∀d,Jf 36 #[(6:Int)] d (Jz d (.bool false))):=H (λd=>XT 6 d);have Y:=H U;have aa:=H R;have al:decide ((n:Int)>=14)=true:=by simp;omega
 clear P N U R;go_enter func37,ntmps37
 go_wp2_with fail
 refine Jb ad ?_;rintro e V ⟨rfl,g⟩;have G:=H ((g.block b S).trans W);have ab:=H g;have T:Jg V b 34 (Jq 6):=WF 34 G;clear g M;go_wp2_with fail
 refine Jb (ag V) ?_;rintro e w2 ⟨rfl,g⟩;have E:=H ((g.block b (Ja G).1).trans G);have Q:=H (Wx ab g);have M:Jg w2 b 40 (.slice (some ⟨r,j,none⟩) n o):=WF 40 E;clear g T;go_wp2_with fail
 refine Jb (Y ⟨w2,Q.out⟩) ?_;rintro e p ⟨rfl,g⟩;have l:=H ((g.block b (Ja E).1).trans E);have L:=H (Wx Q g);have aq:Jg p b 35 (Jl I):=WF 35 l;have ao:Jg p b 36 (Jl C):=WF 36 l;have ak:=Jad _ _ 35 _ _ l;have au:=Jad _ _ 36 _ _ l;have M:Jg p b 40 (.slice (some ⟨r,j,none⟩) n o):=WF 40 l;have T:Jg p b 34 (Jq 6):=WF 34 l;have av:Jg p b 38 (Jq z):=WF 38 l;have ar:=Jad _ _ 38 _ _ l;have an:Jg p r (j+13) (Jq J):=(JK L ae _ rfl).trans aa;clear g;go_wp2_with fail
 go_ret;have X:Jh (p.setCell ⟨b,35,none⟩ (Jl v)) b (JbA A B (6:Int) (Jl v) (Jl C) (Jk t) z s (.slice (some ⟨r,j,none⟩) n o) u Z a) 85:=(Jae _ b 35 (JbA A B (6:Int) (Jl I) (Jl C) (Jk t) z s (.slice (some ⟨r,j,none⟩) n o) u Z a) _ _ l).trans rfl;have ah:Jh ((p.setCell ⟨b,35,none⟩ (Jl v)).setCell ⟨b,36,none⟩ (Jl y)) b (JbA A B (6:Int) (Jl v) (Jl y) (Jk t) z s (.slice (some ⟨r,j,none⟩) n o) u Z a) 85:=(Jae _ b 36 (JbA A B (6:Int) (Jl v) (Jl C) (Jk t) z s (.slice (some ⟨r,j,none⟩) n o) u Z a) _ _ X).trans rfl;exact⟨rfl,(Jae _ b 38 (JbA A B (6:Int) (Jl v) (Jl y) (Jk t) z s (.slice (some ⟨r,j,none⟩) n o) u Z a) _ _ ah).trans rfl,(((L.mono (Ja1 S)).setCell (Je _) _).setCell (Je _) _).setCell (Je _) _,λi F af=>(WK _ _ _ _ F).trans ((WK _ _ _ _ F).trans ((WK _ _ _ _ F).trans (L.block i af)))⟩
end
end Go.Proofs.YtkgjbipfhhjlpaaGreatDoor
