import Derived.Test.YtkgjbipfhhjlpaaGreatDoorMq16
set_option linter.unusedVariables false
set_option linter.unusedSimpArgs false
set_option maxRecDepth 100000
set_option maxHeartbeats 32000000
namespace Go.Proofs.YtkgjbipfhhjlpaaGreatDoor
open Go.Proofs.Tryz
section
open Go.RowKit Bits
theorem Jdd{p:Prop}(h:p:=by
 rintro e bE ⟨au,aF,rfl,V,S⟩;have ay:=H (V.mono W.size);have az:=H (Wx W S);clear V S;go_wp2_with fail
 go_ret2;rw[ar.out];exact⟨au,aF,rfl,ay.out,az.out⟩):p:=h
theorem Fp (p n:Int)(d e:List Int)(j:JF d)(y:JF e)(E:Jm p):JF (Qh p n d e):=by
 have l:JF [0,p]:=by intro v b;simp only[YE,YF,YG] at b;rcases b with rfl|rfl;decide;exact E
 have g:JF [0,0,0,p]:=by intro v b;simp only[YE,YF,YG] at b;rcases b with rfl|rfl|rfl|rfl;decide;decide;decide;exact E
 have o:JF [0,0]:=by intro v b;simp only[YE,YF,YG] at b;rcases b with rfl|rfl<;>decide
 unfold Qh;split
 ·intro v b;cases b
 ·split
  ·exact Jx (Jx (Jx j y) l) (JN _)
  ·exact Jx (Jx (Jx (Jx j y) o) (JN _)) g
theorem KE (J r N:FuncId)(hF:r=185\/r=188\/r=182)(L s:Nat)(cZ:s+2<=L/\L<=20)(p a b f C B:Int)(cM:Jm p)(ST:Int->List Int)(aE a3:List Int)(t:Option Addr)(n u:Nat)(aQ:List Int)(ao an:Option Addr)(k ae ag:Nat)(R Q:List Int)(w:World)(aP:JA w t n u aQ)(j:JA w ao k ae R)(y:JA w an k ag Q)(bH:k=4\/k=16)(cT:n<=60000)
 (bt:Hid (∀T d,d.heap[T]? =some (.map QH 4)->(Instr.lookup 224 (.map (some T)) (Jq p) true).run prog d=.ok (.tuple #[.agg #[Jk (L:Int),Jk (s:Int),Jr J,Jr r,Jr N],true]) d))
 (bp:Hid (∀d,JA d t n u aQ->Jf 152 #[.agg (Jbz p (Jl a) (Jl b) f C B (.slice t n u):Array Value)] d (Jz d (.bool true))))
 (cu:Hid (∀d,Jf 138 #[.agg #[Jk (L:Int),Jk (s:Int),Jr J,Jr r,Jr N],.agg (Jbz p (Jl a) (Jl b) f C B (.slice t n u):Array Value)] d (Jz d (Jk ((L:Int)+(n:Int))))))
 (bN:Hid (∀o d,WrK d o (λ_=>False) []->Jf r #[.pointer (some ⟨o,0,none⟩),.agg (Jbz p (Jl a) (Jl b) f C B (.slice t n u):Array Value)] d (A5 d o (λ_=>False) a3)))
 (cp:Hid (a3++aQ=ST 0))
 (ck:Hid (a3.length=L))
 (aw:Hid (∀c:Int,(ST c).length=L+n))
 (cd:Hid (JF (ST 0)))
 (a0:Hid (∀c:Nat,(ST 0).take s++be2 (c:Int)++(ST 0).drop (s+2)=ST (c:Int)))
 (bj:Hid (aE=ST (if sumOf (Qh p ((L:Int)+(n:Int)) R Q++ST 0)=0/\p=17 then 65535 else (sumOf (Qh p ((L:Int)+(n:Int)) R Q++ST 0):Int)))):
 Jf 94 #[.agg (X0 p a b f C B t n u),.slice ao k ae,.slice an k ag] w (JO w aE 0):=by
 have cW:∀bi w,(callFunc r bi).run prog w=.ok (.enter r bi) w:=λbi w=>by rcases hF with rfl|rfl|rfl<;>kernel_rfl
 have bW:=H aP;have ch:=aP.len;have cx:=aP.len
 have bT:Hid (∀d,Ji w d->Jf 139 #[p,Jk ((L:Int)+(n:Int)),.slice ao k ae,.slice an k ag] d (Bs d (Qh p ((L:Int)+(n:Int)) R Q))):=H (λd al=>by
  have bQ:=j.below al;have bU:=y.below al;rcases bH with rfl|rfl
  ·exact GR p _ ao an ae ag R Q d bQ bU O O
  ·exact Ic p _ ao an ae ag R Q d bQ bU O O)
 have cI:Hid (JF (Qh p ((L:Int)+(n:Int)) R Q)):=H (Fp _ _ _ _ j.byte y.byte O)
 have co:Hid ((Qh p ((L:Int)+(n:Int)) R Q).length<=100):=H (by
  have c2:=j.len;have cN:=y.len;unfold Qh;split
  ·simp
  ·split<;>simp only[WV,be2,Yy,Jau]<;>omega)
 have ak:=WP w (.cells (X0 p a b f C B t n u) 149);have bd:Below w.heap.size w (w.alloc (.cells (X0 p a b f C B t n u) 149)):=Below.all (Jc _ _) _;unfold X0 at ak bd|-;clear aP j y bH ch;go_enter func94,ntmps94
 go_wp2_with fail
 obtain⟨g,bh⟩:∃b,b=w.heap.size:=⟨_,rfl⟩
 rw[<-bh] at ak|-;have cR:=H bh;clear bh;generalize cq:w.alloc (.cells (Jbz p (Jl a) (Jl b) f C B (.slice t n u)) 149)=ab at*;have ai:g<ab.heap.size:=(Ja ak).1;have aT:Jg ab g 0 (Jq p):=WF 0 ak;have bY:=H ak;have bB:=H bd;clear ak bd cq;refine QZ [.w,.h,.h] [(1,1,0),(2,1,0)] (λ_ d=>Jg d g 0 (Jq p)) [1] [(.w,0),(.w,3),(.q,4),(.q,5),(.q,6)] [(.w,8),(.q,9)] 7 (.cells #[Jk 0,Jk 0,.nilFunc,.nilFunc,.nilFunc] 222) K K rfl rfl ⟨λ_=>rfl,λ_ _=>K⟩ K K ?_;apply Exists.intro;refine⟨λP z=>?_,?_,?_⟩
 ·have cc:Jg P g 0 (Jq p):=(JK z ai _ rfl).trans aT;have bx:g<P.heap.size:=Jd ai z.size;exact JcB
 ·intro q bs cP bJ;simp only[YE,YF,YG] at bs;rcases bs with rfl|rfl
  ·cases bJ;exact⟨_,rfl,rfl,λw2 bS=>K⟩
  ·cases bJ;exact⟨_,rfl,rfl,λw2 bS=>by simp[execOp,go_sem,bS]⟩
 simp only[Qp,Ja0,Jbf];refine⟨λv M w2=>∃T,v=.map (some T)/\KD ab T M w2,?_,?_,?_,?_⟩
 ·rintro M-;refine⟨rfl,λd bc=>.inr ⟨136,#[],K,?_⟩⟩;obtain⟨⟨x,rfl⟩,bI⟩:=bc;refine(Zk x.world).mono ?_;rintro e w2 ⟨T,rfl,cv,cb,ac⟩;refine⟨_,rfl,T,rfl,Wx x.below ac,WJ x.below.size cv,cb,λb am=>⟨(bI b am).1,?_⟩⟩;have:=(bI b am).2;exact(ac.block b (Ja this).1).trans this
 ·rintro v M c0-w2 ⟨T,-,aa⟩;exact(JK aa.1 ai _ rfl).trans aT
 ·rintro-v w2 ⟨T,rfl,j,y,aK,-⟩;exact⟨T,rfl,Below.all j _,y,(YU _ _ (Ja aK).1).trans aK,λb am=>by cases am;exact⟨j.size,WP _ _⟩⟩
 rintro v ⟨cK,cy,T,rfl,-⟩;refine⟨λv M w2=>v=.tuple #[.agg #[Jk (L:Int),Jk (s:Int),Jr J,Jr r,Jr N],true]/\KD ab T M w2,?_,λ_ _=>J4 rfl,?_,?_⟩
 ·rintro M-;refine JX.made rfl ?_;rintro d ⟨cS,cD,aa⟩;cases cD;exact⟨.tuple #[.agg #[Jk (L:Int),Jk (s:Int),Jr J,Jr r,Jr N],true],d,Z5 _ _ (vm:=.map (some T)) (vx:=.int .u8 p) K K (bt T d aa.2.2.1),rfl,aa⟩
 ·rintro-v w2 ⟨cm,j,y,aK,-⟩;exact⟨cm,Below.all j _,y,(YU _ _ (Ja aK).1).trans aK,λb am=>by cases am;exact⟨j.size,WP _ _⟩⟩
 rintro v ⟨cf,b7,rfl,-⟩;refine⟨.tuple #[.agg #[Jk (L:Int),Jk (s:Int),Jr J,Jr r,Jr N],true],⟨rfl,λ_=>K⟩,?_⟩;refine⟨.agg #[Jk (L:Int),Jk (s:Int),Jr J,Jr r,Jr N],⟨rfl,λ_=>K⟩,?_⟩;refine⟨.bool true,⟨rfl,λ_=>K⟩,?_⟩;intro l;refine⟨λv M w2=>v=undef/\Ji ab w2/\ab.heap.size<=l/\Jh w2 l #[Jk (L:Int),Jk (s:Int),Jr J,Jr r,Jr N] 222,?_,λ_ _=>J4 rfl,(λh=>by cases h),?_⟩
 ·rintro M rfl;refine JX.skip rfl ?_;rintro d ⟨-,aa⟩;obtain⟨aW,z⟩:=aa.2.2.2 l rfl;exact⟨_,Fm _ d l #[Jk (L:Int),Jk (s:Int),Jr J,Jr r,Jr N] K K (by rw[Jw _ _ _ _ _ z];rfl) rfl rfl,aa.1.trans (Jy _ aW),aW,JC z⟩
 rintro v ⟨cl,ca,rfl,-⟩;refine⟨.bool true,⟨rfl,λ_=>K⟩,?_⟩;rintro aS ⟨-,aV,aW,a1⟩;have a9:=H (Wx bB aV);have be:=H ((aV.block g ai).trans bY);have bD:=H a1;have b0:l<aS.heap.size:=(Ja a1).1;have bu:g<aS.heap.size:=Jd ai aV.size;have cV:l≠g:=O;have a5:Jv aS g 0 12=(Jbz p (Jl a) (Jl b) f C B (.slice t n u):Array Value):=Ju be rfl;clear aV a1 aW aT ai cy b7 ca cK cf cl bY bB bt;unfold XK;go_wp2_with fail
 refine Jb (bp aS (bW.out.below a9)) ?_;rintro e aB ⟨rfl,ac⟩;have bb:=H (Wx a9 ac);have aO:=H ((ac.block g bu).trans be);have aU:=H ((ac.block l b0).trans bD);clear ac a5 b0 bu a9 be bD bp;go_wp2_with fail
 have aM:g<aB.heap.size:=(Ja aO).1;have aY:l<aB.heap.size:=(Ja aU).1;refine QN [.h,.h,.h,.h,.h,.h,.h] [] (λ_ _=>True) [] [(.w,7),(.q,8),(.q,9),(.q,10),(.q,11),(.q,12)] K K K K ?_;apply Exists.intro;refine⟨λP z=>?_,by simp,?_⟩
 ·have bx:g<P.heap.size:=Jd aM z.size;have ce:l<P.heap.size:=Jd aY z.size;have a7:=(z.block g aM).trans aO;have cc:Jg P g 0 (Jq p):=WF 0 a7;have cC:Jv P g 0 12=(Jbz p (Jl a) (Jl b) f C B (.slice t n u):Array Value):=Ju a7 rfl;have cA:Jv P l 0 5=#[.int .i64 (L:Int),.int .i64 (s:Int),.func (.func J) #[] #[],.func (.func r) #[] #[],.func (.func N) #[] #[]]:=Ju ((z.block l aY).trans aU) rfl
  have cY:∀x:J2 P,Xj prog 149 x.world (Jj g)=.ok (.value (.agg (Jbz p (Jl a) (Jl b) f C B (.slice t n u)))) x.world:=λx=>by
   have e:Jv x.world g 0 12=_:=(J2.part x g 0 12 bx).trans cC;rw[Af x.world g 0 (by rw[e];rfl),e]
  have cX:∀x:J2 P,Xj prog 222 x.world (Jj l)=.ok (.value (.agg #[Jk (L:Int),Jk (s:Int),Jr J,Jr r,Jr N])) x.world:=λx=>by
   have e:Jv x.world l 0 5=_:=(J2.part x l 0 5 ce).trans cA;rw[Fl x.world l 0 (by rw[e];rfl),e]
  clear a7 z;simp only[JW];repeat go_big_quiet_step ((go_at_call 138;exact JD (cu _)))
  exact Jaa rfl
 simp only[Qp,Ja0,Jbf];generalize cg:Qh p ((L:Int)+(n:Int)) R Q=G at*;clear cg;refine⟨λv M w2=>∃E I,v=.tuple #[.slice E G.length I,true]/\J8 w2 aB.heap.size 1 E G.length I (G.map (.int .u8))/\Ji aB w2,?_,λ_ _=>Ap,(λh=>by cases h),?_⟩
 ·rintro M rfl;refine⟨rfl,λd bc=>.inr ⟨139,#[p,Jk ((L:Int)+(n:Int)),.slice ao k ae,.slice an k ag],K,?_⟩⟩;obtain⟨⟨x,rfl⟩,-⟩:=bc;refine(bT x.world (Wx bb x.below)).mono ?_;rintro e w2 ⟨E,I,rfl,cF,al⟩;exact⟨_,rfl,E,I,rfl,cF.mono x.below.size,Wx x.below al⟩
 rintro v ⟨cr,cw,E,I,rfl,-⟩;refine⟨.tuple #[.slice E G.length I,true],⟨rfl,λ_=>K⟩,?_⟩;refine⟨.slice E G.length I,⟨rfl,λ_=>K⟩,?_⟩;refine⟨.bool true,⟨rfl,λ_=>K⟩,?_⟩;refine⟨.slice E G.length I,⟨rfl,λ_=>K⟩,?_⟩;refine⟨.bool true,⟨rfl,λ_=>K⟩,?_⟩;rintro A ⟨cj,b9,bL,bq,aX⟩;obtain⟨rfl,rfl⟩:E=cj/\I=b9:=by simpa using bL
 clear bL cw cr;have a8:=H (Wx bb aX);have ax:=(aX.block g aM).trans aO;have aD:=(aX.block l aY).trans aU;have ad:g<A.heap.size:=(Ja ax).1;have aj:l<A.heap.size:=(Ja aD).1;have aN:=H bq;have bo:=H ax;have bV:=H aD;obtain⟨o,ah⟩:∃o,o=A.heap.size:=⟨_,rfl⟩
 have bm:WrK (A.alloc (.cells #[Jbo] 137)) A.heap.size (λ_=>False) []:=by
  refine WrK.new ?_ ?_ ?_ ?_
  ·simp
  ·simp
  ·simp
  ·intro b al;cases al
 have a2:=H bm;have aL:Below A.heap.size A (A.alloc (.cells #[Jbo] 137)):=Below.all (Jc _ _) _;have cL:Jg (A.alloc (.cells #[Jbo] 137)) l 3 (Jr r):=(WH (a:=⟨l,3,none⟩) (aL.block l aj)).trans (WF 3 aD);have cB:Jg A l 3 (Jr r):=WF 3 aD;have a5:Jv (A.alloc (.cells #[Jbo] 137)) g 0 12=(Jbz p (Jl a) (Jl b) f C B (.slice t n u):Array Value):=Ju ((aL.block g ad).trans ax) rfl;have cH:Jv A g 0 12=(Jbz p (Jl a) (Jl b) f C B (.slice t n u):Array Value):=Ju ax rfl;have bg:=H aL;clear bm aL aX bq ax aD aO aU bb aM aY bT;go_wp2_with fail
 rw[<-ah] at a2 bg|-;generalize A.alloc (.cells #[Jbo] 137)=cs at*;refine Jb (bN o cs a2) ?_;rintro e bF ⟨rfl,bv,b2,-⟩;have aG:=bg.trans b2;rw[<-ah] at ad aj;have af:w.heap.size<=o:=by rw[ah];exact a8.size
 have a6:=H (a8.trans (aG.mono af));have bl:=H ((aG.block g ad).trans bo);have bw:=H ((aG.block l aj).trans bV);have bR:=H ((aN.reads cI).belowB aG (λa e=>by rw[ah];exact(aN.lt e).2));have br:Hid (∀a,E=some a->a.block<o):=H (λa e=>by rw[ah];exact(aN.lt e).2);have bM:=H bv;have cJ:Jg bF g 11 (.slice t n u):=WF 11 bl;clear bv b2 aG cL cB a5 cH a2 bg bo bV aN a8 bN ah;go_wp2_with fail
 refine Jb (A4 o _ _ t n u aQ bF bM (bW.out.below a6) (by rw[ck.out,cx];omega)) ?_;rintro e ci ⟨rfl,bf,aH,-⟩;rw[cp.out] at bf;have aI:=H bf;have bO:=H (a6.trans (aH.mono af));have b4:=H ((aH.block g ad).trans bl);have b1:=H ((aH.block l aj).trans bw);have b5:=H (bR.belowB aH br);clear bf aH bM a6 bl bw bR cJ;go_wp2_with fail
 refine Jb (Bits.bytes_any o _ ci aI.wr (by have:=aw.out 0;omega)) ?_;rintro e aR ⟨b3,cz,rfl,a4,aJ⟩;have z:=aJ.mono (Ja1 aI.lt);have bZ:=H (a4.reads cd);have bz:Hid (∀a,b3=some a->a.block<aR.heap.size):=H (λa e=>(a4.lt e).2);have bX:=H (aI.below aJ);have bP:=H (bO.trans (z.mono af));have bn:=H ((z.block g ad).trans b4);have bC:=H ((z.block l aj).trans b1);have bK:=H (b5.below aJ);have ba:o<aR.heap.size:=Jd aI.lt aJ.size;have X:=H (aw 0);have bG:=H (FV 22 bK bZ (by have:=co.out;omega) (by have:=X.out;omega) (λa e=>Jbc (br a e) ba) bz);clear a4 aJ z aI bO b4 b1 b5;go_wp2_with fail
 refine Jb (Gy _ 2 2 _ _ bG D) ?_;rintro e aq ⟨rfl,bA⟩;have aC:=Wx (Below.all (Jc aR.heap.size aR) (.cells #[.slice E G.length I,.slice b3 (ST 0).length cz] 22)) bA;have ap:=H (bX.below aC);have bk:=H (Wx bP aC);have cG:=H ((aC.block g (Jbc ad ba)).trans bn);have b8:=H ((aC.block l (Jbc aj ba)).trans bC);rw[show[G,ST 0].flatten=G++ST 0 by simp];have c1:=DE (G++ST 0);generalize sumOf (G++ST 0)=sm at*;have aT:Jg aq g 0 (Jq p):=WF 0 cG;have cQ:Jg aq l 1 (Jk (s:Int)):=WF 1 b8;clear bA aC bG bX bP bn bC bK bZ bz;have cE:(0:Int)<=(sm:Int):=Yc _;have cn:(sm:Int)<65536:=O;by_cases aZ:sm=0
 ·subst aZ;by_cases Z:p=17
  ·have ct:(p==17)=true:=by simpa using Z
   have b6:decide (p=17)=true:=by simpa using Z
   have ar:Hid (aE=ST ((65535:Nat):Int)):=H (by rw[bj.out,YH ⟨rfl,Z⟩];rfl);clear Z;go_wp2_with fail
   refine Jb (FQ o _ s 65535 D D aq ap.wr (by have:=X.out;omega) (by have:=X.out;omega)) ?_;rintro e Y ⟨rfl,F,U⟩
   have av:Wr Y o (ST ((65535:Nat):Int)):=by
    have e:=a0.out 65535;rw[show((65535:Nat):Int)=65535 from rfl] at e|-;rw[e] at F;exact F
   have aA:=H av;clear av;have W:=H (bk.trans (U.mono af));clear F U ap;go_wp2_with fail
   refine Jb (Bits.bytes_any o _ Y aA (by have:=aw.out ((65535:Nat):Int);omega)) ?_;exact Jdd
  ·have ct:(p==17)=false:=by simpa using Z
   have ar:Hid (aE=ST ((0:Nat):Int)):=H (by rw[bj.out,Yw (λh=>Z h.2)]);have b6:decide (p=17)=false:=by simpa using Z
   go_wp2_with fail
   refine Jb (FQ o _ s 0 D D aq ap.wr (by have:=X.out;omega) (by have:=X.out;omega)) ?_;rintro e Y ⟨rfl,F,U⟩
   have av:Wr Y o (ST ((0:Nat):Int)):=by
    have e:=a0.out 0;rw[show((0:Nat):Int)=0 from rfl] at e|-;rw[e] at F;exact F
   have aA:=H av;clear av;have W:=H (bk.trans (U.mono af));clear F U ap;go_wp2_with fail
   refine Jb (Bits.bytes_any o _ Y aA (by have:=aw.out ((0:Nat):Int);omega)) ?_;exact Jdd
 ·have cO:((sm:Int)==0)=false:=by simpa using aZ
  have cU:decide ((sm:Int)=0)=false:=by simpa using aZ
  have ar:Hid (aE=ST (sm:Int)):=H (by rw[bj.out,Yw (λh=>aZ h.1)]);go_wp2_with fail
  refine Jb (FQ o _ s sm cE cn aq ap.wr (by have:=X.out;omega) (by have:=X.out;omega)) ?_;rintro e Y ⟨rfl,F,U⟩;rw[a0.out sm] at F;have aA:=H F;have W:=H (bk.trans (U.mono af));clear F U ap;go_wp2_with fail
  refine Jb (Bits.bytes_any o _ Y aA (by have:=aw.out (sm:Int);omega)) ?_;exact Jdd
theorem Ti (a b:Int)(e:Option Addr)(n o:Nat)(l:List Int)(z t:Option Addr)(k C v:Nat)(r p:List Int)(w:World)(u:JA w e n o l)(j:JA w z k C r)(y:JA w t k v p)(A:k=4\/k=16)(B:n<=60000)(ha:Jn a)(g:Jn b):
 Jf 94 #[.agg (X0 17 a b 0 0 0 e n o),.slice z k C,.slice t k v] w (JO w (DR 17 a b 0 l r p) 0):=by
 have E:=u.len;have Q:Hid (∀T d,d.heap[T]? =some (.map QH 4)->(Instr.lookup 224 (.map (some T)) (Jq 17) true).run prog d=.ok (.tuple #[.agg #[Jk 8,Jk 6,Jr 187,Jr 188,Jr 189],true]) d):=H (λT d h=>Xt 17 (.inr (.inl rfl)) T d h);have L:Hid (∀d,JA d e n o l->Jf 152 #[.agg (Jb7 (17:Int) (Jl a) (Jl b) (.slice e n o):Array Value)] d (Jz d (.bool true))):=H (λd h=>by have:=Pl a b e n o l d h B;unfold X0 at this;exact this);have N:Hid (∀d,Jf 138 #[.agg #[Jk 8,Jk 6,Jr 187,Jr 188,Jr 189],.agg (Jb7 (17:Int) (Jl a) (Jl b) (.slice e n o):Array Value)] d (Jz d (Jk (8+(n:Int))))):=H (λd=>Z4 8 _ _ _ _ 17 a b 0 0 0 e n o d D O)
 have F:Hid (∀s d,WrK d s (λ_=>False) []->Jf 188 #[.pointer (some ⟨s,0,none⟩),.agg (Jb7 (17:Int) (Jl a) (Jl b) (.slice e n o):Array Value)] d (A5 d s (λ_=>False) (Q9 2 [a,b,8+(n:Int),0]))):=H (λs d h=>by
  have:=by have:=Pb s _ 17 a b 0 0 0 e n o [] d h ha g O (by simp);unfold X0 at this;exact this
  simpa[Jah] using this)
 have I:Hid ((Q9 2 [a,b,8+(n:Int),0])++l=JU 17 a b 0 (8+(n:Int)) 0 l):=H (by unfold JU;simp[Q9,Ib,be2]);have M:Hid ((Q9 2 [a,b,8+(n:Int),0]).length=8):=H (by simp[Q9,Ib,be2,be4]);have P:Hid (∀c:Int,(JU 17 a b 0 (8+(n:Int)) c l).length=8+n):=H (λc=>by unfold JU;simp[be2,E];omega);have R:Hid (JF (JU 17 a b 0 (8+(n:Int)) 0 l)):=H (by unfold JU;simp only[Yw (show¬(17:Int)=6 from D),YW];exact Jx (Jx (Jx (Jx (JN _) (JN _)) (JN _)) (JN _)) u.byte);have G:Hid (∀c:Nat,(JU 17 a b 0 (8+(n:Int)) 0 l).take 6++be2 (c:Int)++(JU 17 a b 0 (8+(n:Int)) 0 l).drop (6+2)=JU 17 a b 0 (8+(n:Int)) (c:Int) l):=H (λc=>by unfold JU;simp[be2])
 have J:Hid (DR 17 a b 0 l r p=JU 17 a b 0 (8+(n:Int)) (if sumOf (Qh 17 (8+(n:Int)) r p++JU 17 a b 0 (8+(n:Int)) 0 l)=0/\(17:Int)=17 then 65535 else (sumOf (Qh 17 (8+(n:Int)) r p++JU 17 a b 0 (8+(n:Int)) 0 l):Int)) l):=H (by
  unfold DR U0;rw[show((tHead 17+l.length:Nat):Int)=8+(n:Int) by rw[E];unfold tHead;simp];simp)
 exact KE _ _ _ (.inr (.inl rfl)) 8 6 D 17 a b 0 0 0 D (λc=>JU 17 a b 0 (8+(n:Int)) c l) _ _ e n o l z t k C v r p w u j y A B Q L N F I M P R G J
theorem Tj (a b f:Int)(e:Option Addr)(n o:Nat)(l:List Int)(E z:Option Addr)(k F C:Nat)(r p:List Int)(w:World)(u:JA w e n o l)(j:JA w E k F r)(y:JA w z k C p)(A:k=4\/k=16)(B:n<=60000)(ha:Jn a)(g:Jn b)(U:Jm f):
 Jf 94 #[.agg (X0 6 a b f 0 0 e n o),.slice E k F,.slice z k C] w (JO w (DR 6 a b f l r p) 0):=by
 have G:=u.len;have S:Hid (∀T d,d.heap[T]? =some (.map QH 4)->(Instr.lookup 224 (.map (some T)) (Jq 6) true).run prog d=.ok (.tuple #[.agg #[Jk 20,Jk 16,Jr 184,Jr 185,Jr 186],true]) d):=H (λT d h=>Xt 6 (.inl rfl) T d h);have N:Hid (∀d,JA d e n o l->Jf 152 #[.agg (Jb8 (6:Int) (Jl a) (Jl b) f (.slice e n o):Array Value)] d (Jz d (.bool true))):=H (λd h=>by have:=Pj a b f e n o l d h B;unfold X0 at this;exact this);have Q:Hid (∀d,Jf 138 #[.agg #[Jk 20,Jk 16,Jr 184,Jr 185,Jr 186],.agg (Jb8 (6:Int) (Jl a) (Jl b) f (.slice e n o):Array Value)] d (Jz d (Jk (20+(n:Int))))):=H (λd=>Z4 20 _ _ _ _ 6 a b f 0 0 e n o d D O)
 have I:Hid (∀s d,WrK d s (λ_=>False) []->Jf 185 #[.pointer (some ⟨s,0,none⟩),.agg (Jb8 (6:Int) (Jl a) (Jl b) f (.slice e n o):Array Value)] d (A5 d s (λ_=>False) (Q9 2 [a,b]++Q9 4 [0,0]++Q9 1 [80,f]++Q9 2 [0,0,0]))):=H (λs d h=>by
  have:=by have:=Pc s _ 6 a b f 0 0 e n o [] d h ha g U (by simp);unfold X0 at this;exact this
  simpa[Jah] using this)
 have L:Hid ((Q9 2 [a,b]++Q9 4 [0,0]++Q9 1 [80,f]++Q9 2 [0,0,0])++l=JU 6 a b f (20+(n:Int)) 0 l):=H (by unfold JU;simp[Q9,Ib,be2,be4]);have P:Hid ((Q9 2 [a,b]++Q9 4 [0,0]++Q9 1 [80,f]++Q9 2 [0,0,0]).length=20):=H (by simp[Q9,Ib,be2,be4]);have R:Hid (∀c:Int,(JU 6 a b f (20+(n:Int)) c l).length=20+n):=H (λc=>by unfold JU;simp[be2,G];omega);have V:Hid (JF (JU 6 a b f (20+(n:Int)) 0 l)):=H (by unfold JU;simp only[YW];refine Jx (Jx (Jx (Jx (Jx (JN _) (JN _)) ?_) (JN _)) ?_) u.byte;(intro v t;simp only[YE,YF,YG] at t;omega);(intro v t;simp only[YE,YF,YG] at t;omega));have J:Hid (∀c:Nat,(JU 6 a b f (20+(n:Int)) 0 l).take 16++be2 (c:Int)++(JU 6 a b f (20+(n:Int)) 0 l).drop (16+2)=JU 6 a b f (20+(n:Int)) (c:Int) l):=H (λc=>by unfold JU;simp[be2])
 have M:Hid (DR 6 a b f l r p=JU 6 a b f (20+(n:Int)) (if sumOf (Qh 6 (20+(n:Int)) r p++JU 6 a b f (20+(n:Int)) 0 l)=0/\(6:Int)=17 then 65535 else (sumOf (Qh 6 (20+(n:Int)) r p++JU 6 a b f (20+(n:Int)) 0 l):Int)) l):=H (by
  unfold DR U0;rw[show((tHead 6+l.length:Nat):Int)=20+(n:Int) by rw[G];unfold tHead;simp];simp)
 exact KE _ _ _ (.inl rfl) 20 16 D 6 a b f 0 0 D (λc=>JU 6 a b f (20+(n:Int)) c l) _ _ e n o l E z k F C r p w u j y A B S N Q I L P R V J M
theorem RW (p e b:Int)(o:Option Addr)(n r:Nat)(l:List Int)(I F:Option Addr)(k J G:Nat)(v t:List Int)(w:World)(u:JA w o n r l)(j:JA w I k J v)(y:JA w F k G t)(A:k=4\/k=16)(B:n<=60000)(ha:Jm e)(g:Jm b)(E:p=1\/p=58):
 Jf 94 #[.agg (X0 p 0 0 0 e b o n r),.slice I k J,.slice F k G] w (JO w (DR p e b 0 l v t) 0):=by
 have L:=u.len;have z:¬p=6:=O;have s:¬p=17:=O;have aa:(p==17)=false:=by simpa using s
 have ab:decide (p=17)=false:=by simpa using s
 have Q:Jm p:=O;have Y:Hid (∀T d,d.heap[T]? =some (.map QH 4)->(Instr.lookup 224 (.map (some T)) (Jq p) true).run prog d=.ok (.tuple #[.agg #[Jk 4,Jk 2,Jr 181,Jr 182,Jr 183],true]) d):=H (λT d h=>by have:=Xt p (.inr (.inr E)) T d h;rwa [show GP p=Zq by rcases E with rfl|rfl<;>rfl] at this);have U:Hid (∀d,JA d o n r l->Jf 152 #[.agg (Jb9 p e b (.slice o n r):Array Value)] d (Jz d (.bool true))):=H (λd h=>by have:=Nr p e b o n r l d h B E;unfold X0 at this;exact this);have W:Hid (∀d,Jf 138 #[.agg #[Jk 4,Jk 2,Jr 181,Jr 182,Jr 183],.agg (Jb9 p e b (.slice o n r):Array Value)] d (Jz d (Jk (4+(n:Int))))):=H (λd=>Z4 4 _ _ _ _ p 0 0 0 e b o n r d D O)
 have M:Hid (∀C d,WrK d C (λ_=>False) []->Jf 182 #[.pointer (some ⟨C,0,none⟩),.agg (Jb9 p e b (.slice o n r):Array Value)] d (A5 d C (λ_=>False) (Q9 1 [e,b]++Q9 2 [0]))):=H (λC d h=>by
  have:=by have:=Np C _ p 0 0 0 e b o n r [] d h ha g (by simp);unfold X0 at this;exact this
  simpa[Jah] using this)
 have R:Hid ((Q9 1 [e,b]++Q9 2 [0])++l=JU p e b 0 (4+(n:Int)) 0 l):=H (by unfold JU;simp[Q9,Ib,be2,be4,z,s]);have V:Hid ((Q9 1 [e,b]++Q9 2 [0]).length=4):=H (by simp[Q9,Ib,be2,be4]);have X:Hid (∀c:Int,(JU p e b 0 (4+(n:Int)) c l).length=4+n):=H (λc=>by unfold JU;simp[be2,L,z,s];omega);have Z:Hid (JF (JU p e b 0 (4+(n:Int)) 0 l)):=H (by unfold JU;simp only[Yw z,Yw s];refine Jx (Jx ?_ (JN _)) u.byte;(intro ac P;simp only[YE,YF,YG] at P;omega));have N:Hid (∀c:Nat,(JU p e b 0 (4+(n:Int)) 0 l).take 2++be2 (c:Int)++(JU p e b 0 (4+(n:Int)) 0 l).drop (2+2)=JU p e b 0 (4+(n:Int)) (c:Int) l):=H (λc=>by unfold JU;simp[be2,z,s])
 have S:Hid (DR p e b 0 l v t=JU p e b 0 (4+(n:Int)) (if sumOf (Qh p (4+(n:Int)) v t++JU p e b 0 (4+(n:Int)) 0 l)=0/\p=17 then 65535 else (sumOf (Qh p (4+(n:Int)) v t++JU p e b 0 (4+(n:Int)) 0 l):Int)) l):=H (by
  unfold DR U0;rw[show((tHead p+l.length:Nat):Int)=4+(n:Int) by rw[L];unfold tHead;simp[z,s,E]];simp)
 exact KE _ _ _ (.inr (.inr rfl)) 4 2 D p 0 0 0 e b Q (λc=>JU p e b 0 (4+(n:Int)) c l) _ _ o n r l I F k J G v t w u j y A B Y U W M R V X Z N S
structure ZO (p:Nat)(w w':World):Prop where
 below:Below p w w'
 keep:∀i,i≠p->i<w.heap.size->w'.heap[i]? =w.heap[i]?
theorem ZO.trans {p:Nat}{w V w2:World}(h:ZO p w V)(k:ZO p V w2):ZO p w w2:=
 ⟨h.below.trans k.below,λi o M=>(k.keep i o (Jd M h.below.size)).trans (h.keep i o M)⟩
theorem ZO.of {p:Nat}{w b:World}(h:Ji w b)(e:p<w.heap.size):ZO p w b:=⟨h.mono (Ja1 e),λi _ M=>h.block i M⟩
theorem ZO.set {p:Nat}{w d:World}(h:ZO p w d)(k:Nat)(v:Value):ZO p w (d.setCell ⟨p,k,none⟩ v):=
 ⟨h.below.setCell (Je _) _,λi F M=>(WK _ _ _ _ F).trans (h.keep i F M)⟩
theorem ZO.setNew {p:Nat}{w d:World}(h:ZO p w d)(E:p<w.heap.size)(k:Nat)(v:Value):ZO p w (d.setCell ⟨w.heap.size,k,none⟩ v):=
 ⟨h.below.setCell (Ja1 E) _,λi F M=>(WK _ _ _ _ (by simp only;omega)).trans (h.keep i F M)⟩
theorem Rd.above {w:World}{b p:Nat}{l:List Int}{i:Nat}(h:Rd w b p l i){a:Addr}(ha:p<a.block)(g:Value):Rd (w.setCell a g) b p l i:=by
 obtain⟨s,o,I,u,d⟩:=h.row;have e:(w.setCell a g).heap[p]? =w.heap[p]?:=WK _ _ _ _ O;exact⟨⟨s,o,(WH (a:=⟨p,0,none⟩) e).trans I,u.other (λj n=>by have:=(d j n).2;omega) _,d⟩,(WH (a:=⟨p,1,none⟩) e).trans h.pos,λJ=>(WI (a:=⟨p,J,none⟩) e).trans (h.free J),by simpa using h.lt⟩
def Uv (w:World)(b p:Nat)(l:List Int)(i:Nat)(v err:Int):Ending->World->Prop:=λe d=>e=.returned (.tuple #[Jo v,Jk err])/\Rd d b p l i/\ZO p w d
theorem Tk (b p:Nat)(l:List Int)(i a:Nat)(w:World)(R:Rd w b p l i)(j:1<=a)(r:a<=8)(g:i+a<=l.length)(B:l.length<=1000000):
 Jf 233 #[.pointer (some ⟨p,0,none⟩),Jk a] w (Uv w b p l (i+a) (numAt l i a) 0):=by
 have e:=H R;obtain⟨s,o,I,u,ha⟩:=R.row;have t:=R.pos;have n:=R.lt;have v:=R.free 1;have d:=H u;clear ha u R;go_enter func233,ntmps233
 go_wp2_with fail
 refine JM K K ?_;repeat go_big_quiet_step ((go_at_call 81;exact JD (get_ok s l.length o l i a _ (d.later _) j r g B)))
 refine Jaa ?_;intro x;go_wp2_with fail
 go_ret2;refine⟨rfl,?_,?_⟩
 ·have:=(e.later x).step (i+a);exact this
 ·exact(ZO.of x.below n).set 1 _
def Vr (w:World)(b p:Nat)(l:List Int)(i:Nat)(v:Value):Ending->World->Prop:=λe d=>e=.returned v/\Rd d b p l i/\ZO p w d
def Tl (w:World)(b p:Nat)(l:List Int)(i n:Nat):Ending->World->Prop:=λe d=>∃s o,e=.returned (.slice s n o)/\Rd d b p l i/\ZO p w d
def Pm (w:World)(b p:Nat)(l:List Int)(i n:Nat)(err:Int):Ending->World->Prop:=λe d=>∃s o,e=.returned (.tuple #[.slice s n o,Jk err])/\Rd d b p l i/\ZO p w d
theorem GU (b p:Nat)(l:List Int)(i j:Nat)(w:World)(R:Rd w b p l i)(W:i+j<=l.length)(B:l.length<=1000000):
 Jf 219 #[.pointer (some ⟨p,0,none⟩),Jk j] w (Pm w b p l (i+j) j 0):=by
 have L:=H R;obtain⟨s,o,I,u,ha⟩:=R.row;have v:=R.pos;have n:=R.lt;have y:=R.free 1;have G:=H u;have ah:=u.le;have F:=H (Kr b p l i w R O B);have ae:decide ((j:Int)<0)=false:=by simp
 have ad:decide ((j:Int)>(l.length:Int)-i)=false:=by simp;omega
 have hcut:∀w,(Instr.slice 22 (.slice s l.length o) (some (.int .i64 (i:Int))) (some (.int .i64 ((i:Int)+j))) (some (.int .i64 ((i:Int)+j)))).run prog w=.ok (.slice (JQ s i (i+j) 1) (i+j-i) (i+j-i)) w:=
  λw=>Nb (P:=prog) 22 s l.length o 1 elemBytes sizeBytes i (i+j) i ((i:Int)+j) rfl O O O w
 have aa:(i:Int)+(j:Int)<9223372036854775808:=O;have S:∀(d:World) (_:Ji w d),Jg d p 0 (.slice s l.length o):=λd g=>(g.cell (p:=⟨p,0,none⟩) n).trans I
 clear u R;go_enter func219,ntmps219
 go_wp2_with fail
 refine Jb F ?_;rintro e w2 ⟨rfl,g⟩;have t:=H (L.below g);have N:=H (ZO.of g n);have J:=H (G.below g);clear I v n y L G F;have v:=t.pos;have n:=t.lt;have y:=t.free 1;have I:Jg w2 p 0 (.slice s l.length o):=S _ g;clear S g;go_wp2_with fail
 refine JM K K ?_;repeat go_big_quiet_step (fail)
 refine Jaa ?_;intro x
 have C:∀d,JA d s l.length o l->Jf 105 #[.slice (JQ s i (i+j) 1) (i+j-i) (i+j-i)] d (J5 d (((l.take (i+j)).drop i))):=λd h=>
  clone_any _ _ _ _ d (((h.take (i+j) W).shut).cut i O) O
 rw[Nat.add_sub_cancel_left] at C;have M:=H C;have r:=H (t.later x);have Q:=H (J.later x);have T:=H (ZO.trans N (ZO.of x.below n));clear I v n y t J N C;obtain⟨af,ab,I,-,V⟩:=r.row;have v:=r.pos;have n:=r.lt;have y:=r.free 1;have E:=H (r.step (i+j));have A:=H (Q.other (p:=⟨p,1,none⟩) (λa e=>by have:=(ha a e).2;simp only;omega) (Jk ((i+j:Nat):Int)));rw[show((i+j:Nat):Int)=(i:Int)+j from rfl] at E A;clear I V;go_wp2_with fail
 refine Jb (M _ A) ?_;rintro e ag ⟨ac,Z,rfl,-,z⟩;have X:=H (E.below z);have Y:=H (ZO.trans (T.set 1 _) (ZO.of z (by simpa using n)));have U:((l.take (i+j)).drop i).length=j:=by rw[W4,WR];omega
 rw[U];clear E T z U A M Q y v;go_wp2_with fail
 go_ret2;exact⟨_,_,rfl,X.out,Y.out⟩
theorem Fq (b p:Nat)(l:List Int)(i a:Nat)(w:World)(R:Rd w b p l i)(F:i<=l.length)(t:l.length<i+a)(B:l.length<=1000000)(z:a<=1000000):
 Jf 219 #[.pointer (some ⟨p,0,none⟩),Jk a] w (Pm w b p l i 0 10):=by
 have n:=H R;have s:=R.lt;have d:=H (Kr b p l i w R F B);have X:decide ((a:Int)<0)=false:=by simp
 have j:decide ((a:Int)>(l.length:Int)-i)=true:=by simp;omega
 clear R;go_enter func219,ntmps219
 go_wp2_with fail
 refine Jb d ?_;rintro e w2 ⟨rfl,g⟩;have o:=H (n.below g);have r:=H (ZO.of g s);clear g d n;go_wp2_with fail
 go_ret2;exact⟨_,_,rfl,o.out,r.out⟩
theorem E2 (b p:Nat)(l:List Int)(i a:Nat)(w:World)(R:Rd w b p l i)(j:1<=a)(o:a<=8)(n:i+a<=l.length)(B:l.length<=1000000):
 Jf 217 #[.pointer (some ⟨p,0,none⟩),Jk a] w (Vr w b p l (i+a) (Jo (numAt l i a))):=by
 have d:=H (Tk b p l i a w R j o n B);clear R j o n B;go_enter func217,ntmps217
 go_wp2_with fail
 refine Jb d ?_;rintro e w2 ⟨rfl,u,g⟩;have r:=H u;have s:=H g;clear u g d;go_wp2_with fail
 go_ret;exact⟨rfl,r.out,s.out⟩
theorem GV (b p:Nat)(l:List Int)(i:Nat)(w:World)(R:Rd w b p l i)(F:i<=l.length)(B:l.length<=1000000):
 Jf 218 #[.pointer (some ⟨p,0,none⟩)] w (Tl w b p l l.length (l.length-i)):=by
 have j:=H R;have v:=R.lt;have d:=H (Kr b p l i w R F B);clear R;go_enter func218,ntmps218
 go_wp2_with fail
 refine Jb d ?_;rintro e w2 ⟨rfl,g⟩;have n:=H (ZO.of g v);have a:=H (GU b p l i (l.length-i) w2 (j.below g) O B);rw[show(l.length:Int)-i=((l.length-i:Nat):Int) from O];rw[show i+(l.length-i)=l.length from O] at a;clear g d j;go_wp2_with fail
 refine Jb a ?_;rintro e y ⟨s,o,rfl,u,g⟩;have r:=H u;have t:=H (n.trans g);clear u g a n;go_wp2_with fail
 go_ret;exact⟨_,_,rfl,r.out,t.out⟩
structure RS (w:World)(b p:Nat)(l:List Int)(i:Nat)(cs:Array Value)(y:World):Prop where
 rd:Rd y b p l i
 row:Jh y w.heap.size cs 149
 only:ZO p w y
 lt:p<w.heap.size
def ZR:Array Value:=JbU
theorem RS.start {w:World}{b p:Nat}{l:List Int}{i:Nat}(h:Rd w b p l i):RS w b p l i ZR (w.alloc (.cells ZR 149)):=
 ⟨h.below (Below.all (Jc _ _) _),WP _ _,ZO.of (Below.all (Jc _ _) _) h.lt,h.lt⟩
theorem RS.next {w:World}{b p:Nat}{l:List Int}{i J:Nat}{S:Array Value}{Q d:World}(h:RS w b p l i S Q)(u:Rd d b p l J)(e:ZO p Q d):RS w b p l J S d:=
 ⟨u,(e.keep _ (by have:=h.lt;omega) (Ja h.row).1).trans h.row,h.only.trans e,h.lt⟩
theorem RS.set {w:World}{b p:Nat}{l:List Int}{i:Nat}{cs cs':Array Value}{y:World}(h:RS w b p l i cs y)(k:Nat)(v:Value)(hc:cs.setIfInBounds k v=cs'):RS w b p l i cs' (y.setCell ⟨w.heap.size,k,none⟩ v):=
 ⟨Rd.above h.rd h.lt _,by rw[Jae _ _ k cs _ v h.row,hc],h.only.setNew h.lt k v,h.lt⟩
theorem RS.setRow {w:World}{b p:Nat}{l:List Int}{i:Nat}{cs cs':Array Value}{Q:World}(h:RS w b p l i cs Q):ZO p w (Q.setRow w.heap.size cs')/\Jh (Q.setRow w.heap.size cs') w.heap.size cs' 149:=
 ⟨⟨h.only.below.trans (Jy _ (Ja1 h.lt)),λi F M=>(Ja5 _ _ _ _ O).trans (h.only.keep i F M)⟩,JC h.row⟩
def Ns (G N q a f j e:Int)(g:Option Addr)(p o:Nat)(l r:Int)(b:Option Addr)(n d:Nat):Array Value:=
 #[(),Jl G,Jl N,Jp q,Jp a,f,Jl j,Jl e,.slice g p o,l,r,.slice b n d]
def X8 (w:World)(p:Nat)(G N q a f g l:Int)(u:Nat)(s r:Int)(n:Nat)(err:Int):Ending->World->Prop:=λe d=>
 (∃o j b t,e=.returned (.tuple #[.agg (Ns G N q a f g l o u j s r b n t),Jk err]))/\ZO p w d
theorem ZP {d:Func}{q T:Tmp}(h:d.results=#[.cell q 149,.tmp T])(a:Array Value)(w:World)(b:Nat)(S:Array Value)(v:Value)(t:TypeId)(g:Nat×Nat)(E:a.getD q undef=.pointer (some ⟨b,0,none⟩))(e:a.getD T undef=v)(I:w.heap[b]? =some (.cells S t g))(z:S.size=12):
 (results d a).run prog w=.ok (.tuple #[.agg S,v]) w:=
 QS h a w b 12 _ v underlying149 rfl N5 E e S (Ju I z) z
theorem RX (b p:Nat)(l:List Int)(w:World)(R:Rd w b p l 0)(X:4<=l.length)(B:l.length<=1000000):
 Jf 183 #[.pointer (some ⟨p,0,none⟩)] w (X8 w p 0 0 0 0 0 0 0 0 (numAt l 0 1%256) (numAt l 1 1%256) (l.length-4) 0):=by
 have ST:=H (RS.start R);have z:Hid (∀i n Q,Rd Q b p l i->1<=n->n<=8->i+n<=l.length->Jf 217 #[.pointer (some ⟨p,0,none⟩),Jk n] Q (Vr Q b p l (i+n) (Jo (numAt l i n)))):=H (λi n Q h j S N=>E2 b p l i n Q h j S N B);have P:Hid (∀i Q,Rd Q b p l i->i<=l.length->Jf 218 #[.pointer (some ⟨p,0,none⟩)] Q (Tl Q b p l l.length (l.length-i))):=H (λi Q h F=>GV b p l i Q h F B);unfold ZR at ST;clear R;go_enter func183,ntmps183
 go_wp2_with fail
 refine Jb (z 0 1 _ ST.rd D D O) ?_;rintro e ab ⟨rfl,u,a⟩;have t:=H (ST.next u a);clear u a ST;go_wp2_with fail
 refine Jb (z 1 1 _ t.rd D D O) ?_;rintro e J ⟨rfl,u,a⟩;have v:=H (t.next u a);clear u a t;have d:=v.row;have T:Jg J w.heap.size 9 (Jq 0):=WF 9 d;have L:Jg J w.heap.size 10 (Jq 0):=WF 10 d;have U:=Jad _ _ 9 _ _ d;have M:=Jad _ _ 10 _ _ d;have s:=H ((v.set 9 (Jq (numAt l 0 1%256)) rfl).set 10 (Jq (numAt l 1 1%256)) rfl);clear d;go_wp2_with fail
 refine Jb (z 2 2 _ s.rd D D O) ?_;rintro e Z ⟨rfl,u,a⟩;have A:=H (s.next u a);clear u a s v T L U M;go_wp2_with fail
 refine Jb (P 4 _ A.rd O) ?_;rintro e r ⟨g,o,rfl,u,a⟩;have C:=A.next u a;have I:Hid (RS w b p l l.length #[(),Jbl,Jbl,Jbm,Jbm,(),Jbl,Jbl,Jbo,Jq (numAt l 0 1%256),Jq (numAt l 1 1%256),Jbo] r):=H C;clear u a A C;have d:=I.row;have aa:Jg r w.heap.size 11 (.slice none 0 0):=WF 11 d;have V:=Jad _ _ 11 _ _ d;have E:=I.set 11 (.slice g (l.length-4) o) rfl;have y:Hid (RS w b p l l.length (Jca (Jq (numAt l 0 1%256)) (Jq (numAt l 1 1%256)) (.slice g (l.length-4) o)) (r.setCell ⟨w.heap.size,11,none⟩ (.slice g (l.length-4) o))):=H E;clear E d;have W:Jv (r.setCell ⟨w.heap.size,11,none⟩ (.slice g (l.length-4) o)) w.heap.size 0 12=(Jca (Jq (numAt l 0 1%256)) (Jq (numAt l 1 1%256)) (.slice g (l.length-4) o):Array Value):=Ju y.row rfl;have Y:JE (r.setCell ⟨w.heap.size,11,none⟩ (.slice g (l.length-4) o)) w.heap.size 12=true:=by rw[Jw _ _ _ _ _ y.row];rfl
 go_wp2_with fail
 have G:=y.setRow (cs':=(Jca (Jq (numAt l 0 1%256)) (Jq (numAt l 1 1%256)) (.slice g (l.length-4) o)));exact Jag (ZP rfl _ _ w.heap.size _ _ _ (0,0) rfl rfl G.2 rfl) rfl ⟨⟨_,_,g,o,rfl⟩,G.1⟩
theorem KF (b p:Nat)(l:List Int)(w:World)(R:Rd w b p l 0)(V:8<=l.length)(B:l.length<=1000000)(g:Nat)(W:numAt l 4 2=(g:Int))(ar:g<65536)(E:Ending->World->Prop)
 (ag:Hid (g<8->∀e d,X8 w p 0 0 0 0 0 0 0 0 0 0 0 51 e d->E e d))(ab:Hid (8<=g->l.length<g->∀e d,X8 w p 0 0 0 0 0 0 0 0 0 0 0 10 e d->E e d))
 (an:Hid (8<=g->g<=l.length->∀e d,X8 w p (numAt l 0 2%65536) (numAt l 2 2%65536) 0 0 0 0 0 0 0 0 (g-8) 0 e d->E e d)):
 Jf 189 #[.pointer (some ⟨p,0,none⟩)] w E:=by
 have G:=H (RS.start R);have I:Hid (∀i a Q,Rd Q b p l i->1<=a->a<=8->i+a<=l.length->Jf 217 #[.pointer (some ⟨p,0,none⟩),Jk a] Q (Vr Q b p l (i+a) (Jo (numAt l i a)))):=H (λi a Q h ak V M=>E2 b p l i a Q h ak V M B);have au:Hid (∀i Q,Rd Q b p l i->i<=l.length->Jf 218 #[.pointer (some ⟨p,0,none⟩)] Q (Tl Q b p l l.length (l.length-i))):=H (λi Q h F=>GV b p l i Q h F B);have ah:Hid (∀i a Q,Rd Q b p l i->i+a<=l.length->Jf 219 #[.pointer (some ⟨p,0,none⟩),Jk a] Q (Pm Q b p l (i+a) a 0)):=H (λi a Q h M=>GU b p l i a Q h M B);have ad:Hid (∀i a Q,Rd Q b p l i->i<=l.length->l.length<i+a->a<=1000000->Jf 219 #[.pointer (some ⟨p,0,none⟩),Jk a] Q (Pm Q b p l i 0 10)):=H (λi a Q h F af z=>Fq b p l i a Q h F af B z);unfold ZR at G;clear R;go_enter func189,ntmps189
 go_wp2_with fail
 refine Jb (I 0 2 _ G.rd D D O) ?_;rintro e av ⟨rfl,u,j⟩;have L:=H (G.next u j);clear u j G;go_wp2_with fail
 refine Jb (I 2 2 _ L.rd D D O) ?_;rintro e X ⟨rfl,u,j⟩;have N:=H (L.next u j);clear u j L;have o:=N.row;have ai:Jg X w.heap.size 1 (Jl 0):=WF 1 o;have al:Jg X w.heap.size 2 (Jl 0):=WF 2 o;have am:=Jad _ _ 1 _ _ o;have aa:=Jad _ _ 2 _ _ o;have J:=H ((N.set 1 (Jl (numAt l 0 2%65536)) rfl).set 2 (Jl (numAt l 2 2%65536)) rfl);clear o;go_wp2_with fail
 refine Jb (I 4 2 _ J.rd D D O) ?_;rintro e ae ⟨rfl,u,j⟩;have P:Hid (RS w b p l 6 (Jb3 (Jl (numAt l 0 2%65536)) (Jl (numAt l 2 2%65536))) ae):=H (J.next u j);clear u j J N ai al am aa;rw[W];clear W;have aq:(0:Int)<=(g:Int):=Yc _;have ao:(g:Int)<65536:=O;go_wp2_with fail
 refine Jb (I 6 2 _ P.rd D D O) ?_;rintro e ac ⟨rfl,u,j⟩;have v:=H (P.next u j);clear u j P;by_cases Y:g<8
 ·have T:decide ((g:Int)-8<0)=true:=by simp;omega
  have S:JE ac w.heap.size 12=true:=by rw[Jw _ _ _ _ _ v.row];rfl
  go_wp2_with fail
  have t:=v.setRow (cs':=JbU);exact Jag (ZP rfl _ _ w.heap.size _ _ _ (0,0) rfl rfl t.2 rfl) rfl (ag Y _ _ ⟨⟨none,0,none,0,rfl⟩,t.1⟩)
 have h:8<=g:=O;by_cases z:l.length<g
 ·obtain⟨k,rfl⟩:∃k,g=8+k:=⟨g-8,O⟩
  have A:((8+k:Nat):Int)-8=(k:Int):=O;have T:decide ((k:Int)<0)=false:=by simp
  rw[A];go_wp2_with fail
  refine Jb (ad 8 k _ v.rd O O O) ?_;rintro e s ⟨n,r,rfl,u,j⟩;have C:Hid (RS w b p l 8 (Jb3 (Jl (numAt l 0 2%65536)) (Jl (numAt l 2 2%65536))) s):=H (v.next u j);clear u j v;have o:=C.row;have aj:Jg s w.heap.size 11 (.slice none 0 0):=WF 11 o;have Z:=Jad _ _ 11 _ _ o;have y:Hid (RS w b p l 8 (Jb4 (Jl (numAt l 0 2%65536)) (Jl (numAt l 2 2%65536)) (.slice n 0 r)) (s.setCell ⟨w.heap.size,11,none⟩ (.slice n 0 r))):=H (C.set 11 (.slice n 0 r) rfl);clear o;have S:JE (s.setCell ⟨w.heap.size,11,none⟩ (.slice n 0 r)) w.heap.size 12=true:=by rw[Jw _ _ _ _ _ y.row];rfl
  go_wp2_with fail
  have t:=y.setRow (cs':=JbU);exact Jag (ZP rfl _ _ w.heap.size _ _ _ (0,0) rfl rfl t.2 rfl) rfl (ab h z _ _ ⟨⟨none,0,none,0,rfl⟩,t.1⟩)
 have z:g<=l.length:=O;obtain⟨k,rfl⟩:∃k,g=8+k:=⟨g-8,O⟩
 have A:((8+k:Nat):Int)-8=(k:Int):=O;have T:decide ((k:Int)<0)=false:=by simp
 rw[A];go_wp2_with fail
 refine Jb (ah 8 k _ v.rd O) ?_;rintro e s ⟨n,r,rfl,u,j⟩;have C:Hid (RS w b p l (8+k) (Jb3 (Jl (numAt l 0 2%65536)) (Jl (numAt l 2 2%65536))) s):=H (v.next u j);clear u j v;have o:=C.row;have aj:Jg s w.heap.size 11 (.slice none 0 0):=WF 11 o;have Z:=Jad _ _ 11 _ _ o;have y:Hid (RS w b p l (8+k) (Jb4 (Jl (numAt l 0 2%65536)) (Jl (numAt l 2 2%65536)) (.slice n k r)) (s.setCell ⟨w.heap.size,11,none⟩ (.slice n k r))):=H (C.set 11 (.slice n k r) rfl);clear o;have ap:Jv (s.setCell ⟨w.heap.size,11,none⟩ (.slice n k r)) w.heap.size 0 12=(Jb4 (Jl (numAt l 0 2%65536)) (Jl (numAt l 2 2%65536)) (.slice n k r):Array Value):=Ju y.row rfl;have S:JE (s.setCell ⟨w.heap.size,11,none⟩ (.slice n k r)) w.heap.size 12=true:=by rw[Jw _ _ _ _ _ y.row];rfl
 go_wp2_with fail
 have t:=y.setRow (cs':=(Jb4 (Jl (numAt l 0 2%65536)) (Jl (numAt l 2 2%65536)) (.slice n k r)));have U:=an.out h z;rw[show 8+k-8=k from O] at U;exact Jag (ZP rfl _ _ w.heap.size _ _ _ (0,0) rfl rfl t.2 rfl) rfl (U _ _ ⟨⟨none,0,n,r,rfl⟩,t.1⟩)
theorem Tm (b p:Nat)(l:List Int)(w:World)(R:Rd w b p l 0)(d:8<=l.length)(B:l.length<=1000000)(a:Nat)(g:numAt l 4 2=(a:Int))(e:a<65536)(h:a<8):
 Jf 189 #[.pointer (some ⟨p,0,none⟩)] w (X8 w p 0 0 0 0 0 0 0 0 0 0 0 51):=by
 exact KF b p l w R d B a g e _ (H (λ_ _ _ h=>h)) (H (λj=>absurd j O)) (H (λj=>absurd j O))
theorem Pn (b p:Nat)(l:List Int)(w:World)(R:Rd w b p l 0)(d:8<=l.length)(B:l.length<=1000000)(a:Nat)(g:numAt l 4 2=(a:Int))(e:a<65536)(h:8<=a)(z:l.length<a):
 Jf 189 #[.pointer (some ⟨p,0,none⟩)] w (X8 w p 0 0 0 0 0 0 0 0 0 0 0 10):=by
 exact KF b p l w R d B a g e _ (H (λj=>absurd j O)) (H (λ_ _ _ _ h=>h)) (H (λ_ j=>absurd j O))
theorem Uw (b p:Nat)(l:List Int)(w:World)(R:Rd w b p l 0)(d:8<=l.length)(B:l.length<=1000000)(a:Nat)(g:numAt l 4 2=(a:Int))(e:a<65536)(h:8<=a)(z:a<=l.length):
 Jf 189 #[.pointer (some ⟨p,0,none⟩)] w (X8 w p (numAt l 0 2%65536) (numAt l 2 2%65536) 0 0 0 0 0 0 0 0 (a-8) 0):=by
 exact KF b p l w R d B a g e _ (H (λj=>absurd j O)) (H (λ_ j=>absurd j O)) (H (λ_ _ _ _ h=>h))
theorem KG (b p:Nat)(l:List Int)(w:World)(av:Rd w b p l 0)(a4:20<=l.length)(B:l.length<=1000000)(j:Nat)(aj:numAt l 12 1=(j:Int))(a3:j<256)(N:Ending->World->Prop)
 (aC:Hid (j/16<5->∀e d,X8 w p 0 0 0 0 0 0 0 0 0 0 0 51 e d->N e d))(aM:Hid (5<=j/16->l.length<j/16*4->∀e d,X8 w p 0 0 0 0 0 0 0 0 0 0 0 10 e d->N e d))
 (aU:Hid (5<=j/16->j/16*4<=l.length->∀e d,X8 w p (numAt l 0 2%65536) (numAt l 2 2%65536) (numAt l 4 4%4294967296) (numAt l 8 4%4294967296) (numAt l 13 1%256) (numAt l 14 2%65536) (numAt l 18 2%65536) (j/16*4-20) 0 0 (l.length-j/16*4) 0 e d->N e d)):
 Jf 186 #[.pointer (some ⟨p,0,none⟩)] w N:=by
 have P:=H (RS.start av);have s:Hid (∀i n Q,Rd Q b p l i->1<=n->n<=8->i+n<=l.length->Jf 217 #[.pointer (some ⟨p,0,none⟩),Jk n] Q (Vr Q b p l (i+n) (Jo (numAt l i n)))):=H (λi n Q h aP aQ ab=>E2 b p l i n Q h aP aQ ab B);have aJ:Hid (∀i Q,Rd Q b p l i->i<=l.length->Jf 218 #[.pointer (some ⟨p,0,none⟩)] Q (Tl Q b p l l.length (l.length-i))):=H (λi Q h ad=>GV b p l i Q h ad B);have aO:Hid (∀i n Q,Rd Q b p l i->i+n<=l.length->Jf 219 #[.pointer (some ⟨p,0,none⟩),Jk n] Q (Pm Q b p l (i+n) n 0)):=H (λi n Q h ab=>GU b p l i n Q h ab B);have aN:Hid (∀i n Q,Rd Q b p l i->i<=l.length->l.length<i+n->n<=1000000->Jf 219 #[.pointer (some ⟨p,0,none⟩),Jk n] Q (Pm Q b p l i 0 10)):=H (λi n Q h ad aG z=>Fq b p l i n Q h ad aG B z);unfold ZR at P;clear av;go_enter func186,ntmps186
 go_wp2_with fail
 refine Jb (s 0 2 _ P.rd D D O) ?_;rintro e a9 ⟨rfl,u,g⟩;have X:=H (P.next u g);clear u g P;go_wp2_with fail
 refine Jb (s 2 2 _ X.rd D D O) ?_;rintro e ap ⟨rfl,u,g⟩;have af:=H (X.next u g);clear u g X;have a:=af.row;have aI:Jg ap w.heap.size 1 (Jl 0):=WF 1 a;have aT:=Jad _ _ 1 _ _ a;have aR:Jg ap w.heap.size 2 (Jl 0):=WF 2 a;have aL:=Jad _ _ 2 _ _ a;have W:=H ((af.set 1 (Jl (numAt l 0 2%65536)) rfl).set 2 (Jl (numAt l 2 2%65536)) rfl);clear a;go_wp2_with fail
 refine Jb (s 4 4 _ W.rd D D O) ?_;rintro e aA ⟨rfl,u,g⟩;have T:Hid (RS w b p l 8 (Jb3 (Jl (numAt l 0 2%65536)) (Jl (numAt l 2 2%65536))) aA):=H (W.next u g);clear u g W af aI aT aR aL;go_wp2_with fail
 refine Jb (s 8 4 _ T.rd D D O) ?_;rintro e ar ⟨rfl,u,g⟩;have V:=H (T.next u g);clear u g T;have a:=V.row;have aZ:Jg ar w.heap.size 3 (Jp 0):=WF 3 a;have aD:=Jad _ _ 3 _ _ a;have aH:Jg ar w.heap.size 4 (Jp 0):=WF 4 a;have aK:=Jad _ _ 4 _ _ a;have Y:=H ((V.set 3 (Jp (numAt l 4 4%4294967296)) rfl).set 4 (Jp (numAt l 8 4%4294967296)) rfl);clear a;go_wp2_with fail
 refine Jb (s 12 1 _ Y.rd D D O) ?_;rintro e aE ⟨rfl,u,g⟩;have aa:Hid (RS w b p l 13 #[(),Jl (numAt l 0 2%65536),Jl (numAt l 2 2%65536),Jp (numAt l 4 4%4294967296),Jp (numAt l 8 4%4294967296),(),Jbl,Jbl,Jbo,(),(),Jbo] aE):=H (Y.next u g);clear u g Y V aZ aD aH aK;rw[aj];clear aj;have a1:(0:Int)<=(j:Int):=Yc _;have a5:(j:Int)<256:=O;go_wp2_with fail
 refine Jb (s 13 1 _ aa.rd D D O) ?_;rintro e aF ⟨rfl,u,g⟩;have ag:=H (aa.next u g);clear u g aa;have a:=ag.row;have aB:Jg aF w.heap.size 5 (Jq 0):=WF 5 a;have aW:=Jad _ _ 5 _ _ a;have ac:=H (ag.set 5 (Jq (numAt l 13 1%256)) rfl);clear a;go_wp2_with fail
 refine Jb (s 14 2 _ ac.rd D D O) ?_;rintro e ao ⟨rfl,u,g⟩;have ae:Hid (RS w b p l 16 #[(),Jl (numAt l 0 2%65536),Jl (numAt l 2 2%65536),Jp (numAt l 4 4%4294967296),Jp (numAt l 8 4%4294967296),Jq (numAt l 13 1%256),Jbl,Jbl,Jbo,(),(),Jbo] ao):=H (ac.next u g);clear u g ac ag aB aW;have a:=ae.row;have aS:Jg ao w.heap.size 6 (Jl 0):=WF 6 a;have aV:=Jad _ _ 6 _ _ a;have S:=H (ae.set 6 (Jl (numAt l 14 2%65536)) rfl);clear a;go_wp2_with fail
 refine Jb (s 16 2 _ S.rd D D O) ?_;rintro e az ⟨rfl,u,g⟩;have U:Hid (RS w b p l 18 #[(),Jl (numAt l 0 2%65536),Jl (numAt l 2 2%65536),Jp (numAt l 4 4%4294967296),Jp (numAt l 8 4%4294967296),Jq (numAt l 13 1%256),Jl (numAt l 14 2%65536),Jbl,Jbo,(),(),Jbo] az):=H (S.next u g);clear u g S ae aS aV;go_wp2_with fail
 refine Jb (s 18 2 _ U.rd D D O) ?_;rintro e Z ⟨rfl,u,g⟩;have an:=H (U.next u g);clear u g U;have a:=an.row;have a6:Jg Z w.heap.size 7 (Jl 0):=WF 7 a;have a2:=Jad _ _ 7 _ _ a;have ai:=H (an.set 7 (Jl (numAt l 18 2%65536)) rfl);clear a;have E:Hid (RS w b p l 20 (Jcb (Jl (numAt l 0 2%65536)) (Jl (numAt l 2 2%65536)) (Jp (numAt l 4 4%4294967296)) (Jp (numAt l 8 4%4294967296)) (Jq (numAt l 13 1%256)) (Jl (numAt l 14 2%65536)) (Jl (numAt l 18 2%65536))) (Z.setCell ⟨w.heap.size,7,none⟩ (Jl (IntKind.u16.wrap (numAt l 18 2))))):=H ai.out;clear ai;by_cases ay:j/16<5
 ·have al:decide ((j:Int)/16*4-20<0)=true:=by simp;omega
  have aq:JE (Z.setCell ⟨w.heap.size,7,none⟩ (Jl (IntKind.u16.wrap (numAt l 18 2)))) w.heap.size 12=true:=by rw[Jw _ _ _ _ _ E.row];rfl
  go_wp2_with fail
  have v:=E.setRow (cs':=JbU);exact Jag (ZP rfl _ _ w.heap.size _ _ _ (0,0) rfl rfl v.2 rfl) rfl (aC ay _ _ ⟨⟨none,0,none,0,rfl⟩,v.1⟩)
 have h:5<=j/16:=O;by_cases z:l.length<j/16*4
 ·obtain⟨k,M⟩:∃k:Nat,k=j/16*4-20:=⟨_,rfl⟩
  have A:(j:Int)/16*4-20=(k:Int):=O;have al:decide ((k:Int)<0)=false:=by simp
  rw[A];have ax:=H M;have I:20+k=j/16*4:=O;have J:=H I;have aw:k<=1000000:=O;clear A M I;go_wp2_with fail
  refine Jb (aN 20 k _ E.rd O (by have:=J.out;omega) aw) ?_;rintro e y ⟨r,o,rfl,u,g⟩;have G:Hid (RS w b p l 20 (Jcb (Jl (numAt l 0 2%65536)) (Jl (numAt l 2 2%65536)) (Jp (numAt l 4 4%4294967296)) (Jp (numAt l 8 4%4294967296)) (Jq (numAt l 13 1%256)) (Jl (numAt l 14 2%65536)) (Jl (numAt l 18 2%65536))) y):=H (E.next u g);clear u g E;have a:=G.row;have ak:Jg y w.heap.size 8 (.slice none 0 0):=WF 8 a;have au:=Jad _ _ 8 _ _ a;have F:Hid (RS w b p l 20 (Jcc (Jl (numAt l 0 2%65536)) (Jl (numAt l 2 2%65536)) (Jp (numAt l 4 4%4294967296)) (Jp (numAt l 8 4%4294967296)) (Jq (numAt l 13 1%256)) (Jl (numAt l 14 2%65536)) (Jl (numAt l 18 2%65536)) (.slice r 0 o)) (y.setCell ⟨w.heap.size,8,none⟩ (.slice r 0 o))):=H (G.set 8 (.slice r 0 o) rfl);clear a;have aq:JE (y.setCell ⟨w.heap.size,8,none⟩ (.slice r 0 o)) w.heap.size 12=true:=by rw[Jw _ _ _ _ _ F.row];rfl
  go_wp2_with fail
  have v:=F.setRow (cs':=JbU);exact Jag (ZP rfl _ _ w.heap.size _ _ _ (0,0) rfl rfl v.2 rfl) rfl (aM h z _ _ ⟨⟨none,0,none,0,rfl⟩,v.1⟩)
 have z:j/16*4<=l.length:=O;obtain⟨k,M⟩:∃k:Nat,k=j/16*4-20:=⟨_,rfl⟩
 have A:(j:Int)/16*4-20=(k:Int):=O;have al:decide ((k:Int)<0)=false:=by simp
 rw[A];have ax:=H M;have I:20+k=j/16*4:=O;have J:=H I;have aw:k<=1000000:=O;clear A M I;go_wp2_with fail
 refine Jb (aO 20 k _ E.rd (by have:=J.out;omega)) ?_;rintro e y ⟨r,o,rfl,u,g⟩;have G:Hid (RS w b p l (20+k) (Jcb (Jl (numAt l 0 2%65536)) (Jl (numAt l 2 2%65536)) (Jp (numAt l 4 4%4294967296)) (Jp (numAt l 8 4%4294967296)) (Jq (numAt l 13 1%256)) (Jl (numAt l 14 2%65536)) (Jl (numAt l 18 2%65536))) y):=H (E.next u g);clear u g E;have a:=G.row;have ak:Jg y w.heap.size 8 (.slice none 0 0):=WF 8 a;have au:=Jad _ _ 8 _ _ a;have F:Hid (RS w b p l (20+k) (Jcc (Jl (numAt l 0 2%65536)) (Jl (numAt l 2 2%65536)) (Jp (numAt l 4 4%4294967296)) (Jp (numAt l 8 4%4294967296)) (Jq (numAt l 13 1%256)) (Jl (numAt l 14 2%65536)) (Jl (numAt l 18 2%65536)) (.slice r k o)) (y.setCell ⟨w.heap.size,8,none⟩ (.slice r k o))):=H (G.set 8 (.slice r k o) rfl);clear a;have aY:20+k<=l.length:=by have:=J.out;omega
 go_wp2_with fail
 refine Jb (aJ (20+k) _ F.rd aY) ?_;rintro e L ⟨t,C,rfl,u,g⟩;have am:Hid (RS w b p l l.length (Jcc (Jl (numAt l 0 2%65536)) (Jl (numAt l 2 2%65536)) (Jp (numAt l 4 4%4294967296)) (Jp (numAt l 8 4%4294967296)) (Jq (numAt l 13 1%256)) (Jl (numAt l 14 2%65536)) (Jl (numAt l 18 2%65536)) (.slice r k o)) L):=H (F.next u g);clear u g F ak au G;have a:=am.row;have a8:Jg L w.heap.size 11 (.slice none 0 0):=WF 11 a;have a7:=Jad _ _ 11 _ _ a;have aX:Hid (l.length-j/16*4=l.length-(20+k)):=H (by rw[J.out]);generalize l.length-(20+k)=m at*;have R:Hid (RS w b p l l.length (Jcd (Jl (numAt l 0 2%65536)) (Jl (numAt l 2 2%65536)) (Jp (numAt l 4 4%4294967296)) (Jp (numAt l 8 4%4294967296)) (Jq (numAt l 13 1%256)) (Jl (numAt l 14 2%65536)) (Jl (numAt l 18 2%65536)) (.slice r k o) (.slice t m C)) (L.setCell ⟨w.heap.size,11,none⟩ (.slice t m C))):=H (am.set 11 (.slice t m C) rfl);clear a;have a0:Jv (L.setCell ⟨w.heap.size,11,none⟩ (.slice t m C)) w.heap.size 0 12=(Jcd (Jl (numAt l 0 2%65536)) (Jl (numAt l 2 2%65536)) (Jp (numAt l 4 4%4294967296)) (Jp (numAt l 8 4%4294967296)) (Jq (numAt l 13 1%256)) (Jl (numAt l 14 2%65536)) (Jl (numAt l 18 2%65536)) (.slice r k o) (.slice t m C):Array Value):=Ju R.row rfl;have aq:JE (L.setCell ⟨w.heap.size,11,none⟩ (.slice t m C)) w.heap.size 12=true:=by rw[Jw _ _ _ _ _ R.row];rfl
 go_wp2_with fail
 have v:=R.setRow (cs':=(Jcd (Jl (numAt l 0 2%65536)) (Jl (numAt l 2 2%65536)) (Jp (numAt l 4 4%4294967296)) (Jp (numAt l 8 4%4294967296)) (Jq (numAt l 13 1%256)) (Jl (numAt l 14 2%65536)) (Jl (numAt l 18 2%65536)) (.slice r k o) (.slice t m C)));have ah:=aU.out h z;rw[<-ax.out,aX.out] at ah;exact Jag (ZP rfl _ _ w.heap.size _ _ _ (0,0) rfl rfl v.2 rfl) rfl (ah _ _ ⟨⟨r,o,t,C,rfl⟩,v.1⟩)
theorem Tn (b p:Nat)(l:List Int)(w:World)(R:Rd w b p l 0)(d:20<=l.length)(B:l.length<=1000000)(a:Nat)(e:numAt l 12 1=(a:Int))(g:a<256)(h:a/16<5):
 Jf 186 #[.pointer (some ⟨p,0,none⟩)] w (X8 w p 0 0 0 0 0 0 0 0 0 0 0 51):=by
 exact KG b p l w R d B a e g _ (H (λ_ _ _ h=>h)) (H (λj=>absurd j O)) (H (λj=>absurd j O))
theorem Po (b p:Nat)(l:List Int)(w:World)(R:Rd w b p l 0)(d:20<=l.length)(B:l.length<=1000000)(a:Nat)(e:numAt l 12 1=(a:Int))(g:a<256)(h:5<=a/16)(z:l.length<a/16*4):
 Jf 186 #[.pointer (some ⟨p,0,none⟩)] w (X8 w p 0 0 0 0 0 0 0 0 0 0 0 10):=by
 exact KG b p l w R d B a e g _ (H (λj=>absurd j O)) (H (λ_ _ _ _ h=>h)) (H (λ_ j=>absurd j O))
theorem Ux (b p:Nat)(l:List Int)(w:World)(R:Rd w b p l 0)(d:20<=l.length)(B:l.length<=1000000)(a:Nat)(e:numAt l 12 1=(a:Int))(g:a<256)(h:5<=a/16)(z:a/16*4<=l.length):
 Jf 186 #[.pointer (some ⟨p,0,none⟩)] w (X8 w p (numAt l 0 2%65536) (numAt l 2 2%65536) (numAt l 4 4%4294967296) (numAt l 8 4%4294967296) (numAt l 13 1%256) (numAt l 14 2%65536) (numAt l 18 2%65536) (a/16*4-20) 0 0 (l.length-a/16*4) 0):=by
 exact KG b p l w R d B a e g _ (H (λj=>absurd j O)) (H (λ_ j=>absurd j O)) (H (λ_ _ _ _ h=>h))
def Z6 (w:World)(S:Option Addr->Nat->Option Addr->Nat->Array Value)(err:Int):Ending->World->Prop:=λe d=>(∃g j a b,e=.returned (.tuple #[.agg (S g j a b),Jk err]))/\Ji w d
theorem Zy (U Z l:FuncId)(hF:l=186\/l=189\/l=183)(p L sm:Int)(aj:Option Addr)(n aa:Nat)(af:List Int)(w:World)(aJ:JA w aj n aa af)(ai:L<=(n:Int))(y:n<=65535)
 (aE:∀ae d,d.heap[ae]? =some (.map QH 4)->(Instr.lookup 224 (.map (some ae)) (Jq p) true).run prog d=.ok (.tuple #[.agg #[Jk L,Jk sm,Jr U,Jr Z,Jr l],true]) d)
 (G N q a f C M:Int)(P:Nat)(F E:Int)(J:Nat)(err:Int)
 (aL:∀Q b j,Rd Q b j af 0->Jf l #[.pointer (some ⟨j,0,none⟩)] Q (X8 Q j G N q a f C M P F E J err)):
 Jf 77 #[p,.slice aj n aa] w (Z6 w (λu s o r=>if err=0 then (JbH p (Jl G) (Jl N) (Jp q) (Jp a) f (Jl C) (Jl M) (.slice u P s) F E (.slice o J r)) else ZR) err):=by
 have a1:=H aJ;have a8:=H aE;have bb:=H aL;have aw:=WP w (.cells ZR 149);have au:Below w.heap.size w (w.alloc (.cells ZR 149)):=Below.all (Jc _ _) _;have bi:decide ((n:Int)<L)=false:=by simp;omega
 have bm:decide ((n:Int)>65535)=false:=by simp;omega
 clear aJ aE aL;unfold ZR at aw au;have aR:=H aw;have aH:=H au;clear aw au;go_enter func77,ntmps77
 go_wp2_with fail
 refine Jb (Zk _) ?_;rintro aB B ⟨ae,rfl,a9,aF,g⟩;have aC:=H (Wx aH g);have ay:=H ((g.block w.heap.size (by simp)).trans aR);have a0:=a8.out ae B aF;have aQ:w.heap.size<B.heap.size:=(Ja ay).1;obtain⟨t,ad⟩:∃b,b=w.heap.size:=⟨_,rfl⟩
 have am:Below B.heap.size B (B.alloc (.cells #[Jk L,Jk sm,Jr U,Jr Z,Jr l] 222)):=Below.all (Jc _ _) _;have an:=WP B (.cells #[Jk L,Jk sm,Jr U,Jr Z,Jr l] 222);have ag:=H ((am.block _ aQ).trans ay);have ah:=H (Wx aC am);have ac:=H an;have aN:Jg (B.alloc (.cells #[Jk L,Jk sm,Jr U,Jr Z,Jr l] 222)) B.heap.size 0 (Jk L):=WF 0 an;clear g aF aR aH am an ay aC;go_wp2_with fail
 obtain⟨X,aS⟩:∃b,b=B.heap.size:=⟨_,rfl⟩
 obtain⟨t,ad⟩:∃b,b=w.heap.size:=⟨_,rfl⟩
 rw[<-aS] at ac|-;rw[<-ad] at ag|-;have aU:=H (a1.below ah);have a6:=H ad;clear aN aS ad aQ a0 a9;generalize (B.alloc (.cells #[Jk L,Jk sm,Jr U,Jr Z,Jr l] 222))=Q at*;have ap:X<Q.heap.size:=(Ja ac).1;have bc:t<Q.heap.size:=(Ja ag).1;have aq:Jg Q X 4 (Jr l):=WF 4 ac;refine QZ [.h,.h,.h] [(0,1,0),(1,1,0)] (λ_ d=>Jg d X 4 (Jr l)) [1] [(.w,3),(.w,4),(.q,5),(.q,6),(.q,7)] [(.w,9),(.q,10)] 8 (.cells ZR 149) K K rfl rfl ⟨λ_=>rfl,λ_ _=>K⟩ K K ?_;apply Exists.intro;refine⟨λaV W=>?_,?_,?_⟩
 ·have bh:Jg aV X 4 (Jr l):=(JK W ap _ rfl).trans aq;have bj:X<aV.heap.size:=Jd ap W.size;exact JcB
 ·intro q aD bk aK;simp only[YE,YF,YG] at aD;rcases aD with rfl|rfl
  ·cases aK;exact⟨_,rfl,rfl,λw2 aO=>K⟩
  ·cases aK;exact⟨_,rfl,rfl,λw2 aO=>by simp[execOp,go_sem,aO]⟩
 simp only[Qp,Ja0,Jbf];refine⟨λv I w2=>∃j,v=.pointer (some ⟨j,0,none⟩)/\Q.heap.size<=j/\(∃b,Rd w2 b j af 0)/\Ji Q w2/\∀e,I=some e->Q.heap.size<=e/\e≠j/\Jh w2 e ZR 149,?_,?_,?_,?_⟩
 ·rintro I-;refine⟨rfl,λd ar=>.inr ⟨137,#[.slice aj n aa],K,?_⟩⟩;obtain⟨⟨x,rfl⟩,T⟩:=ar;refine(S8 aj n aa af x.world (aU.below x.below) O).mono ?_;rintro aB w2 ⟨j,rfl,ak,S,aP⟩;refine⟨_,rfl,j,rfl,WJ x.below.size ak,⟨_,S⟩,Wx x.below aP,λe A=>⟨(T e A).1,?_,?_⟩⟩
  ·have:=(Ja (T e A).2).1;omega
  ·have:=(T e A).2;exact(aP.block e (Ja this).1).trans this
 ·rintro v I bo-w2 ⟨j,-,-,-,g,-⟩;exact(JK g ap _ rfl).trans aq
 ·rintro-v w2 ⟨j,ai,y,⟨b,S⟩,Y,-⟩;exact⟨j,ai,y,⟨b,S.below (Below.all (Jc _ _) _)⟩,Below.all Y _,λe A=>by cases A;exact⟨Y.size,λaB=>by have:=S.lt;omega,WP _ _⟩⟩
 rintro v ⟨bd,ba,j,rfl,-⟩;refine⟨λv I w2=>(∃u s o r,v=.tuple #[.agg (Ns G N q a f C M u P s F E o J r),Jk err])/\Ji Q w2/\∀e,I=some e->Q.heap.size<=e/\Jh w2 e ZR 149,?_,λ_ _=>J4 rfl,?_,?_⟩
 ·rintro I-;refine⟨rfl,λd ar=>.inr ⟨l,#[.pointer (some ⟨j,0,none⟩)],by rcases hF with rfl|rfl|rfl<;>kernel_rfl,?_⟩⟩;obtain⟨bl,V,ak,⟨b,S⟩,av,T⟩:=ar;cases V;refine(bb d b j S).mono ?_;rintro aB w2 ⟨⟨u,s,o,r,rfl⟩,aT⟩;refine⟨_,rfl,⟨u,s,o,r,rfl⟩,av.trans (aT.below.mono ak),λe A=>⟨(T e A).1,?_⟩⟩;have y:=(T e A).2;exact(aT.keep e y.1 (Ja y.2).1).trans y.2
 ·rintro-v w2 ⟨ai,Y,-⟩;exact⟨ai,Below.all Y _,λe A=>by cases A;exact⟨Y.size,WP _ _⟩⟩
 rintro v ⟨a2,aW,⟨u,s,o,r,rfl⟩,-⟩;refine⟨.tuple #[.agg (Ns G N q a f C M u P s F E o J r),Jk err],⟨rfl,λ_=>K⟩,?_⟩;refine⟨.agg (Ns G N q a f C M u P s F E o J r),⟨rfl,λ_=>K⟩,?_⟩;refine⟨.int .i64 err,⟨rfl,λ_=>K⟩,?_⟩;intro z;refine⟨λv I w2=>v=undef/\Ji Q w2/\Q.heap.size<=z/\Jh w2 z (Ns G N q a f C M u P s F E o J r) 149,?_,λ_ _=>J4 rfl,(λh=>by cases h),?_⟩
 ·rintro I rfl;refine JX.skip rfl ?_;rintro d ⟨-,av,a5⟩;obtain⟨az,W⟩:=a5 z rfl;exact⟨_,Ao _ d z (Ns G N q a f C M u P s F E o J r) K K (by rw[Jw _ _ _ _ _ W];rfl) rfl rfl,av.trans (Jy _ az),az,JC W⟩
 rintro v ⟨a3,aY,rfl,-⟩;refine⟨.int .i64 err,⟨rfl,λ_=>K⟩,?_⟩;rintro R ⟨-,ax,az,al⟩;have aI:=H (ah.trans (ax.mono ah.size));have ab:Jh R t JbU 149:=(ax.block t bc).trans ag;have aA:=H ab;unfold Ns at al|-;have ao:=H al;have aZ:t≠z:=O;have aG:w.heap.size<=t:=by have:=a6.out;omega
 have a4:w.heap.size<=z:=O;have bp:t<R.heap.size:=(Ja ab).1;clear ax al aq ba aW aY bd a2 a3 ag ah ac aU;unfold XK;by_cases V:err=0
 ·subst V;have aN:Jg R z 0 (Jq 0):=WF 0 ao;have bg:=Jad _ _ 0 _ _ ao;have aX:=H (Ol (Jq p) ao);have aM:Hid (Jh (R.setCell ⟨z,0,none⟩ (Jq p)) t JbU 149):=H ((WK _ _ _ _ aZ).trans aA);have be:Jv (R.setCell ⟨z,0,none⟩ (Jq p)) z 0 12=(JbH p (Jl G) (Jl N) (Jp q) (Jp a) f (Jl C) (Jl M) (.slice u P s) F E (.slice o J r):Array Value):=Ju aX rfl;have a7:JE (R.setCell ⟨z,0,none⟩ (Jq p)) t 12=true:=by rw[Jw _ _ _ _ _ aM.out];rfl
  clear ab;go_wp2_with fail
  refine Jag (ZP rfl _ _ t _ _ _ (0,0) rfl rfl (JC aM) rfl) rfl ?_;exact⟨⟨u,s,o,r,rfl⟩,(aI.setCell a4 _).trans (Jy _ aG)⟩
 ·have bf:(err != 0)=true:=by simpa using V
  have bn:decide (err=0)=false:=by simpa using V
  have a7:JE R t 12=true:=by rw[Jw _ _ _ _ _ aA.out];rfl
  clear ab;go_wp2_with fail
  refine Jag (ZP rfl _ _ t _ _ _ (0,0) rfl rfl (JC aA) rfl) rfl ?_;exact⟨⟨none,0,none,0,rfl⟩,aI.trans (Jy _ aG)⟩
theorem Co (p L sm:Int)(t v r:FuncId)(s:Option Addr)(n o:Nat)(l:List Int)(w:World)(u:JA w s n o l)(j:(n:Int)<L)
 (I:∀T d,d.heap[T]? =some (.map QH 4)->(Instr.lookup 224 (.map (some T)) (Jq p) true).run prog d=.ok (.tuple #[.agg #[Jk L,Jk sm,Jr t,Jr v,Jr r],true]) d):
 Jf 77 #[p,.slice s n o] w (Z6 w (λ_ _ _ _=>ZR) 10):=by
 have Q:=H u;have N:=H I;have P:=WP w (.cells ZR 149);have A:Below w.heap.size w (w.alloc (.cells ZR 149)):=Below.all (Jc _ _) _;have aa:decide ((n:Int)<L)=true:=by simp;omega
 clear u I;unfold ZR at P A;have F:=H P;have C:=H A;clear P A;go_enter func77,ntmps77
 go_wp2_with fail
 refine Jb (Zk _) ?_;rintro e a ⟨T,rfl,X,J,g⟩;have G:=H (Wx C g);have y:=H ((g.block w.heap.size (by simp)).trans F);have Y:=N.out T a J;have E:w.heap.size<a.heap.size:=(Ja y).1;obtain⟨Z,W⟩:∃b,b=w.heap.size:=⟨_,rfl⟩
 have z:Below a.heap.size a (a.alloc (.cells #[Jk L,Jk sm,Jr t,Jr v,Jr r] 222)):=Below.all (Jc _ _) _;have B:=WP a (.cells #[Jk L,Jk sm,Jr t,Jr v,Jr r] 222);have M:=H ((z.block _ E).trans y);have R:=H (Wx G z);have V:=H B;have U:Jg (a.alloc (.cells #[Jk L,Jk sm,Jr t,Jr v,Jr r] 222)) a.heap.size 0 (Jk L):=WF 0 B;clear g J F C z B;have S:JE (a.alloc (.cells #[Jk L,Jk sm,Jr t,Jr v,Jr r] 222)) w.heap.size 12=true:=by rw[Jw _ _ _ _ _ M.out];rfl
 go_wp2_with fail
 refine Jag (ZP rfl _ _ w.heap.size _ _ _ (0,0) rfl rfl ((YU _ _ (by simpa using E)).trans (JC y)) rfl) rfl ?_;exact⟨⟨none,0,none,0,rfl⟩,Below.all (G.trans (Jy _ (Je _))) _⟩
theorem Dx (p L sm:Int)(t v r:FuncId)(s:Option Addr)(n o:Nat)(l:List Int)(w:World)(u:JA w s n o l)(j:L<=(n:Int))(y:65535<n)
 (J:∀T d,d.heap[T]? =some (.map QH 4)->(Instr.lookup 224 (.map (some T)) (Jq p) true).run prog d=.ok (.tuple #[.agg #[Jk L,Jk sm,Jr t,Jr v,Jr r],true]) d):
 Jf 77 #[p,.slice s n o] w (Z6 w (λ_ _ _ _=>ZR) 51):=by
 have R:=H u;have Q:=H J;have P:=WP w (.cells ZR 149);have B:Below w.heap.size w (w.alloc (.cells ZR 149)):=Below.all (Jc _ _) _;have ac:decide ((n:Int)<L)=false:=by simp;omega
 have W:decide ((n:Int)>65535)=true:=by simp;omega
 clear u J;unfold ZR at P B;have G:=H P;have E:=H B;clear P B;go_enter func77,ntmps77
 go_wp2_with fail
 refine Jb (Zk _) ?_;rintro e a ⟨T,rfl,Z,M,g⟩;have I:=H (Wx E g);have z:=H ((g.block w.heap.size (by simp)).trans G);have aa:=Q.out T a M;have F:w.heap.size<a.heap.size:=(Ja z).1;obtain⟨ab,Y⟩:∃b,b=w.heap.size:=⟨_,rfl⟩
 have A:Below a.heap.size a (a.alloc (.cells #[Jk L,Jk sm,Jr t,Jr v,Jr r] 222)):=Below.all (Jc _ _) _;have C:=WP a (.cells #[Jk L,Jk sm,Jr t,Jr v,Jr r] 222);have N:=H ((A.block _ F).trans z);have S:=H (Wx I A);have X:=H C;have V:Jg (a.alloc (.cells #[Jk L,Jk sm,Jr t,Jr v,Jr r] 222)) a.heap.size 0 (Jk L):=WF 0 C;clear g M G E A C;have U:JE (a.alloc (.cells #[Jk L,Jk sm,Jr t,Jr v,Jr r] 222)) w.heap.size 12=true:=by rw[Jw _ _ _ _ _ N.out];rfl
 go_wp2_with fail
 refine Jag (ZP rfl _ _ w.heap.size _ _ _ (0,0) rfl rfl ((YU _ _ (by simpa using F)).trans (JC z)) rfl) rfl ?_;exact⟨⟨none,0,none,0,rfl⟩,Below.all (I.trans (Jy _ (Je _))) _⟩
end
end Go.Proofs.YtkgjbipfhhjlpaaGreatDoor
