import Derived.Test.YtkgjbipfhhjlpaaGreatDoorMq20
set_option linter.unusedVariables false
set_option linter.unusedSimpArgs false
set_option maxRecDepth 100000
set_option maxHeartbeats 32000000
namespace Go.Proofs.YtkgjbipfhhjlpaaGreatDoor
open Go.Proofs.Tryz
section
open Go.RowKit Bits
theorem JdG{p:Prop}(h:p:=by
 exact⟨⟨YC 0,(show(0:Int)<256 from D)⟩,YC 0,(show(0:Int)<256 from D)⟩):p:=h
theorem JdS{p:Prop}(h:p:=by
 cases T;exact⟨_,rfl,rfl,λw2 R=>K⟩):p:=h
theorem JdT{p:Prop}(h:p:=by
 rintro v ar be-w2 ⟨-,j⟩;have:=(j.2.2 g ay L)
 exact⟨(WH (a:=⟨g,2,none⟩) this).trans ap,(WH (a:=⟨g,5,none⟩) this).trans aj⟩):p:=h
theorem Ma {p:Int}{l:List Int}(M:JF l):(0<=(Qo p l).type/\(Qo p l).type<256)/\(0<=(Qo p l).code/\(Qo p l).code<256):=by
 have X:=QC M 0;have j:=QC M 1;unfold Qo Fy UQ;split
 ·split
  ·exact JdG
  ·split
   ·exact JdG
   ·exact⟨X,j⟩
 ·exact JdG
def OB (d:World)(b:Nat)(S:Array Value)(t:TypeId)(w:World):Prop:=Jh w b S t/\Below b d w/\∀i,i≠b->i<d.heap.size->w.heap[i]? =d.heap[i]?
theorem OB.set {z w:World}{b:Nat}{cs:Array Value}{t:TypeId}(h:OB z b cs t w)(k:Nat)(v:Value):OB z b (cs.setIfInBounds k v) t (w.setCell ⟨b,k,none⟩ v):=
 ⟨Jae _ b k cs t v h.1,h.2.1.setCell (Je _) _,λi F M=>(WK _ _ _ _ F).trans (h.2.2 i F M)⟩
theorem OB.later {e w d:World}{b:Nat}{S:Array Value}{t:TypeId}(h:OB e b S t w)(g:Ji w d):OB e b S t d:=by
 have M:b<w.heap.size:=(Ja h.1).1;exact⟨(g.block b M).trans h.1,h.2.1.trans (g.mono (Ja1 M)),λi F j=>(g.block i (Jd j h.2.1.size)).trans (h.2.2 i F j)⟩
theorem R5 (x Q:Int)(X:0<=x)(j:x<256)(y:0<=Q)(Y:Q<256):bits BinOp.or IntKind.u16 (x*256) Q=x*256+Q:=by
 obtain⟨a,rfl⟩:=Jaq X;obtain⟨b,rfl⟩:=Jaq y;rw[show((a:Int)*256)=((a*256:Nat):Int) from O,u16_or_nat (a*256) b O O,P5 b a 8 256 D O];omega
theorem Py (b:Nat)(X U:Bool)(Z e:Nat->Int)(p aI az S r:Int)(N P:Bool)(s:Option Addr)(n o:Nat)(l:List Int)(w:World)(aD:p=6\/p=17\/p=1\/p=58)(aw:JA w s n o l)(a5:n<=100000)
 (ae:Jh w b (JbA X U p (Jl aI) (Jl az) (Jk S) r N (.slice s n o) P Z e) 85):
 Jf 38 #[.pointer (some ⟨b,0,none⟩)] w (Dy w b (JbA X U p (Jl (JV p l).src) (Jl (JV p l).dst) (Jk S) (Jq (JV p l).flags) N (.slice s n o) P Z e) (Ab p l)):=by
 have aS:=H ae;have am:=H (λd (h:Ji w d)=>CT p aD s n o l d (aw.below h) a5);have V:b<w.heap.size:=(Ja ae).1;have al:Jg w b 34 (Jq p):=WF 34 ae;have aQ:Jg w b 40 (.slice s n o):=WF 40 ae;have bi:Hid (∀d,Jf 36 #[p] d (Jz d (.bool (Qb p)))):=H (λd=>XT p d);have aP:=H (Ma (p:=p) aw.byte);have aM:Hid (JV p l=⟨Ab p l,(Qo p l).src,if Qb p then (Qo p l).type*256+(Qo p l).code else (Qo p l).dst,(Qo p l).flags⟩):=H rfl;rw[aM.out];generalize aF:(if Qb p then (Qo p l).type*256+(Qo p l).code else (Qo p l).dst)=dst;have au:=H aF;clear ae aw aD aM aF;generalize Qb p=a0 at*;generalize Ab p l=Q at*;unfold ZS at am;generalize Qo p l=aX at*;obtain⟨ab,z,u,Y,ai,B,aa,ah,bd,A,y,aV⟩:=aX;simp only at am aP au|-;generalize bd.length=ag at*;generalize aV.length=ac at*;go_enter func38,ntmps38
 go_wp2_with fail
 refine QZ [.h,.h,.h,.h,.h,.h,.h,.h,.h,.h] [] (λ_ _=>True) [] [(.w,10),(.q,11),(.q,12),(.q,13)] [(.w,15),(.q,16)] 14 (.cells ZR 149) K K rfl rfl ⟨λ_=>rfl,λ_ _=>K⟩ K K ?_;apply Exists.intro;refine⟨λJ t=>?_,by simp,?_⟩
 ·have bo:Jg J b 34 (Jq p):=(JK t V _ rfl).trans al;have bE:Jg J b 40 (.slice s n o):=(JK t V _ rfl).trans aQ;have aZ:b<J.heap.size:=Jd V t.size;exact JcB
 simp only[Qp,Ja0,Jbf];refine⟨λv r w2=>(∃I F C E,v=.tuple #[.agg (JbH ab (Jl z) (Jl u) (Jp Y) (Jp ai) B (Jl aa) (Jl ah) (.slice I ag F) A y (.slice C ac E):Array Value),Jk Q])/\Ji w w2/\∀G,r=some G->w.heap.size<=G/\Jh w2 G ZR 149,?_,λ_ _=>Ap,?_,?_⟩
 ·rintro r-;refine⟨rfl,λd a2=>.inr ⟨77,#[p,.slice s n o],K,?_⟩⟩;obtain⟨⟨x,rfl⟩,aJ⟩:=a2;refine(am x.world x.below).mono ?_;rintro bh w2 ⟨⟨I,F,C,E,rfl⟩,an⟩;refine⟨_,rfl,⟨I,F,C,E,rfl⟩,Wx x.below an,λG aq=>⟨(aJ G aq).1,?_⟩⟩;have:=(aJ G aq).2;exact(an.block G (Ja this).1).trans this
 ·rintro-v w2 ⟨ba,aT,-⟩;exact⟨ba,Below.all aT _,λG aq=>by cases aq;exact⟨aT.size,WP _ _⟩⟩
 rintro v ⟨bl,bb,⟨I,F,C,E,rfl⟩,-⟩;refine⟨.tuple #[.agg (JbH ab (Jl z) (Jl u) (Jp Y) (Jp ai) B (Jl aa) (Jl ah) (.slice I ag F) A y (.slice C ac E):Array Value),Jk Q],⟨rfl,λ_=>K⟩,?_⟩;refine⟨.agg (JbH ab (Jl z) (Jl u) (Jp Y) (Jp ai) B (Jl aa) (Jl ah) (.slice I ag F) A y (.slice C ac E)),⟨rfl,λ_=>K⟩,?_⟩;refine⟨.int .i64 Q,⟨rfl,λ_=>K⟩,?_⟩;intro g;refine⟨λv r w2=>v=undef/\Ji w w2/\w.heap.size<=g/\Jh w2 g (JbH ab (Jl z) (Jl u) (Jp Y) (Jp ai) B (Jl aa) (Jl ah) (.slice I ag F) A y (.slice C ac E)) 149,?_,λ_ _=>Ap,(λh=>by cases h),?_⟩
 ·rintro r rfl;refine JX.skip rfl ?_;rintro d ⟨⟨bv,bB,bD,bA,bt⟩,a6,an⟩;obtain⟨aA,t⟩:=an g rfl;exact⟨_,Ao _ d g (JbH ab (Jl z) (Jl u) (Jp Y) (Jp ai) B (Jl aa) (Jl ah) (.slice I ag F) A y (.slice C ac E)) K K (by rw[Jw _ _ _ _ _ t];rfl) rfl rfl,a6.trans (Jy _ aA),aA,JC t⟩
 rintro v ⟨a1,aW,rfl,-⟩;refine⟨.int .i64 Q,⟨rfl,λ_=>K⟩,?_⟩;rintro M ⟨-,ao,aA,W⟩;have av:=H ao;have a8:=H W;have a4:=H ((ao.block b V).trans aS);have bz:b<M.heap.size:=Jd V ao.size;have L:g<M.heap.size:=(Ja W).1;have ay:g≠b:=O;have aG:=WF 1 W;have ap:=WF 2 W;have aj:=WF 5 W;clear ao W al aQ aS am bl a1 bb aW;unfold XK;simp only[Act.put,Ja6,Ja7,Ja8];go_wp2_with fail
 refine QN [.h,.h,.h,.h,.h,.h,.h,.h,.h,.h,.h,.h,.h] [(1,1,0),(5,1,0),(6,1,0),(2,2,0),(7,2,0),(8,2,0)] (λ_ d=>Jg d g 2 (Jl u)/\Jg d g 5 (Jq B)) [2] [(.w,13),(.q,14),(.q,15),(.q,16),(.q,17),(.w,18),(.q,19),(.q,20),(.q,21),(.w,22)] K K K K ?_;apply Exists.intro;refine⟨λJ t=>?_,?_,?_⟩
 ·have bp:Jg J g 1 (Jl z):=(JK t L _ rfl).trans aG;have br:Jg J g 2 (Jl u):=(JK t L _ rfl).trans ap;have bF:Jg J g 5 (Jq B):=(JK t L _ rfl).trans aj;have aZ:g<J.heap.size:=Jd L t.size;exact JcB
 ·intro q aE bq T;simp only[YE,YF,YG] at aE;rcases aE with rfl|rfl|rfl|rfl|rfl|rfl
  ·exact JdS
  ·exact JdS
  ·cases T;exact⟨_,rfl,rfl,λw2 R=>by simp[execOp,go_sem,R.1]⟩
  ·exact JdS
  ·exact JdS
  ·cases T;exact⟨_,rfl,rfl,λw2 R=>by simp[execOp,go_sem,R.2]⟩
 simp only[Qp,Ja0,Jbf];refine⟨λv ar w2=>v=undef/\OB M b (JbA X U p (Jl z) (Jl az) (Jk S) r N (.slice s n o) P Z e) 85 w2,?_,?_,(λh=>by cases h),?_⟩
 ·rintro r rfl;refine JX.skip rfl ?_;rintro d ⟨⟨x,rfl⟩,-⟩;have j:OB M b (JbA X U p (Jl aI) (Jl az) (Jk S) r N (.slice s n o) P Z e) 85 x.world:=OB.later ⟨a4.out,Jc _ _,λ_ _ _=>rfl⟩ x.below;have ad:=WF 35 j.1;have af:=Jad _ _ 35 _ _ j.1;refine⟨_,?_,j.set 35 (Jl z)⟩;simp[execOp,go_sem,ad,af]
 ·exact JdT
 rintro v ⟨bg,bf,rfl,-⟩;refine⟨.pointer (some ⟨b,0,none⟩),⟨rfl,λ_=>K⟩,?_⟩;refine⟨.pointer (some ⟨b,0,none⟩),⟨rfl,λ_=>K⟩,?_⟩;refine⟨.pointer (some ⟨b,0,none⟩),⟨rfl,λ_=>K⟩,?_⟩;refine⟨.pointer (some ⟨b,36,none⟩),⟨rfl,λ_=>K⟩,?_⟩;refine⟨λv ar w2=>v=undef/\OB M b (JbA X U p (Jl z) (Jl u) (Jk S) r N (.slice s n o) P Z e) 85 w2,?_,?_,(λh=>by cases h),?_⟩
 ·rintro r rfl;refine JX.skip rfl ?_;rintro d ⟨-,j⟩;have ad:=WF 36 j.1;have af:=Jad _ _ 36 _ _ j.1;refine⟨_,?_,j.set 36 (Jl u)⟩;simp[execOp,go_sem,ad,af]
 ·exact JdT
 rintro v ⟨bj,a3,rfl,-⟩;refine⟨.pointer (some ⟨b,0,none⟩),⟨rfl,λ_=>K⟩,?_⟩;refine⟨.pointer (some ⟨b,0,none⟩),⟨rfl,λ_=>K⟩,?_⟩;refine⟨.pointer (some ⟨b,38,none⟩),⟨rfl,λ_=>K⟩,?_⟩;refine⟨λv ar w2=>v=undef/\OB M b (JbA X U p (Jl z) (Jl u) (Jk S) B N (.slice s n o) P Z e) 85 w2,?_,λ_ _=>J4 rfl,(λh=>by cases h),?_⟩
 ·rintro r rfl;refine JX.skip rfl ?_;rintro d ⟨-,j⟩;have ad:=WF 38 j.1;have af:=Jad _ _ 38 _ _ j.1;refine⟨_,?_,j.set 38 (Jq B)⟩;simp[execOp,go_sem,ad,af]
 rintro v ⟨aU,bm,rfl,-⟩;rintro aK ⟨-,j⟩;have aO:=H j;have ax:=H ((j.2.2 g ay L).trans a8);have al:Jg aK b 34 (Jq p):=WF 34 j.1;clear j aG ap aj bg bj aU bf a3 bm;go_wp2_with fail
 refine Jb (bi aK) ?_;rintro bh bs ⟨rfl,aC⟩;have ak:=H (aO.later aC);have aN:=H ((aC.block g (Ja ax).1).trans ax);clear al aC aO ax;have bC:=WF 9 aN;have bu:=WF 10 aN;have bn:=WF 36 ak.1;have bw:=Jad _ _ 36 _ _ ak.1;have aH:∀(aB:Array Value) (w2:World),OB M b aB 85 w2->Dy w b aB Q (.returned (Jk Q)) w2:=λaB w2 h=>⟨rfl,h.1,(av.mono (Ja1 V)).trans h.2.1,λi a7 aL=>(h.2.2 i a7 (Jd aL av.size)).trans (av.block i aL)⟩
 have aR:=H aH;clear aH;obtain⟨⟨bk,bc⟩,a9,aY⟩:=aP.out;have bx:bits .or .u16 (A*256) y=A*256+y:=R5 A y bk bc a9 aY;cases a0
 ·go_wp2_with fail
  go_ret;obtain rfl:u=dst:=au.out;exact aR _ _ ak
 ·go_wp2_with fail
  go_ret;obtain rfl:A*256+y=dst:=au.out;exact aR _ _ (ak.set 36 (Jl (A*256+y)))
def E4:Array Value:=(JbQ false false (Jk 0) false false)
def VJ (C:Hr)(s:Option Addr)(o:Nat):Array Value:=#[.bool C.six,.int .u8 (C.src 0),.int .u8 (C.src 1),.int .u8 (C.src 2),.int .u8 (C.src 3),.int .u8 (C.src 4),.int .u8 (C.src 5),.int .u8 (C.src 6),.int .u8 (C.src 7),.int .u8 (C.src 8),.int .u8 (C.src 9),.int .u8 (C.src 10),.int .u8 (C.src 11),.int .u8 (C.src 12),.int .u8 (C.src 13),.int .u8 (C.src 14),.int .u8 (C.src 15),.bool C.six,.int .u8 (C.dst 0),.int .u8 (C.dst 1),.int .u8 (C.dst 2),.int .u8 (C.dst 3),.int .u8 (C.dst 4),.int .u8 (C.dst 5),.int .u8 (C.dst 6),.int .u8 (C.dst 7),.int .u8 (C.dst 8),.int .u8 (C.dst 9),.int .u8 (C.dst 10),.int .u8 (C.dst 11),.int .u8 (C.dst 12),.int .u8 (C.dst 13),.int .u8 (C.dst 14),.int .u8 (C.dst 15),.int .u8 C.proto,.int .u16 0,.int .u16 0,.int .i64 C.len,.int .u8 0,.bool C.frag,.slice s C.body.length o,.bool C.more]
def Es (w:World)(C:Hr)(err:Int):Ending->World->Prop:=λe d=>
 (err≠0/\e=.returned (.tuple #[.agg E4,Jk err])/\Ji w d)\/
 (err=0/\∃s o,e=.returned (.tuple #[.agg (VJ C s o),Jk 0])/\J8 d w.heap.size 1 s C.body.length o (C.body.map (.int .u8))/\Ji w d)
theorem Ou {e:Ending->World->Prop}{d:World}{a cs:Array Value}{u:Value}(b:Nat)(E:a.getD 2 undef=.pointer (some ⟨b,0,none⟩))(Y:a.getD 3 undef=u)(I:Jv d b 0 42=cs)(z:cs.size=42)(g:e (.returned (.tuple #[.agg cs,u])) d):
 bodyPost prog f79 e .ret { tmps:=a,defers:=[] } d:=
 Jag (v:=.tuple #[.agg cs,u]) (QS rfl _ _ b 42 _ _ underlying85 rfl N7 E Y cs I z) rfl g
theorem Zt (l:List Int)(k n J:Nat)(a:J<n):((l.drop k).take n).getD J 0=l.getD (k+J) 0:=by
 simp[Yi,WO,W6,a]
theorem In {l:List Int}(h:JR l=0):QJ l=0:=by
 unfold JR at h;by_cases j:QJ l=0
 ·exact j
 ·rw[YH j] at h;exact h
theorem R6 (a6:Option Addr)(aB aJ:Nat)(l:List Int)(w:World)(G:JA w a6 aB aJ l)(aS:aB<=100000):
 Jf 79 #[.slice a6 aB aJ] w (Es w (QP l) (JR l)):=by
 have bs:=G.len;have P:=WP w (.cells E4 85);have L:Below w.heap.size w (w.alloc (.cells E4 85)):=Below.all (Jc _ _) _;have E:=H (G.alloc (.cells E4 85));have aq:=H G.byte;unfold E4 at P L E;clear G;go_enter func79,ntmps79
 go_wp2_with fail
 obtain⟨e,av⟩:∃b,b=w.heap.size:=⟨_,rfl⟩
 rw[<-av] at P|-;have aV:=H av;clear av;generalize w.alloc (.cells (JbQ false false (Jk 0) false false) 85)=bq at*;refine Jb (Bq _ _ _ _ _ E aS) ?_;rintro aH aP ⟨aI,aZ,rfl,aF,g⟩;have ac:=H (aF.mono L.size);have a8:Hid (∀a,aI=some a->a.block≠e):=H (λa ha=>by have:=(aF.lt ha).1;have bv:=(Ja P).1;omega);have ae:=H (Wx L g);have A:=H ((g.block e (Ja P).1).trans P);have aQ:=H (E.below g);have aT:e<aP.heap.size:=(Ja A).1;have aW:JE aP e 42=true:=by rw[Jw _ _ _ _ _ A.out];rfl
 clear g aF P L E;by_cases X:JR l=0
 rotate_left
 ·have S:=H X;have aX:(JR l != 0)=true:=by simpa using X
  clear X;generalize JR l=bc at*;generalize (QK l).length=bm at*;go_wp2_with fail
  exact Ou (cs:=E4) (u:=.int .i64 bc) e rfl rfl (Ju (JC A) rfl) rfl (.inl ⟨S.out,rfl,ae.trans (Jy _ (Jbh aV.symm))⟩)
 have aO:Hid (QK l=AZ l):=H (by unfold QK;rw[YH X]);have S:Hid (QJ l=0):=H (In X);have be:Hid (QP l=⟨false,Qj ((l.drop 12).take 4),Qj ((l.drop 16).take 4),l.getD 9 0,w2 l 2,decide (0<w2 l 6%8192),decide (w2 l 6/8192%2=1),AZ l⟩):=H rfl;have bk:20<=l.length:=by have:=FP S.out;omega
 have T:Hid (((l.drop 12).take 4).length=4/\JF ((l.drop 12).take 4)):=H ⟨by rw[WR,W4];omega,QL (Qv aq _) _⟩;have F:Hid (((l.drop 16).take 4).length=4/\JF ((l.drop 16).take 4)):=H ⟨by rw[WR,W4];omega,QL (Qv aq _) _⟩;have aY:=Xw aq 2;rw[aO.out] at ac|-;rw[X];have bg:=H X;clear X aO bk;generalize AZ l=ba at*;go_wp2_with fail
 refine Jb (Ds _ _ _ _ _ aQ aS) ?_;rintro aH s (⟨aX,-,-⟩|⟨-,aa,aj,rfl,bf,R⟩)
 ·exact absurd S aX
 have a2:=H (J8.below ac R);have aL:=H (Wx ae R);have aE:=H ((R.block e aT).trans A);unfold ipA Ko;clear bf R ac ae A aQ aW aT;have z:Hid (l.getD 12 0=((l.drop 12).take 4).getD 0 0/\l.getD 13 0=((l.drop 12).take 4).getD 1 0/\l.getD 14 0=((l.drop 12).take 4).getD 2 0/\l.getD 15 0=((l.drop 12).take 4).getD 3 0):=H ⟨(Zt l 12 4 0 D).symm,(Zt l 12 4 1 D).symm,(Zt l 12 4 2 D).symm,(Zt l 12 4 3 D).symm⟩;have v:Hid (l.getD 16 0=((l.drop 16).take 4).getD 0 0/\l.getD 17 0=((l.drop 16).take 4).getD 1 0/\l.getD 18 0=((l.drop 16).take 4).getD 2 0/\l.getD 19 0=((l.drop 16).take 4).getD 3 0):=H ⟨(Zt l 16 4 0 D).symm,(Zt l 16 4 1 D).symm,(Zt l 16 4 2 D).symm,(Zt l 16 4 3 D).symm⟩;rw[z.1,z.2.1,z.2.2.1,z.2.2.2,v.1,v.2.1,v.2.2.1,v.2.2.2];clear z v;generalize (l.drop 12).take 4=j at*;generalize (l.drop 16).take 4=n at*;have bd:=H (Td j T.1);have bh:=H (Td n F.1);generalize j.getD 0 0=al at*;generalize j.getD 1 0=ag at*;generalize j.getD 2 0=aA at*;generalize j.getD 3 0=ap at*;generalize n.getD 0 0=ah at*;generalize n.getD 1 0=ab at*;generalize n.getD 2 0=af at*;generalize n.getD 3 0=ar at*;generalize w2 l 2=I at*;generalize w2 l 6=an at*;generalize l.getD 9 0=M at*;generalize l.getD 1 0=aD at*;generalize w2 l 4=ao at*;generalize l.getD 8 0=az at*;generalize decide (an/16384%2=1)=Y at*;generalize decide (an/8192%2=1)=C at*;generalize an%8192=V at*;generalize ipHl l=au at*;go_wp2_with fail
 obtain⟨W,a1⟩:∃b,b=s.heap.size:=⟨_,rfl⟩
 have ai:=WP s (.cells (Jby aD (Jl I) (Jl ao) Y C (Jl V) az M al ag aA ap ah ab af ar (.slice aa (au-20) aj)) 113);have U:Below s.heap.size s (s.alloc (.cells (Jby aD (Jl I) (Jl ao) Y C (Jl V) az M al ag aA ap ah ab af ar (.slice aa (au-20) aj)) 113)):=Below.all (Jc _ _) _;rw[<-a1] at ai|-;generalize s.alloc (.cells (Jby aD (Jl I) (Jl ao) Y C (Jl V) az M al ag aA ap ah ab af ar (.slice aa (au-20) aj)) 113)=bl at*;have N:=H ai;have aN:=H (Wx aL U);have aM:=H (J8.below a2 U);have am:=H ((U.block e (Ja aE).1).trans aE);clear ai U aL a2 aE a1;refine Jb (FJ _ 4 4 j bl (XF N 8 4 j T.1 T.2 D (λJ a9=>by rw[bd.out];rcases J with _|_|_|_|J;rfl;rfl;rfl;rfl;omega)) D) ?_;rintro aH w4 ⟨rfl,y⟩;rw[Gc T.1];unfold adV;generalize Qj j=Z at*;have aG:=H ((y.block W (Ja N).1).trans N);have aU:=H (Wx aN y);have aR:=H (J8.below aM y);have aC:=H ((y.block e (Ja am).1).trans am);clear y N aN aM am;go_wp2_with fail
 obtain⟨ak,a4⟩:∃b,b=w4.heap.size:=⟨_,rfl⟩
 have ay:=WP w4 (.cells (Jbr false Z) 27);have B:Below w4.heap.size w4 (w4.alloc (.cells (Jbr false Z) 27)):=Below.all (Jc _ _) _;rw[<-a4] at ay|-;generalize w4.alloc (.cells (Jbr false Z) 27)=bi at*;have Q:=H ((B.block W (Ja aG).1).trans aG);have a3:=H (Wx aU B);have a0:=H (J8.below aR B);have ad:=H ((B.block e (Ja aC).1).trans aC);have ax:=H ay;clear B ay aG aU aR aC a4;refine Jb (FJ _ 4 4 n bi (XF Q 12 4 n F.1 F.2 D (λJ a9=>by rw[bh.out];rcases J with _|_|_|_|J;rfl;rfl;rfl;rfl;omega)) D) ?_;rintro aH o ⟨rfl,r⟩;rw[Gc F.1];unfold adV;generalize Qj n=d at*;have t:=H ((r.block W (Ja Q).1).trans Q);have bj:=H (Wx a3 r);have bb:=H (J8.below a0 r);have aw:=H ((r.block e (Ja ad).1).trans ad);have a5:=H ((r.block ak (Ja ax).1).trans ax);clear r Q a3 a0 ad ax;have aK:e<o.heap.size:=(Ja aw).1;have bn:W<o.heap.size:=(Ja t).1;have bw:ak<o.heap.size:=(Ja a5).1;have aW:JE o e 42=true:=by rw[Jw _ _ _ _ _ aw.out];rfl
 have bt:Jv o ak 0 17=(Jbr false Z:Array Value):=Ju a5 rfl;have bp:=WF 1 t;have bu:=WF 4 t;have bx:=WF 5 t;have br:=WF 7 t;have bz:=aY.1;have bo:=aY.2;have a7:e<o.heap.size+1:=Nat.lt_succ_of_lt aK;go_wp2_with fail
 refine Ou (cs:=(JbO false false M (Jk I) (.bool (decide (0<V))) (.slice aI ba.length aZ) C Z d)) (u:=.int .i64 0) e rfl rfl ?_ rfl ?_
 ·exact Ju ((YU _ _ (by simpa using a7)).trans ((YU _ _ (by simpa using aK)).trans (JC aw))) rfl
 ·show Es w (QP l) (JR l) _ _;rw[be.out,bg.out];exact .inr ⟨rfl,aI,aZ,rfl,J8.below (J8.below (J8.keep bb (by simp) (λa ha=>Ja5 _ _ _ _ (by have:=(a8 a ha);omega))) (Below.all (Jc _ _) _)) (Below.all (Jc _ _) _),Below.all (Below.all (bj.trans (Jy _ (Jbh aV.symm))) _) _⟩
theorem R7 {e:Ending->World->Prop}{d:World}{a cs:Array Value}{u:Value}(b:Nat)(E:a.getD 2 undef=.pointer (some ⟨b,0,none⟩))(Y:a.getD 3 undef=u)(I:Jv d b 0 42=cs)(z:cs.size=42)(g:e (.returned (.tuple #[.agg cs,u])) d):
 bodyPost prog f80 e .ret { tmps:=a,defers:=[] } d:=
 Jag (v:=.tuple #[.agg cs,u]) (QS rfl _ _ b 42 _ _ underlying85 rfl N7 E Y cs I z) rfl g
theorem Tt (bz:Option Addr)(aN a3:Nat)(l:List Int)(w:World)(aa:JA w bz aN a3 l)(bI:aN<=100000):
 Jf 80 #[.slice bz aN a3] w (Es w (Xi l) (JT l)):=by
 have b5:=aa.len;have P:=WP w (.cells E4 85);have I:Below w.heap.size w (w.alloc (.cells E4 85)):=Below.all (Jc _ _) _;have Y:=H (aa.alloc (.cells E4 85));have au:=H aa.byte;unfold E4 at P I Y;clear aa;go_enter func80,ntmps80
 go_wp2_with fail
 obtain⟨o,aA⟩:∃b,b=w.heap.size:=⟨_,rfl⟩
 rw[<-aA] at P|-;have bj:=H aA;clear aA;generalize w.alloc (.cells (JbQ false false (Jk 0) false false) 85)=bZ at*;refine Jb (CS _ _ _ _ _ Y bI) ?_;rintro aX V (⟨X,rfl,g⟩|⟨X,s,E,ag,aZ,bn,rfl,bk,aS,g,a0,L,b1,b2⟩)
 ·have U:=H (Wx I g);have F:=H ((g.block o (Ja P).1).trans P);have bJ:o<V.heap.size:=(Ja F).1;have bT:o<V.heap.size+1:=O;have bM:JE V o 42=true:=by rw[Jw _ _ _ _ _ F.out];rfl
  have bO:=H X;have b8:(JT l != 0)=true:=by simpa using X
  clear g P I Y X;generalize JT l=bF at*;unfold sxZ sxF;go_wp2_with fail
  refine R7 (cs:=E4) (u:=.int .i64 bF) o rfl rfl ?_ rfl (.inl ⟨bO.out,rfl,?_⟩)
  ·exact Ju ((YU _ _ (by simpa using bT)).trans ((YU _ _ (by simpa using bJ)).trans (JC F))) rfl
  ·exact Below.all (Below.all (U.trans (Jy _ (Jbh bj.symm))) _) _
 have an:=H bk;have a4:=H (aS.mono I.size);have bD:Hid (∀a,aZ=some a->a.block≠o):=H (λa ha=>by have:=(aS.lt ha).1;have b9:=(Ja P).1;omega);have U:=H (Wx I g);have F:=H ((g.block o (Ja P).1).trans P);have bg:=H a0;have bH:=H L;have bN:=H X
 have bl:Hid (∀x∈Xb l,x.2.length<=100000):=H (λx P=>by
  have:=a0.right x P;unfold Xa at this;split at this<;>simp only[YO,YS] at this<;>omega)
 have ah:Hid (∀d s ag aK,QD d aK s E (Xb l) ag->Jf 141 #[.agg #[.slice s (Xb l).length E,Jq (Xh l)]] d (CV d (Xb l))):=H (λd s ag aK h=>Tp aK s E _ ag _ d h bg bl bH);have bh:Hid (Xi l=⟨true,Qj ((l.drop 8).take 16),Qj ((l.drop 24).take 16),Xh l,40+w2 l 4,decide (0<A8 (Xb l)),Aa (Xb l),Xk l⟩):=H rfl
 have bS:40<=l.length:=by
  have aJ:Zm l=0:=by
   unfold JT at X;by_cases h:Zm l=0
   ·exact h
   ·rw[YH h] at X;exact X
  unfold Zm at aJ;by_cases h:l.length<40
  ·rw[YH h] at aJ;cases aJ
  ·omega
 have aM:Hid (((l.drop 8).take 16).length=16/\JF ((l.drop 8).take 16)):=H ⟨by rw[WR,W4];omega,QL (Qv au _) _⟩;have aq:Hid (((l.drop 24).take 16).length=16/\JF ((l.drop 24).take 16)):=H ⟨by rw[WR,W4];omega,QL (Qv au _) _⟩;have bQ:Hid (∀J,J<16->((l.drop 8).take 16).getD J 0=atB l 8 J):=H (λJ C=>Zt l 8 16 J C);have bL:Hid (∀J,J<16->((l.drop 24).take 16).getD J 0=atB l 24 J):=H (λJ C=>Zt l 24 16 J C);have a6:=Xw au 4;clear a0 L bk aS g P I Y X bS bl;unfold sxA sxF;generalize (l.drop 8).take 16=ai at*;generalize (l.drop 24).take 16=aR at*;generalize atB l 8=n at*;generalize atB l 24=j at*;generalize w2 l 4=ac at*;generalize w4 l 0/1048576%256=ap at*;generalize w4 l 0%1048576=aP at*;generalize l.getD 6 0=aW at*;generalize l.getD 7 0=aQ at*;generalize Xh l=Q at*;obtain⟨T,br⟩:∃T,Xb l=T:=⟨_,rfl⟩
 rw[br] at an ah bh bg|-;clear br;obtain⟨ad,ar⟩:∃k,T.length=k:=⟨_,rfl⟩
 have cb:=H ar;rw[ar] at ah|-;clear ar;generalize Xk l=bE at*;go_wp2_with fail
 obtain⟨r,L⟩:∃b,b=V.heap.size:=⟨_,rfl⟩
 have W:=WP V (.cells (JbB ap (Jp aP) (Jl ac) aW aQ n j) 118);have av:=Below.all (Jc V.heap.size V) (.cells (JbB ap (Jp aP) (Jl ac) aW aQ n j) 118);obtain⟨M,am⟩:∃x,V.alloc (.cells (JbB ap (Jp aP) (Jl ac) aW aQ n j) 118)=x:=⟨_,rfl⟩
 have bp:M.heap.size=r+1:=by rw[<-am,L];simp
 rw[am] at W av|-;have aE:=WP M (.cells #[.slice s ad E,Q] 96);have ab:=Below.all (Jc M.heap.size M) (.cells #[.slice s ad E,Q] 96);obtain⟨bU,aB⟩:∃x,M.alloc (.cells #[.slice s ad E,Q] 96)=x:=⟨_,rfl⟩
 rw[aB,bp] at aE;rw[aB] at ab|-;rw[<-L] at W|-;have S:=Wx av ab;have ao:=H ((S.block o (Ja F).1).trans F);have ae:=H ((ab.block r O).trans W);have aU:=H aE;have bb:=H (Wx U S);have a7:=H (J8.below a4 S);have a2:=H (an.below S);clear W av am aE ab aB S bp L U a4 an F;refine Jb (FJ _ 16 16 ai bU (XF ae 5 16 ai aM.1 aM.2 D (λJ C=>by rw[bQ.out J C];rcases J with _|_|_|_|_|_|_|_|_|_|_|_|_|_|_|_|J;rfl;rfl;rfl;rfl;rfl;rfl;rfl;rfl;rfl;rfl;rfl;rfl;rfl;rfl;rfl;rfl;omega)) D) ?_;rintro aX w4 ⟨rfl,B⟩;rw[DH aM.1];unfold adV;generalize Qj ai=Z at*;have aO:=H ((B.block o (Ja ao).1).trans ao);have aT:=H ((B.block r (Ja ae).1).trans ae);have ax:=H ((B.block (r+1) (Ja aU).1).trans aU);have bi:=H (Wx bb B);have bf:=H (J8.below a7 B);have bs:=H (a2.below B);clear B;clear ao ae aU bb a7 a2;go_wp2_with fail
 obtain⟨N,bv⟩:∃b,b=w4.heap.size:=⟨_,rfl⟩
 have aI:=WP w4 (.cells (Jbr true Z) 27);have G:Below w4.heap.size w4 (w4.alloc (.cells (Jbr true Z) 27)):=Below.all (Jc _ _) _;rw[<-bv] at aI|-;generalize w4.alloc (.cells (Jbr true Z) 27)=bP at*;have ak:=H ((G.block o (Ja aO).1).trans aO);have af:=H ((G.block r (Ja aT).1).trans aT);have aw:=H ((G.block (r+1) (Ja ax).1).trans ax);have bt:=H (Wx bi G);have bo:=H (J8.below bf G);have bq:=H (bs.below G);have aG:=H aI;clear G aI bv;clear aO aT ax bi bf bs;refine Jb (FJ _ 16 16 aR bP (XF af 21 16 aR aq.1 aq.2 D (λJ C=>by rw[bL.out J C];rcases J with _|_|_|_|_|_|_|_|_|_|_|_|_|_|_|_|J;rfl;rfl;rfl;rfl;rfl;rfl;rfl;rfl;rfl;rfl;rfl;rfl;rfl;rfl;rfl;rfl;omega)) D) ?_;rintro aX v ⟨rfl,z⟩;rw[DH aq.1];unfold adV;generalize Qj aR=e at*;have aD:=H ((z.block o (Ja ak).1).trans ak);have al:=H ((z.block r (Ja af).1).trans af);have R:=H ((z.block (r+1) (Ja aw).1).trans aw);have a1:=H ((z.block N (Ja aG).1).trans aG);have bm:=H (Wx bt z);have ba:=H (J8.below bo z);have bd:=H (bq.below z);clear z;clear ak af aw aG bt bo bq;have be:r+1<v.heap.size:=(Ja R).1;have bB:Jv v (r+1) 0 2=#[.slice s ad E,.int .u8 Q]:=Ju R rfl;go_wp2_with fail
 obtain⟨aY,bc⟩:∃b,b=v.heap.size:=⟨_,rfl⟩
 have aj:=WP v (.cells (Jbr true e) 27);have A:Below v.heap.size v (v.alloc (.cells (Jbr true e) 27)):=Below.all (Jc _ _) _;rw[<-bc] at aj|-;generalize v.alloc (.cells (Jbr true e) 27)=b6 at*;have aF:=H ((A.block o (Ja aD).1).trans aD);have aH:=H ((A.block r (Ja al).1).trans al);have aC:=H ((A.block (r+1) (Ja R).1).trans R);have aL:=H ((A.block N (Ja a1).1).trans a1);have bx:=H (Wx bm A);have a5:=H (J8.below ba A);have az:=H (bd.below A);have ay:=H aj;clear A aj bc be bB;clear aD al R a1 bm ba bd;refine Jb (ah _ _ _ _ az) ?_;rintro aX y ⟨⟨id,ok,rfl⟩,t⟩;generalize A8 T=bC at*;generalize Aa T=bG at*;have aV:=H ((t.block o (Ja aF).1).trans aF);have bw:=H ((t.block r (Ja aH).1).trans aH);have a8:=H ((t.block (r+1) (Ja aC).1).trans aC);have a9:=H ((t.block N (Ja aL).1).trans aL);have bu:=H ((t.block aY (Ja ay).1).trans ay);have bK:=H (Wx bx t);have bR:=H (J8.below a5 t);have b4:=H (az.below t);clear t;clear aF aH aC aL ay bx a5 az;have bA:o<y.heap.size:=(Ja aV).1;have bV:r<y.heap.size:=(Ja bw).1;have be:r+1<y.heap.size:=(Ja a8).1;have ca:N<y.heap.size:=(Ja a9).1;have b3:aY<y.heap.size:=(Ja bu).1;have bM:JE y o 42=true:=by rw[Jw _ _ _ _ _ aV.out];rfl
 have b7:Jv y N 0 17=(Jbr true Z:Array Value):=Ju a9 rfl;have bY:Jv y aY 0 17=(Jbr true e:Array Value):=Ju bu rfl;have bX:=WF 1 a8;have b0:=WF 2 bw;have cc:=a6.1;have bW:=a6.2;go_wp2_with fail
 refine R7 (cs:=(JbO true true Q (Jk (40+ac)) (.bool (decide (0<bC))) (.slice aZ bE.length bn) bG Z e)) (u:=.int .i64 0) o rfl rfl ?_ rfl ?_
 ·exact Ju ((YU _ _ (by simpa using bA)).trans (JC aV)) rfl
 ·show Es w (Xi l) (JT l) _ _;rw[bh.out,bN.out];exact .inr ⟨rfl,aZ,bn,rfl,J8.below (J8.keep bR (by simp) (λa ha=>Ja5 _ _ _ _ (by have:=(bD a ha);omega))) (Below.all (Jc _ _) _),Below.all (bK.trans (Jy _ (Jbh bj.symm))) _⟩
def TT (w:World)(b:Nat)(g:M5)(y z:Bool)(Z a:Nat->Int)(p u:Int)(t v:Bool)(s:Option Addr)(n o:Nat):Ending->World->Prop:=λe d=>∃(l j r:Int),Dy w b (JbA y z p (Jl l) (Jl j) (Jk u) r t (.slice s n o) v Z a) g.err e d/\(g.err=0->l=g.src/\j=g.dst/\r=g.flags)
theorem NC (s:Option Addr)(n o:Nat)(l:List Int)(i:Nat)(w:World)(u:JA w s n o l)(F:i+2<=n)(B:n<=100000)(a:Int)(b:a=(i:Int)):Jf 81 #[.slice s n o,Jk a,Jk 2] w (Jz w (.tuple #[Jo (w2 l i),Jk 0])):=by
 subst b;have M:=u.len;have:=get_ok s n o l i 2 w u D D O O;rwa [Qw l i O] at this
theorem R8 (s:Option Addr)(n o:Nat)(l:List Int)(i:Nat)(w:World)(u:JA w s n o l)(F:n<i+2)(d:i<=10)(B:n<=100000)(a:Int)(b:a=(i:Int)):Jf 81 #[.slice s n o,Jk a,Jk 2] w (Jz w (.tuple #[Jo 0,Jk 10])):=by
 subst b;exact get_short s n o i 2 w D D O O O
theorem FY (b:Nat)(L M:Bool)(Z g:Nat->Int)(p E:Int)(C G:Bool)(s:Option Addr)(n o:Nat)(l:List Int)(w:World)(ag:p=6\/p=17\/p=1\/p=58)(u:JA w s n o l)(B:n<=100000)(W:∀a,s=some a->a.block≠b)
 (P:Jh w b (JbO L M p (Jk E) C (.slice s n o) G Z g) 85):
 Jf 37 #[.pointer (some ⟨b,0,none⟩)] w (TT w b (J3 p l) L M Z g p E C G s n o):=by
 have ah:=u.len;by_cases F:Qb p=true
 ·have J:J3 p l=if l.length<2 then ⟨10,0,0,0⟩ else ⟨0,0,w2 l 0,0⟩:=by unfold J3;rw[YH F]
  by_cases y:n<2
  ·refine(L9 b L M Z g p 0 0 E 0 C G s n o w 0 10 F D P (λx=>R8 s n o l 0 x.world (u.later x) O O B 0 rfl)).mono (λe d h=>⟨0,0,0,?_,?_⟩)
   ·rw[J,YH O];exact h
   ·rw[J,YH O];intro h;exact absurd h D
  ·refine(L9 b L M Z g p 0 0 E 0 C G s n o w (w2 l 0) 0 F (Xw u.byte 0) P (λx=>NC s n o l 0 x.world (u.later x) O B 0 rfl)).mono (λe d h=>⟨0,w2 l 0,0,?_,?_⟩)
   ·rw[J,Yw O];exact h
   ·rw[J,Yw O];exact λ_=>⟨rfl,rfl,rfl⟩
 have ab:Qb p=false:=by simpa using F
 have J:J3 p l=if l.length<4 then ⟨10,0,0,0⟩ else ⟨0,w2 l 0,w2 l 2,if p=6/\14<=l.length then l.getD 13 0 else 0⟩:=by unfold J3;rw[Yw F]
 obtain⟨v,N,A,U⟩:∃v N,(0<=v/\v<65536/\(2<=n->v=w2 l 0))/\∀x:J2 w,Jf 81 #[.slice s n o,Jk 0,Jk 2] x.world (Jz x.world (.tuple #[Jo v,Jk N])):=by
  by_cases y:n<2
  ·exact⟨0,10,⟨D,D,λh=>O⟩,λx=>R8 s n o l 0 x.world (u.later x) O O B 0 rfl⟩
  ·exact⟨w2 l 0,0,⟨(Xw u.byte 0).1,(Xw u.byte 0).2,λ_=>rfl⟩,λx=>NC s n o l 0 x.world (u.later x) O B 0 rfl⟩
 obtain⟨j,z,t,V⟩:∃j z,(0<=j/\j<65536/\(z=0->4<=n/\j=w2 l 2)/\(n<4->z=10)/\(4<=n->z=0))/\∀x:J2 w,Jf 81 #[.slice s n o,Jk 2,Jk 2] x.world (Jz x.world (.tuple #[Jo j,Jk z])):=by
  by_cases y:n<4
  ·exact⟨0,10,⟨D,D,λh=>O,λ_=>rfl,λh=>O⟩,λx=>R8 s n o l 2 x.world (u.later x) O O B 2 rfl⟩
  ·exact⟨w2 l 2,0,⟨(Xw u.byte 2).1,(Xw u.byte 2).2,λ_=>⟨O,rfl⟩,λh=>O,λ_=>rfl⟩,λx=>NC s n o l 2 x.world (u.later x) O B 2 rfl⟩
 have Q:(J3 p l).err=z:=by
  rw[J];by_cases y:n<4
  ·rw[YH O,t.2.2.2.1 y]
  ·rw[Yw O,t.2.2.2.2 O]
 have S:∀T,(4<=n->T=if p=6/\14<=l.length then l.getD 13 0 else 0)->((J3 p l).err=0->v=(J3 p l).src/\j=(J3 p l).dst/\T=(J3 p l).flags):=by
  intro T Y X;rw[Q] at X;obtain⟨aa,ac⟩:=t.2.2.1 X;rw[J,Yw O];exact⟨A.2.2 O,ac,Y aa⟩
 by_cases R:p=6
 ·subst R;by_cases af:n<14
  ·refine(HL b L M Z g 0 0 E 0 C G s n o w v N j z af ⟨t.1,t.2.1⟩ ⟨A.1,A.2.1⟩ P U V).mono (λe d h=>⟨v,j,0,?_,S 0 (λ_=>by rw[Yw O])⟩);rw[Q];exact h
  ·obtain⟨r,ae,rfl,ad,I⟩:=u.here O;refine(KM b L M Z g 0 0 E 0 C G r ae n o w v N j z O (l.getD 13 0) (I 13 O) (W _ rfl) ad ⟨t.1,t.2.1⟩ ⟨A.1,A.2.1⟩ P U V).mono (λe d h=>⟨v,j,l.getD 13 0,?_,S _ (λ_=>by rw[YH ⟨rfl,O⟩])⟩);rw[Q];exact h
 ·refine(Ts b L M Z g p 0 0 E 0 C G s n o w v N j z ab R ⟨t.1,t.2.1⟩ ⟨A.1,A.2.1⟩ P U V).mono (λe d h=>⟨v,j,0,?_,S 0 (λ_=>by rw[Yw (λh=>R h.1)])⟩);rw[Q];exact h
theorem FZ (b:Nat)(v y:Bool)(Z g:Nat->Int)(p r:Int)(j t:Bool)(s:Option Addr)(n o:Nat)(l:List Int)(w:World)(E:p=6\/p=17\/p=1\/p=58)(u:JA w s n o l)(B:n<=100000)
 (P:Jh w b (JbO v y p (Jk r) j (.slice s n o) t Z g) 85):
 Jf 38 #[.pointer (some ⟨b,0,none⟩)] w (TT w b (JV p l) v y Z g p r j t s n o):=
 (Py b v y Z g p 0 0 r 0 j t s n o l w E u B P).mono (λe d h=>⟨_,_,_,h,λ_=>⟨rfl,rfl,rfl⟩⟩)
theorem Jdm{p:Prop}(h:p:=by
 have r:JE (w.alloc (.cells (Jbx false false (Jk 0) false) 32)) w.heap.size 40=true:=by rw[Jw _ _ _ _ _ P];rfl
 have g:=H P;have e:=H a;clear P a;go_enter func11,ntmps11
 go_wp2_with fail
 exact Q3 (cs:=Z8) w.heap.size rfl rfl (Ju g rfl) rfl j e):p:=h
def Z8:Array Value:=(Jbx false false (Jk 0) false)
theorem R9:Xl pkZ=Z8:=rfl
theorem Q3 {w d:World}{l:List Int}{e cs:Array Value}{err:Int}(b:Nat)(E:e.getD 2 undef=.pointer (some ⟨b,0,none⟩))(Y:e.getD 3 undef=.int .i64 err)(I:Jv d b 0 40=cs)(z:cs.size=40)(j:pkR l=.tuple #[.agg cs,Jk err])(g:Ji w d):
 bodyPost prog f11 (Jz w (pkR l)) .ret { tmps:=e,defers:=[] } d:=
 Jag (v:=.tuple #[.agg cs,Jk err]) (QS rfl _ _ b 40 _ _ underlying32 rfl SZ E Y cs I z) rfl (.mk j.symm g)
theorem XJ {l:List Int}{err:Int}(h:Q1 l=err)(X:err≠0):pkR l=.tuple #[.agg Z8,Jk err]:=by
 unfold pkR Hg;rw[h,YH X,R9]
def Pz (Q:World)(T:Nat)(d:Option Nat)(w:World):Prop:=Ji Q w/\Q.heap.size<=T/\w.heap[T]? =some (.map Ar 2)/\∀b,d=some b->Q.heap.size<=b/\Jh w b #[.nilFunc] 79
theorem Q6 {w:World}{b:Nat}{a c:Array Value}{t:TypeId}(h:Jh w b (a++c) t)(z:a.size=40):Jv w b 0 40=a:=by
 rw[JG _ _ _ _ _ _ _ h,show(0+40:Nat)=a.size by rw[z],Array.extract_append];simp
theorem Mb (s:Option Addr)(n o:Nat)(l:List Int)(w:World)(u:JA w s n o l)(B:2048<n):
 Jf 11 #[.slice s n o] w (Jz w (pkR l)):=by
 have v:=u.len;have P:=WP w (.cells Z8 32);have a:Below w.heap.size w (w.alloc (.cells Z8 32)):=Below.all (Jc _ _) _;have d:=H (u.alloc (.cells Z8 32));have t:=H u.byte;unfold Z8 at P a d;clear u;have L:decide ((n:Int)>2048)=true:=by simp;omega
 have j:=H (XJ (l:=l) (err:=3) (by unfold Q1;rw[YH O]) D);obtain⟨p,y⟩:∃b,b=w.heap.size:=⟨_,rfl⟩
 exact Jdm
theorem ND (s:Option Addr)(n o:Nat)(l:List Int)(w:World)(u:JA w s n o l)(B:n=0):
 Jf 11 #[.slice s n o] w (Jz w (pkR l)):=by
 have y:=u.len;have P:=WP w (.cells Z8 32);have a:Below w.heap.size w (w.alloc (.cells Z8 32)):=Below.all (Jc _ _) _;have d:=H (u.alloc (.cells Z8 32));have v:=H u.byte;unfold Z8 at P a d;clear u;have L:decide ((n:Int)>2048)=false:=by simp;omega
 have t:((n:Int)==0)=true:=by simp;omega
 have j:=H (XJ (l:=l) (err:=10) (by unfold Q1;rw[Yw O,YH O]) D);obtain⟨p,z⟩:∃b,b=w.heap.size:=⟨_,rfl⟩
 exact Jdm
theorem FD (ad:Option Addr)(n o:Nat)(l:List Int)(w:World)(u:JA w ad n o l)(ah:0<n)(aH:n<=2048)(A:¬l.getD 0 0/16=4/\¬l.getD 0 0/16=6):
 Jf 11 #[.slice ad n o] w (Jz w (pkR l)):=by
 obtain⟨r,S,rfl,ab,aj⟩:=u.here ah;have G:=aj 0 ah;have az:=QC u.byte 0;rw[Jal] at G;obtain⟨E,V⟩:∃x:Nat,l.getD 0 0=(x:Int):=⟨(l.getD 0 0).toNat,O⟩
 have ax:=H V;rw[V] at G az A;have aG:decide ((n:Int)>2048)=false:=by simp;omega
 have aU:((n:Int)==0)=false:=by simp;omega
 have ap:(0:Int)<(n:Int):=O;have aP:=u.len;have P:=WP w (.cells Z8 32);have B:Below w.heap.size w (w.alloc (.cells Z8 32)):=Below.all (Jc _ _) _;have M:=H (u.alloc (.cells Z8 32));have aN:=H u.byte;unfold Z8 at P B M;clear u;have L:=(JK B ab (⟨r,S,none⟩:Addr) rfl).trans G;have I:r<(w.alloc (.cells (Jbx false false (Jk 0) false) 32)).heap.size:=Jd ab B.size;have Z:Hid (∀T d,d.heap[T]? =some (.map Ar 2)->(Instr.lookup 81 (.map (some T)) (Jq ((E:Int)/16)) true).run prog d=.ok (.tuple #[.agg #[.nilFunc],false]) d):=H (λT d h=>GX _ A.1 A.2 T d h);clear aj V G;go_enter func11,ntmps11
 go_wp2_with fail
 obtain⟨t,N⟩:∃b,b=w.heap.size:=⟨_,rfl⟩
 rw[<-N] at P|-;have ay:=H N;clear N;generalize w.alloc (.cells (Jbx false false (Jk 0) false) 32)=Q at*;have U:t<Q.heap.size:=(Ja P).1;have ai:=H P;have aa:=H B;clear P B;refine QZ [.w,.h,.h,.h,.h] [(1,1,0),(2,1,0),(3,1,0),(4,1,0)] (λ_ d=>Jg d r S (Jq (E:Int))) [1] [(.w,0),(.w,5),(.q,6),(.q,7),(.q,8)] [(.w,10),(.q,11)] 9 (.cells #[.nilFunc] 79) K K rfl rfl ⟨λ_=>rfl,λ_ _=>K⟩ K K ?_;apply Exists.intro;refine⟨λak g=>?_,?_,?_⟩
 ·have aJ:Jg ak r S (Jq (E:Int)):=(JK g I _ rfl).trans L;have aK:r<ak.heap.size:=Jd I g.size;exact JcB
 ·intro q X aL F;simp only[YE,YF,YG] at X;rcases X with rfl|rfl|rfl|rfl
  ·cases F;exact⟨_,rfl,rfl,λw2 R=>K⟩
  ·cases F;exact⟨_,rfl,rfl,λw2 R=>by simp[execOp,go_sem,ap];intro h;exfalso;omega⟩
  ·cases F;exact⟨_,rfl,rfl,λw2 R=>by simp[execOp,go_sem,R]⟩
  ·cases F;exact⟨_,rfl,rfl,λw2 R=>by simp[execOp,go_sem,R]⟩
 simp only[Qp,Ja0,Jbf];refine⟨λv a w2=>∃T,v=.map (some T)/\Pz Q T a w2,?_,?_,?_,?_⟩
 ·rintro a-;refine⟨rfl,λd av=>.inr ⟨34,#[],K,?_⟩⟩;obtain⟨⟨x,rfl⟩,ac⟩:=av;refine(Cp x.world).mono ?_;rintro aV w2 ⟨T,rfl,aA,ao,ag⟩;refine⟨_,rfl,T,rfl,Wx x.below ag,WJ x.below.size aA,ao,λb s=>⟨(ac b s).1,?_⟩⟩;have:=(ac b s).2;exact(ag.block b (Ja this).1).trans this
 ·rintro v a aT-w2 ⟨T,-,e⟩;exact(JK e.1 I _ rfl).trans L
 ·rintro-v w2 ⟨T,rfl,j,y,Y,-⟩;exact⟨T,rfl,Below.all j _,y,(YU _ _ (Ja Y).1).trans Y,λb s=>by cases s;exact⟨j.size,WP _ _⟩⟩
 rintro v ⟨aE,aC,T,rfl,-⟩;refine⟨λv a w2=>v=.tuple #[.agg #[.nilFunc],false]/\Pz Q T a w2,?_,λ_ _=>J4 rfl,?_,?_⟩
 ·rintro a-;refine JX.made rfl ?_;rintro d ⟨aO,aD,e⟩;cases aD;exact⟨.tuple #[.agg #[.nilFunc],false],d,Z5 _ _ (vm:=.map (some T)) (vx:=.int .u8 ((E:Int)/16)) K K (Z T d e.2.2.1),rfl,e⟩
 ·rintro-v w2 ⟨aw,j,y,Y,-⟩;exact⟨aw,Below.all j _,y,(YU _ _ (Ja Y).1).trans Y,λb s=>by cases s;exact⟨j.size,WP _ _⟩⟩
 rintro v ⟨ar,al,rfl,-⟩;refine⟨.tuple #[.agg #[.nilFunc],false],⟨rfl,λ_=>K⟩,?_⟩;refine⟨.agg #[.nilFunc],⟨rfl,λ_=>K⟩,?_⟩;refine⟨.bool false,⟨rfl,λ_=>K⟩,?_⟩;intro z;refine⟨λv a w2=>v=undef/\Ji Q w2/\Q.heap.size<=z/\Jh w2 z #[.nilFunc] 79,?_,λ_ _=>J4 rfl,(λh=>by cases h),?_⟩
 ·rintro a rfl;refine JX.skip rfl ?_;rintro d ⟨-,e⟩;obtain⟨J,g⟩:=e.2.2.2 z rfl;have am:=WF 0 g;have aF:=Jad _ _ 0 _ _ g;refine⟨_,?_,e.1.setCell (p:=⟨z,0,none⟩) J (.nilFunc),J,(Jae _ z 0 _ _ (.nilFunc) g).trans rfl⟩;simp[execOp,go_sem,XK,am,aF]
 rintro v ⟨au,an,rfl,-⟩;refine⟨.bool false,⟨rfl,λ_=>K⟩,?_⟩;rintro af ⟨-,C,J,W⟩;have aq:=H (Wx aa C);have ae:=H ((C.block t U).trans ai);have aS:=H (M.below C);have aM:=H W;have aI:t<af.heap.size:=Jd U C.size;have aR:z≠t:=O;have aQ:JE af t 40=true:=by rw[Jw _ _ _ _ _ ae.out];rfl
 clear C W J L I U aC al an aE ar au ai aa M Z;unfold XK;simp only[Act.put,Ja6,Ja7,Ja8];have aB:=H (XJ (l:=l) (err:=50) (by unfold Q1;rw[Yw O,Yw O,ax.out,Yw A.1,Yw A.2]) D);clear A;go_wp2_with fail
 exact Q3 (cs:=Z8) t rfl rfl (Ju (JC ae) rfl) rfl aB (aq.trans (Jy _ (Jbh ay.symm)))
theorem Sa {l:List Int}(h:JF l):JF (QP l).body:=QL (Qv h _) _
theorem Tu {l:List Int}(h:JF l):JF (Xi l).body:=Qv (QL (Qv h _) _) _
theorem Ov (l:List Int):(QP l).body.length<=l.length:=by
 show(AZ l).length<=_;unfold AZ;rw[WR,W4];omega
theorem Sb (l:List Int):(Xi l).body.length<=l.length:=by
 show(Xk l).length<=_;unfold Xk;rw[W4,WR,W4];omega
theorem JcG{p:Prop}(h:p:=by
 unfold E4;go_wp2_with fail
 have ay:=WP ab (.cells (JbQ false false (Jk 0) false false) 85);have ax:Below ab.heap.size ab (ab.alloc (.cells (JbQ false false (Jk 0) false false) 85)):=Below.all (Jc _ _) _;generalize ab.alloc (.cells (JbQ false false (Jk 0) false false) 85)=bV at*;have aB:=H ((ax.block o aW).trans aY);have aM:=H (Wx aF ax);obtain⟨r,aH⟩:∃b,b=ab.heap.size:=⟨_,rfl⟩
 rw[<-aH] at ay|-;have aD:=H ay;clear ay ax aY aF aH aW;refine Jb (Zr 0 _) ?_;rintro aj ad ⟨rfl,au⟩;rw[show J1 0=false from rfl];have v:=H ((au.block o (Ja aB).1).trans aB);have j:=H ((au.block r (Ja aD).1).trans aD);have M:=H (Wx aM au);have ag:r<ad.heap.size:=(Ja j).1;have ah:=WF 34 j;clear au aB aD aM;go_wp2_with fail
 refine Jb (XT 0 _) ?_;rintro aj R ⟨rfl,t⟩;rw[show Qb 0=false from rfl];have N:=H ((t.block o (Ja v).1).trans v);have am:=H (Wx M t);have ar:JE R o 40=true:=by rw[Jw _ _ _ _ _ N.out];rfl
 clear t v M j ah ag;go_wp2_with fail
 exact Q3 (cs:=Z8) o rfl rfl (Ju (JC N) rfl) rfl b6 (am.trans (Jy _ (Jbh af.symm)))):p:=h
theorem JcI{p:Prop}(h:p:=by
 by_cases X:(JV p g).err=0
 ·obtain⟨rfl,rfl,rfl⟩:=Q X;have U:=H (A (F.trans X));rw[X];clear A F X Q;generalize (JV p g).src=B at*;generalize (JV p g).dst=E at*;generalize (JV p g).flags=s at*;have aE:Jv C r 0 40=(Jbt false false p (Jl B) (Jl E) (Jk n) s false Z e:Array Value):=Q6 (a:=(Jbt false false p (Jl B) (Jl E) (Jk n) s false Z e)) (c:=#[.slice P Y aa,false]) an rfl;go_wp2_with fail
  exact Q3 (cs:=(Jbt false false p (Jl B) (Jl E) (Jk n) s false Z e)) o rfl rfl (Ju (JC V) rfl) rfl U (ap.trans (Jy _ (Jbh af.symm)))
 ·have U:=H (XJ (l:=l) F X);have a7:((JV p g).err != 0)=true:=by simpa using X
  clear A F X Q;generalize (JV p g).err=a2 at*;go_wp2_with fail
  exact Q3 (cs:=Z8) o rfl rfl (Ju (JC V) rfl) rfl U (ap.trans (Jy _ (Jbh af.symm)))):p:=h
theorem JcJ{p:Prop}(h:p:=by
 by_cases X:(J3 p g).err=0
 ·obtain⟨rfl,rfl,rfl⟩:=Q X;have U:=H (A (F.trans X));rw[X];clear A F X Q;generalize (J3 p g).src=B at*;generalize (J3 p g).dst=E at*;generalize (J3 p g).flags=s at*;have aE:Jv C r 0 40=(Jbt false false p (Jl B) (Jl E) (Jk n) s false Z e:Array Value):=Q6 (a:=(Jbt false false p (Jl B) (Jl E) (Jk n) s false Z e)) (c:=#[.slice P Y aa,true]) an rfl;go_wp2_with fail
  exact Q3 (cs:=(Jbt false false p (Jl B) (Jl E) (Jk n) s false Z e)) o rfl rfl (Ju (JC V) rfl) rfl U (ap.trans (Jy _ (Jbh af.symm)))
 ·have U:=H (XJ (l:=l) F X);have a7:((J3 p g).err != 0)=true:=by simpa using X
  clear A F X Q;generalize (J3 p g).err=a2 at*;go_wp2_with fail
  exact Q3 (cs:=Z8) o rfl rfl (Ju (JC V) rfl) rfl U (ap.trans (Jy _ (Jbh af.symm)))):p:=h
theorem Jc4{p:Prop}(h:p:=by
 intro q bv cg a5;simp only[YE,YF,YG] at bv;rcases bv with rfl|rfl|rfl|rfl
 ·cases a5;exact⟨_,rfl,rfl,λw2 aU=>K⟩
 ·cases a5;exact⟨_,rfl,rfl,λw2 aU=>by simp[execOp,go_sem,bU];intro h;exfalso;omega⟩
 ·cases a5;exact⟨_,rfl,rfl,λw2 aU=>by simp[execOp,go_sem,aU]⟩
 ·cases a5;exact⟨_,rfl,rfl,λw2 aU=>by simp[execOp,go_sem,aU,aQ]⟩):p:=h
theorem Jdb{p:Prop}(h:p:=by
 rintro s-;refine⟨rfl,λd b0=>.inr ⟨34,#[],K,?_⟩⟩;obtain⟨⟨x,rfl⟩,bF⟩:=b0;refine(Cp x.world).mono ?_;rintro aj w2 ⟨T,rfl,b5,bT,bI⟩;refine⟨_,rfl,T,rfl,Wx x.below bI,WJ x.below.size b5,bT,λb aK=>⟨(bF b aK).1,?_⟩⟩;have:=(bF b aK).2;exact(bI.block b (Ja this).1).trans this):p:=h
theorem JdM{p:Prop}(h:p:=by
 rintro-aq w2 ⟨T,rfl,aV,bp,a0,-⟩;exact⟨T,rfl,Below.all aV _,bp,(YU _ _ (Ja a0).1).trans a0,λb aK=>by cases aK;exact⟨aV.size,WP _ _⟩⟩):p:=h
theorem JdR{p:Prop}(h:p:=by
 rintro-aq w2 ⟨X,aV,bp,a0,-⟩;exact⟨X,Below.all aV _,bp,(YU _ _ (Ja a0).1).trans a0,λb aK=>by cases aK;exact⟨aV.size,WP _ _⟩⟩):p:=h
theorem G4 (bH:Option Addr)(aw bt:Nat)(l:List Int)(w:World)(aG:JA w bH aw bt l)(bJ:0<aw)(cc:aw<=2048)(aQ:l.getD 0 0/16=4):
 Jf 11 #[.slice bH aw bt] w (Jz w (pkR l)):=by
 obtain⟨aZ,bj,rfl,bE,bN⟩:=aG.here bJ;have a6:=bN 0 bJ;have b4:=QC aG.byte 0;rw[Jal] at a6;obtain⟨bA,br⟩:∃x:Nat,l.getD 0 0=(x:Int):=⟨(l.getD 0 0).toNat,O⟩
 have bG:=H br;rw[br] at a6 b4 aQ;have cb:decide ((aw:Int)>2048)=false:=by simp;omega
 have ck:((aw:Int)==0)=false:=by simp;omega
 have bU:(0:Int)<(aw:Int):=O;have ci:=aG.len;have aT:=WP w (.cells Z8 32);have aR:Below w.heap.size w (w.alloc (.cells Z8 32)):=Below.all (Jc _ _) _;have be:=H (aG.alloc (.cells Z8 32));have bY:=H aG.byte;unfold Z8 at aT aR be;clear aG;have bc:=(JK aR bE (⟨aZ,bj,none⟩:Addr) rfl).trans a6;have a9:aZ<(w.alloc (.cells (Jbx false false (Jk 0) false) 32)).heap.size:=Jd bE aR.size;have bx:Hid (∀T d,d.heap[T]? =some (.map Ar 2)->(Instr.lookup 81 (.map (some T)) (Jq 4) true).run prog d=.ok (.tuple #[.agg #[Jr 79],true]) d):=H (λT d h=>GW T d h);clear bN br a6;go_enter func11,ntmps11
 go_wp2_with fail
 obtain⟨o,bh⟩:∃b,b=w.heap.size:=⟨_,rfl⟩
 rw[<-bh] at aT|-;have af:=H bh;clear bh;generalize w.alloc (.cells (Jbx false false (Jk 0) false) 32)=aI at*;have bm:o<aI.heap.size:=(Ja aT).1;have bK:=H aT;have bB:=H aR;clear aT aR;refine QZ [.w,.h,.h,.h,.h] [(1,1,0),(2,1,0),(3,1,0),(4,1,0)] (λ_ d=>Jg d aZ bj (Jq (bA:Int))) [1] [(.w,0),(.w,5),(.q,6),(.q,7),(.q,8)] [(.w,10),(.q,11)] 9 (.cells #[.nilFunc] 79) K K rfl rfl ⟨λ_=>rfl,λ_ _=>K⟩ K K ?_;apply Exists.intro;refine⟨λbO I=>?_,?_,?_⟩
 ·have ce:Jg bO aZ bj (Jq (bA:Int)):=(JK I a9 _ rfl).trans bc;have cf:aZ<bO.heap.size:=Jd a9 I.size;exact JcB
 ·exact Jc4
 simp only[Qp,Ja0,Jbf];refine⟨λaq s w2=>∃T,aq=.map (some T)/\Pz aI T s w2,?_,?_,?_,?_⟩
 ·exact Jdb
 ·rintro aq s cj-w2 ⟨T,-,aA⟩;exact(JK aA.1 a9 _ rfl).trans bc
 ·exact JdM
 rintro aq ⟨b9,b7,T,rfl,-⟩;refine⟨λaq s w2=>aq=.tuple #[.agg #[Jr 79],true]/\Pz aI T s w2,?_,λ_ _=>J4 rfl,?_,?_⟩
 ·rintro s-;refine JX.made rfl ?_;rintro d ⟨ch,b8,aA⟩;cases b8;exact⟨.tuple #[.agg #[Jr 79],true],d,Z5 _ _ (vm:=.map (some T)) (vx:=.int .u8 4) K K (bx T d aA.2.2.1),rfl,aA⟩
 ·exact JdR
 rintro aq ⟨bW,bP,rfl,-⟩;refine⟨.tuple #[.agg #[Jr 79],true],⟨rfl,λ_=>K⟩,?_⟩;refine⟨.agg #[Jr 79],⟨rfl,λ_=>K⟩,?_⟩;refine⟨.bool true,⟨rfl,λ_=>K⟩,?_⟩;intro aC;refine⟨λaq s w2=>aq=undef/\Ji aI w2/\aI.heap.size<=aC/\Jh w2 aC #[Jr 79] 79,?_,λ_ _=>J4 rfl,(λh=>by cases h),?_⟩
 ·rintro s rfl;refine JX.skip rfl ?_;rintro d ⟨-,aA⟩;obtain⟨ba,I⟩:=aA.2.2.2 aC rfl;have bQ:=WF 0 I;have ca:=Jad _ _ 0 _ _ I;refine⟨_,?_,aA.1.setCell (p:=⟨aC,0,none⟩) ba (Jr 79),ba,(Jae _ aC 0 _ _ (Jr 79) I).trans rfl⟩;simp[execOp,go_sem,XK,bQ,ca]
 rintro aq ⟨bX,bR,rfl,-⟩;refine⟨.bool true,⟨rfl,λ_=>K⟩,?_⟩;rintro bi ⟨-,aX,ba,bu⟩;have a3:=H (Wx bB aX);have aS:=H ((aX.block o bm).trans bK);have bn:=H (be.below aX);have a4:=H bu;have aN:o<bi.heap.size:=Jd bm aX.size;have b3:aC≠o:=O;have ar:JE bi o 40=true:=by rw[Jw _ _ _ _ _ aS.out];rfl
 clear aX bu ba bc a9 bm b7 bP bR b9 bW bX bK bB be bx;unfold XK;simp only[Act.put,Ja6,Ja7,Ja8];have bL:=WF 0 a4;have bz:aC<bi.heap.size:=(Ja a4).1;have a1:Hid (Q1 l=if JR l≠0 then JR l else (BW (QP l)).err):=H (by unfold Q1;rw[Yw O,Yw O,bG.out,aQ];rw[YH rfl]);have L:Hid (Q1 l=0->Hg l=OW (QP l) (BW (QP l))):=H (λh=>by unfold Hg;rw[h,Yw D,bG.out,aQ];rfl);clear aQ;go_wp2_with fail
 refine Jb (R6 _ _ _ _ _ bn O) ?_;rintro aj ab (⟨X,rfl,av⟩|⟨X,P,aa,rfl,bq,av⟩)
 ·have b6:=H (XJ (l:=l) (err:=JR l) (by rw[a1.out,YH X]) X);have cl:(JR l==0)=false:=by simpa using X
  have a7:(JR l != 0)=true:=by simpa using X
  have aF:=H (Wx a3 av);have aY:=H ((av.block o aN).trans aS);have aW:o<ab.heap.size:=Jd aN av.size;clear av X a3 aS bn a4 bL bz ar a1 L;generalize JR l=a2 at*;exact JcG
 have bg:Hid (QP l=⟨false,(QP l).src,(QP l).dst,(QP l).proto,(QP l).len,(QP l).frag,(QP l).more,(QP l).body⟩):=H rfl;have bw:=H (Sa (l:=l) bY);have aL:=H (Ov l);have bM:Q1 l=(BW (QP l)).err:=by rw[a1.out,Yw (by rw[X];decide)]
 have W:=H bM;have aF:=H (Wx a3 av);have aY:=H ((av.block o aN).trans aS);have aW:o<ab.heap.size:=Jd aN av.size;have bD:=H (λa (ha:P=some a)=>(bq.lt ha));have bf:=H bq;clear av X a3 aS bn a4 bL bz ar bM a1 bq aN;unfold VJ;generalize QP l=bZ at*;obtain⟨b1,Z,e,p,n,ae,ac,g⟩:=bZ;simp only at bg bw aL W L bf|-;obtain rfl:b1=false:=congrArg Hr.six bg;have bl:=H (bf.reads bw);obtain⟨Y,bb⟩:∃aw,g.length=aw:=⟨_,rfl⟩
 have cd:=H bb;rw[bb] at bl aL|-;clear bb bf bg;go_wp2_with fail
 have ay:=WP ab (.cells (JbO false false p (Jk n) ae (.slice P Y aa) ac Z e) 85);have ax:Below ab.heap.size ab (ab.alloc (.cells (JbO false false p (Jk n) ae (.slice P Y aa) ac Z e) 85)):=Below.all (Jc _ _) _;generalize ab.alloc (.cells (JbO false false p (Jk n) ae (.slice P Y aa) ac Z e) 85)=bV at*;have aB:=H ((ax.block o aW).trans aY);have aM:=H (Wx aF ax);have bC:=H (bl.below ax);obtain⟨r,aH⟩:∃b,b=ab.heap.size:=⟨_,rfl⟩
 rw[<-aH] at ay|-;have aD:=H ay;have aJ:Hid ((∀a,P=some a->a.block≠r)/\r≠o):=H ⟨λa ha=>by have:=(bD a ha).2;omega,O⟩;have a8:Hid (w.heap.size<=r):=H (by rw[aH];exact aF.size);clear ay ax aY aF aH aW bD bl b3;refine Jb (Zr p _) ?_;rintro aj ad ⟨rfl,au⟩;have v:=H ((au.block o (Ja aB).1).trans aB);have j:=H ((au.block r (Ja aD).1).trans aD);have M:=H (Wx aM au);have ai:=H (bC.below au);clear au aB aD aM bC;have aP:Hid ((J1 p=true->p=6\/p=17\/p=1\/p=58)/\(Qb p=true->p=6\/p=17\/p=1\/p=58)):=H ⟨λh=>by unfold J1 at h;simp at h;omega,λh=>by unfold Qb at h;simp at h;omega⟩;have S:Hid (BW ⟨false,Z,e,p,n,ae,ac,g⟩=if (J1 p||Qb p)&&!ae then (if ac then J3 p g else JV p g) else ⟨0,0,0,0⟩):=H rfl;have aO:Hid (∀d,Jf 36 #[p] d (Jz d (.bool (Qb p)))):=H (λd=>XT p d);obtain⟨b2,bd⟩:∃b,J1 p=b:=⟨_,rfl⟩
 obtain⟨bS,bs⟩:∃b,Qb p=b:=⟨_,rfl⟩
 rw[bd,bs] at S aP;rw[bs] at aO;rw[bd];clear bd bs;cases b2
 ·cases bS
  ·skip
   have ag:r<ad.heap.size:=(Ja j).1;have ah:=WF 34 j;have J:=WF 39 j;have G:=WF 41 j;have u:BW ⟨false,Z,e,p,n,ae,ac,g⟩=⟨0,0,0,0⟩:=by rw[S.out];rfl
   have y:Q1 l=0:=by rw[W.out,u]
   have A:Hid (pkR l=.tuple #[.agg (Jbv false false p (Jk n) ae Z e:Array Value),Jk 0]):=H (by unfold pkR;rw[y,L.out y,u];rfl);clear u y S W L;clear J G;go_wp2_with fail
   refine Jb (aO _) ?_;rintro aj R ⟨rfl,t⟩;have N:=H ((t.block o (Ja v).1).trans v);have z:=H ((t.block r (Ja j).1).trans j);have am:=H (Wx M t);have az:=H (ai.below t);clear t ah ag v j M ai;have bk:r<R.heap.size:=(Ja z).1;have J:=WF 39 z;have G:=WF 41 z;have aE:Jv R r 0 40=(Jbv false false p (Jk n) ae Z e:Array Value):=Q6 (a:=(Jbv false false p (Jk n) ae Z e)) (c:=#[.slice P Y aa,ac]) z rfl;have ar:JE R o 40=true:=by rw[Jw _ _ _ _ _ N.out];rfl
   go_wp2_with fail
   exact Q3 (cs:=(Jbv false false p (Jk n) ae Z e)) o rfl rfl (Ju (JC N) rfl) rfl A (am.trans (Jy _ (Jbh af.symm)))
  ·cases ae
   ·cases ac
    ·skip
     have ag:r<ad.heap.size:=(Ja j).1;have ah:=WF 34 j;have J:=WF 39 j;have G:=WF 41 j;clear J G;go_wp2_with fail
     refine Jb (aO _) ?_;rintro aj R ⟨rfl,t⟩;have N:=H ((t.block o (Ja v).1).trans v);have z:=H ((t.block r (Ja j).1).trans j);have am:=H (Wx M t);have az:=H (ai.below t);clear t ah ag v j M ai;have bk:r<R.heap.size:=(Ja z).1;have J:=WF 39 z;have G:=WF 41 z;have u:BW ⟨false,Z,e,p,n,false,false,g⟩=JV p g:=by rw[S.out];rfl
     have y:Q1 l=(JV p g).err:=by rw[W.out,u]
     have F:=H y;have A:Hid (Q1 l=0->pkR l=.tuple #[.agg (Jbt false false p (Jl (JV p g).src) (Jl (JV p g).dst) (Jk n) (Jq (JV p g).flags) false Z e:Array Value),Jk 0]):=H (λh=>by unfold pkR;rw[h,L.out h,u];rfl);clear u y S W L;have al:=H (FZ r false false Z e p n false false P Y aa g R (aP.2 (by first|rfl|trivial)) az (by have:=aL.out;omega) z);go_wp2_with fail
     refine Jb al ?_;rintro aj C ⟨B,E,s,⟨rfl,I,ak,ao⟩,Q⟩;have V:=H ((ao o aJ.2.symm (Ja N).1).trans N);have an:=H I;have ap:Hid (Ji w C):=H (am.trans (ak.mono a8));have ar:JE C o 40=true:=by rw[Jw _ _ _ _ _ V.out];rfl
     have bo:r<C.heap.size:=(Ja an).1;clear I ak ao al N z am az J G;exact JcI
    ·skip
     have ag:r<ad.heap.size:=(Ja j).1;have ah:=WF 34 j;have J:=WF 39 j;have G:=WF 41 j;clear J G;go_wp2_with fail
     refine Jb (aO _) ?_;rintro aj R ⟨rfl,t⟩;have N:=H ((t.block o (Ja v).1).trans v);have z:=H ((t.block r (Ja j).1).trans j);have am:=H (Wx M t);have az:=H (ai.below t);clear t ah ag v j M ai;have bk:r<R.heap.size:=(Ja z).1;have J:=WF 39 z;have G:=WF 41 z;have u:BW ⟨false,Z,e,p,n,false,true,g⟩=J3 p g:=by rw[S.out];rfl
     have y:Q1 l=(J3 p g).err:=by rw[W.out,u]
     have F:=H y;have A:Hid (Q1 l=0->pkR l=.tuple #[.agg (Jbt false false p (Jl (J3 p g).src) (Jl (J3 p g).dst) (Jk n) (Jq (J3 p g).flags) false Z e:Array Value),Jk 0]):=H (λh=>by unfold pkR;rw[h,L.out h,u];rfl);clear u y S W L;have al:=H (FY r false false Z e p n false true P Y aa g R (aP.2 (by first|rfl|trivial)) az (by have:=aL.out;omega) aJ.1 z);go_wp2_with fail
     refine Jb al ?_;rintro aj C ⟨B,E,s,⟨rfl,I,ak,ao⟩,Q⟩;have V:=H ((ao o aJ.2.symm (Ja N).1).trans N);have an:=H I;have ap:Hid (Ji w C):=H (am.trans (ak.mono a8));have ar:JE C o 40=true:=by rw[Jw _ _ _ _ _ V.out];rfl
     have bo:r<C.heap.size:=(Ja an).1;clear I ak ao al N z am az J G;exact JcJ
   ·skip
    have ag:r<ad.heap.size:=(Ja j).1;have ah:=WF 34 j;have J:=WF 39 j;have G:=WF 41 j;have u:BW ⟨false,Z,e,p,n,true,ac,g⟩=⟨0,0,0,0⟩:=by rw[S.out];rfl
    have y:Q1 l=0:=by rw[W.out,u]
    have A:Hid (pkR l=.tuple #[.agg (Jbv false false p (Jk n) true Z e:Array Value),Jk 0]):=H (by unfold pkR;rw[y,L.out y,u];rfl);clear u y S W L;clear J G;go_wp2_with fail
    refine Jb (aO _) ?_;rintro aj R ⟨rfl,t⟩;have N:=H ((t.block o (Ja v).1).trans v);have z:=H ((t.block r (Ja j).1).trans j);have am:=H (Wx M t);have az:=H (ai.below t);clear t ah ag v j M ai;have bk:r<R.heap.size:=(Ja z).1;have J:=WF 39 z;have G:=WF 41 z;have aE:Jv R r 0 40=(Jbv false false p (Jk n) true Z e:Array Value):=Q6 (a:=(Jbv false false p (Jk n) true Z e)) (c:=#[.slice P Y aa,ac]) z rfl;have ar:JE R o 40=true:=by rw[Jw _ _ _ _ _ N.out];rfl
    go_wp2_with fail
    exact Q3 (cs:=(Jbv false false p (Jk n) true Z e)) o rfl rfl (Ju (JC N) rfl) rfl A (am.trans (Jy _ (Jbh af.symm)))
 ·cases ae
  ·cases ac
   ·skip
    have ag:r<ad.heap.size:=(Ja j).1;have ah:=WF 34 j;have J:=WF 39 j;have G:=WF 41 j;have u:BW ⟨false,Z,e,p,n,false,false,g⟩=JV p g:=by rw[S.out];rfl
    have y:Q1 l=(JV p g).err:=by rw[W.out,u]
    have F:=H y;have A:Hid (Q1 l=0->pkR l=.tuple #[.agg (Jbt false false p (Jl (JV p g).src) (Jl (JV p g).dst) (Jk n) (Jq (JV p g).flags) false Z e:Array Value),Jk 0]):=H (λh=>by unfold pkR;rw[h,L.out h,u];rfl);clear u y S W L;have al:=H (FZ r false false Z e p n false false P Y aa g ad (aP.1 (by first|rfl|trivial)) ai (by have:=aL.out;omega) j);go_wp2_with fail
    refine Jb al ?_;rintro aj C ⟨B,E,s,⟨rfl,I,ak,ao⟩,Q⟩;have V:=H ((ao o aJ.2.symm (Ja v).1).trans v);have an:=H I;have ap:Hid (Ji w C):=H (M.trans (ak.mono a8));have ar:JE C o 40=true:=by rw[Jw _ _ _ _ _ V.out];rfl
    have bo:r<C.heap.size:=(Ja an).1;clear I ak ao al v j M ai J G;exact JcI
   ·skip
    have ag:r<ad.heap.size:=(Ja j).1;have ah:=WF 34 j;have J:=WF 39 j;have G:=WF 41 j;have u:BW ⟨false,Z,e,p,n,false,true,g⟩=J3 p g:=by rw[S.out];rfl
    have y:Q1 l=(J3 p g).err:=by rw[W.out,u]
    have F:=H y;have A:Hid (Q1 l=0->pkR l=.tuple #[.agg (Jbt false false p (Jl (J3 p g).src) (Jl (J3 p g).dst) (Jk n) (Jq (J3 p g).flags) false Z e:Array Value),Jk 0]):=H (λh=>by unfold pkR;rw[h,L.out h,u];rfl);clear u y S W L;have al:=H (FY r false false Z e p n false true P Y aa g ad (aP.1 (by first|rfl|trivial)) ai (by have:=aL.out;omega) aJ.1 j);go_wp2_with fail
    refine Jb al ?_;rintro aj C ⟨B,E,s,⟨rfl,I,ak,ao⟩,Q⟩;have V:=H ((ao o aJ.2.symm (Ja v).1).trans v);have an:=H I;have ap:Hid (Ji w C):=H (M.trans (ak.mono a8));have ar:JE C o 40=true:=by rw[Jw _ _ _ _ _ V.out];rfl
    have bo:r<C.heap.size:=(Ja an).1;clear I ak ao al v j M ai J G;exact JcJ
  ·skip
   have ag:r<ad.heap.size:=(Ja j).1;have ah:=WF 34 j;have J:=WF 39 j;have G:=WF 41 j;have u:BW ⟨false,Z,e,p,n,true,ac,g⟩=⟨0,0,0,0⟩:=by rw[S.out];rfl
   have y:Q1 l=0:=by rw[W.out,u]
   have A:Hid (pkR l=.tuple #[.agg (Jbv false false p (Jk n) true Z e:Array Value),Jk 0]):=H (by unfold pkR;rw[y,L.out y,u];rfl);clear u y S W L;have aE:Jv ad r 0 40=(Jbv false false p (Jk n) true Z e:Array Value):=Q6 (a:=(Jbv false false p (Jk n) true Z e)) (c:=#[.slice P Y aa,ac]) j rfl;have ar:JE ad o 40=true:=by rw[Jw _ _ _ _ _ v.out];rfl
   go_wp2_with fail
   exact Q3 (cs:=(Jbv false false p (Jk n) true Z e)) o rfl rfl (Ju (JC v) rfl) rfl A (M.trans (Jy _ (Jbh af.symm)))
end
end Go.Proofs.YtkgjbipfhhjlpaaGreatDoor
