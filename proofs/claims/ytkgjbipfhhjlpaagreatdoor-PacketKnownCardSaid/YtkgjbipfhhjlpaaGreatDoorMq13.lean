import Derived.Test.YtkgjbipfhhjlpaaGreatDoorMq12
set_option linter.unusedVariables false
set_option linter.unusedSimpArgs false
set_option maxRecDepth 100000
set_option maxHeartbeats 32000000
namespace Go.Proofs.YtkgjbipfhhjlpaaGreatDoor
open Go.Proofs.Tryz
section
open Go.RowKit Bits
def QI (w:World)(a:List Int)(err:Int):Ending->World->Prop:=λe d=>∃b o,e=.returned (.tuple #[.slice b a.length o,Jk err])/\JA d b a.length o a/\Ji w d
theorem QI.mk {w d:World}{L:List Int}{err:Int}{b:Option Addr}{n o:Nat}(u:JA d b n o L)(e:Ji w d):QI w L err (.returned (.tuple #[.slice b n o,Jk err])) d:=by
 obtain rfl:=u.len;exact⟨b,o,rfl,u,e⟩
def Fi (w:World)(j:Option Addr)(b:List Int)(err:Int):Ending->World->Prop:=λe d=>∃s o,e=.returned (.tuple #[.slice s b.length o,Jk err])/\JA d s b.length o b/\Ji w d/\∀a,s=some a->∃g,j=some g/\g.block=a.block
theorem Fi.mk {w d:World}{t:Option Addr}{L:List Int}{err:Int}{b:Option Addr}{n o:Nat}(u:JA d b n o L)(y:Ji w d)(F:∀a,b=some a->∃e,t=some e/\e.block=a.block):Fi w t L err (.returned (.tuple #[.slice b n o,Jk err])) d:=by
 obtain rfl:=u.len;exact⟨b,o,rfl,u,y,F⟩
theorem CR (s:Option Addr)(k o d:Nat)(a:Addr)(h:JQ s k o d=some a):∃b,s=some b/\b.block=a.block:=by
 unfold JQ at h;split at h
 ·exact⟨a,h,rfl⟩
 ·obtain⟨b,j,rfl⟩:=Yb.1 h;exact⟨b,j,by unfold Addr.add;split<;>rfl⟩
theorem Nf (s:Option Addr)(n o:Nat)(l:List Int)(w:World)(E:JA w s n o l)(N:n<=100000):Jf 82 #[.slice s n o] w (Fi w s (QK l) (JR l)):=by
 have G:=H E;have J:=E.len;have b:=H (Fh s n o l w E N);clear E;by_cases X:QJ l=0
 ·have r:Hid (SD l=.tuple #[.agg (SC l),Jk (ipHl l:Int),Jk 0]):=H (by unfold SD;rw[YH X]);have A:=FP X;have P:=Xw G.byte 2;have j:Hid (JR l=if (l.length:Int)<w2 l 2 then 10 else 0):=H (by unfold JR;rw[Yw (by rw[X];decide)]);obtain⟨d,y⟩:∃t:Nat,w2 l 2=t:=⟨(w2 l 2).toNat,O⟩
  obtain⟨M,F⟩:∃k:Nat,ipHl l=k:=⟨_,rfl⟩
  have Q:Hid (AZ l=(l.drop M).take (d-M)):=H (by unfold AZ;rw[F,y,Jak]);have Y:d<65536:=O;clear P;rw[y,J] at j;rw[y,F,J] at A;rw[r.out] at b;unfold SC at b;rw[y,F] at b;generalize strOfNums ((l.drop 12).take 4)=W at*;generalize strOfNums ((l.drop 16).take 4)=Z at*;generalize strOfNums ((l.drop 20).take (M-20))=S at*;clear r y F;clear X;go_enter func82,ntmps82
  go_wp2_with fail
  refine Jb b ?_;rintro e V ⟨rfl,g⟩;have C:=H g;have I:=H (G.below g);clear g b G;by_cases z:(n:Int)<d
  ·have B:Hid (JR l=10):=H (by rw[j.out,YH z]);have p:Hid (QK l=[]):=H (by unfold QK;rw[Yw (by rw[B.out];decide)]);go_wp2_with fail
   go_ret2;show Fi w s (QK l) (JR l) _ _;rw[B.out,p.out];exact .mk (JA.nil _) (Below.all C _) (λa h=>by cases h)
  ·have B:Hid (JR l=0):=H (by rw[j.out,Yw z]);have p:Hid (QK l=(l.drop M).take (d-M)):=H (by unfold QK;rw[YH B.out,Q.out]);have U:=I.le;have hcut:∀w,(Instr.slice 22 (.slice s n o) (some (.int .i64 (M:Int))) (some (.int .u16 (d:Int))) none).run prog w=.ok (.slice (JQ s M o 1) (d-M) (o-M)) w:=λw=>Ff _ .i64 .u16 s n o 1 rfl rfl M d _ _ rfl rfl O O w
   go_wp2_with fail
   go_ret2;show Fi w s (QK l) (JR l) _ _;rw[B.out,p.out];exact .mk (((I.alloc _).cut M O).take (d-M) O) (Below.all C _) (λa h=>CR _ _ _ _ a h)
 ·have r:Hid (SD l=Th (QJ l)):=H (by unfold SD;rw[Yw X]);have j:Hid (JR l=QJ l):=H (by unfold JR;rw[YH X]);have p:Hid (QK l=[]):=H (by unfold QK;rw[Yw (by rw[j.out];exact X)]);have T:(QJ l==0)=false:=by simpa using X
  have R:(QJ l != 0)=true:=by simpa using X
  rw[r.out] at b;unfold Th FR at b;clear r X;have L:Hid (Fi w s (QK l) (JR l)=Fi w s [] (QJ l)):=H (by rw[j.out,p.out]);generalize QJ l=err at*;go_enter func82,ntmps82
  go_wp2_with fail
  refine Jb b ?_;rintro e V ⟨rfl,g⟩;have C:=H g;clear g b;go_wp2_with fail
  go_ret2;show Fi w s (QK l) (JR l) _ _;rw[L.out];exact .mk (JA.nil _) (Below.all C _) (λa h=>by cases h)
structure SxH where
 cls:Int
 flow:Int
 len:Int
 nxt:Int
 hops:Int
 src:List Int
 dst:List Int
structure V0 (h:SxH):Prop where
 cls:Jm h.cls
 flow:0<=h.flow/\h.flow<4294967296
 len:Jn h.len
 nxt:Jm h.nxt
 hops:Jm h.hops
 src:h.src.length=16/\JF h.src
 dst:h.dst.length=16/\JF h.dst
def sxF (c f l n C:Int)(Z a:Nat->Int):Array Value:=(JbB c (Jp f) (Jl l) n C Z a)
def sxV (h:SxH):Array Value:=sxF h.cls h.flow h.len h.nxt h.hops (λi=>h.src.getD i 0) (λi=>h.dst.getD i 0)
def X7 (h:SxH):Int:=if h.flow<1048576 then 0 else 51
def Dw (h:SxH):List Int:=be4 (1610612736+h.cls*1048576+h.flow)++be2 h.len++[h.nxt,h.hops]++h.src++h.dst
def An (h:SxH):List Int:=if h.flow<1048576 then Dw h else []
structure Ng (w:World)(b0:Nat)(ob:Obj)(p:Nat)(y:World)(L:List Int):Prop where
 wr:Wr y p L
 box:y.heap[b0]? =some ob
 out:Ji w y
 lo:w.heap.size<=b0
 lt0:b0<p
theorem Ng.below {w:World}{d:Nat}{e:Obj}{p:Nat}{Q o:World}{j:List Int}(h:Ng w d e p Q j)(b:Ji Q o):Ng w d e p o j:=
 ⟨h.wr.below b,(b.block _ (Jbc h.lt0 h.wr.lt)).trans h.box,Wx h.out b,h.lo,h.lt0⟩
theorem Ng.belowP {w:World}{b:Nat}{d:Obj}{p:Nat}{Q a:World}{j e:List Int}(h:Ng w b d p Q j)(g:Below p Q a)(R:Wr a p e):Ng w b d p a e:=
 ⟨R,(g.block _ h.lt0).trans h.box,h.out.trans (g.mono (WJ h.lo (Ja1 h.lt0))),h.lo,h.lt0⟩
theorem Wr.new {w:World}{p:Nat}(I:Jg w p 0 (.slice none 0 0))(d:w.frozen? ⟨p,0,none⟩=false)(b:p<w.heap.size):Wr w p []:=
 ⟨⟨none,0,I,J8.nil _ _ _⟩,d,b,by simp⟩
theorem Ed (v:Int):JF (be4 v):=Kk v
theorem Nh (c f:Int)(I:Jm c)(d:0<=f/\f<1048576):bits .or .u64 (bits .or .u64 1610612736 (c*1048576)) f=1610612736+c*1048576+f:=by
 obtain⟨a,rfl⟩:∃a:Nat,c=a:=⟨c.toNat,O⟩
 obtain⟨b,rfl⟩:∃b:Nat,f=b:=⟨f.toNat,O⟩
 have j:=CP 28 6 (a*1048576) O O;rw[show(((2^28*6:Nat)):Int)=1610612736 from D,show((a*1048576:Nat):Int)=(a:Int)*1048576 from O] at j;rw[j];have y:=CP 20 (6*256+a) b O O;rw[show((2^20*(6*256+a):Nat):Int)=((2^28*6+a*1048576:Nat):Int) from O] at y;rw[y];omega
theorem RQ (h:SxH)(w:World)(A:V0 h):Jf 55 #[.agg (sxV h)] w (JO w (An h) (X7 h)):=by
 have d:=H A;have ad:=A.cls;have aB:=A.len;have ai:=A.nxt;have av:=A.hops;have ah:=A.flow
 have R:Hid (∀(Q:World) (b:Nat) (t:TypeId),Jh Q b (sxV h) t->JA Q (some ⟨b,5,none⟩) 16 16 h.src):=H (λQ b t y=>XF y 5 16 h.src A.src.1 A.src.2 D (λJ V=>by
  rcases J with _|_|_|_|_|_|_|_|_|_|_|_|_|_|_|_|J;all_goals first|rfl|omega))
 have Y:Hid (∀(Q:World) (b:Nat) (t:TypeId),Jh Q b (sxV h) t->JA Q (some ⟨b,21,none⟩) 16 16 h.dst):=H (λQ b t y=>XF y 21 16 h.dst A.dst.1 A.dst.2 D (λJ V=>by
  rcases J with _|_|_|_|_|_|_|_|_|_|_|_|_|_|_|_|J;all_goals first|rfl|omega))
 clear A;by_cases j:h.flow<1048576
 rotate_left
 ·have v:Hid (JO w (An h) (X7 h)=JO w [] 51):=H (by unfold An X7;rw[Yw j,Yw j]);have aj:decide (1048576<=h.flow)=true:=by simp;omega
  clear d R Y;unfold sxV;generalize (λi=>h.src.getD i 0)=Z at*;generalize (λi=>h.dst.getD i 0)=a at*;unfold sxF;go_enter func55,ntmps55
  go_wp2_with fail
  go_ret2;show JO w (An h) (X7 h) _ _;rw[v.out];exact⟨none,0,rfl,J8.nil _ _ _,Below.all (Jc _ _) _⟩
 have v:Hid (JO w (An h) (X7 h)=JO w (Dw h) 0):=H (by unfold An X7;rw[YH j,YH j]);have an:Hid (Dw h=be4 (1610612736+h.cls*1048576+h.flow)++be2 h.len++[h.nxt,h.hops]++h.src++h.dst):=H rfl;have ao:=H (Nh h.cls h.flow ad ⟨ah.1,j⟩);have aj:decide (1048576<=h.flow)=false:=by simp;omega
 obtain⟨z,ag⟩:∃z,z=Obj.cells (sxV h) 118:=⟨_,rfl⟩
 have F:Jh (w.alloc (.cells (sxV h) 118)) w.heap.size (sxV h) 118:=WP w _;have B:Hid (Ng w w.heap.size (.cells (sxV h) 118 (0,0)) (w.heap.size+1) ((w.alloc (.cells (sxV h) 118)).alloc (.cells #[Jbo] 137)) []):=H ⟨Wr.new (by have:=Jai w (.cells (sxV h) 118);go_cell) (by go_cell) (by simp),(YU _ _ (by simp)).trans F,Below.all (Below.all (Jc _ _) _) _,Je _,O⟩;clear F ag;clear z;unfold sxV at*;generalize (λi=>h.src.getD i 0)=Z at*;generalize (λi=>h.dst.getD i 0)=a at*;unfold sxF at*;go_enter func55,ntmps55
 go_wp2_with fail
 rw[ao.out];generalize ar:((w.alloc (.cells (JbB (Jq h.cls) (Jp h.flow) (Jl h.len) (Jq h.nxt) (Jq h.hops) Z a) 118)).alloc (.cells #[Jbo] 137))=aD at*;clear ar;refine Jb (S6 _ [] _ O O _ B.wr D) ?_;rintro e aq ⟨rfl,I,E⟩;have n:=H (B.belowP E I);have u:=n.box;have ap:Jg aq w.heap.size 2 (Jl h.len):=WF 2 u;clear u E I B;go_wp2_with fail
 refine Jb (Ta _ _ _ O O _ n.wr (by simp[be4])) ?_;rintro e s ⟨rfl,N,T⟩;have p:=H (n.belowP T N);have u:=p.box;have au:Jg s w.heap.size 3 (Jq h.nxt):=WF 3 u;have am:Jg s w.heap.size 4 (Jq h.hops):=WF 4 u;clear u T N n ap;have al:w.heap.size+1<s.heap.size:=p.wr.lt;go_wp2_with fail
 have X:=H (XF (WP s (.cells #[Jq h.nxt,Jq h.hops] 5)) 0 2 [h.nxt,h.hops] rfl (by intro aC G;simp only[YE,YF,YG] at G;rcases G with rfl|rfl;exact ai;exact av) D (λJ V=>by
  rcases J with _|_|J
  ·rfl
  ·rfl
  ·omega))
 have C:=p.below (Below.all (Jc _ _) (.cells #[Jq h.nxt,Jq h.hops] 5));refine Jb (GA _ _ _ _ _ [h.nxt,h.hops] _ C.wr X (by simp[be4,be2])) ?_;rintro e ax ⟨rfl,ac,M⟩;have l:=H (C.belowP M ac);clear M ac p C au am al X;go_wp2_with fail
 refine Jb (GA _ _ _ _ _ h.src _ l.wr (R _ _ _ l.box) (by simp[be4,be2,d.src.1])) ?_;rintro e aA ⟨rfl,aa,S⟩;have r:=H (l.belowP S aa);clear S aa l;go_wp2_with fail
 refine Jb (GA _ _ _ _ _ h.dst _ r.wr (Y _ _ _ r.box) (by simp[be4,be2,d.src.1,d.dst.1])) ?_;rintro e az ⟨rfl,ab,U⟩;have o:=H (r.belowP U ab);clear U ab r;go_wp2_with fail
 refine Jb (Bits.bytes_any _ _ _ o.wr (by simp[be4,be2,d.src.1,d.dst.1])) ?_;rintro e ak ⟨aw,af,rfl,P,g⟩;have L:=H (P.mono o.out.out.size);have ae:Hid (Ji w ak):=H (Wx o.out.out g);clear P g o;rw[Jah,<-an.out] at L|-;generalize W:(Dw h).length=ay at*;go_wp2_with fail
 go_ret2;show JO w (An h) (X7 h) _ _;rw[v.out];exact⟨aw,af,by rw[W];rfl,by rw[W];exact L,ae.out⟩
def V1 (h:SxH):Array Value:=(JbC (Jq h.cls) (Jp h.flow) (Jl h.len) (Jq h.nxt) (Jq h.hops) (.string (strOfNums h.src)) (.string (strOfNums h.dst)))
theorem EV (h:SxH)(w:World)(A:V0 h):Jf 50 #[.agg (V1 h)] w (JO w (An h) (X7 h)):=by
 have d:=H A;have aO:=A.cls;have aQ:=A.len;have U:=A.nxt;have ad:=A.hops;have aP:=A.flow
 have P:Hid (∀(v:Int) (w:World),0<=v->v<65536->Jf 67 #[Jo v,Jk 2] w (J5 w (be2 v))):=H (λv w X ay=>by
  have:=X2 2 v w D X O;rwa [Dv] at this)
 have Y:Hid (∀(v:Int) (w:World),0<=v->v<4294967296->Jf 67 #[Jo v,Jk 4] w (J5 w (be4 v))):=H (λv w X ay=>by
  have:=X2 4 v w D X O;rwa [RI] at this)
 clear A;unfold V1;by_cases o:h.flow<1048576
 rotate_left
 ·have z:Hid (JO w (An h) (X7 h)=JO w [] 51):=H (by unfold An X7;rw[Yw o,Yw o]);have af:decide (1048576<=h.flow)=true:=by simp;omega
  generalize strOfNums h.src=G at*;generalize strOfNums h.dst=I at*;clear d P Y;go_enter func50,ntmps50
  go_wp2_with fail
  go_ret2;show JO w (An h) (X7 h) _ _;rw[z.out];exact⟨none,0,rfl,J8.nil _ _ _,Below.all (Jc _ _) _⟩
 have z:Hid (JO w (An h) (X7 h)=JO w (Dw h) 0):=H (by unfold An X7;rw[YH o,YH o]);have aq:Hid (Dw h=be4 (1610612736+h.cls*1048576+h.flow)++be2 h.len++[h.nxt,h.hops]++h.src++h.dst):=H rfl;have af:decide (1048576<=h.flow)=false:=by simp;omega
 obtain⟨G,C⟩:∃Z,strOfNums h.src=Z:=⟨_,rfl⟩
 obtain⟨I,L⟩:∃Z,strOfNums h.dst=Z:=⟨_,rfl⟩
 have ae:=H C;have aw:=H L;rw[C,L];clear C L;go_enter func50,ntmps50
 go_wp2_with fail
 refine Jb (Y _ _ O O) ?_;rintro aE aG ⟨ai,am,rfl,a,g⟩;have F:=ZN.start (w:=w) (WP w _) (Below.all (Jc _ _) _) (Je _) g a (Ed _);have B:=H F;have u:=F.box;have az:Jg aG w.heap.size 2 (Jl h.len):=WF 2 u;clear F a g u;rw[show(be4 (1610612736+h.cls*1048576+h.flow)).length=4 from rfl] at B|-;go_wp2_with fail
 refine Jb (P _ _ O O) ?_;rintro aE aN ⟨aH,an,rfl,a,g⟩;have t:=H (B.below g);have T:=H (a.reads (JN _));have V:=t.lt;clear a g B az;go_wp2_with (at_builtin;refine JJ.of ?_)
 refine JJ.mk ?_;refine JI _ rfl _ _ 22 rfl 5 (w.heap.size+1) underlying22 infoU8 ai 4 am _ rfl t.own aH _ an (be2 h.len) rfl T (by simp[be2]) V ?_;intro aD av l a b _;have e:=H (t.app a b (JN _));have u:=e.box;have aI:Jg l w.heap.size 3 (Jq h.nxt):=WF 3 u;have ap:Jg l w.heap.size 4 (Jq h.hops):=WF 4 u;have aC:=e.lt;clear a b u t T V;rw[show 4+(be2 h.len).length=6 from rfl] at e|-
 have W:=H (XF (WP l (.cells #[Jq h.nxt,Jq h.hops] 5)) 0 2 [h.nxt,h.hops] rfl (by intro v j;simp only[YE,YF,YG] at j;rcases j with rfl|rfl;exact U;exact ad) D (λac aK=>by
  rcases ac with _|_|ac
  ·rfl
  ·rfl
  ·omega))
 go_wp2_with (at_builtin;refine JJ.of ?_)
 refine JJ.mk ?_;refine JI _ rfl _ _ 22 rfl 5 (w.heap.size+1) underlying22 infoU8 aD 6 av _ rfl (e.below (Below.all (Jc _ _) _)).own (some ⟨l.heap.size,0,none⟩) 2 2 [h.nxt,h.hops] rfl W O (by simp;omega) ?_;intro ag aB ax a b _;have N:=H ((e.below (Below.all (Jc _ _) _)).app a b (by intro v j;simp only[YE,YF,YG] at j;rcases j with rfl|rfl;exact U;exact ad));have u:=N.box;have aj:Jg ax w.heap.size 5 (.string G):=WF 5 u;clear a b u e W aI ap aC;go_wp2_with (with_reducible refine XD 34 ?_)
 refine JJ.mk ?_;refine Qi _ rfl 9 22 _ rfl 5 underlying9 underlying22 underlying5 h.src (by show Value.string G=_;rw[ae.out]) d.src.2 (by rw[d.src.1];decide) ?_;intro aF aL g M;rw[d.src.1] at M|-;have y:=H (N.below g);have Q:=H M;have aa:=y.lt;clear g M aj N;go_wp2_with (at_builtin;refine JJ.of ?_)
 refine JJ.mk ?_;refine JI _ rfl _ _ 22 rfl 5 (w.heap.size+1) underlying22 infoU8 ag 8 aB _ rfl y.own _ 16 aF h.src rfl Q O aa ?_;intro ah ak ao a b _;have E:=H (y.app a b d.src.2);have u:=E.box;have aA:Jg ao w.heap.size 6 (.string I):=WF 6 u;clear a b u y Q aa;go_wp2_with (with_reducible refine XD 39 ?_)
 refine JJ.mk ?_;refine Qi _ rfl 9 22 _ rfl 5 underlying9 underlying22 underlying5 h.dst (by show Value.string I=_;rw[aw.out]) d.dst.2 (by rw[d.dst.1];decide) ?_;intro ar aM g J;rw[d.dst.1] at J|-;have r:=H (E.below g);have ab:=H J;have R:=r.lt;clear g J aA E;go_wp2_with (at_builtin;refine JJ.of ?_)
 refine JJ.mk ?_;refine JI _ rfl _ _ 22 rfl 5 (w.heap.size+1) underlying22 infoU8 ah 24 ak _ rfl r.own _ 16 ar h.dst rfl ab O R ?_;intro al au aJ a b _;have p:=H (r.app a b d.dst.2);clear a b r ab R;rw[<-aq.out] at p;go_wp2_with fail
 go_ret2;show JO w (An h) (X7 h) _ _;rw[z.out];have S:(Dw h).length=40:=p.len;exact⟨al,au,by rw[S];rfl,by rw[S];exact p.own.mono (JaZ _),p.out.out⟩
theorem Fj {w:World}{r a n o:Nat}{l:List Int}(h:JA w (some ⟨r,a,none⟩) n o l)(i m:Nat)(W:i+m<=n)(E:0<n):Jv w r (a+i) m=((List.range m).map λk=>Value.int .u8 (l.getD (i+k) 0)).toArray:=by
 obtain⟨u,s,e,v,I⟩:=h.here E;cases e;unfold Jv;cases hh:w.heap[r]? with
 |none=>have:=I 0 O;simp[World.cell?,hh] at this
 |some p=>
  cases p with
  |cells S t g=>
   simp only
   have j:∀k,k<m->S[a+(i+k)]? =some (.int .u8 (l.getD (i+k) 0)):=λk A=>by
    rw[<-WN w r (a+(i+k)) S t g hh];exact I (i+k) O
   apply YY;intro J;rw[Array.getElem?_extract];by_cases d:J<m
   ·have b:=j J d;have z:a+(i+J)<S.size:=(Ja b).1;rw[<-WU] at b z;rw[YH O,b];simp[d]
   ·rw[Yw O];simp[d]
  |_=>have:=I 0 O;simp[World.cell?,hh] at this
theorem GK {P:Program}(t e:TypeId)(b:P.underlying t=some (.array 16 e))(a:Option Addr)(n c:Nat)(h:16<=n)(w:World):(Instr.arrayAt t (.slice a n c)).run P w=.ok (.pointer a) w:=by
 have d:¬n<16:=O;simp[Instr.arrayAt,Y0,Yn b,d,Result.andThen]
def sxZ:Array Value:=sxF 0 0 0 0 0 (λ_=>0) (λ_=>0)
def sxA (l:List Int):Array Value:=sxF (w4 l 0/1048576%256) (w4 l 0%1048576) (w2 l 4) (l.getD 6 0) (l.getD 7 0) (atB l 8) (atB l 24)
def sxR (l:List Int):Value:=if Zm l=0 then .tuple #[.agg (sxA l),Jk 0] else .tuple #[.agg sxZ,Jk (Zm l)]
theorem Ni {w d:World}{l:List Int}{err:Int}{a:Array Value}(b:Nat)(S:Array Value)(E:a.getD 2 undef=.pointer (some ⟨b,0,none⟩))(Y:a.getD 3 undef=.int .i64 err)(I:Jv d b 0 37=S)(z:S.size=37)(e:sxR l=.tuple #[.agg S,Jk err])(g:Ji w d):
 bodyPost prog f114 (Jz w (sxR l)) .ret { tmps:=a,defers:=[] } d:=
 Jag (v:=.tuple #[.agg S,Jk err]) (QS rfl _ _ b 37 _ _ underlying118 rfl N4 E Y S I z) rfl (.mk e.symm g)
theorem Nj (ag:Option Addr)(n o:Nat)(l:List Int)(w:World)(b:JA w ag n o l)(aC:n<=100000):
 Jf 114 #[.slice ag n o] w (Jz w (sxR l)):=by
 have W:=b.len;have am:=H b;have p:=H (Below.all (Jc w.heap.size w) (.cells sxZ 118));have X:Jh (w.alloc (.cells sxZ 118)) w.heap.size sxZ 118:=WP w _;have d:=H X;clear X;by_cases S:n<40
 ·have aj:decide ((n:Int)<40)=true:=by simp;omega
  have t:Hid (sxR l=.tuple #[.agg sxZ,Jk 10]):=H (by unfold sxR Zm;rw[W,YH S,Yw D]);unfold sxZ sxF at p d;clear b;go_enter func114,ntmps114
  go_wp2_with fail
  exact Ni w.heap.size sxZ rfl rfl (by rw[JG _ _ _ _ _ _ _ d.out];rfl) rfl t p
 have aj:decide ((n:Int)<40)=false:=by simp;omega
 obtain⟨r,a,rfl,aH,al⟩:=b.here O;have U:=OD b.byte 0;have aq:=Xw b.byte 4
 have I:Hid (∀V,JA V (some ⟨r,a,none⟩) n o l->Jf 81 #[.slice (some ⟨r,a,none⟩) n o,Jk 0,Jk 4] V (Jz V (.tuple #[Jo (w4 l 0),Jk 0]))):=H (λV j=>by
  have:=get_ok (some ⟨r,a,none⟩) n o l 0 4 V j D D O O;rwa [AE l 0 O] at this)
 have Q:Hid (∀V,JA V (some ⟨r,a,none⟩) n o l->Jf 81 #[.slice (some ⟨r,a,none⟩) n o,Jk 4,Jk 2] V (Jz V (.tuple #[Jo (w2 l 4),Jk 0]))):=H (λV j=>by
  have:=get_ok (some ⟨r,a,none⟩) n o l 4 2 V j D D O O;rwa [Qw l 4 O] at this)
 have z:Hid (Zm l=if w4 l 0/268435456≠6 then 50 else 0):=H (by unfold Zm;rw[W,Yw S]);have B:Hid (sxA l=sxF (w4 l 0/1048576%256) (w4 l 0%1048576) (w2 l 4) (l.getD 6 0) (l.getD 7 0) (atB l 8) (atB l 24)):=H rfl;have ap:Hid (∀V,JA V (some ⟨r,a,none⟩) n o l->Jv V r (a+8) 16=(Jb0 (Jq (atB l 8 0)) (Jq (atB l 8 1)) (Jq (atB l 8 2)) (Jq (atB l 8 3)) (Jq (atB l 8 4)) (Jq (atB l 8 5)) (Jq (atB l 8 6)) (Jq (atB l 8 7)) (Jq (atB l 8 8)) (Jq (atB l 8 9)) (Jq (atB l 8 10)) (Jq (atB l 8 11)) (Jq (atB l 8 12)) (Jq (atB l 8 13)) (Jq (atB l 8 14)) (Jq (atB l 8 15)):Array Value)):=H (λV j=>Fj j 8 16 O O);have av:Hid (∀V,JA V (some ⟨r,a,none⟩) n o l->Jv V r (a+24) 16=(Jb0 (Jq (atB l 24 0)) (Jq (atB l 24 1)) (Jq (atB l 24 2)) (Jq (atB l 24 3)) (Jq (atB l 24 4)) (Jq (atB l 24 5)) (Jq (atB l 24 6)) (Jq (atB l 24 7)) (Jq (atB l 24 8)) (Jq (atB l 24 9)) (Jq (atB l 24 10)) (Jq (atB l 24 11)) (Jq (atB l 24 12)) (Jq (atB l 24 13)) (Jq (atB l 24 14)) (Jq (atB l 24 15)):Array Value)):=H (λV j=>Fj j 24 16 O O);obtain⟨aJ,L⟩:∃v,l.getD 6 0=v:=⟨_,rfl⟩
 obtain⟨aD,M⟩:∃v,l.getD 7 0=v:=⟨_,rfl⟩
 have au:=H L;have aA:=H M;rw[L,M] at B;clear L M;obtain⟨A,Y⟩:∃v,w4 l 0=v:=⟨_,rfl⟩
 obtain⟨aI,R⟩:∃v,w2 l 4=v:=⟨_,rfl⟩
 rw[Y] at U I z B;rw[R] at aq Q B;generalize atB l 8=aE at*;generalize atB l 24=aK at*;have ad:=Kt A 20 U.1 O O;rw[show(((2^20-1:Nat)):Int)=1048575 from rfl,show(((2^20:Nat)):Int)=1048576 from rfl] at ad;unfold sxZ sxF at p d;have C:=H (am.alloc (.cells Jcn 118));clear b al Y R;go_enter func114,ntmps114
 go_wp2_with fail
 generalize (w.alloc (.cells Jcn 118))=aN at*;refine Jb (I _ C) ?_;rintro ay aM ⟨rfl,g⟩;have G:=H (C.below g);have T:=H (Wx p g);have N:=H ((g.block _ (Ja d).1).trans d);clear g p d C I;go_wp2_with fail
 refine Jb (Q _ G) ?_;rintro ay J ⟨rfl,g⟩;have s:=H (G.below g);have E:=H (Wx T g);have e:=H ((g.block _ (Ja N).1).trans N);clear g T N G Q;have ab:JE J w.heap.size 37=true:=by rw[Jw _ _ _ _ _ e.out];rfl
 by_cases y:A/268435456=6
 rotate_left
 ·have ai:(A/268435456 != 6)=true:=by simpa using y
  have t:Hid (sxR l=.tuple #[.agg sxZ,Jk 50]):=H (by unfold sxR;rw[z.out,YH y,Yw D]);go_wp2_with fail
  exact Ni w.heap.size sxZ rfl rfl (Z1 e) rfl t (below_setRow E (Je _) _)
 have ai:(A/268435456 != 6)=false:=by simpa using y
 have t:Hid (sxR l=.tuple #[.agg (sxA l),Jk 0]):=H (by
  have aw:Zm l=0:=by rw[z.out];simp[y]
  unfold sxR;rw[YH aw])
 clear z;have an:=s.le;have ac:=λw=>QB (P:=prog) 22 (some ⟨r,a,none⟩) n o 1 elemBytes sizeBytes 8 24 8 24 rfl rfl O O w
 have aa:=λw=>QB (P:=prog) 22 (some ⟨r,a,none⟩) n o 1 elemBytes sizeBytes 24 40 24 40 rfl rfl O O w
 rw[show JQ (some ⟨r,a,none⟩) 8 o 1=some ⟨r,a+8,none⟩ by unfold JQ;rw[Yw O];rfl] at ac;rw[show JQ (some ⟨r,a,none⟩) 24 o 1=some ⟨r,a+24,none⟩ by unfold JQ;rw[Yw O];rfl] at aa;have ah:=GK (P:=prog) 25 _ underlying25 (some ⟨r,a+8,none⟩) 16 (o-8) O;have ax:=GK (P:=prog) 25 _ underlying25 (some ⟨r,a+24,none⟩) 16 (o-24) O;clear an;go_wp2_with fail
 refine Xe 23 K K ?_;obtain⟨aL,aG,ar,aF,F⟩:=s.here O;cases ar;have ae:=F 6 O;have Z:=F 7 O;rw[au.out] at ae;rw[aA.out] at Z;have ao:=ap.out J s;have az:=av.out J s;clear F;simp only[Y6,Y7];repeat go_big_quiet_step (fail)
 refine Jaa ?_;intro x;simp only[Y8,Y9];have ak:=H (Wx E x.below);have af:=H ((x.below.block _ (Ja e).1).trans e);clear ac aa ah ax ae Z ao az E e ab s ad;have ab:JE x.world w.heap.size 37=true:=by rw[Jw _ _ _ _ _ af.out];rfl
 generalize x.world=aB at*;go_wp2_with fail
 exact Ni w.heap.size (sxA l) rfl rfl (by rw[B.out];exact Z1 af) rfl t (below_setRow ak (Je _) _)
def FB:Array Value:=JbW
def TR (l:List Int):Array Value:=(JbC (Jq (w4 l 0/1048576%256)) (Jp (w4 l 0%1048576)) (Jl (w2 l 4)) (Jq (l.getD 6 0)) (Jq (l.getD 7 0)) (.string (strOfNums ((l.drop 8).take 16))) (.string (strOfNums ((l.drop 24).take 16))))
def O7 (l:List Int):Value:=if Zm l=0 then .tuple #[.agg (TR l),Jk 0] else .tuple #[.agg FB,Jk (Zm l)]
theorem Kw {w d:World}{l:List Int}{err:Int}{a:Array Value}(b:Nat)(S:Array Value)(E:a.getD 2 undef=.pointer (some ⟨b,0,none⟩))(Y:a.getD 3 undef=.int .i64 err)(I:Jv d b 0 7=S)(z:S.size=7)(e:O7 l=.tuple #[.agg S,Jk err])(g:Ji w d):
 bodyPost prog f146 (Jz w (O7 l)) .ret { tmps:=a,defers:=[] } d:=
 Jag (v:=.tuple #[.agg S,Jk err]) (QS rfl _ _ b 7 _ _ underlying109 rfl Lx E Y S I z) rfl (.mk e.symm g)
theorem LU (ac:Option Addr)(n o:Nat)(l:List Int)(w:World)(b:JA w ac n o l)(aA:n<=100000):
 Jf 146 #[.slice ac n o] w (Jz w (O7 l)):=by
 have T:=b.len;have ai:=H b;have e:=H (Below.all (Jc w.heap.size w) (.cells FB 109));have U:Jh (w.alloc (.cells FB 109)) w.heap.size FB 109:=WP w _;have d:=H U;clear U;by_cases R:n<40
 ·have ae:decide ((n:Int)<40)=true:=by simp;omega
  have t:Hid (O7 l=.tuple #[.agg FB,Jk 10]):=H (by unfold O7 Zm;rw[T,YH R,Yw D]);unfold FB at e d;clear b;go_enter func146,ntmps146
  go_wp2_with fail
  exact Kw w.heap.size FB rfl rfl (by rw[JG _ _ _ _ _ _ _ d.out];rfl) rfl t e
 have ae:decide ((n:Int)<40)=false:=by simp;omega
 obtain⟨r,a,rfl,aG,ah⟩:=b.here O;have af:=OD b.byte 0;have ao:=Xw b.byte 4
 have I:Hid (∀V,JA V (some ⟨r,a,none⟩) n o l->Jf 88 #[.slice (some ⟨r,a,none⟩) n o,Jk 0,Jk 4] V (Jz V (.tuple #[Jo (w4 l 0),Jk 0]))):=H (λV j=>by
  have:=Bo (some ⟨r,a,none⟩) n o l 0 4 V j D D O O;rwa [AE l 0 O] at this)
 have N:Hid (∀V,JA V (some ⟨r,a,none⟩) n o l->Jf 88 #[.slice (some ⟨r,a,none⟩) n o,Jk 4,Jk 2] V (Jz V (.tuple #[Jo (w2 l 4),Jk 0]))):=H (λV j=>by
  have:=Bo (some ⟨r,a,none⟩) n o l 4 2 V j D D O O;rwa [Qw l 4 O] at this)
 have z:Hid (Zm l=if w4 l 0/268435456≠6 then 50 else 0):=H (by unfold Zm;rw[T,Yw R]);have A:Hid (TR l=(JbC (Jq (w4 l 0/1048576%256)) (Jp (w4 l 0%1048576)) (Jl (w2 l 4)) (Jq (l.getD 6 0)) (Jq (l.getD 7 0)) (.string (strOfNums ((l.drop 8).take 16))) (.string (strOfNums ((l.drop 24).take 16))):Array Value)):=H rfl;have al:Hid (∀V,JA V (some ⟨r,a,none⟩) n o l->(convert 22 9 (.slice (JQ (some ⟨r,a,none⟩) 8 o 1) (24-8) (o-8))).run prog V=.ok (.string (strOfNums ((l.drop 8).take 16))) V):=H (λV j=>Qm 22 5 underlying22 underlying5 ((j.cut 8 O).take 16 O) 9 underlying9);have ar:Hid (∀V,JA V (some ⟨r,a,none⟩) n o l->(convert 22 9 (.slice (JQ (some ⟨r,a,none⟩) 24 o 1) (40-24) (o-24))).run prog V=.ok (.string (strOfNums ((l.drop 24).take 16))) V):=H (λV j=>Qm 22 5 underlying22 underlying5 ((j.cut 24 O).take 16 O) 9 underlying9);obtain⟨aJ,J⟩:∃v,l.getD 6 0=v:=⟨_,rfl⟩
 obtain⟨aB,L⟩:∃v,l.getD 7 0=v:=⟨_,rfl⟩
 have aq:=H J;have ay:=H L;rw[J,L] at A;clear J L;obtain⟨M,W⟩:∃v,w4 l 0=v:=⟨_,rfl⟩
 obtain⟨aI,Q⟩:∃v,w2 l 4=v:=⟨_,rfl⟩
 rw[W] at af I z A;rw[Q] at ao N A;generalize strOfNums ((l.drop 8).take 16)=aC at*;generalize strOfNums ((l.drop 24).take 16)=aK at*;unfold FB at e d;have B:=H (ai.alloc (.cells JbW 109));clear b ah W Q;go_enter func146,ntmps146
 go_wp2_with fail
 generalize (w.alloc (.cells JbW 109))=aM at*;refine Jb (I _ B) ?_;rintro av aw ⟨rfl,g⟩;have G:=H (B.below g);have C:=H (Wx e g);have s:=H ((g.block _ (Ja d).1).trans d);clear g e d B I;have Z:JE aw w.heap.size 7=true:=by rw[Jw _ _ _ _ _ s.out];rfl
 by_cases y:M/268435456=6
 rotate_left
 ·have ad:(M/268435456 != 6)=true:=by simpa using y
  have t:Hid (O7 l=.tuple #[.agg FB,Jk 50]):=H (by unfold O7;rw[z.out,YH y,Yw D]);go_wp2_with fail
  exact Kw w.heap.size FB rfl rfl (Z1 s) rfl t (below_setRow C (Je _) _)
 have ad:(M/268435456 != 6)=false:=by simpa using y
 have t:Hid (O7 l=.tuple #[.agg (TR l),Jk 0]):=H (by
  have au:Zm l=0:=by rw[z.out];simp[y]
  unfold O7;rw[YH au])
 clear z;go_wp2_with fail
 refine Jb (N _ G) ?_;rintro av X ⟨rfl,g⟩;have p:=H (G.below g);have S:=H (Wx C g);have E:=H ((g.block _ (Ja s).1).trans s);clear g C s G N Z;have aj:=p.le;have an:=λw=>QB (P:=prog) 22 (some ⟨r,a,none⟩) n o 1 elemBytes sizeBytes 8 24 8 24 rfl rfl O O w
 have am:=λw=>QB (P:=prog) 22 (some ⟨r,a,none⟩) n o 1 elemBytes sizeBytes 24 40 24 40 rfl rfl O O w
 generalize JQ (some ⟨r,a,none⟩) 8 o 1=aH at*;generalize JQ (some ⟨r,a,none⟩) 24 o 1=aF at*;clear aj;go_wp2_with fail
 refine Xe 22 K K ?_;obtain⟨aL,aE,ap,aD,F⟩:=p.here O;cases ap;have aa:=F 6 O;have Y:=F 7 O;rw[aq.out] at aa;rw[ay.out] at Y;have ak:=λx:J2 X=>al.out x.world (p.later x)
 have ax:=λx:J2 X=>ar.out x.world (p.later x)
 clear F;simp only[Y6,Y7];repeat go_big_quiet_step (fail)
 refine Jaa ?_;intro x;simp only[Y8,Y9];have ag:=H (Wx S x.below);have ab:=H ((x.below.block _ (Ja E).1).trans E);clear an am aa Y ak ax S E p;have Z:JE x.world w.heap.size 7=true:=by rw[Jw _ _ _ _ _ ab.out];rfl
 generalize x.world=az at*;go_wp2_with fail
 exact Kw w.heap.size (TR l) rfl rfl (by rw[A.out];exact Z1 ab) rfl t (below_setRow ag (Je _) _)
theorem EW (s:Option Addr)(n o:Nat)(l:List Int)(w:World)(b:JA w s n o l)(B:n<=1000000):Jf 116 #[.slice s n o] w (J5 w l):=by
 have j:=b.len;cases s with
 |none=>
  have X:n=0:=by
   rcases b.at' with h|⟨r,z,e,-⟩
   ·exact h
   ·cases e
  subst X;have M:l=[]:=WL j;subst M;refine(bytes_Clone_nil 0 o w).mono ?_;rintro e d ⟨rfl,rfl⟩;exact⟨none,0,rfl,J8.nil _ _ _,Jc _ _⟩
 |some a=>
  refine(bytes_Clone_at a n o l w j O (λi F=>by
   rcases b.at' with h|⟨r,z,e,-,I⟩
   ·omega
   ·cases e;rw[W3];exact I i F)).mono ?_
  rintro e d ⟨C,rfl,y,-,g⟩;obtain⟨p,A,rfl,t⟩:=J8.of_row y;subst j;exact⟨p,A,rfl,t,g⟩
theorem JK {w d:World}{b:Nat}(h:Ji w d)(g:b<w.heap.size)(q:Addr)(e:q.block=b):d.cell? q=w.cell? q:=h.cell (p:=q) O
structure XA where
 k:Int
 a:Option Addr
 m:Nat
 c:Nat
def Zv (a:List XA):List Value:=a.flatMap λe=>[.int .u8 e.k,.slice e.a e.m e.c]
theorem Kx (a:List XA)(e:XA):Zv (a++[e])=Zv a++[.int .u8 e.k,.slice e.a e.m e.c]:=by simp[Zv]
theorem Ck:∀(a:List XA) (i:Nat) (e:XA),a[i]? =some e->(Zv a)[2*i]? =some (.int .u8 e.k)/\(Zv a)[2*i+1]? =some (.slice e.a e.m e.c)
 |[],i,e,h=>by simp at h
 |x::a,0,e,h=>by
  obtain rfl:x=e:=by simpa using h
  exact⟨rfl,rfl⟩
 |x::a,i+1,e,h=>by
  have:=Ck a i e (by simpa using h);have I:Zv (x::a)=.int .u8 x.k::.slice x.a x.m x.c::Zv a:=by simp[Zv]
  rw[I];exact⟨by rw[show 2*(i+1)=2*i+1+1 from O];simpa using this.1,by rw[show 2*(i+1)+1=(2*i+1)+1+1 from O];simpa using this.2⟩
structure Nk (w:World)(lo:Nat)(oe:Option Addr)(e:XA)(x:Int×List Int):Prop where
 k:e.k=x.1
 rd:JA w e.a e.m e.c x.2
 blk:∀a,e.a=some a->lo<=a.block/\a.block<w.heap.size/\∀b,oe=some b->b.block≠a.block
structure QD (w:World)(lo:Nat)(oe:Option Addr)(ce:Nat)(xs:AB)(es:List XA):Prop where
 own:J8 w lo 2 oe xs.length ce (Zv es)
 len:es.length=xs.length
 each:∀(i:Nat) e x,es[i]? =some e->xs[i]? =some x->Nk w lo oe e x
theorem Nk.keep {w d:World}{b:Nat}{g:Option Addr}{e:XA}{x:Int×List Int}(h:Nk w b g e x)(z:w.heap.size<=d.heap.size)(A:∀a,e.a=some a->d.heap[a.block]? =w.heap[a.block]?):Nk d b g e x:=
 ⟨h.k,h.rd.keep z (λa ha _=>A a ha),λa ha=>⟨(h.blk a ha).1,Jd (h.blk a ha).2.1 z,(h.blk a ha).2.2⟩⟩
theorem QD.below {w d:World}{t:Nat}{B:Option Addr}{o:Nat}{z:AB}{A:List XA}(h:QD w t B o z A)(b:Ji w d):QD d t B o z A:=
 ⟨h.own.below b,h.len,λi e x j y=>(h.each i e x j y).keep b.size (λa ha=>b.block _ ((h.each i e x j y).blk a ha).2.1)⟩
theorem QD.mono {w:World}{d t:Nat}{z:Option Addr}{b:Nat}{g:AB}{o:List XA}(h:QD w d z b g o)(M:t<=d):QD w t z b g o:=
 ⟨h.own.mono M,h.len,λi e x j y=>⟨(h.each i e x j y).k,(h.each i e x j y).rd,λa ha=>⟨WJ M ((h.each i e x j y).blk a ha).1,((h.each i e x j y).blk a ha).2⟩⟩⟩
theorem QD.other {w:World}{b:Nat}{s:Option Addr}{g:Nat}{n:AB}{o:List XA}(h:QD w b s g n o){r:Nat}(u:r<b)(t:Nat)(v:Value):QD (w.setCell ⟨r,t,none⟩ v) b s g n o:=
 ⟨h.own.other (λa ha=>by have:=(h.own.lt ha).1;show a.block≠r;omega) v,h.len,λi e x j y=>(h.each i e x j y).keep (by simp) (λa ha=>WK _ _ _ _ (by have:=((h.each i e x j y).blk a ha).1;show a.block≠r;omega))⟩
theorem QD.nil (w:World)(b:Nat):QD w b none 0 [] []:=⟨J8.nil _ _ _,rfl,λi e x h _=>by simp at h⟩
theorem QD.snoc {w d:World}{n:Nat}{o p:Option Addr}{G v:Nat}{s:AB}{l:List XA}(h:QD w n o G s l)(e:XA)(x:Int×List Int)(J:Nk w n o e x)
 (C:J8 d n 2 p (s.length+1) v (Zv l++[.int .u8 e.k,.slice e.a e.m e.c]))(t:w.grownBy d (o.map Addr.block))(L:∀a,p=some a->o=some a\/w.heap.size<=a.block):QD d n p v (s++[x]) (l++[e]):=by
 have B:∀(e:XA) (x:Int×List Int),Nk w n o e x->Nk d n p e x:=λe x j=>by
  refine⟨j.k,j.rd.keep t.size (λa ha u=>t.block _ u (λI=>?_)),λa ha=>⟨(j.blk a ha).1,Jd (j.blk a ha).2.1 t.size,λb g=>?_⟩⟩
  ·obtain⟨b,g,E⟩:=Yb.1 I.symm;exact(j.blk a ha).2.2 b g E
  ·rcases L b g with y|y
   ·exact(j.blk a ha).2.2 b y
   ·have:=(j.blk a ha).2.1;omega
 refine⟨by rw[Kx,WV,Ys];exact C,by simp[h.len],λi z A j y=>?_⟩;rcases Yh i l.length with u|F
 ·rw[WX u] at j;rw[WX (by have:=h.len;omega)] at y;exact B _ _ (h.each i z A j y)
 ·rw[WZ F] at j;rw[WZ (by have:=h.len;omega)] at y
  have M:i-l.length=0:=by
   rcases Yo (i-l.length) with e|e
   ·exact e
   ·rw[W5 (by simp;omega)] at j;cases j
  rw[M] at j;rw[show i-s.length=0 by have:=h.len;omega] at y;obtain rfl:e=z:=by simpa using j
  obtain rfl:x=A:=by simpa using y
  exact B _ _ J
theorem V2 (U:Nat)(l:List Int):M7 U (SB l):=λn F v V w2 ⟨d,g,e,b,M⟩ j A=>⟨d,g,e,b.keep A.size (λa ha=>A.own _ (b.lt ha).1 (M a ha)),M⟩
structure GL (w0 y:World)(r:Nat)(xs:AB)(p:Int)(i:Nat)(A:Option Addr)(n cap:Nat)(l:List Int):Prop where
 st:∃oe ce es,Jh y r #[.slice oe xs.length ce,p,.slice A n cap,Jk (i:Int)] 261/\QD y (r+1) oe ce xs es
 rd:JA y A n cap l
 ra:∀a,A=some a->a.block<r
 out:Ji w0 y
 lo:w0.heap.size<=r
 p:Jm p
 i:i<=n
end
end Go.Proofs.YtkgjbipfhhjlpaaGreatDoor
