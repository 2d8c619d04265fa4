import Derived.Test.YtkgjbipfhhjlpaaGreatDoorMq17
set_option linter.unusedVariables false
set_option linter.unusedSimpArgs false
set_option maxRecDepth 100000
set_option maxHeartbeats 32000000
namespace Go.Proofs.YtkgjbipfhhjlpaaGreatDoor
open Go.Proofs.Tryz
section
open Go.RowKit Bits
theorem JdW{p:Prop}(h:p:=by
 unfold Qo;rw[a,Yw D];rfl):p:=h
theorem Jd0{p:Prop}(h:p:=by
 unfold Qo;rw[a,Yw D,Yw D];rfl):p:=h
theorem Em (l:List Int)(i:Nat)(h:i+1<=l.length):Bits.numAt l i 1=l.getD i 0:=by
 rw[Bits.numAt_snoc l i 0 O,show Bits.numAt l i 0=0 from rfl,Jal];omega
theorem FX {l:List Int}(h:JF l)(i:Nat):0<=l.getD i 0/\l.getD i 0<256:=by
 rw[Yi];cases hx:l[i]? with
 |none=>simp
 |some v=>exact h v (YD hx)
def ZS (G:Seg)(e:Option Addr)(g:Nat)(b:Option Addr)(d:Nat):Array Value:=
 (JbH (Jq G.proto) (Jl G.src) (Jl G.dst) (Jp G.seq) (Jp G.ack) (Jq G.flags) (Jl G.win) (Jl G.urg) (.slice e G.opt.length g) (Jq G.type) (Jq G.code) (.slice b G.data.length d))
theorem Z6.mono {w:World}{cs cs':Option Addr->Nat->Option Addr->Nat->Array Value}{err y:Int}(A:err=y)(I:∀o j d t,∃a b c N,cs o j d t=cs' a b c N){e:Ending}{w':World}(h:Z6 w cs err e w'):Z6 w cs' y e w':=by
 obtain⟨⟨o,j,d,t,rfl⟩,g⟩:=h;obtain⟨a,b,c,N,z⟩:=I o j d t;subst A;exact⟨⟨a,b,c,N,by rw[z]⟩,g⟩
theorem Nt (p:Int)(E:p=1\/p=58)(s:Option Addr)(n o:Nat)(l:List Int)(w:World)(u:JA w s n o l)(B:n<=100000):
 Jf 77 #[p,.slice s n o] w (Z6 w (ZS (Qo p l)) (Ab p l)):=by
 have g:=λT d h=>(Xt p (.inr (.inr E)) T d h)
 rw[show GP p=Zq by rcases E with rfl|rfl<;>rfl] at g;have L:=u.len;have r:tHead p=4:=by rcases E with rfl|rfl<;>rfl
 have t:¬p=6:=O;have z:¬p=17:=O;by_cases j:n<4
 ·have a:Ab p l=10:=by unfold Ab;rw[r,Yw D,YH O]
  refine(Co p 4 2 _ _ _ s n o l w u O g).mono λe d h=>Z6.mono a.symm (λ_ _ _ _=>⟨none,0,none,0,?_⟩) h
  exact JdW
 by_cases y:65535<n
 ·have a:Ab p l=51:=by unfold Ab;rw[r,Yw D,Yw O,YH O]
  refine(Dx p 4 2 _ _ _ s n o l w u O y g).mono λe d h=>Z6.mono a.symm (λ_ _ _ _=>⟨none,0,none,0,?_⟩) h
  exact JdW
 ·have a:Ab p l=0:=by unfold Ab;rw[r,Yw D,Yw O,Yw O,Yw t,Yw z]
  refine(Zy _ _ _ (.inr (.inr rfl)) p 4 2 s n o l w u O O g 0 0 0 0 0 0 0 0 _ _ _ 0 (λQ b J h=>RX b J l Q h O O)).mono λe d h=>Z6.mono a.symm (λG F C I=>⟨G,F,C,I,?_⟩) h
  have A:=FX u.byte 0;have v:=FX u.byte 1;unfold Qo Fy ZS;rw[a,YH rfl,YH rfl,Yw t,Yw z,Em l 0 O,Em l 1 O,Jbg A.1 A.2,Jbg v.1 v.2];simp
theorem Pp (s:Option Addr)(n o:Nat)(l:List Int)(w:World)(u:JA w s n o l)(B:n<=100000):
 Jf 77 #[(17:Int),.slice s n o] w (Z6 w (ZS (Qo 17 l)) (Ab 17 l)):=by
 have p:=λT d h=>(Xt 17 (.inr (.inl rfl)) T d h)
 have N:=u.len;have F:tHead 17=8:=rfl;by_cases j:n<8
 ·have a:Ab 17 l=10:=by unfold Ab;rw[F,Yw D,YH O]
  refine(Co 17 8 6 _ _ _ s n o l w u O p).mono λe d h=>Z6.mono a.symm (λ_ _ _ _=>⟨none,0,none,0,?_⟩) h
  exact JdW
 by_cases y:65535<n
 ·have a:Ab 17 l=51:=by unfold Ab;rw[F,Yw D,Yw O,YH O]
  refine(Dx 17 8 6 _ _ _ s n o l w u O y p).mono λe d h=>Z6.mono a.symm (λ_ _ _ _=>⟨none,0,none,0,?_⟩) h
  exact JdW
 have R:=Xw u.byte 4;obtain⟨g,M⟩:∃g:Nat,(g:Int)=w2 l 4:=⟨(w2 l 4).toNat,O⟩
 have z:numAt l 4 2=(g:Int):=by rw[Qw l 4 O];exact M.symm
 have C:Ab 17 l=if w2 l 4<8 then 51 else if (l.length:Int)<w2 l 4 then 10 else 0:=by unfold Ab;rw[F,Yw D,Yw O,Yw O,Yw D,YH rfl]
 by_cases Y:g<8
 ·have a:Ab 17 l=51:=by rw[C,YH O]
  refine(Zy _ _ _ (.inr (.inl rfl)) 17 8 6 s n o l w u O O p 0 0 0 0 0 0 0 0 0 0 0 51 (λQ b r h=>Tm b r l Q h O O g z O Y)).mono λe d h=>Z6.mono a.symm (λA v t E=>⟨none,0,none,0,?_⟩) h
  exact Jd0
 by_cases J:l.length<g
 ·have a:Ab 17 l=10:=by rw[C,Yw O,YH O]
  refine(Zy _ _ _ (.inr (.inl rfl)) 17 8 6 s n o l w u O O p 0 0 0 0 0 0 0 0 0 0 0 10 (λQ b r h=>Pn b r l Q h O O g z O O J)).mono λe d h=>Z6.mono a.symm (λA v t E=>⟨none,0,none,0,?_⟩) h
  exact Jd0
 ·have a:Ab 17 l=0:=by rw[C,Yw O,Yw O]
  refine(Zy _ _ _ (.inr (.inl rfl)) 17 8 6 s n o l w u O O p _ _ 0 0 0 0 0 0 0 0 _ 0 (λQ b r h=>Uw b r l Q h O O g z O O O)).mono λe d h=>Z6.mono a.symm (λA v t E=>⟨A,v,t,E,?_⟩) h
  have I:=Xw u.byte 0;have G:=Xw u.byte 2;unfold Qo Fy ZS;rw[a,YH rfl,YH rfl,Yw D,YH rfl,Qw l 0 O,Qw l 2 O,Jbg I.1 I.2,Jbg G.1 G.2];have L:((l.take (w2 l 4).toNat).drop 8).length=g-8:=by rw[W4,WR];omega
  simp only[L];rfl
theorem Pq (s:Option Addr)(n o:Nat)(l:List Int)(w:World)(u:JA w s n o l)(B:n<=100000):
 Jf 77 #[(6:Int),.slice s n o] w (Z6 w (ZS (Qo 6 l)) (Ab 6 l)):=by
 have p:=λT d h=>(Xt 6 (.inl rfl) T d h)
 have Z:=u.len;have G:tHead 6=20:=rfl;by_cases j:n<20
 ·have a:Ab 6 l=10:=by unfold Ab;rw[G,Yw D,YH O]
  refine(Co 6 20 16 _ _ _ s n o l w u O p).mono λe d h=>Z6.mono a.symm (λ_ _ _ _=>⟨none,0,none,0,?_⟩) h
  exact JdW
 by_cases y:65535<n
 ·have a:Ab 6 l=51:=by unfold Ab;rw[G,Yw D,Yw O,YH O]
  refine(Dx 6 20 16 _ _ _ s n o l w u O y p).mono λe d h=>Z6.mono a.symm (λ_ _ _ _=>⟨none,0,none,0,?_⟩) h
  exact JdW
 have R:=FX u.byte 12;obtain⟨g,V⟩:∃g:Nat,(g:Int)=l.getD 12 0:=⟨(l.getD 12 0).toNat,O⟩
 have C:numAt l 12 1=(g:Int):=by rw[Em l 12 O];exact V.symm
 have E:H1 l=g/16*4:=by unfold H1;rw[<-V];omega
 have t:Ab 6 l=if H1 l<20 then 51 else if l.length<H1 l then 10 else 0:=by unfold Ab;rw[G,Yw D,Yw O,Yw O,YH rfl]
 rw[E] at t;by_cases Y:g/16<5
 ·have a:Ab 6 l=51:=by rw[t,YH O]
  refine(Zy _ _ _ (.inl rfl) 6 20 16 s n o l w u O O p 0 0 0 0 0 0 0 0 0 0 0 51 (λQ b r h=>Tn b r l Q h O O g C O Y)).mono λe d h=>Z6.mono a.symm (λA z v F=>⟨none,0,none,0,?_⟩) h
  exact Jd0
 by_cases W:l.length<g/16*4
 ·have a:Ab 6 l=10:=by rw[t,Yw O,YH O]
  refine(Zy _ _ _ (.inl rfl) 6 20 16 s n o l w u O O p 0 0 0 0 0 0 0 0 0 0 0 10 (λQ b r h=>Po b r l Q h O O g C O O W)).mono λe d h=>Z6.mono a.symm (λA z v F=>⟨none,0,none,0,?_⟩) h
  exact Jd0
 ·have a:Ab 6 l=0:=by rw[t,Yw O,Yw O]
  refine(Zy _ _ _ (.inl rfl) 6 20 16 s n o l w u O O p _ _ _ _ _ _ _ _ 0 0 _ 0 (λQ b r h=>Ux b r l Q h O O g C O O O)).mono λe d h=>Z6.mono a.symm (λA z v F=>⟨A,z,v,F,?_⟩) h
  have N:=Xw u.byte 0;have J:=Xw u.byte 2;have U:=OD u.byte 4;have P:=OD u.byte 8;have M:=FX u.byte 13;have S:=Xw u.byte 14;have I:=Xw u.byte 18;unfold Qo Fy ZS;rw[a,YH rfl,YH rfl,YH rfl,Qw l 0 O,Qw l 2 O,AE l 4 O,AE l 8 O,Em l 13 O,Qw l 14 O,Qw l 18 O,Jbg N.1 N.2,Jbg J.1 J.2,Jbg U.1 U.2,Jbg P.1 P.2,Jbg M.1 M.2,Jbg S.1 S.2,Jbg I.1 I.2];have L:((l.take (H1 l)).drop 20).length=g/16*4-20:=by rw[W4,WR,E];omega
  have X:(l.drop (H1 l)).length=l.length-g/16*4:=by rw[W4,E]
  simp only[L,X]
theorem CT (p:Int)(E:p=6\/p=17\/p=1\/p=58)(s:Option Addr)(n o:Nat)(l:List Int)(w:World)(u:JA w s n o l)(B:n<=100000):
 Jf 77 #[p,.slice s n o] w (Z6 w (ZS (Qo p l)) (Ab p l)):=by
 rcases E with rfl|rfl|E
 ·exact Pq s n o l w u B
 ·exact Pp s n o l w u B
 ·exact Nt p E s n o l w u B
def VG (k:Int):Value:=if k=4 then .agg #[Jr 79] else .agg #[Jr 80]
def Ar:Array MapEntry:=#[⟨.int .u8 4,.agg #[Jr 79],0⟩,⟨.int .u8 6,.agg #[Jr 80],1⟩]
def U5:Value:=.agg #[.nilFunc]
theorem KH:((prog.info? 79).bind (·.zero))=some U5:=K
def To (w:World):Ending->World->Prop:=λe d=>∃T,e=.returned (.map (some T))/\w.heap.size<=T/\d.heap[T]? =some (.map Ar 2)/\Ji w d
theorem Cp (w:World):Jf 34 #[] w (To w):=by
 have g:=@run_makeMap prog;have b:=WP w (.map #[] 0);have d:Below w.heap.size w (w.alloc (.map #[] 0)):=Below.all (Jc _ _) _;go_enter func34,ntmps34
 go_wp2_with (first|(with_reducible refine BZ _ w.heap.size _ _ VG 5 79 ?_ ?_ b ?_ ?_ ?_ ?_;(kernel_rfl);(kernel_rfl);(kernel_rfl);(kernel_rfl);(kernel_rfl);intro V b e j n;have d:=Fo d (Je _) e))
 go_ret;exact⟨_,rfl,Je _,b.trans K,d⟩
theorem GW (r:Nat)(w:World)(h:w.heap[r]? =some (.map Ar 2)):(Instr.lookup 81 (.map (some r)) (Jq 4) true).run prog w=.ok (.tuple #[.agg #[Jr 79],true]) w:=
 QG (P:=prog) 81 5 79 r 2 Ar .u8 4 U5 true w underlying81 underlying5 h (some (0,.agg #[Jr 79])) rfl KH
theorem HK (r:Nat)(w:World)(h:w.heap[r]? =some (.map Ar 2)):(Instr.lookup 81 (.map (some r)) (Jq 6) true).run prog w=.ok (.tuple #[.agg #[Jr 80],true]) w:=
 QG (P:=prog) 81 5 79 r 2 Ar .u8 6 U5 true w underlying81 underlying5 h (some (1,.agg #[Jr 80])) rfl KH
theorem GX (k:Int)(a:k≠4)(b:k≠6)(T:Nat)(w:World)(h:w.heap[T]? =some (.map Ar 2)):(Instr.lookup 81 (.map (some T)) (Jq k) true).run prog w=.ok (.tuple #[U5,false]) w:=by
 refine QG (P:=prog) 81 5 79 T 2 Ar .u8 k U5 true w underlying81 underlying5 h none ?_ KH;have d:(k==4)=false:=by simpa using a
 have e:(k==6)=false:=by simpa using b
 simp[Ar,Instr.findNow,Instr.sameNow,d,e]
theorem Jdf{p:Prop}(h:p:=by
 go_wp2_with fail
 go_ret;exact .mk rfl (Jc _ _)):p:=h
theorem Zr (p:Int)(w:World):Jf 35 #[p] w (Jz w (.bool (J1 p))):=by
 by_cases b:p=6
 ·subst b;go_enter func35,ntmps35
  exact Jdf
 ·have g:(p==6)=false:=by simpa using b
  have L:decide (p=6)=false:=by simpa using b
  have F:J1 p=(p==17):=by unfold J1;rw[g];rfl
  rw[F];go_enter func35,ntmps35
  exact Jdf
theorem XT (p:Int)(w:World):Jf 36 #[p] w (Jz w (.bool (Qb p))):=by
 by_cases b:p=1
 ·subst b;go_enter func36,ntmps36
  exact Jdf
 ·have g:(p==1)=false:=by simpa using b
  have L:decide (p=1)=false:=by simpa using b
  have F:Qb p=(p==58):=by unfold Qb;rw[g];rfl
  rw[F];go_enter func36,ntmps36
  exact Jdf
open Go.RowKit
theorem JcO{p:Prop}(h:p:=by
 go_enter func26,ntmps26
 go_wp2_with fail
 refine Calls.later (g _) ?_;intro x;go_wp2_with fail
 refine Wz (l _) ?_;intro s;go_wp2_with fail
 refine Wz (o _) ?_;intro v;go_wp2_with fail
 go_ret;exact .mk (J6 d.out.symm) (by with_reducible repeat' (first|assumption|exact Jc _ _|apply Ww|apply Below.all|(apply below_setCell_new;omega)))):p:=h
theorem L0 (G:Bool)(Z:Nat->Int)(t:Bool)(e:Nat->Int)(p a b:Int)(r:J1 p=true)(w:World):
 Jf 26 #[.agg (kyC G Z t e p a b)] w (Jz w (.bool (JS ⟨G,Z,t,e,p,a,b⟩))):=by
 have u:Hid (JS ⟨G,Z,t,e,p,a,b⟩=(Qr G Z&&(Qr t e&&(G==t&&true)))):=H (by
  have:Cc p a b=true:=by unfold Cc;rw[r];rfl
  unfold JS;simp only[this])
 have l:∀w,Jf 68 #[adV G Z] w (Jz w (.bool (Qr G Z))):=λw=>Xo G Z w
 have o:∀w,Jf 68 #[adV t e] w (Jz w (.bool (Qr t e))):=λw=>Xo t e w
 have g:=λw=>Zr p w
 have A:=λw=>XT p w
 rw[r] at g;clear r A;generalize Qr G Z=y at*;generalize Qr t e=z at*;generalize JS ⟨G,Z,t,e,p,a,b⟩=j at*;have d:=u.out;clear u;unfold adV kyC at*;cases y
 ·have d:=H (show j=false from d);go_enter func26,ntmps26
  go_wp2_with fail
  refine Calls.later (g _) ?_;intro x;go_wp2_with fail
  refine Wz (l _) ?_;intro s;go_wp2_with fail
  go_ret;exact .mk (J6 d.out.symm) (by with_reducible repeat' (first|assumption|exact Jc _ _|apply Ww|apply Below.all|(apply below_setCell_new;omega)))
 cases z
 ·have d:=H (show j=false from d);exact JcO
 by_cases n:G=t
 rotate_left
 ·have d:Hid (j=false):=H (by rw[d];simp[n]);have B:(G==t)=false:=by simpa using n
  exact JcO
 subst n;have d:Hid (j=(true)):=H (by rw[d];simp)
 ·exact JcO
open Go.RowKit
theorem Jdh{p:Prop}(h:p:=by
 go_wp2_with fail
 refine Calls.later (r _) ?_;intro z;go_wp2_with fail
 refine Wz (A _) ?_;intro L;go_wp2_with fail
 go_ret;exact .mk (J6 l.out.symm) (Ww s)):p:=h
theorem Nu (G:Bool)(Z:Nat->Int)(t:Bool)(d:Nat->Int)(p a b:Int)(C:J1 p=false)(B:Qb p=true)(w:World):
 Jf 26 #[.agg (kyC G Z t d p a b)] w (Jz w (.bool (JS ⟨G,Z,t,d,p,a,b⟩))):=by
 have I:Hid (JS ⟨G,Z,t,d,p,a,b⟩=(Qr G Z&&(Qr t d&&(G==t&&decide (a=0))))):=H (by
  have:Cc p a b=decide (a=0):=by unfold Cc;rw[C,B,Y3,Bool.true_or,Bool.and_true];rfl
  unfold JS;simp only[this])
 have r:∀w,Jf 68 #[adV G Z] w (Jz w (.bool (Qr G Z))):=λw=>Xo G Z w
 have A:∀w,Jf 68 #[adV t d] w (Jz w (.bool (Qr t d))):=λw=>Xo t d w
 have M:=λw=>Zr p w
 have J:=λw=>XT p w
 rw[C] at M;rw[B] at J;clear C B;generalize Qr G Z=N at*;generalize Qr t d=P at*;generalize JS ⟨G,Z,t,d,p,a,b⟩=o at*;have l:=I.out;clear I;unfold adV at*;unfold kyC;go_enter func26,ntmps26
 go_wp2_with fail
 refine Calls.later (M _) ?_;intro x;go_wp2_with fail
 refine Jb (J _) ?_;rintro e w2 ⟨rfl,g⟩;have j:Jh x.world w.heap.size (kyC G Z t d p a b) 30:=(x.below.block _ (by simp;omega)).trans (Jab w (.cells (kyC G Z t d p a b) 30) (.cells (kyC G Z t d p a b) 30));have Y:Jh x.world (w.heap.size+1) (kyC G Z t d p a b) 30:=(x.below.block _ (by simp)).trans (Jac w (.cells (kyC G Z t d p a b) 30) (.cells (kyC G Z t d p a b) 30));have y:w.heap.size<x.world.heap.size:=(Ja j).1;have E:w.heap.size+1<x.world.heap.size:=(Ja Y).1;have F:Ji w x.world:=Ww (Below.all (Below.all (Jc _ _) _) _);have n:Jh w2 w.heap.size (kyC G Z t d p a b) 30:=(g.block _ (by simpa using y)).trans ((YX _ _ _ _ (by simp)).trans j);have v:Jh w2 (w.heap.size+1) (kyC G Z t d p 0 b) 30:=(g.block _ (by simpa using E)).trans (Jae _ _ _ _ _ _ Y);have s:Hid (Ji w w2):=H ((F.setCell (by simp) _).trans (g.mono (by simpa using Ja1 y)));have R:Jv w2 w.heap.size 0 17=(Jbr G Z:Array Value):=by rw[JG _ _ _ _ _ _ _ n];simp[kyC]
 have Q:Jv w2 w.heap.size 17 17=(Jbr t d:Array Value):=by rw[JG _ _ _ _ _ _ _ n];simp[kyC]
 have U:Jg w2 w.heap.size 0 (.bool G):=by rw[WN _ _ _ _ _ _ n];rfl
 have S:Jg w2 w.heap.size 17 (.bool t):=by rw[WN _ _ _ _ _ _ n];rfl
 have V:Jv w2 w.heap.size 0 37=(Jbs G t p (Jl a) (Jl b) Z d:Array Value):=Ju n rfl;have W:Jv w2 (w.heap.size+1) 0 37=#[.bool G,.int .u8 (Z 0),.int .u8 (Z 1),.int .u8 (Z 2),.int .u8 (Z 3),.int .u8 (Z 4),.int .u8 (Z 5),.int .u8 (Z 6),.int .u8 (Z 7),.int .u8 (Z 8),.int .u8 (Z 9),.int .u8 (Z 10),.int .u8 (Z 11),.int .u8 (Z 12),.int .u8 (Z 13),.int .u8 (Z 14),.int .u8 (Z 15),.bool t,.int .u8 (d 0),.int .u8 (d 1),.int .u8 (d 2),.int .u8 (d 3),.int .u8 (d 4),.int .u8 (d 5),.int .u8 (d 6),.int .u8 (d 7),.int .u8 (d 8),.int .u8 (d 9),.int .u8 (d 10),.int .u8 (d 11),.int .u8 (d 12),.int .u8 (d 13),.int .u8 (d 14),.int .u8 (d 15),.int .u8 p,.int .u16 0,.int .u16 b]:=Ju v rfl;have T:w.heap.size<w2.heap.size:=(Ja n).1;have X:w.heap.size+1<w2.heap.size:=(Ja v).1;clear n v y E F j Y g;cases N
 ·have l:=H (show o=false from l);go_wp2_with fail
  refine Calls.later (r _) ?_;intro z;go_wp2_with fail
  go_ret;exact .mk (J6 l.out.symm) (Ww s)
 cases P
 ·have l:=H (show o=false from l);exact Jdh
 by_cases u:G=t
 rotate_left
 ·have l:Hid (o=false):=H (by rw[l];simp[u]);have aa:(G==t)=false:=by simpa using u
  exact Jdh
 subst u;have l:Hid (o=decide (a=0)):=H (by rw[l];simp);exact Jdh
open Go.RowKit
theorem Jdg{p:Prop}(h:p:=by
 go_wp2_with fail
 refine Calls.later (s _) ?_;intro z;go_wp2_with fail
 refine Wz (A _) ?_;intro N;go_wp2_with fail
 go_ret;exact .mk (J6 e.out.symm) (Ww u)):p:=h
theorem Nv (G:Bool)(Z:Nat->Int)(t:Bool)(d:Nat->Int)(p a b:Int)(C:J1 p=false)(B:Qb p=false)(w:World):
 Jf 26 #[.agg (kyC G Z t d p a b)] w (Jz w (.bool (JS ⟨G,Z,t,d,p,a,b⟩))):=by
 have L:Hid (JS ⟨G,Z,t,d,p,a,b⟩=(Qr G Z&&(Qr t d&&(G==t&&(decide (a=0)&&decide (b=0)))))):=H (by
  have:Cc p a b=(decide (a=0)&&decide (b=0)):=by unfold Cc;rw[C,B,Y3,Y3];rfl
  unfold JS;simp only[this])
 have s:∀w,Jf 68 #[adV G Z] w (Jz w (.bool (Qr G Z))):=λw=>Xo G Z w
 have A:∀w,Jf 68 #[adV t d] w (Jz w (.bool (Qr t d))):=λw=>Xo t d w
 have P:=λw=>Zr p w
 have M:=λw=>XT p w
 rw[C] at P;rw[B] at M;clear C B;generalize Qr G Z=Q at*;generalize Qr t d=R at*;generalize JS ⟨G,Z,t,d,p,a,b⟩=r at*;have e:=L.out;clear L;unfold adV at*;unfold kyC;go_enter func26,ntmps26
 go_wp2_with fail
 refine Calls.later (P _) ?_;intro x;go_wp2_with fail
 refine Jb (M _) ?_;rintro af w2 ⟨rfl,g⟩;have j:Jh x.world w.heap.size (kyC G Z t d p a b) 30:=(x.below.block _ (by simp;omega)).trans (Jab w (.cells (kyC G Z t d p a b) 30) (.cells (kyC G Z t d p a b) 30));have Y:Jh x.world (w.heap.size+1) (kyC G Z t d p a b) 30:=(x.below.block _ (by simp)).trans (Jac w (.cells (kyC G Z t d p a b) 30) (.cells (kyC G Z t d p a b) 30));have y:w.heap.size<x.world.heap.size:=(Ja j).1;have F:w.heap.size+1<x.world.heap.size:=(Ja Y).1;have I:Ji w x.world:=Ww (Below.all (Below.all (Jc _ _) _) _);have o:Jh w2 w.heap.size (kyC G Z t d p a b) 30:=(g.block _ (by simpa using y)).trans ((YX _ _ _ _ (by simp)).trans j);have n:Jh w2 (w.heap.size+1) (kyC G Z t d p 0 b) 30:=(g.block _ (by simpa using F)).trans (Jae _ _ _ _ _ _ Y);have W:w.heap.size<w2.heap.size:=(Ja o).1;have ae:w.heap.size+1<w2.heap.size:=(Ja n).1;have J:Ji w w2:=(I.setCell (by simp) _).trans (g.mono (by simpa using Ja1 y));have S:Jg w2 (w.heap.size+1) 36 (Jl b):=by rw[WN _ _ _ _ _ _ n];rfl
 have ag:w2.frozen? ⟨w.heap.size+1,36,none⟩=false:=Jad _ _ _ _ _ n;have u:Hid (Below w.heap.size w (w2.setCell ⟨w.heap.size+1,36,none⟩ (Jl 0))):=H (J.setCell (by simp) _);have l:Jh (w2.setCell ⟨w.heap.size+1,36,none⟩ (Jl 0)) w.heap.size (kyC G Z t d p a b) 30:=(YX _ _ _ _ (by simp)).trans o;have E:Jh (w2.setCell ⟨w.heap.size+1,36,none⟩ (Jl 0)) (w.heap.size+1) (kyC G Z t d p 0 0) 30:=Jae _ _ _ _ _ _ n;have V:Jv (w2.setCell ⟨w.heap.size+1,36,none⟩ (Jl 0)) w.heap.size 0 17=(Jbr G Z:Array Value):=by rw[JG _ _ _ _ _ _ _ l];simp[kyC]
 have T:Jv (w2.setCell ⟨w.heap.size+1,36,none⟩ (Jl 0)) w.heap.size 17 17=(Jbr t d:Array Value):=by rw[JG _ _ _ _ _ _ _ l];simp[kyC]
 have aa:Jg (w2.setCell ⟨w.heap.size+1,36,none⟩ (Jl 0)) w.heap.size 0 (.bool G):=by rw[WN _ _ _ _ _ _ l];rfl
 have X:Jg (w2.setCell ⟨w.heap.size+1,36,none⟩ (Jl 0)) w.heap.size 17 (.bool t):=by rw[WN _ _ _ _ _ _ l];rfl
 have U:Jg w2 w.heap.size 0 (.bool G):=by rw[WN _ _ _ _ _ _ o];rfl
 have ab:Jg w2 w.heap.size 17 (.bool t):=by rw[WN _ _ _ _ _ _ o];rfl
 have ac:Jv (w2.setCell ⟨w.heap.size+1,36,none⟩ (Jl 0)) w.heap.size 0 37=(Jbs G t p (Jl a) (Jl b) Z d:Array Value):=Ju l rfl;have ad:Jv (w2.setCell ⟨w.heap.size+1,36,none⟩ (Jl 0)) (w.heap.size+1) 0 37=#[.bool G,.int .u8 (Z 0),.int .u8 (Z 1),.int .u8 (Z 2),.int .u8 (Z 3),.int .u8 (Z 4),.int .u8 (Z 5),.int .u8 (Z 6),.int .u8 (Z 7),.int .u8 (Z 8),.int .u8 (Z 9),.int .u8 (Z 10),.int .u8 (Z 11),.int .u8 (Z 12),.int .u8 (Z 13),.int .u8 (Z 14),.int .u8 (Z 15),.bool t,.int .u8 (d 0),.int .u8 (d 1),.int .u8 (d 2),.int .u8 (d 3),.int .u8 (d 4),.int .u8 (d 5),.int .u8 (d 6),.int .u8 (d 7),.int .u8 (d 8),.int .u8 (d 9),.int .u8 (d 10),.int .u8 (d 11),.int .u8 (d 12),.int .u8 (d 13),.int .u8 (d 14),.int .u8 (d 15),.int .u8 p,.int .u16 0,.int .u16 0]:=Ju E rfl;clear o n l E y F I J j Y g;cases Q
 ·have e:=H (show r=false from e);go_wp2_with fail
  refine Calls.later (s _) ?_;intro z;go_wp2_with fail
  go_ret;exact .mk (J6 e.out.symm) (Ww u)
 cases R
 ·have e:=H (show r=false from e);exact Jdg
 by_cases v:G=t
 rotate_left
 ·have e:Hid (r=false):=H (by rw[e];simp[v]);have ah:(G==t)=false:=by simpa using v
  exact Jdg
 subst v;have e:Hid (r=(decide (a=0)&&decide (b=0))):=H (by rw[e];simp);exact Jdg
theorem X4 (s:Bool)(S:Nat->Int)(t:Bool)(T:Nat->Int)(p a b:Int)(w:World):
 Jf 26 #[.agg (kyC s S t T p a b)] w (Jz w (.bool (JS ⟨s,S,t,T,p,a,b⟩))):=by
 cases hip:J1 p
 ·cases hii:Qb p
  ·exact Nv s S t T p a b hip hii w
  ·exact Nu s S t T p a b hip hii w
 ·exact L0 s S t T p a b hip w
theorem Jda{p:Prop}(h:p:=by
 go_enter func96,ntmps96
 go_wp2_with fail
 go_ret;exact .mk (by rw[a.out];rfl) (Jc _ _)):p:=h
theorem Aq (p:Int)(w:World):Jf 96 #[p] w (Jz w (Jk (tHead p:Int))):=by
 have d:Hid (tHead p=if p=6 then 20 else if p=17 then 8 else if p=1\/p=58 then 4 else 0):=H rfl;generalize tHead p=b at*;by_cases e:p=6
 ·subst e;have a:Hid (b=20):=H (by rw[d.out,YH rfl]);exact Jda
 have s:(p==6)=false:=by simpa using e
 by_cases g:p=17
 ·subst g;have a:Hid (b=8):=H (by rw[d.out,Yw D,YH rfl]);exact Jda
 have r:(p==17)=false:=by simpa using g
 by_cases j:p=1
 ·subst j;have a:Hid (b=4):=H (by rw[d.out,Yw D,Yw D,YH (.inl rfl)]);exact Jda
 have n:(p==1)=false:=by simpa using j
 by_cases l:p=58
 ·subst l;have a:Hid (b=4):=H (by rw[d.out,Yw D,Yw D,YH (.inr rfl)]);exact Jda
 have o:(p==58)=false:=by simpa using l
 have a:Hid (b=0):=H (by rw[d.out,Yw e,Yw g,Yw O]);clear e g j l;exact Jda
theorem RY {v:Int}(h:Jm v):JF [v]:=by intro x a;obtain rfl:=YI.1 a;exact h
theorem CU (v:Int)(h:Jm v)(w:World):Jf 153 #[v] w (Jz w (.string (strOfNums [v]))):=by
 have a:=Qm (P:=prog) 22 5 underlying22 underlying5 (XF (WP w (.cells #[v] 5)) 0 1 [v] rfl (RY h) D (λJ b=>by
  rcases J with _|J
  ·rfl
  ·omega)) 9 underlying9
 generalize strOfNums [v]=Z at*;go_enter func153,ntmps153
 exact Jef
theorem Ac (v:Int)(h:Jn v)(w:World):Jf 154 #[Jl v] w (Jz w (.string (strOfNums (be2 v)))):=by
 have p:=H (Dv v▸X2 2 v w D h.1 O);have X:=h.1;have j:v<=65535:=O;have l:(be2 v).length=2:=rfl;have n:Hid (∀(d:World) s o,JA d s 2 o (be2 v)->(convert 22 9 (.slice s 2 o)).run prog d=.ok (.string (strOfNums (be2 v))) d):=H (λd s o u=>Qm (P:=prog) 22 5 underlying22 underlying5 u 9 underlying9);generalize strOfNums (be2 v)=Z at*;go_enter func154,ntmps154
 go_wp2_with fail
 refine Jb p ?_;rintro e V ⟨s,o,rfl,a,g⟩;have r:=n.out V s o (a.reads (JN v));have b:=H g;rw[l];clear a g;go_wp2_with fail
 go_ret;exact .mk rfl b
theorem GY (v:Int)(h:0<=v/\v<4294967296)(w:World):Jf 155 #[Jp v] w (Jz w (.string (strOfNums (be4 v)))):=by
 have p:=H (RI v▸X2 4 v w D h.1 O);have X:=h.1;have j:v<=4294967295:=O;have l:(be4 v).length=4:=rfl;have n:Hid (∀(d:World) s o,JA d s 4 o (be4 v)->(convert 22 9 (.slice s 4 o)).run prog d=.ok (.string (strOfNums (be4 v))) d):=H (λd s o u=>Qm (P:=prog) 22 5 underlying22 underlying5 u 9 underlying9);generalize strOfNums (be4 v)=Z at*;go_enter func155,ntmps155
 go_wp2_with fail
 refine Jb p ?_;rintro e V ⟨s,o,rfl,a,g⟩;have r:=n.out V s o (a.reads (Ed v));have b:=H g;rw[l];clear a g;go_wp2_with fail
 go_ret;exact .mk rfl b
theorem XU (l:List Int)(M:JF l)(i a:Nat)(j:1<=a)(E:a<=8)(F:i+a<=l.length)(B:l.length<=100000)(n r:Int)(z:n=(i:Int))(y:r=(a:Int))(w:World):
 Jf 149 #[.string (strOfNums l),Jk n,Jk r] w (Jz w (Jo (numAt l i a))):=by
 subst z y;have A:Hid (∀(d:World) s o,JA d s l.length o l->Jf 88 #[.slice s l.length o,Jk (i:Int),Jk (a:Int)] d (Jz d (.tuple #[Jo (numAt l i a),Jk 0]))):=H (λd s o u=>Bo s l.length o l i a d u j E F O);obtain⟨Z,b⟩:∃Z,strOfNums l=Z:=⟨_,rfl⟩
 have G:=H b;rw[b];clear b;generalize numAt l i a=I at*;go_enter func149,ntmps149
 go_wp2_with (with_reducible refine XD 11 ?_)
 refine JJ.mk ?_;refine Qi _ rfl 9 22 _ rfl 5 underlying9 underlying22 underlying5 l (by show Value.string Z=_;rw[G.out]) M O ?_;intro J V g u;have t:=H u;have v:=H g;clear u g;go_wp2_with fail
 refine Jb (A _ _ _ t) ?_;rintro e w2 ⟨rfl,g⟩;have C:=H (Wx v g);clear g;go_wp2_with fail
 go_ret;exact .mk rfl C
theorem Jed{p:Prop}(h:p:=by
 go_wp2_with fail
 go_roundg (n-(J+1))
 case measure=>omega
 case rel=>exact⟨_,J+1,rfl,O,by go_num,am,G,C⟩):p:=h
theorem QD.ext {w:World}{y:Nat}{n:Option Addr}{u:Nat}{o:AB}{b:List XA}(h:QD w y n u o b)(J:Nat)(x:Int×List Int)(l:o[J]? =some x):
 ∃r a g s,n=some ⟨r,a,none⟩/\r<w.heap.size/\Jg w r (a+J*2) (Jq x.1)/\Jg w r (a+J*2+1) (.slice g x.2.length s)/\JA w g x.2.length s x.2:=by
 have z:=(W0.1 l).1;have M:=h.len;obtain⟨e,j⟩:∃e,b[J]? =some e:=⟨b[J],W2 O⟩
 have d:=h.each J e x j l;have p:=Ck b J e j;obtain⟨r,a,rfl,A,t,I,-⟩:=h.own.here O;have W:e.m=x.2.length:=d.rd.len.symm;refine⟨r,a,e.a,e.c,rfl,t,?_,?_,?_⟩
 ·have:=I _ _ p.1;rw[show a+J*2=a+2*J from O,this,d.k]
 ·have:=I _ _ p.2;rw[show a+J*2+1=a+(2*J+1) from O,this,W]
 ·have:=d.rd;rwa [W] at this
theorem Pr (k:Int)(s:Option Addr)(n c:Nat)(w:World):Jf 191 #[.agg #[Jq k,.slice s n c]] w (Jz w (.bool (k==44))):=by
 go_enter func191,ntmps191
 exact Jef
theorem Nw (k:Int)(s:Option Addr)(o:Nat)(N:List Int)(w:World)(u:JA w s N.length o N)(B:N.length<=100000):Jf 90 #[.agg #[Jq k,.slice s N.length o]] w (Jz w (.bool (!Xa k N))):=by
 have a:=H u;have b:Hid (∀V,JA V s N.length o N->Jf 91 #[.agg #[Jq k,.slice s N.length o]] V (Jz V (.bool (Xa k N)))):=H (λV j=>H9 k s o N V j B);clear u;generalize Xa k N=d at*;generalize N.length=n at*;go_enter func90,ntmps90
 go_wp2_with fail
 refine Wy (b _ (a.alloc _)) ?_;exact JdP
def QE (t:Int×List Int->Bool):AB->Nat->Int
 |[],_=>-1
 |x::a,i=>if t x then (i:Int) else QE t a (i+1)
theorem En (t:Int×List Int->Bool)(a:AB)(J:Nat)(x:Int×List Int)(P:a[J]? =some x):QE t (a.drop J) J=if t x then (J:Int) else QE t (a.drop (J+1)) (J+1):=by
 have b:=(W0.1 P).1;rw[Jas b,QE];have:a[J]=x:=by have:=W2 b;rw[P] at this;exact(Yp this).symm
 rw[this]
theorem Eo (t:Int×List Int->Bool):∀(a:AB) (i:Nat),(∀x∈a,t x=false)->QE t a i=-1
 |[],_,_=>rfl
 |x::a,i,h=>by rw[QE,h x (by simp)];exact Eo t a (i+1) (λQ b=>h Q (by simp[b]))
theorem Nx (G:Nat)(o:Option Addr)(t:Nat)(a:AB)(C:List XA)(w:World)(h:QD w G o t a C)(B:a.length<=16):
 Jf 150 #[.slice o a.length t,Jr 191] w (Jz w (Jk (QE (λx=>x.1==44) a 0))):=by
 have M:=H h;have V:Hid (∀J x,a[J]? =some x->J<a.length):=H (λJ x P=>(W0.1 P).1);obtain⟨n,s⟩:∃n,a.length=n:=⟨_,rfl⟩
 have F:=H s;rw[s] at B|-;clear h s;go_enter func150,ntmps150
 go_wp2_with fail
 go_loopg [8] n (λr u8 wr=>∃(d:World) (J:Nat),d=wr/\J+r=n/\u8=.int .i64 (J:Int)/\Hid (QE (λx=>x.1==44) a 0=QE (λx=>x.1==44) (a.drop J) J)/\Hid (QD d G o t a C)/\Hid (Ji w d))
 case atStart=>exact⟨_,0,rfl,O,rfl,H rfl,M,H (Jc _ _)⟩
 case round=>
  obtain⟨d,J,U,aa,rfl,p,u,j⟩:=hrel;subst U;by_cases Q:J<n
  ·obtain⟨x,P⟩:∃x,a[J]? =some x:=⟨_,W2 (by rw[F.out];exact Q)⟩
   have ab:=H P;have l:=H (En (λx=>x.1==44) a J x P);obtain⟨r,Y,I,R,rfl,X,y,E,A⟩:=u.ext J x P;have S:=H A;clear P A;have L:decide ((J:Int)<(n:Int))=true:=by simp;omega
   obtain⟨k,N⟩:=x;simp only at y E S l;skip
   go_wp2_with fail
   refine Jb (Pr k I N.length R _) ?_;rintro e W ⟨rfl,g⟩;have z:=H (Wx j g);have T:=H (u.below g);clear g u j y E;cases hT:(λx=>x.1==44) (k,N)
   ·simp only at hT;have b:Hid (QE (λx=>x.1==44) a 0=QE (λx=>x.1==44) (a.drop (J+1)) (J+1)):=H (by rw[p.out,l.out,hT];rfl);rw[hT];go_wp2_with fail
    go_roundg (n-(J+1))
    case measure=>omega
    case rel=>exact⟨_,J+1,rfl,O,by go_num,b,T,z⟩
   ·simp only at hT;have b:Hid (QE (λx=>x.1==44) a 0=(J:Int)):=H (by rw[p.out,l.out,hT];rfl);rw[hT];go_wp2_with fail
    go_ret;exact .mk (Za b.symm) z
  ·have Z:J=n:=O;have b:Hid (QE (λx=>x.1==44) a 0=-1):=H (by rw[p.out,JaH (by rw[F.out];omega)];rfl);have L:decide ((J:Int)<(n:Int))=false:=by simp;omega
   go_wp2_with fail
   go_ret;exact .mk (Za b.symm) j
theorem L1 (E:Nat)(l:Option Addr)(s:Nat)(a:AB)(z:List XA)(w:World)(h:QD w E l s a z)(B:a.length<=16)(M:∀x∈a,x.2.length<=100000):
 Jf 150 #[.slice l a.length s,Jr 90] w (Jz w (Jk (QE (λx=>!Xa x.1 x.2) a 0))):=by
 have I:=H h;have V:Hid (∀J x,a[J]? =some x->J<a.length):=H (λJ x P=>(W0.1 P).1);obtain⟨n,p⟩:∃n,a.length=n:=⟨_,rfl⟩
 have C:=H p;rw[p] at B|-;clear h p;go_enter func150,ntmps150
 go_wp2_with fail
 go_loopg [8] n (λr u8 wr=>∃(d:World) (J:Nat),d=wr/\J+r=n/\u8=.int .i64 (J:Int)/\Hid (QE (λx=>!Xa x.1 x.2) a 0=QE (λx=>!Xa x.1 x.2) (a.drop J) J)/\Hid (QD d E l s a z)/\Hid (Ji w d))
 case atStart=>exact⟨_,0,rfl,O,rfl,H rfl,I,H (Jc _ _)⟩
 case round=>
  obtain⟨d,J,U,ab,rfl,o,t,e⟩:=hrel;subst U;by_cases Q:J<n
  ·obtain⟨x,P⟩:∃x,a[J]? =some x:=⟨_,W2 (by rw[C.out];exact Q)⟩
   have S:=H P;have j:=H (En (λx=>!Xa x.1 x.2) a J x P);obtain⟨r,Y,G,R,rfl,X,u,A,y⟩:=t.ext J x P;have F:=H y;clear P y;have L:decide ((J:Int)<(n:Int))=true:=by simp;omega
   obtain⟨k,N⟩:=x;simp only at u A F j;skip
   go_wp2_with fail
   refine Jb (Nw k G R N _ F (M _ (YD S.out))) ?_;rintro aa W ⟨rfl,g⟩;have v:=H (Wx e g);have T:=H (t.below g);clear g t e u A;cases hT:(λx=>!Xa x.1 x.2) (k,N)
   ·simp only at hT;have b:Hid (QE (λx=>!Xa x.1 x.2) a 0=QE (λx=>!Xa x.1 x.2) (a.drop (J+1)) (J+1)):=H (by rw[o.out,j.out,hT];rfl);rw[hT];go_wp2_with fail
    go_roundg (n-(J+1))
    case measure=>omega
    case rel=>exact⟨_,J+1,rfl,O,by go_num,b,T,v⟩
   ·simp only at hT;have b:Hid (QE (λx=>!Xa x.1 x.2) a 0=(J:Int)):=H (by rw[o.out,j.out,hT];rfl);rw[hT];go_wp2_with fail
    go_ret;exact .mk (Za b.symm) v
  ·have Z:J=n:=O;have b:Hid (QE (λx=>!Xa x.1 x.2) a 0=-1):=H (by rw[o.out,JaH (by rw[C.out];omega)];rfl);have L:decide ((J:Int)<(n:Int))=false:=by simp;omega
   go_wp2_with fail
   go_ret;exact .mk (Za b.symm) e
theorem KI (j:Nat)(d:Option Addr)(b:Nat)(a:AB)(o:List XA)(w:World)(h:QD w j d b a o)(B:a.length<=16)(l:∀x∈a,x.2.length<=100000)(u:∀x∈a,Xa x.1 x.2=true):
 Jf 89 #[.slice d a.length b,Jr 90] w (Jz w (.bool false)):=by
 have p:=H (L1 j d b a o w h B l);rw[Eo _ _ _ (λx P=>by simp[u x P])] at p;clear h u l;generalize a.length=n at*;go_enter func89,ntmps89
 go_wp2_with fail
 refine Jb p ?_;rintro e r ⟨rfl,g⟩;go_wp2_with fail
 go_ret;exact .mk rfl g
theorem GZ (M:Nat)(b:Option Addr)(j:Nat)(a:AB)(Q:List XA)(p:Int)(w:World)(h:QD w M b j a Q)(A:MC a)(ak:∀x∈a,x.2.length<=100000):
 Jf 42 #[.agg #[.slice b a.length j,Jq p]] w (Jz w (.bool (!Qe p||QQ a))):=by
 have ai:=H h;have I:=H A;have U:=H ak;have au:=A.le;have al:Hid (∀d,QD d M b j a Q->Jf 89 #[.slice b a.length j,Jr 90] d (Jz d (.bool false))):=H (λd V=>KI M b j a Q d V I.le U I.right)
 have ae:Hid (∀m,a.length=m+1->∀x,a[m]? =some x->QQ a=At x.1 x.2):=H (λm W x P=>by
  unfold QQ;rw[List.getLast?_eq_getElem?,W,Nat.add_sub_cancel,P])
 have aj:Hid (a.length=0->QQ a=false):=H (λh=>by rw[WL h];rfl);obtain⟨n,Z⟩:∃n,a.length=n:=⟨_,rfl⟩
 have ab:=H Z;rw[Z] at au al ae aj|-;clear h A ak Z;have Y:Hid (Below w.heap.size w (w.alloc (.cells #[.slice b n j,p] 96))):=H (Below.all (Jc _ _) _);have X:=WP w (.cells #[.slice b n j,p] 96);have aa:=H (ai.below Y);generalize aG:QQ a=ar at*;generalize ac:Qe p=ao at*;go_enter func42,ntmps42
 have aN:decide ((16:Int)<(n:Int))=false:=by simp;omega
 go_wp2_with fail
 generalize aE:w.alloc (.cells #[.slice b n j,p] 96)=aJ at*;refine Jb (al _ aa) ?_;rintro e w2 ⟨rfl,g⟩;have G:=H (Wx Y g);have aA:=H (aa.below g);have C:=H ((g.block _ (Ja X).1).trans X);clear g X Y aa ai aE;have ay:Jg w2 w.heap.size 0 (.slice b n j):=WF 0 C;go_wp2_with fail
 go_loopg [22] n (λr u22 wr=>∃(t:World) (J:Nat),t=wr/\J+r=n/\u22=.int .i64 (J:Int)/\Hid (QD t M b j a Q)/\Hid (Ji w t)/\Hid (Jh t w.heap.size #[.slice b n j,p] 96))
 case atStart=>exact⟨_,0,rfl,O,rfl,aA,G,C⟩
 case round=>
  obtain⟨t,J,aF,aM,rfl,L,B,E⟩:=hrel;subst aF;by_cases ax:J<n
  ·obtain⟨x,P⟩:∃x,a[J]? =some x:=⟨_,W2 (by rw[ab.out];exact ax)⟩
   obtain⟨r,az,l,s,rfl,ap,F,R,y⟩:=L.ext J x P;have u:=H y;have ah:=I.hop J;have af:=I.early J;have o:=U.out x (YD P);obtain⟨k,N⟩:=x;have aC:0<J->k≠0:=λh=>ah h _ P
   have aq:J+1<n->At k N=false:=λh=>af (by rw[ab.out];exact h) _ P
   simp only at F R u o;have z:Hid (∀d,JA d l N.length s N->Jf 92 #[.agg #[Jq k,.slice l N.length s]] d (Jz d (.bool (At k N)))):=H (λd h=>EU k l s N d h o);clear y P ah af o;generalize At k N=aw at*;have an:decide ((J:Int)<(n:Int))=true:=by simp;omega
   have ag:(k==0)=false\/((k==0)=true/\decide (0<J)=false):=by
    by_cases h:k=0
    ·refine .inr ⟨by simp[h],?_⟩;have:¬0<J:=λV=>aC V h
     simp;omega
    ·exact .inl (by simpa using h)
   rcases ag with aB|⟨aB,ag⟩
   all_goals
    go_wp2_with fail
    refine Jb (z _ (u.alloc _)) ?_;rintro e av ⟨rfl,g⟩;have G:=H (Wx B (Wx (Below.all (Jc _ _) _) g));have am:=H (L.below (Wx (Below.all (Jc _ _) _) g));have C:=H (((Wx (Below.all (Jc _ _) _) g).block _ (Ja E).1).trans E);clear g L B E F R u z;cases aw
    ·exact Jed
    ·have aH:¬J+1<n:=λh=>by have:=aq h;cases this
     have aL:decide ((J:Int)<(n:Int)-1)=false:=by simp;omega
     exact Jed
  ·have an:decide ((J:Int)<(n:Int))=false:=by simp;omega
   have ay:Jg t w.heap.size 0 (.slice b n j):=WF 0 E;have aK:Jg t w.heap.size 1 (Jq p):=WF 1 E;have T:=H ac;clear ac;cases ao
   ·go_wp2_with (go_at_call 93;refine(ZE _ _).mono ?_;rintro e d ⟨rfl,rfl⟩;rw[T.out])
    go_ret;exact .mk rfl B
   ·rcases Yo n with ad|ad
    ·have W:decide ((0:Int)<=(n:Int)-1)=false:=by simp;omega
     have aD:ar=false:=aj.out ad;go_wp2_with (go_at_call 93;refine(ZE _ _).mono ?_;rintro e d ⟨rfl,rfl⟩;rw[T.out])
     go_ret;exact .mk (by rw[aD];rfl) B
    ·obtain⟨m,rfl⟩:∃m,n=m+1:=⟨n-1,O⟩
     obtain⟨x,P⟩:∃x,a[m]? =some x:=⟨_,W2 (by rw[ab.out];omega)⟩
     obtain⟨r,az,l,s,rfl,ap,F,R,y⟩:=L.ext m x P;have u:=H y;have o:=U.out x (YD P);have S:=ae.out m rfl x P;obtain⟨k,N⟩:=x;simp only at F R u o S;have z:Hid (∀d,JA d l N.length s N->Jf 92 #[.agg #[Jq k,.slice l N.length s]] d (Jz d (.bool (At k N)))):=H (λd h=>EU k l s N d h o);rw[<-S] at z;clear y P o S;have aO:((m+1:Nat):Int)-1=(m:Int):=O;have W:decide ((0:Int)<=(m:Int))=true:=by simp
     have aI:(m:Int)<(m:Int)+1:=O;go_wp2_with (go_at_call 93;refine(ZE _ _).mono ?_;rintro e d ⟨rfl,rfl⟩;rw[T.out])
     refine Jb (z _ u) ?_;rintro e av ⟨rfl,g⟩;go_wp2_with fail
     go_ret;exact .mk rfl (Wx B g)
theorem Ep:∀(a:AB) (i:Nat),(QE (λx=>x.1==44) a i=-1/\F5 a=none)\/(∃(J:Nat) (N:List Int),QE (λx=>x.1==44) a i=((i+J:Nat):Int)/\a[J]? =some (44,N)/\F5 a=some N)
 |[],_=>.inl ⟨rfl,rfl⟩
 |(k,N)::a,i=>by
  by_cases h:k=44
  ·subst h;exact .inr ⟨0,N,by simp[QE],rfl,rfl⟩
  ·have g:(k==44)=false:=by simpa using h
   rcases Ep a (i+1) with ⟨j,y⟩|⟨J,b,j,y,Y⟩
   ·exact .inl ⟨by rw[QE];simp only[g];exact j,by rw[F5,Yw h];exact y⟩
   ·refine .inr ⟨J+1,b,?_,by simpa using y,by rw[F5,Yw h];exact Y⟩;rw[QE];simp only[g];rw[show i+(J+1)=i+1+J from O];exact j
def CV (w:World)(a:AB):Ending->World->Prop:=λe d=>(∃(id:Int) (ok:Bool),e=.returned (.tuple #[Jl (A8 a),.bool (Aa a),Jp id,ok]))/\Ji w d
theorem Tp (C:Nat)(o:Option Addr)(b:Nat)(a:AB)(y:List XA)(p:Int)(w:World)(h:QD w C o b a y)(A:MC a)(T:∀x∈a,x.2.length<=100000)(E:Qe p=false\/QQ a=true):
 Jf 141 #[.agg #[.slice o a.length b,Jq p]] w (CV w a):=by
 have aa:=H h;have ai:=A.le;have B:Hid (∀d,QD d C o b a y->Jf 150 #[.slice o a.length b,Jr 191] d (Jz d (Jk (QE (λx=>x.1==44) a 0)))):=H (λd U=>Nx C o b a y d U ai)
 have ac:Hid (∀d,QD d C o b a y->Jf 42 #[.agg #[.slice o a.length b,Jq p]] d (Jz d (.bool true))):=H (λd U=>by
  have:=GZ C o b a y p d U A T;rwa [show(!Qe p||QQ a)=true by rcases E with h|h<;>rw[h]<;>simp] at this)
 have I:Hid (Below w.heap.size w (w.alloc (.cells #[.slice o a.length b,p] 96))):=H (Below.all (Jc _ _) _);have R:=WP w (.cells #[.slice o a.length b,p] 96);have L:=H (aa.below I);rcases Ep a 0 with ⟨F,t⟩|⟨J,N,F,Q,t⟩
 ·have z:Hid (A8 a=0/\Aa a=false):=H (by unfold A8 Aa;rw[t];exact⟨rfl,rfl⟩);rw[F] at B;clear h A T E F t R;generalize a.length=n at*;go_enter func141,ntmps141
  go_wp2_with fail
  refine Jb (B _ L) ?_;rintro e w2 ⟨rfl,g⟩;have M:=H (Wx I g);clear g;go_wp2_with fail
  refine Jag (v:=.tuple #[Jbl,false,Jbm,false]) (by simp[results,go_sem,f141]) rfl ?_;exact⟨⟨0,false,by rw[z.1,z.2]⟩,M.out⟩
 ·have z:Hid (A8 a=ZH N/8/\Aa a=(ZH N%2==1)):=H (by unfold A8 Aa;rw[t];exact⟨rfl,rfl⟩);have aw:=(W0.1 Q).1;have s:=A.right _ (YD Q);have ao:N.length=6:=by unfold Xa at s;rw[YH rfl] at s;simp only[YO,YS] at s;exact s.1
  have al:=H Q;rw[F,WM] at B;have ae:Hid (∀d j l,JA d j N.length l N->Jf 151 #[.agg #[Jq 44,.slice j N.length l]] d (Jz d (Tf N))):=H (λd j l h=>Kv 44 j l N d h O);have ar:Hid (∀d j l,JA d j N.length l N->Jf 81 #[.slice j N.length l,Jk 2,Jk 4] d (Jz d (.tuple #[Jo (numAt N 2 4),Jk 0]))):=H (λd j l h=>get_ok j N.length l N 2 4 d h D D O O);clear h A T E F t s Q ao;unfold Tf at ae;generalize ZH N=af at*;generalize numAt N 2 4=ap at*;generalize a.length=n at*;go_enter func141,ntmps141
  go_wp2_with fail
  generalize aq:w.alloc (.cells #[.slice o n b,p] 96)=av at*;refine Jb (B _ L) ?_;rintro e w2 ⟨rfl,g⟩;have M:=H (Wx I g);have S:=H (L.below g);have G:=H ((g.block _ (Ja R).1).trans R);clear g R I L aa aq B;have ax:decide ((J:Int)<0)=false:=by simp
  have ak:Jv w2 w.heap.size 0 2=#[.slice o n b,.int .u8 p]:=Ju G rfl;go_wp2_with fail
  refine Jb (ac _ S) ?_;rintro e au ⟨rfl,g⟩;have ag:=H (Wx M g);have Z:=H (S.below g);have X:=H ((g.block _ (Ja G).1).trans G);clear g M S G ak ac;obtain⟨r,P,j,l,rfl,am,ab,W,V⟩:=Z.ext J _ al;have ad:Jg au w.heap.size 0 (.slice (some ⟨r,P,none⟩) n b):=WF 0 X;have az:(J:Int)<(n:Int):=O;simp only at ab W V;have Y:=H V;clear V;go_wp2_with fail
  refine Jb (ae _ j l Y) ?_;rintro e w4 ⟨rfl,g⟩;have aj:=H (Wx ag g);have ah:=H (Y.below g);have aA:Jg w4 r (P+J*2+1) (.slice j N.length l):=(JK g am (⟨r,P+J*2+1,none⟩:Addr) rfl).trans W;have ay:Jg w4 w.heap.size 0 (.slice (some ⟨r,P,none⟩) n b):=(JK g (Ja X).1 (⟨w.heap.size,0,none⟩:Addr) rfl).trans ad;clear g ag Z X ab W ad Y;go_wp2_with fail
  refine Jb (ar _ j l ah) ?_;rintro e aB ⟨rfl,g⟩;have an:=H (Wx aj g);clear g;go_wp2_with fail
  refine Jag (v:=.tuple #[Jl (af/8),.bool (af%2==1),Jp (ap%4294967296),true]) (by simp[results,go_sem,f141]) rfl ?_;exact⟨⟨_,true,by rw[z.1,z.2]⟩,an.out⟩
theorem CW (l:List Int)(M:JF l)(J:Nat)(h:J<l.length)(i:Int)(F:i=(J:Int))(w:World):(Instr.index 9 (.string (strOfNums l)) (Jk i)).run prog w=.ok (Jq (l.getD J 0)) w:=by
 subst F;have z:J<(strOfNums l).size:=by rw[Jbe];exact h
 have y:=Oh l M J h;rw[CD (strOfNums l) J z _ rfl w,<-y];congr 3
 show _=((strOfNums l).data.toList.getD J 0).toNat;rw[Yi,Array.getElem?_toList,Array.getElem?_eq_getElem (by rw[Jat];exact z)];rfl
theorem JcE{p:Prop}(h:p:=by
 rw[F.out];rw[E] at W|-;clear F U N X E V af ak ah ai aC aA;go_enter func87,ntmps87
 go_wp2_with fail
 rw[<-C] at s|-;generalize w.alloc (.cells JbE 102)=aj at*;refine Jb (M _) ?_;rintro e al ⟨rfl,g⟩;have t:=H ((g.block _ (Ja s).1).trans s);have v:=H (Wx J g);clear g s J C;go_wp2_with fail
 refine Jb (M _) ?_;rintro e a ⟨rfl,g⟩;have r:=H ((g.block _ (Ja t).1).trans t);have u:=H (Wx v g);have B:JE a j 12=true:=by rw[Jw _ _ _ _ _ r.out];rfl
 have L:j<a.heap.size:=(Ja r).1;clear g t v;go_wp2_with fail
 have z:=H (WP a (.cells (JbL (17:Int)) 102));have G:Hid (_=_):=H ((YU a (.cells (JbL (17:Int)) 102) L).trans r);have T:Hid (Below w.heap.size w (a.alloc (.cells (JbL (17:Int)) 102))):=H (Below.all u _);obtain⟨o,I⟩:∃b,b=a.heap.size:=⟨_,rfl⟩
 rw[<-I] at z|-;have ac:j≠o:=O;have ae:Hid (w.heap.size<=o):=H (by rw[I];exact u.size);generalize a.alloc (.cells (JbL (17:Int)) 102)=ay at*;clear I r u B L;go_wp2_with fail
 refine Jb (W _) ?_;rintro e Q ⟨rfl,g⟩;have A:=H ((g.block _ (Ja G).1).trans G);have Y:=H (Wx T g);have ad:=H ((g.block _ (Ja z).1).trans z);have ap:j<Q.heap.size:=(Ja A).1;have B:JE Q j 12=true:=by rw[Jw _ _ _ _ _ A.out];rfl
 clear g G T z;go_wp2_with fail
 exact Zl (cs:=rtZ) j rfl rfl (Ju (JC A) rfl) rfl rfl (Y.trans (Jy _ (Jbh ab.symm)))):p:=h
theorem JcS{p:Prop}(h:p:=by
 rw[F.out,E];clear F N X E V;go_enter func87,ntmps87
 go_wp2_with fail
 rw[<-C] at s|-;generalize w.alloc (.cells JbE 102)=aj at*;refine Jb (M _) ?_;rintro e al ⟨rfl,g⟩;have t:=H ((g.block _ (Ja s).1).trans s);have v:=H (Wx J g);clear g s J C;go_wp2_with fail
 refine Jb (M _) ?_;rintro e a ⟨rfl,g⟩;have r:=H ((g.block _ (Ja t).1).trans t);have u:=H (Wx v g);have B:JE a j 12=true:=by rw[Jw _ _ _ _ _ r.out];rfl
 have L:j<a.heap.size:=(Ja r).1;clear g t v;go_wp2_with fail
 exact Zl (cs:=rtZ) j rfl rfl (Ju (JC r) rfl) rfl rfl (u.trans (Jy _ (Jbh ab.symm)))):p:=h
theorem JcU{p:Prop}(h:p:=by
 rw[I.out,v];clear I A J v G;go_enter func87,ntmps87
 go_wp2_with fail
 rw[<-z] at a|-;generalize w.alloc (.cells JbE 102)=Q at*;refine Jb (C _) ?_;rintro e T ⟨rfl,g⟩;have r:=H ((g.block _ (Ja a).1).trans a);have t:=H (Wx B g);clear g a B z;go_wp2_with fail
 refine Jb (C _) ?_;rintro e u ⟨rfl,g⟩;have o:=H ((g.block _ (Ja r).1).trans r);have F:=H (Wx t g);have P:JE u s 12=true:=by rw[Jw _ _ _ _ _ o.out];rfl
 have N:s<u.heap.size:=(Ja o).1;clear g r t;go_wp2_with fail
 exact Zl (cs:=rtZ) s rfl rfl (Ju (JC o) rfl) rfl rfl (F.trans (Jy _ (Jbh L.symm)))):p:=h
theorem KJ (l:List Int):strOfNums l=ByteArray.mk (l.map λv=>UInt8.ofNat v.toNat).toArray:=by
 apply ByteArray.ext;apply Array.ext';rw[strOfNums_data]
theorem If (l:List Int)(i J:Nat)(e:i<=J)(g:J<=l.length)(a b:Int)(F:a=(i:Int))(d:b=(J:Int))(w:World):
 (Instr.slice 9 (.string (strOfNums l)) (some (.int .i64 a)) (some (.int .i64 b)) none).run prog w=.ok (.string (strOfNums ((l.take J).drop i))) w:=by
 subst F d;rw[run_slice_string w 9 (strOfNums l) .i64 .i64 (i:Int) (J:Int) underlying9 O O (by rw[Jbe];omega),Jak,Jak,KJ,ByteArray.extract_mk,KJ,List.drop_take,List.map_take,List.map_drop]
theorem Dj (l:List Int)(i:Nat)(F:i<=l.length)(a:Int)(b:a=(i:Int))(w:World):
 (Instr.slice 9 (.string (strOfNums l)) (some (.int .i64 a)) none none).run prog w=.ok (.string (strOfNums (l.drop i))) w:=by
 subst b;rw[run_slice_string_l w 9 (strOfNums l) underlying9 .i64 (i:Int) O (by rw[Jbe];omega),Jak,Jbe,KJ,ByteArray.extract_mk,KJ,List.map_drop,Jav (by rw[W4,Jaz];exact Je _)]
def rtC (s:Seg):Array Value:=(JbH (Jq s.proto) (Jl s.src) (Jl s.dst) (Jp s.seq) (Jp s.ack) (Jq s.flags) (Jl s.win) (Jl s.urg) (.string (strOfNums s.opt)) (Jq s.type) (Jq s.code) (.string (strOfNums s.data)))
def rtZ:Array Value:=JbE
theorem VH:rtC UQ=rtZ:=rfl
def rtR (p:Int)(l:List Int):Value:=.tuple #[.agg (rtC (Qo p l)),Jk (Ab p l)]
theorem Zl {w d:World}{e:Value}{cs:Array Value}{err:Int}{a:Array Value}(b:Nat)(E:a.getD 4 undef=.pointer (some ⟨b,0,none⟩))(j:a.getD 5 undef=.int .i64 err)(I:Jv d b 0 12=cs)(z:cs.size=12)(l:e=.tuple #[.agg cs,Jk err])(g:Ji w d):
 bodyPost prog f87 (Jz w e) .ret { tmps:=a,defers:=[] } d:=
 Jag (v:=.tuple #[.agg cs,Jk err]) (QS rfl _ _ b 12 _ _ underlying102 rfl Rp E j cs I z) rfl (.mk l.symm g)
theorem Bg {p:Int}{l:List Int}{err:Int}(h:Ab p l=err)(X:err≠0):rtR p l=.tuple #[.agg rtZ,Jk err]:=by
 unfold rtR Qo;rw[h,Yw X,VH]
theorem L2 (p:Int)(E:p=1\/p=58)(l:List Int)(M:JF l)(ab:l.length<=100000)(w:World):
 Jf 87 #[p,.string (strOfNums l)] w (Jz w (rtR p l)):=by
 have J:tHead p=4:=by rcases E with rfl|rfl<;>rfl
 have C:Hid (∀d,Jf 96 #[p] d (Jz d (Jk 4))):=H (λd=>by have:=Aq p d;rw[J] at this;exact this);have a:=H (WP w (.cells JbE 102));have B:Hid (Below w.heap.size w (w.alloc (.cells JbE 102))):=H (Below.all (Jc _ _) _);obtain⟨Z,v⟩:∃Z,strOfNums l=Z:=⟨_,rfl⟩
 have aa:Z.size=l.length:=by rw[<-v,Jbe]
 have A:Hid (Ab p l=if l.length<4 then 10 else if 65535<l.length then 51 else if p=6 then (if H1 l<20 then 51 else if l.length<H1 l then 10 else 0) else if p=17 then (if w2 l 4<8 then 51 else if (l.length:Int)<w2 l 4 then 10 else 0) else 0):=H (by unfold Ab;rw[J,Yw D]);obtain⟨s,z⟩:∃b,b=w.heap.size:=⟨_,rfl⟩
 have L:=H z;obtain⟨n,G⟩:∃n,l.length=n:=⟨_,rfl⟩
 have ah:=H G;rw[G] at aa A ab;by_cases j:n<4
 ·have ad:decide ((n:Int)<4)=true:=by simp;omega
  have I:=H (Bg (err:=10) (by rw[A.out,YH j]) D);exact JcU
 have ad:decide ((n:Int)<4)=false:=by simp;omega
 by_cases y:65535<n
 ·have W:decide ((n:Int)>65535)=true:=by simp;omega
  have I:=H (Bg (err:=51) (by rw[A.out,Yw j,YH y]) D);exact JcU
 have W:decide ((n:Int)>65535)=false:=by simp;omega
 have S:Hid (Ab p l=0):=H (by rw[A.out,Yw j,Yw y,Yw O,Yw O])
 have R:Hid (rtR p l=.tuple #[.agg (JbD p (Jq (l.getD 0 0)) (Jq (l.getD 1 0)) (.string (strOfNums (l.drop 4))):Array Value),Jk 0]):=H (by
  unfold rtR Qo Fy rtC;rw[S.out,YH rfl,Yw O,Yw O];rfl)
 have ag:(p==6)=false:=by rcases E with rfl|rfl<;>rfl
 have af:(p==17)=false:=by rcases E with rfl|rfl<;>rfl
 have Y:=λw=>CW l M 0 O 0 rfl w
 have U:=λw=>CW l M 1 O 1 rfl w
 have X:=λw=>Dj l 4 O 4 rfl w
 rw[R.out];rw[v] at Y U X|-;generalize l.getD 0 0=ac at*;generalize l.getD 1 0=ae at*;generalize strOfNums (l.drop 4)=V at*;clear S A J v G R;go_enter func87,ntmps87
 go_wp2_with fail
 rw[<-z] at a|-;generalize w.alloc (.cells JbE 102)=Q at*;refine Jb (C _) ?_;rintro e T ⟨rfl,g⟩;have r:=H ((g.block _ (Ja a).1).trans a);have t:=H (Wx B g);clear g a B z;go_wp2_with fail
 refine Jb (C _) ?_;rintro e u ⟨rfl,g⟩;have o:=H ((g.block _ (Ja r).1).trans r);have F:=H (Wx t g);have P:JE u s 12=true:=by rw[Jw _ _ _ _ _ o.out];rfl
 have N:s<u.heap.size:=(Ja o).1;clear g r t;go_wp2_with fail
 refine Zl (cs:=(JbD p ac ae (.string V))) s rfl rfl ?_ rfl rfl ?_
 ·exact Ju ((YU _ _ (by simpa using N)).trans (JC o)) rfl
 ·exact Below.all (F.trans (Jy _ (Jbh L.symm))) _
theorem Ny (p:Int)(aq:p=17)(l:List Int)(aa:JF l)(aG:l.length<=100000)(w:World):
 Jf 87 #[p,.string (strOfNums l)] w (Jz w (rtR p l)):=by
 have X:tHead p=8:=by subst aq;rfl
 have M:Hid (∀d,Jf 96 #[p] d (Jz d (Jk 8))):=H (λd=>by have:=Aq p d;rw[X] at this;exact this);have s:=H (WP w (.cells JbE 102));have J:Hid (Below w.heap.size w (w.alloc (.cells JbE 102))):=H (Below.all (Jc _ _) _);obtain⟨am,E⟩:∃am,strOfNums l=am:=⟨_,rfl⟩
 have aM:am.size=l.length:=by rw[<-E,Jbe]
 have N:Hid (Ab p l=if l.length<8 then 10 else if 65535<l.length then 51 else if p=6 then (if H1 l<20 then 51 else if l.length<H1 l then 10 else 0) else if p=17 then (if w2 l 4<8 then 51 else if (l.length:Int)<w2 l 4 then 10 else 0) else 0):=H (by unfold Ab;rw[X,Yw D]);obtain⟨j,C⟩:∃b,b=w.heap.size:=⟨_,rfl⟩
 have ab:=H C;obtain⟨n,V⟩:∃n,l.length=n:=⟨_,rfl⟩
 have a4:=H V;rw[V] at aM N aG;subst aq;by_cases ao:n<8
 ·have aH:decide ((n:Int)<8)=true:=by simp;omega
  have F:=H (Bg (err:=10) (by rw[N.out,YH ao]) D);exact JcS
 have aH:decide ((n:Int)<8)=false:=by simp;omega
 by_cases az:65535<n
 ·have aQ:decide ((n:Int)>65535)=true:=by simp;omega
  have F:=H (Bg (err:=51) (by rw[N.out,Yw ao,YH az]) D);exact JcS
 have aQ:decide ((n:Int)>65535)=false:=by simp;omega
 have U:Hid (Ab 17 l=if w2 l 4<8 then 51 else if (n:Int)<w2 l 4 then 10 else 0):=H (by rw[N.out,Yw ao,Yw az,Yw D,YH rfl])
 have W:Hid (∀d,Jf 149 #[.string (strOfNums l),Jk 4,Jk 2] d (Jz d (Jo (w2 l 4)))):=H (λd=>by
  have:=XU l aa 4 2 D D O O 4 2 rfl rfl d;rwa [Qw l 4 O] at this)
 have ah:Hid (∀d,Jf 149 #[.string (strOfNums l),Jk 0,Jk 2] d (Jz d (Jo (w2 l 0)))):=H (λd=>by
  have:=XU l aa 0 2 D D O O 0 2 rfl rfl d;rwa [Qw l 0 O] at this)
 have ai:Hid (∀d,Jf 149 #[.string (strOfNums l),Jk 2,Jk 2] d (Jz d (Jo (w2 l 2)))):=H (λd=>by
  have:=XU l aa 2 2 D D O O 2 2 rfl rfl d;rwa [Qw l 2 O] at this)
 have ak:=Xw aa 4;have aC:=Xw aa 0;have aA:=Xw aa 2;obtain⟨y,af⟩:∃y:Nat,w2 l 4=(y:Int):=⟨(w2 l 4).toNat,O⟩
 have aE:=H af;rw[af] at U W ak;have aY:(0:Int)<=(y:Int):=O;have a3:(y:Int)<=65535:=O;by_cases a1:y<8
 ·have aD:decide ((y:Int)<8)=true:=by simp;omega
  have F:=H (Bg (err:=51) (by rw[U.out,YH O]) D);exact JcE
 have aD:decide ((y:Int)<8)=false:=by simp;omega
 by_cases aV:n<y
 ·have aK:decide ((n:Int)<(y:Int))=true:=by simp;omega
  have F:=H (Bg (err:=10) (by rw[U.out,Yw O,YH O]) D);exact JcE
 have aK:decide ((n:Int)<(y:Int))=false:=by simp;omega
 have au:Hid (Ab 17 l=0):=H (by rw[U.out,Yw O,Yw O])
 have aB:Hid (rtR 17 l=.tuple #[.agg (JbI (17:Int) (Jl (w2 l 0)) (Jl (w2 l 2)) (.string (strOfNums ((l.take y).drop 8))):Array Value),Jk 0]):=H (by
  unfold rtR Qo Fy rtC;rw[au.out,YH rfl,Yw D,YH rfl,aE.out,Jak];rfl)
 have aO:=λw=>If l 8 y O O 8 (y:Int) rfl rfl w
 rw[aB.out];rw[E] at W ah ai aO|-;generalize w2 l 0=S at*;generalize w2 l 2=P at*;generalize strOfNums ((l.take y).drop 8)=R at*;clear au U N X E V aB af ak;go_enter func87,ntmps87
 go_wp2_with fail
 rw[<-C] at s|-;generalize w.alloc (.cells JbE 102)=aj at*;refine Jb (M _) ?_;rintro e al ⟨rfl,g⟩;have t:=H ((g.block _ (Ja s).1).trans s);have v:=H (Wx J g);clear g s J C;go_wp2_with fail
 refine Jb (M _) ?_;rintro e a ⟨rfl,g⟩;have r:=H ((g.block _ (Ja t).1).trans t);have u:=H (Wx v g);have B:JE a j 12=true:=by rw[Jw _ _ _ _ _ r.out];rfl
 have L:j<a.heap.size:=(Ja r).1;clear g t v;go_wp2_with fail
 have z:=H (WP a (.cells (JbL (17:Int)) 102));have G:Hid (_=_):=H ((YU a (.cells (JbL (17:Int)) 102) L).trans r);have T:Hid (Below w.heap.size w (a.alloc (.cells (JbL (17:Int)) 102))):=H (Below.all u _);obtain⟨o,I⟩:∃b,b=a.heap.size:=⟨_,rfl⟩
 rw[<-I] at z|-;have ac:j≠o:=O;have ae:Hid (w.heap.size<=o):=H (by rw[I];exact u.size);generalize a.alloc (.cells (JbL (17:Int)) 102)=ay at*;clear I r u B L;go_wp2_with fail
 refine Jb (W _) ?_;rintro e Q ⟨rfl,g⟩;have A:=H ((g.block _ (Ja G).1).trans G);have Y:=H (Wx T g);have ad:=H ((g.block _ (Ja z).1).trans z);have ap:j<Q.heap.size:=(Ja A).1;have B:JE Q j 12=true:=by rw[Jw _ _ _ _ _ A.out];rfl
 clear g G T z;go_wp2_with fail
 refine Jb (ah _) ?_;rintro e aw ⟨rfl,g⟩;have aP:=H ((g.block _ (Ja A).1).trans A);have aI:=H (Wx Y g);have an:=H ((g.block _ (Ja ad).1).trans ad);have aJ:=WF 1 an;have aF:=Jad _ _ 1 _ _ an;clear g A Y ad ap B;go_wp2_with fail
 have av:=H (Jae _ o 1 _ _ (Jl S) an);have ax:=H ((YX aw ⟨o,1,none⟩ j (Jl S) ac).trans aP);have aR:=H (aI.setCell (p:=⟨o,1,none⟩) ae (Jl S));generalize aw.setCell ⟨o,1,none⟩ (.int .u16 S)=aZ at*;refine Jb (ai _) ?_;rintro e Z ⟨rfl,g⟩;have ar:=H ((g.block _ (Ja ax).1).trans ax);have aT:=H (Wx aR g);have ag:Hid (Jh Z o #[(17:Int),Jl S,Jbl,Jbm,Jbm,(),Jbl,Jbl,Jbn,(),(),Jbn] 102):=H ((g.block _ (Ja av).1).trans av);have a2:=WF 2 ag;have aX:=Jad _ _ 2 _ _ ag;have a0:=WF 11 ag;have aW:=Jad _ _ 11 _ _ ag;have aN:Hid (Jh ((Z.setCell ⟨o,2,none⟩ (Jl P)).setCell ⟨o,11,none⟩ (.string R)) o (JbI (17:Int) (Jl S) (Jl P) (.string R)) 102):=H (Jae _ o 11 _ _ (.string R) (Jae _ o 2 _ _ (Jl P) ag));have aL:=H ((YX (Z.setCell ⟨o,2,none⟩ (Jl P)) ⟨o,11,none⟩ j (.string R) ac).trans ((YX Z ⟨o,2,none⟩ j (Jl P) ac).trans ar));have aS:=H ((aT.setCell (p:=⟨o,2,none⟩) ae (Jl P)).setCell (p:=⟨o,11,none⟩) ae (.string R));have aU:Jv ((Z.setCell ⟨o,2,none⟩ (Jl P)).setCell ⟨o,11,none⟩ (.string R)) o 0 12=(JbI (17:Int) (Jl S) (Jl P) (.string R):Array Value):=Ju aN rfl;have B:JE Z j 12=true:=by rw[Jw _ _ _ _ _ ar.out];rfl
 clear g aJ aF;go_wp2_with fail
 exact Zl (cs:=(JbI (17:Int) (Jl S) (Jl P) (.string R))) j rfl rfl (Ju (JC aL) rfl) rfl rfl (aS.trans (Jy _ (Jbh ab.symm)))
end
end Go.Proofs.YtkgjbipfhhjlpaaGreatDoor
