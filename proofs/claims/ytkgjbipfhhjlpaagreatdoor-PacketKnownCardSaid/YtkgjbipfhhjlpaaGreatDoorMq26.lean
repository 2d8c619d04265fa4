import Derived.Test.YtkgjbipfhhjlpaaGreatDoorMq25
set_option linter.unusedVariables false
set_option linter.unusedSimpArgs false
set_option maxRecDepth 100000
set_option maxHeartbeats 32000000
namespace Go.Proofs.YtkgjbipfhhjlpaaGreatDoor
open Go.Proofs.Tryz
section
open Go.RowKit
theorem F1 (j:Sp)(n:EA j)(w:World)(I:Env w):Jf 4 #[.agg (spV j)] w (Jz w (.bool true)):=by
 have ah:=H I;have ab:=H (BL n);have M:Hid ((spL j).length<=1000000):=H (by have:=Sh j;omega);have S:=H (λw=>AT j n w);have B:=H (λw=>Tx j n w);obtain⟨⟨G,Z,t,d,p,a,b⟩,f,N⟩:=j;have ac:Hid (∀w,Jf 17 #[.agg (Jbw G t p (Jl a) (Jl b) f (Jk N) Z d:Array Value)] w (Jz w (.agg (Jbw G t p (Jl a) (Jl b) f (Jk N) Z d)))):=H (λw=>LZ G Z t d p a b f N w);have Q:Hid (Bx w (w.alloc (.cells (Jbw G t p (Jl a) (Jl b) f (Jk N) Z d) 47)) [(w.heap.size,.cells (Jbw G t p (Jl a) (Jl b) f (Jk N) Z d) 47 (0,0))]):=H ((Bx.start w).box _ _);generalize Qy ⟨⟨G,Z,t,d,p,a,b⟩,f,N⟩=U at*;generalize spL ⟨⟨G,Z,t,d,p,a,b⟩,f,N⟩=A at*;have am:(U != U)=false:=by simp
 clear I n;unfold spV at*;simp only at S B|-;go_enter func4,ntmps4
 go_wp2_with fail
 generalize w.alloc _=ak at*;go_loopw [3,4,5,6,7] (λu3 u4 u5 u6 u7 wr=>∃k:Nat,k<=2/\u3=.int .i64 k/\Hid (Bx w wr [(w.heap.size,.cells (Jbw G t p (Jl a) (Jl b) f (Jk N) Z d) 47 (0,0))])) (λu3 _ _ _ _ _=>(2:Int)-intOf u3 |>.toNat)
 case atStart=>exact⟨0,O,rfl,Q⟩
 case round=>
  obtain⟨k,an,rfl,r⟩:=hrel;clear Q;by_cases ao:k<2
  ·have W:Jv wr w.heap.size 0 39=_:=r.part 0 rfl rfl;have ae:=r.lt 0 rfl;go_wp2_with fail
   refine Jb (S _) ?_;rintro e V ⟨s,o,rfl,n,g⟩;have v:=H (r.go g);have E:=H n;clear n g W ae;have ag:Jv V w.heap.size 0 39=_:=v.part 0 rfl rfl;have aa:=v.lt 0 rfl;go_wp2_with fail
   refine v.ret (ac _) ?_;intro ap P T;have J:=H (E.below P);clear P ag aa v E;go_wp2_with fail
   refine Jb (B _) ?_;rintro e aj ⟨X,ad,rfl,u,g⟩;have F:=H (T.go g);have y:=H (J.below g);have C:=H u;clear u g T J;go_wp2_with fail
   refine Jb (IH s A.length o X ad A _ (y.reads ab) C M) ?_;rintro e al ⟨rfl,g⟩;have R:=H (F.go g);have z:=H (y.below g);clear g F y C;go_wp2_with fail
   refine Jb (K1 s A.length o _ _ _ z M) ?_;rintro e aq ⟨rfl,L,ai⟩;have af:=H (R.grown r L (λa ha=>(z.lt ha).1));clear L ai R z;go_wp2_with fail
   go_roundw
   case rel=>exact⟨k+1,O,by go_num,af⟩
   case measure=>simp[intOf];omega
  ·obtain rfl:k=2:=O;go_wp2_with fail
   refine Jb (Xg _ (ah.below r.out.out)) ?_;rintro e V ⟨rfl,g⟩;have Y:=H (Wx r.out.out g);clear g;go_wp2_with fail
   go_ret;exact .mk rfl Y
open Go.RowKit Bits
theorem Jc9{p:Prop}(h:p:=by
 clear l C az au aF aG ax;go_wp2_with fail
 refine Jb (Bits.bytes_any r z an y.wr.wr (by have:=o.out;have:=s.out;rw[<-Y.out];simp[be2];omega)) ?_;rintro e aY ⟨a0,aZ,rfl,al,aa⟩;have av:=H al;have aU:=H (y.bel.trans (aa.mono y.bel.size));have aC:=H y.bel.size;clear al aa y;go_wp2_with fail
 go_ret;exact⟨_,_,rfl,av.mono aC,aU.out⟩):p:=h
theorem AG (w:World)(v:Int)(b:Jm v)(t:TypeId):JA (w.alloc (.cells #[v] t)) (some ⟨w.heap.size,0,none⟩) 1 1 [v]:=by
 refine⟨by simp,Je _,D,λd a=>?_,.inr ⟨w.heap.size,0,rfl,by simp,λJ e=>?_⟩⟩
 ·simp only[YE,YF,YG] at a;subst a;exact b
 ·obtain rfl:J=0:=O;rw[WN _ _ _ _ _ _ (WP _ _)];rfl
structure KSt (w0:World)(g:Nat)(ob:Obj)(l:List Int)(w:World):Prop where
 wr:WrK w g (λb=>b=w0.heap.size) l
 box:w.heap[w0.heap.size]? =some ob
 bel:Ji w0 w
 le:w0.heap.size<g
theorem KSt.go {a w d:World}{r:Nat}{b:Obj}{l:List Int}(h:KSt a r b l w)(g:Ji w d):KSt a r b l d:=
 ⟨h.wr.below g,(g.block _ (Ja h.box).1).trans h.box,h.bel.trans (g.mono h.bel.size),h.le⟩
theorem KSt.raw {j w:World}{r:Nat}{n:Obj}{l:List Int}(h:KSt j r n l w){b:Option Addr}{m c:Nat}{a:List Int}(u:JA w b m c a)(W:l.length+a.length<=1000000):
 Jf 63 #[.pointer (some ⟨r,0,none⟩),.slice b m c] w (λe d=>e=.returned (Jk 0)/\KSt j r n (l++a) d):=
 Jb (A4 r _ l b m c a w h.wr u W) λe d ⟨o,R,g,z⟩=>⟨o,R,(z _ rfl).trans h.box,h.bel.trans (g.mono (Ja1 h.le)),h.le⟩
theorem KSt.put {w0 w:World}{g:Nat}{ob:Obj}{l:List Int}(h:KSt w0 g ob l w)(v:Int)(X:Jn v)(W:l.length<=900000):
 Jf 65 #[.pointer (some ⟨g,0,none⟩),Jo v,Jk 2] w (λe b=>e=.returned (Jk 0)/\KSt w0 g ob (l++be2 v) b):=
 Jb (Oe 2 (.inr rfl) g _ l v X.1 (by unfold PS;simp;omega) w h.wr W) λe b ⟨t,o,u,z⟩=>⟨t,o,(z _ rfl).trans h.box,h.bel.trans (u.mono (Ja1 h.le)),h.le⟩
theorem NS (Z:Nat->Int)(t:Bool)(d:Nat->Int)(p a b:Int)(u:JS ⟨false,Z,t,d,p,a,b⟩=true)(ad:U8 Z)(ag:U8 d)(E:Jm p)(ha:Jn a)(g:Jn b)(w:World):
 Jf 24 #[.agg (kyC false Z t d p a b)] w (J5 w ([4]++Jt false Z++Jt t d++[p]++be2 a++be2 b)):=by
 have L:=λw=>X4 false Z t d p a b w
 rw[u] at L;have o:Hid ((Jt false Z).length<=16):=H (by rw[JB];decide);have s:Hid ((Jt t d).length<=16):=H (by rw[JB];cases t<;>decide);obtain⟨aJ,ao⟩:∃m,(Jt false Z).length=m:=⟨_,rfl⟩
 obtain⟨ar,ae⟩:∃m,(Jt t d).length=m:=⟨_,rfl⟩
 have aO:Hid (∀w,Jf 64 #[adV false Z] w (AY w aJ (Jt false Z))):=H λw=>(bytes_any false Z w).mono λ_ _ h=>h.n ao (JL ad false)
 have aM:Hid (∀w,Jf 64 #[adV t d] w (AY w ar (Jt t d))):=H λw=>(bytes_any t d w).mono λ_ _ h=>h.n ae (JL ag t)
 have N:=H ha;have J:=H g;have aw:=H E;generalize Jt false Z=aA at*;generalize Jt t d=aR at*;obtain⟨z,G⟩:∃z,[4]++aA++aR++[p]++be2 a++be2 b=z:=⟨_,rfl⟩
 rw[G];have Y:=H G;clear G;clear u ha g E ao ae ad ag;unfold kyC adV at*;go_enter func24,ntmps24
 go_wp2_with fail
 refine Calls.later (L _) ?_;intro x;have j:Jh x.world w.heap.size (kyC false Z t d p a b) 30:=(x.below.block _ (by simp)).trans (WP w (.cells (kyC false Z t d p a b) 30));have X:Hid (Ji w x.world):=H (Ww (Below.all (Jc _ _) _));have aK:Jg x.world w.heap.size 0 (.bool false):=by rw[WN _ _ _ _ _ _ j];rfl
 have S:w.heap.size<x.world.heap.size:=(Ja j).1;have P:=H j;clear j;generalize x.world=Q at*;go_wp2_with fail
 obtain⟨r,n⟩:∃r,r=Q.heap.size:=⟨_,rfl⟩
 have aS:w.heap.size<r:=O;have ah:Hid (KSt w r (.cells (kyC false Z t d p a b) 30 (0,0)) [] (Q.alloc (.cells #[Jbo] 137))):=H ⟨WrK.new (by rw[n];exact WN _ _ _ _ _ _ (WP _ _)) (by rw[n];exact Jad _ _ _ _ _ (WP _ _)) (by rw[n];simp) (by intro b g;omega),(YU _ _ S).trans P,Below.all X _,aS⟩;have ai:(Q.alloc (.cells #[Jbo] 137)).heap.size=r+1:=by rw[n];simp
 rw[<-n];generalize Q.alloc (.cells #[Jbo] 137)=aT at*;have I:=AG aT 4 D 5;rw[ai] at I;have v:=H I;clear I ai;refine Jb ((ah.go (Below.all (Jc _ _) (.cells #[(4:Int)] 5))).raw v (by simp)) ?_;clear v ah P aK X S n L;rintro e aq ⟨rfl,l⟩;have ST:=H l;clear l;have aP:Jv aq w.heap.size 0 17=(Jbr false Z:Array Value):=by rw[JG _ _ _ _ _ _ _ ST.box];simp[kyC]
 have aB:w.heap.size<aq.heap.size:=(Ja ST.box).1;go_wp2_with fail
 refine Jb (aO _) ?_;rintro e w4 ⟨a3,aW,rfl,ab,T⟩;have V:=H (ST.go T);have W:=H ab;clear ab T ST aP aB;go_wp2_with fail
 refine Jb (V.raw W (by have:=o.out;simp;omega)) ?_;rintro e aj ⟨rfl,l⟩;have A:=H l;clear l V W;have aH:Jv aj w.heap.size 17 17=(Jbr t d:Array Value):=by rw[JG _ _ _ _ _ _ _ A.box];simp[kyC]
 have aV:w.heap.size<aj.heap.size:=(Ja A.box).1;go_wp2_with fail
 refine Jb (aM _) ?_;rintro e aX ⟨a2,a1,rfl,af,ak⟩;have ap:=H (A.go ak);have am:=H af;clear af ak A aH aV;go_wp2_with fail
 refine Jb (ap.raw am (by have:=o.out;have:=s.out;simp;omega)) ?_;rintro e M ⟨rfl,l⟩;have F:=H l;clear l ap am;have aQ:Jg M w.heap.size 34 (Jq p):=WF 34 F.box;have aE:w.heap.size<M.heap.size:=(Ja F.box).1;have v:=H (AG M p aw 5);have U:=H (F.go (Below.all (Jc _ _) (.cells #[p] 5)));clear F;go_wp2_with fail
 refine Jb (U.raw v (by have:=o.out;have:=s.out;simp;omega)) ?_;rintro e R ⟨rfl,l⟩;have B:=H l;clear l U v aQ aE;have aN:=N.1;have aD:=N.2;have ay:IntKind.u64.wrap a=a:=by rw[JaG];omega
 have aI:Jg R w.heap.size 35 (Jl a):=WF 35 B.box;have aL:w.heap.size<R.heap.size:=(Ja B.box).1;go_wp2_with fail
 refine Jb (B.put a N (by have:=o.out;have:=s.out;simp;omega)) ?_;rintro e ac ⟨rfl,l⟩;have C:=H l;clear l B aI aL aN aD ay;have aF:=J.1;have aG:=J.2;have ax:IntKind.u64.wrap b=b:=by rw[JaG];omega
 have az:Jg ac w.heap.size 36 (Jl b):=WF 36 C.box;have au:w.heap.size<ac.heap.size:=(Ja C.box).1;go_wp2_with fail
 refine Jb (C.put b J (by have:=o.out;have:=s.out;simp[be2];omega)) ?_;rintro e an ⟨rfl,l⟩;have y:Hid (KSt w r (.cells (kyC false Z t d p a b) 30 (0,0)) z an):=H (by rw[<-Y.out];simpa using l);exact Jc9
theorem PJ (Z:Nat->Int)(t:Bool)(d:Nat->Int)(p a b:Int)(u:JS ⟨true,Z,t,d,p,a,b⟩=true)(ad:U8 Z)(ag:U8 d)(E:Jm p)(ha:Jn a)(g:Jn b)(w:World):
 Jf 24 #[.agg (kyC true Z t d p a b)] w (J5 w ([6]++Jt true Z++Jt t d++[p]++be2 a++be2 b)):=by
 have L:=λw=>X4 true Z t d p a b w
 rw[u] at L;have o:Hid ((Jt true Z).length<=16):=H (by rw[JB];decide);have s:Hid ((Jt t d).length<=16):=H (by rw[JB];cases t<;>decide);obtain⟨aJ,ao⟩:∃m,(Jt true Z).length=m:=⟨_,rfl⟩
 obtain⟨ar,ae⟩:∃m,(Jt t d).length=m:=⟨_,rfl⟩
 have aO:Hid (∀w,Jf 64 #[adV true Z] w (AY w aJ (Jt true Z))):=H λw=>(bytes_any true Z w).mono λ_ _ h=>h.n ao (JL ad true)
 have aM:Hid (∀w,Jf 64 #[adV t d] w (AY w ar (Jt t d))):=H λw=>(bytes_any t d w).mono λ_ _ h=>h.n ae (JL ag t)
 have N:=H ha;have J:=H g;have aw:=H E;generalize Jt true Z=aA at*;generalize Jt t d=aR at*;obtain⟨z,G⟩:∃z,[6]++aA++aR++[p]++be2 a++be2 b=z:=⟨_,rfl⟩
 rw[G];have Y:=H G;clear G;clear u ha g E ao ae ad ag;unfold kyC adV at*;go_enter func24,ntmps24
 go_wp2_with fail
 refine Calls.later (L _) ?_;intro x;have j:Jh x.world w.heap.size (kyC true Z t d p a b) 30:=(x.below.block _ (by simp)).trans (WP w (.cells (kyC true Z t d p a b) 30));have X:Hid (Ji w x.world):=H (Ww (Below.all (Jc _ _) _));have aK:Jg x.world w.heap.size 0 (.bool true):=by rw[WN _ _ _ _ _ _ j];rfl
 have S:w.heap.size<x.world.heap.size:=(Ja j).1;have P:=H j;clear j;generalize x.world=Q at*;go_wp2_with fail
 obtain⟨r,n⟩:∃r,r=Q.heap.size:=⟨_,rfl⟩
 have aS:w.heap.size<r:=O;have ah:Hid (KSt w r (.cells (kyC true Z t d p a b) 30 (0,0)) [] (Q.alloc (.cells #[Jbo] 137))):=H ⟨WrK.new (by rw[n];exact WN _ _ _ _ _ _ (WP _ _)) (by rw[n];exact Jad _ _ _ _ _ (WP _ _)) (by rw[n];simp) (by intro b g;omega),(YU _ _ S).trans P,Below.all X _,aS⟩;have ai:(Q.alloc (.cells #[Jbo] 137)).heap.size=r+1:=by rw[n];simp
 rw[<-n];generalize Q.alloc (.cells #[Jbo] 137)=aT at*;have I:=AG aT 6 D 5;rw[ai] at I;have v:=H I;clear I ai;refine Jb ((ah.go (Below.all (Jc _ _) (.cells #[(6:Int)] 5))).raw v (by simp)) ?_;clear v ah P aK X S n L;rintro e aq ⟨rfl,l⟩;have ST:=H l;clear l;have aP:Jv aq w.heap.size 0 17=(Jbr true Z:Array Value):=by rw[JG _ _ _ _ _ _ _ ST.box];simp[kyC]
 have aB:w.heap.size<aq.heap.size:=(Ja ST.box).1;go_wp2_with fail
 refine Jb (aO _) ?_;rintro e w4 ⟨a3,aW,rfl,ab,T⟩;have V:=H (ST.go T);have W:=H ab;clear ab T ST aP aB;go_wp2_with fail
 refine Jb (V.raw W (by have:=o.out;simp;omega)) ?_;rintro e aj ⟨rfl,l⟩;have A:=H l;clear l V W;have aH:Jv aj w.heap.size 17 17=(Jbr t d:Array Value):=by rw[JG _ _ _ _ _ _ _ A.box];simp[kyC]
 have aV:w.heap.size<aj.heap.size:=(Ja A.box).1;go_wp2_with fail
 refine Jb (aM _) ?_;rintro e aX ⟨a2,a1,rfl,af,ak⟩;have ap:=H (A.go ak);have am:=H af;clear af ak A aH aV;go_wp2_with fail
 refine Jb (ap.raw am (by have:=o.out;have:=s.out;simp;omega)) ?_;rintro e M ⟨rfl,l⟩;have F:=H l;clear l ap am;have aQ:Jg M w.heap.size 34 (Jq p):=WF 34 F.box;have aE:w.heap.size<M.heap.size:=(Ja F.box).1;have v:=H (AG M p aw 5);have U:=H (F.go (Below.all (Jc _ _) (.cells #[p] 5)));clear F;go_wp2_with fail
 refine Jb (U.raw v (by have:=o.out;have:=s.out;simp;omega)) ?_;rintro e R ⟨rfl,l⟩;have B:=H l;clear l U v aQ aE;have aN:=N.1;have aD:=N.2;have ay:IntKind.u64.wrap a=a:=by rw[JaG];omega
 have aI:Jg R w.heap.size 35 (Jl a):=WF 35 B.box;have aL:w.heap.size<R.heap.size:=(Ja B.box).1;go_wp2_with fail
 refine Jb (B.put a N (by have:=o.out;have:=s.out;simp;omega)) ?_;rintro e ac ⟨rfl,l⟩;have C:=H l;clear l B aI aL aN aD ay;have aF:=J.1;have aG:=J.2;have ax:IntKind.u64.wrap b=b:=by rw[JaG];omega
 have az:Jg ac w.heap.size 36 (Jl b):=WF 36 C.box;have au:w.heap.size<ac.heap.size:=(Ja C.box).1;go_wp2_with fail
 refine Jb (C.put b J (by have:=o.out;have:=s.out;simp[be2];omega)) ?_;rintro e an ⟨rfl,l⟩;have y:Hid (KSt w r (.cells (kyC true Z t d p a b) 30 (0,0)) z an):=H (by rw[<-Y.out];simpa using l);exact Jc9
theorem Bu (k:Ky)(A:Fz k)(w:World):Jf 24 #[.agg (kyV k)] w (J5 w (JZ k)):=by
 obtain⟨G,Z,t,d,p,a,b⟩:=k;cases hr:JS ⟨G,Z,t,d,p,a,b⟩ with
 |false=>exact RZ G Z t d p a b hr w
 |true=>
  have h:JZ ⟨G,Z,t,d,p,a,b⟩=[if G then 6 else 4]++Jt G Z++Jt t d++[p]++be2 a++be2 b:=by unfold JZ;rw[YH hr]
  rw[h];cases G
  ·exact NS Z t d p a b hr A.S A.T A.p A.a A.b w
  ·exact PJ Z t d p a b hr A.S A.T A.p A.a A.b w
open Go.RowKit Bits
theorem JdK{p:Prop}(h:p:=by
 rw[Dv] at this;exact this.mono λ_ _ h=>h.n rfl (JN _)):p:=h
structure RBy (w0:World)(ob:Obj)(oa:Option Addr)(n cap:Nat)(l:List Int)(w:World):Prop where
 own:J8 w (w0.heap.size+1) 1 oa n cap (l.map (.int .u8))
 box:w.heap[w0.heap.size]? =some ob
 bel:Ji w0 w
theorem RBy.lt {b w:World}{d:Obj}{e:Option Addr}{n o:Nat}{l:List Int}(h:RBy b d e n o l w):b.heap.size<w.heap.size:=(Ja h.box).1
theorem RBy.go {a w d:World}{b:Obj}{e:Option Addr}{n o:Nat}{l:List Int}(h:RBy a b e n o l w)(g:Ji w d):RBy a b e n o l d:=
 ⟨h.own.below g,(g.block _ h.lt).trans h.box,h.bel.trans (g.mono h.bel.size)⟩
theorem RBy.len {b w:World}{d:Obj}{s:Option Addr}{n o:Nat}{l:List Int}(h:RBy b d s n o l w):l.length=n:=by have:=h.own.len;simpa using this
theorem RBy.add {b w d:World}{y:Obj}{s j:Option Addr}{n m o t:Nat}{l g:List Int}(h:RBy b y s n o l w)(p:J8 d (b.heap.size+1) 1 j (n+m) t (l.map (.int .u8)++g.map (.int .u8)))(r:w.grownBy d (s.map Addr.block)):RBy b y j (n+m) t (l++g) d:=by
 rw[<-Jaj] at p;refine⟨p,(r.block _ h.lt (λe=>?_)).trans h.box,Wv h.bel (h.own.mono (JaZ _)) (Je _) r h.bel.size⟩;obtain⟨a,ha,z⟩:=Yb.1 e.symm;have:=(h.own.lt ha).1;omega
theorem Mq (Z:Nat->Int)(t:Bool)(d:Nat->Int)(p a b:Int)(u:JS ⟨false,Z,t,d,p,a,b⟩=true)(X:U8 Z)(aa:U8 d)(E:Jm p)(ha:Jn a)(ab:Jn b)(w:World):
 Jf 25 #[.agg (kyC false Z t d p a b)] w (J5 w ([4]++Jt false Z++Jt t d++[p]++be2 a++be2 b)):=by
 have N:=λw=>QT false Z t d p a b w
 rw[u] at N;have n:Hid ((Jt false Z).length<=16):=H (by rw[JB];decide);have o:Hid ((Jt t d).length<=16):=H (by rw[JB];cases t<;>decide);obtain⟨P,S⟩:∃m,(Jt false Z).length=m:=⟨_,rfl⟩
 obtain⟨I,Q⟩:∃m,(Jt t d).length=m:=⟨_,rfl⟩
 have aI:Hid (∀w,Jf 45 #[adV false Z] w (AY w P (Jt false Z))):=H λw=>(QV false Z w).mono λ_ _ h=>h.n S (JL X false)
 have aG:Hid (∀w,Jf 45 #[adV t d] w (AY w I (Jt t d))):=H λw=>(QV t d w).mono λ_ _ h=>h.n Q (JL aa t)
 have aN:Hid (∀w,Jf 67 #[Jo a,Jk 2] w (AY w 2 (be2 a))):=H λw=>by
  have:=X2 2 a w D ha.1 O;exact JdK
 have au:Hid (∀w,Jf 67 #[Jo b,Jk 2] w (AY w 2 (be2 b))):=H λw=>by
  have:=X2 2 b w D ab.1 O;exact JdK
 have aq:=H E;have aU:IntKind.u64.wrap a=a:=by rw[JaG];omega
 have aT:IntKind.u64.wrap b=b:=by rw[JaG];omega
 rw[S] at n;rw[Q] at o;generalize Jt false Z=U at*;generalize Jt t d=ai at*;obtain⟨M,J⟩:∃M,[4]++U++ai++[p]++be2 a++be2 b=M:=⟨_,rfl⟩
 rw[J];have av:=H J;clear J u ha ab E S Q X aa;unfold kyC adV at*;go_enter func25,ntmps25
 go_wp2_with fail
 refine Calls.later (N _) ?_;intro x;have j:Jh x.world w.heap.size (kyC false Z t d p a b) 38:=(x.below.block _ (by simp)).trans (WP w (.cells (kyC false Z t d p a b) 38));have aj:Ji w x.world:=Ww (Below.all (Jc _ _) _);have aD:Jg x.world w.heap.size 0 (.bool false):=by rw[WN _ _ _ _ _ _ j];rfl
 have T:w.heap.size<x.world.heap.size:=(Ja j).1;have F:Hid (RBy w (.cells (kyC false Z t d p a b) 38 (0,0)) (some ⟨x.world.heap.size,0,none⟩) 1 1 [4] (x.world.alloc (.cells #[(4:Int)] 5))):=H ⟨(AA (vs:=[.int .u8 4]) (WP _ _) D).mono O,(YU _ _ T).trans j,Below.all aj _⟩;have aJ:Jv (x.world.alloc (.cells #[(4:Int)] 5)) w.heap.size 0 17=(Jbr false Z:Array Value):=by rw[JG _ _ _ _ _ _ _ F.box];simp[kyC]
 clear j N;go_wp2_with fail
 obtain⟨a6,V⟩:∃aE,aE=some (⟨x.world.heap.size,0,none⟩:Addr):=⟨_,rfl⟩
 rw[<-V] at F|-;clear V aj aD T aJ;generalize x.world.alloc _=aY at*;refine Jb (aI _) ?_;rintro e aW ⟨bb,a2,rfl,ae,W⟩;have s:=H (F.go W);have ax:=H ae;clear ae W F;go_wp2_with (at_builtin;refine JJ.of ?_)
 refine JJ.mk ?_;refine JI _ rfl _ _ 22 rfl 5 (w.heap.size+1) underlying22 infoU8 _ _ _ _ rfl s.own _ P _ U rfl ax (by have:=n.out;omega) s.lt ?_;intro a9 a4 w2 l g L;have C:=H (s.add l g);clear l g L s;have ay:Jv w2 w.heap.size 17 17=(Jbr t d:Array Value):=by rw[JG _ _ _ _ _ _ _ C.box];simp[kyC]
 have al:=C.lt;go_wp2_with fail
 refine Jb (aG _) ?_;rintro e ba ⟨a8,a3,rfl,Y,ah⟩;have B:=H (C.go ah);have aB:=H Y;clear Y ah C ay al;go_wp2_with (at_builtin;refine JJ.of ?_)
 refine JJ.mk ?_;refine JI _ rfl _ _ 22 rfl 5 (w.heap.size+1) underlying22 infoU8 _ _ _ _ rfl B.own _ I _ ai rfl aB (by have:=n.out;have:=o.out;omega) B.lt ?_;intro aO a5 w4 l g L;have A:=H (B.add l g);clear l g L B;have aK:Jg w4 w.heap.size 34 (Jq p):=WF 34 A.box;have az:=A.lt;have y:=H (A.go (Below.all (Jc _ _) (.cells #[p] 5)));have ap:=H (AG w4 p aq 5);clear A;go_wp2_with (at_builtin;refine JJ.of ?_)
 refine JJ.mk ?_;refine JI _ rfl _ _ 22 rfl 5 (w.heap.size+1) underlying22 infoU8 _ _ _ _ rfl y.own _ 1 _ [p] rfl ap (by have:=n.out;have:=o.out;omega) y.lt ?_;intro aQ a7 ao l g L;have v:=H (y.add l g);clear l g L y;have aA:Jg ao w.heap.size 35 (Jl a):=WF 35 v.box;have aL:=v.lt;clear aK az;go_wp2_with fail
 refine Jb (aN _) ?_;rintro e a0 ⟨aZ,aX,rfl,ac,ak⟩;have z:=H (v.go ak);have am:=H ac;clear ac ak v aA aL;go_wp2_with (at_builtin;refine JJ.of ?_)
 refine JJ.mk ?_;refine JI _ rfl _ _ 22 rfl 5 (w.heap.size+1) underlying22 infoU8 _ _ _ _ rfl z.own _ 2 _ (be2 a) rfl am (by have:=n.out;have:=o.out;omega) z.lt ?_;intro aR aV aH l g L;have G:=H (z.add l g);clear l g L z;have ar:Jg aH w.heap.size 36 (Jl b):=WF 36 G.box;have an:=G.lt;go_wp2_with fail
 refine Jb (au _) ?_;rintro e aP ⟨a1,aS,rfl,ag,ad⟩;have r:=H (G.go ad);have aF:=H ag;clear ag ad G ar an;go_wp2_with (at_builtin;refine JJ.of ?_)
 refine JJ.mk ?_;refine JI _ rfl _ _ 22 rfl 5 (w.heap.size+1) underlying22 infoU8 _ _ _ _ rfl r.own _ 2 _ (be2 b) rfl aF (by have:=n.out;have:=o.out;omega) r.lt ?_;intro aM aw aC l g L;have af:=H (r.add l g);clear l g L r;have R:Hid (RBy w (.cells (kyC false Z t d p a b) 38 (0,0)) aM (1+P+I+1+2+2) aw M aC):=H (by rw[<-av.out];exact af);clear af;go_wp2_with fail
 go_ret;exact .mk (R.own.mono (JaZ _)) R.len.symm R.bel
theorem NT (Z:Nat->Int)(t:Bool)(d:Nat->Int)(p a b:Int)(u:JS ⟨true,Z,t,d,p,a,b⟩=true)(X:U8 Z)(aa:U8 d)(E:Jm p)(ha:Jn a)(ab:Jn b)(w:World):
 Jf 25 #[.agg (kyC true Z t d p a b)] w (J5 w ([6]++Jt true Z++Jt t d++[p]++be2 a++be2 b)):=by
 have N:=λw=>QT true Z t d p a b w
 rw[u] at N;have n:Hid ((Jt true Z).length<=16):=H (by rw[JB];decide);have o:Hid ((Jt t d).length<=16):=H (by rw[JB];cases t<;>decide);obtain⟨P,S⟩:∃m,(Jt true Z).length=m:=⟨_,rfl⟩
 obtain⟨I,Q⟩:∃m,(Jt t d).length=m:=⟨_,rfl⟩
 have aI:Hid (∀w,Jf 45 #[adV true Z] w (AY w P (Jt true Z))):=H λw=>(QV true Z w).mono λ_ _ h=>h.n S (JL X true)
 have aG:Hid (∀w,Jf 45 #[adV t d] w (AY w I (Jt t d))):=H λw=>(QV t d w).mono λ_ _ h=>h.n Q (JL aa t)
 have aN:Hid (∀w,Jf 67 #[Jo a,Jk 2] w (AY w 2 (be2 a))):=H λw=>by
  have:=X2 2 a w D ha.1 O;exact JdK
 have au:Hid (∀w,Jf 67 #[Jo b,Jk 2] w (AY w 2 (be2 b))):=H λw=>by
  have:=X2 2 b w D ab.1 O;exact JdK
 have aq:=H E;have aU:IntKind.u64.wrap a=a:=by rw[JaG];omega
 have aT:IntKind.u64.wrap b=b:=by rw[JaG];omega
 rw[S] at n;rw[Q] at o;generalize Jt true Z=U at*;generalize Jt t d=ai at*;obtain⟨M,J⟩:∃M,[6]++U++ai++[p]++be2 a++be2 b=M:=⟨_,rfl⟩
 rw[J];have av:=H J;clear J u ha ab E S Q X aa;unfold kyC adV at*;go_enter func25,ntmps25
 go_wp2_with fail
 refine Calls.later (N _) ?_;intro x;have j:Jh x.world w.heap.size (kyC true Z t d p a b) 38:=(x.below.block _ (by simp)).trans (WP w (.cells (kyC true Z t d p a b) 38));have aj:Ji w x.world:=Ww (Below.all (Jc _ _) _);have aD:Jg x.world w.heap.size 0 (.bool true):=by rw[WN _ _ _ _ _ _ j];rfl
 have T:w.heap.size<x.world.heap.size:=(Ja j).1;have F:Hid (RBy w (.cells (kyC true Z t d p a b) 38 (0,0)) (some ⟨x.world.heap.size,0,none⟩) 1 1 [6] (x.world.alloc (.cells #[(6:Int)] 5))):=H ⟨(AA (vs:=[.int .u8 6]) (WP _ _) D).mono O,(YU _ _ T).trans j,Below.all aj _⟩;have aJ:Jv (x.world.alloc (.cells #[(6:Int)] 5)) w.heap.size 0 17=(Jbr true Z:Array Value):=by rw[JG _ _ _ _ _ _ _ F.box];simp[kyC]
 clear j N;go_wp2_with fail
 obtain⟨a6,V⟩:∃aE,aE=some (⟨x.world.heap.size,0,none⟩:Addr):=⟨_,rfl⟩
 rw[<-V] at F|-;clear V aj aD T aJ;generalize x.world.alloc _=aY at*;refine Jb (aI _) ?_;rintro e aW ⟨bb,a2,rfl,ae,W⟩;have s:=H (F.go W);have ax:=H ae;clear ae W F;go_wp2_with (at_builtin;refine JJ.of ?_)
 refine JJ.mk ?_;refine JI _ rfl _ _ 22 rfl 5 (w.heap.size+1) underlying22 infoU8 _ _ _ _ rfl s.own _ P _ U rfl ax (by have:=n.out;omega) s.lt ?_;intro a9 a4 w2 l g L;have C:=H (s.add l g);clear l g L s;have ay:Jv w2 w.heap.size 17 17=(Jbr t d:Array Value):=by rw[JG _ _ _ _ _ _ _ C.box];simp[kyC]
 have al:=C.lt;go_wp2_with fail
 refine Jb (aG _) ?_;rintro e ba ⟨a8,a3,rfl,Y,ah⟩;have B:=H (C.go ah);have aB:=H Y;clear Y ah C ay al;go_wp2_with (at_builtin;refine JJ.of ?_)
 refine JJ.mk ?_;refine JI _ rfl _ _ 22 rfl 5 (w.heap.size+1) underlying22 infoU8 _ _ _ _ rfl B.own _ I _ ai rfl aB (by have:=n.out;have:=o.out;omega) B.lt ?_;intro aO a5 w4 l g L;have A:=H (B.add l g);clear l g L B;have aK:Jg w4 w.heap.size 34 (Jq p):=WF 34 A.box;have az:=A.lt;have y:=H (A.go (Below.all (Jc _ _) (.cells #[p] 5)));have ap:=H (AG w4 p aq 5);clear A;go_wp2_with (at_builtin;refine JJ.of ?_)
 refine JJ.mk ?_;refine JI _ rfl _ _ 22 rfl 5 (w.heap.size+1) underlying22 infoU8 _ _ _ _ rfl y.own _ 1 _ [p] rfl ap (by have:=n.out;have:=o.out;omega) y.lt ?_;intro aQ a7 ao l g L;have v:=H (y.add l g);clear l g L y;have aA:Jg ao w.heap.size 35 (Jl a):=WF 35 v.box;have aL:=v.lt;clear aK az;go_wp2_with fail
 refine Jb (aN _) ?_;rintro e a0 ⟨aZ,aX,rfl,ac,ak⟩;have z:=H (v.go ak);have am:=H ac;clear ac ak v aA aL;go_wp2_with (at_builtin;refine JJ.of ?_)
 refine JJ.mk ?_;refine JI _ rfl _ _ 22 rfl 5 (w.heap.size+1) underlying22 infoU8 _ _ _ _ rfl z.own _ 2 _ (be2 a) rfl am (by have:=n.out;have:=o.out;omega) z.lt ?_;intro aR aV aH l g L;have G:=H (z.add l g);clear l g L z;have ar:Jg aH w.heap.size 36 (Jl b):=WF 36 G.box;have an:=G.lt;go_wp2_with fail
 refine Jb (au _) ?_;rintro e aP ⟨a1,aS,rfl,ag,ad⟩;have r:=H (G.go ad);have aF:=H ag;clear ag ad G ar an;go_wp2_with (at_builtin;refine JJ.of ?_)
 refine JJ.mk ?_;refine JI _ rfl _ _ 22 rfl 5 (w.heap.size+1) underlying22 infoU8 _ _ _ _ rfl r.own _ 2 _ (be2 b) rfl aF (by have:=n.out;have:=o.out;omega) r.lt ?_;intro aM aw aC l g L;have af:=H (r.add l g);clear l g L r;have R:Hid (RBy w (.cells (kyC true Z t d p a b) 38 (0,0)) aM (1+P+I+1+2+2) aw M aC):=H (by rw[<-av.out];exact af);clear af;go_wp2_with fail
 go_ret;exact .mk (R.own.mono (JaZ _)) R.len.symm R.bel
theorem DB (k:Ky)(A:Fz k)(w:World):Jf 25 #[.agg (kyV k)] w (J5 w (JZ k)):=by
 obtain⟨G,Z,t,d,p,a,b⟩:=k;cases hr:JS ⟨G,Z,t,d,p,a,b⟩ with
 |false=>exact Ps G Z t d p a b hr w
 |true=>
  have h:JZ ⟨G,Z,t,d,p,a,b⟩=[if G then 6 else 4]++Jt G Z++Jt t d++[p]++be2 a++be2 b:=by unfold JZ;rw[YH hr]
  rw[h];cases G
  ·exact Mq Z t d p a b hr A.S A.T A.p A.a A.b w
  ·exact NT Z t d p a b hr A.S A.T A.p A.a A.b w
def Is (k m:Ky):Bool:=UZ k.s k.S m.s m.S&&(UZ k.t k.T m.t m.T&&(k.p==m.p&&(k.a==m.a&&k.b==m.b)))
structure Si (k m:Ky):Prop where
 s:k.s=m.s
 S:∀i,i<16->k.S i=m.S i
 t:k.t=m.t
 T:∀i,i<16->k.T i=m.T i
 p:k.p=m.p
 a:k.a=m.a
 b:k.b=m.b
theorem Ty {k m:Ky}:Is k m=true↔Si k m:=by
 unfold Is;simp only[YO,SY,Y2];constructor
 ·rintro⟨⟨j,y⟩,⟨Y,b⟩,a,d,e⟩;exact⟨j,y,Y,b,a,d,e⟩
 ·rintro⟨j,y,Y,b,a,d,e⟩;exact⟨⟨j,y⟩,⟨Y,b⟩,a,d,e⟩
theorem Si.value {k m:Ky}(h:Si k m):kyV k=kyV m:=by
 unfold kyV;rw[h.s,h.t,h.p,h.a,h.b];exact R2 h.S h.T
theorem Zh (k:Ky)(A:Fz k):JF (JZ k):=by
 unfold JZ;split
 ·have b:∀G {U:Nat->Int},U8 U->JF (Jt G U):=λG U d v a=>by
   unfold Jt at a;obtain⟨i,-,rfl⟩:=Yq.1 a;exact d i
  refine Jx (Jx (Jx (Jx (Jx ?_ (b _ A.S)) (b _ A.T)) ?_) (JN _)) (JN _)
  ·intro v a;obtain rfl:=YI.1 a;split<;>decide
  ·intro v a;obtain rfl:=YI.1 a;exact A.p
 ·intro v a;cases a
theorem DC (k:Ky):(JZ k).length<=38:=by
 unfold JZ;split
 ·simp only[WV,Ys,JB,be2,Yy,Jau];have:∀G,(Ga G).toNat<=16:=D;have j:=this k.s;have y:=this k.t;omega
 ·simp
theorem Jer{p:Prop}(h:p:=by
 go_wp2_with fail
 go_ret;exact .mk (by rw[F.out];rfl) P):p:=h
theorem G8 {P:Program}{w:World}{s:Option Addr}{n c:Nat}{l:List Int}(h:JA w s n c l):(Extern.Bytes.bytesOf (.slice s n c)).run P w=.ok ⟨(Lib.bytesOf l).toArray⟩ w:=by
 obtain rfl:=h.len;cases s with
 |none=>
  rcases h.at' with X|⟨r,d,e,-⟩
  ·obtain rfl:=WL X;rfl
  ·cases e
 |some a=>
  rcases h.at' with X|⟨r,d,e,-,I⟩
  ·obtain rfl:=WL X;exact Lib.run_loadBytesX (P:=P) w [] a .empty (λJ x b=>by cases b)
  ·cases e
   have:=Lib.run_loadBytesX (P:=P) w l ⟨r,d,none⟩ .empty (λJ x b=>by
    rw[W3];have M:=(W0.1 b).1;rw[I J M,Yi,b];rfl)
   simpa[Extern.Bytes.bytesOf] using this
theorem HM {P:Program}{w:World}{l b:Option Addr}{g a n d:Nat}{p o:List Int}(j:JA w l g n p)(y:JA w b a d o):
 (Extern.BytealgCompare.compare #[.slice l g n,.slice b a d]).run P w=.ok (Jk (Lib.compareBytes (Lib.bytesOf p) (Lib.bytesOf o))) w:=by
 have s:=G8 (P:=P) j;have r:=G8 (P:=P) y;change Sem.run P (do pure (goInt (Extern.BytealgCompare.cmp (<-Extern.Bytes.bytesOf (.slice l g n)) (<-Extern.Bytes.bytesOf (.slice b a d))))) w=_
 simp only[Y0,s,r,Sem.run_pure,Result.andThen];rw[Lib.cmp_eq];simp[goInt]
theorem Mr {o g:Option Addr}{n d p l:Nat}{b a:List Int}{w:World}(j:JA w o n p b)(y:JA w g d l a):
 Jf 75 #[.slice o n p,.slice g d l] w (Jz w (Jk (Lib.compareBytes (Lib.bytesOf b) (Lib.bytesOf a)))):=by
 have r:=HM (P:=prog) j y;clear j y;generalize Lib.compareBytes (Lib.bytesOf b) (Lib.bytesOf a)=s at*;go_enter func75,ntmps75
 go_wp2
 rw[run_callFunc_extern func135 K K K (e:=Extern.BytealgCompare.compare) K,r];simp only[Result.andThen];rw[Oper.upon_value];go_wp2
 go_ret;exact⟨rfl,Jc _ _⟩
theorem Ox (k m:Ky)(A:Fz k)(W:Fz m)(w:World):Jf 30 #[.agg (kyV k),.agg (kyV m)] w (Jz w (Jk (Do k m))):=by
 obtain⟨u,P⟩:∃n,(JZ k).length=n:=⟨_,rfl⟩
 obtain⟨B,N⟩:∃n,(JZ m).length=n:=⟨_,rfl⟩
 have Z:Hid (∀w,Jf 24 #[.agg (kyV k)] w (AY w u (JZ k))):=H λw=>(Bu k A w).mono λ_ _ h=>h.n P (Zh k A)
 have X:Hid (∀w,Jf 24 #[.agg (kyV m)] w (AY w B (JZ m))):=H λw=>(Bu m W w).mono λ_ _ h=>h.n N (Zh m W)
 have ac:Hid (Do k m=Lib.compareBytes (Lib.bytesOf (JZ k)) (Lib.bytesOf (JZ m))):=H rfl;have b:=((Bx.start w).box (kyV k) 30).box (kyV m) 30;rw[show(w.alloc (.cells (kyV k) 30)).heap.size=w.heap.size+1 by simp] at b;have o:=H b;generalize Do k m=U at*;generalize JZ k=R at*;generalize JZ m=af at*;clear b P N A W;obtain⟨L,C⟩:∃c,c=kyV k:=⟨_,rfl⟩
 obtain⟨s,E⟩:∃c,c=kyV m:=⟨_,rfl⟩
 have aj:L.size=37:=by rw[C];rfl
 have J:s.size=37:=by rw[E];rfl
 rw[<-C,<-E] at o|-;rw[<-C] at Z;rw[<-E] at X;clear C E;go_enter func30,ntmps30
 go_wp2_with fail
 generalize (w.alloc _).alloc _=Q at*;have Y:w.heap.size<Q.heap.size:=o.lt 1 rfl;have I:w.heap.size+1<Q.heap.size:=o.lt 0 rfl;have T:Jv Q (w.heap.size+1) 0 37=s:=o.part 0 rfl J;refine QN [.h,.w,.h] [(2,1,0)] (λ_ d=>Jv d (w.heap.size+1) 0 37=s) [1] [(.w,1),(.w,3),(.w,4),(.q,5)] K K K K ?_;apply Exists.intro;refine⟨λF b=>?_,?_,?_⟩
 ·have ay:w.heap.size<F.heap.size:=Jd Y b.size;have az:w.heap.size+1<F.heap.size:=Jd I b.size;have ax:Jv F w.heap.size 0 37=L:=(o.go b).part 1 rfl aj;have av:Jv F (w.heap.size+1) 0 37=s:=(o.go b).part 0 rfl J;clear b;exact JcB
 ·intro q V ar an;simp only[YE,YF,YG] at V;rcases V with rfl;cases an;exact⟨_,rfl,rfl,λw2 ak=>Z3 _ w2 _ s K ak J⟩
 simp only[Qp,Ja0,Jbf];refine⟨λv t w2=>∃a l,v=.slice a u l/\JA w2 a u l R/\Ji Q w2,?_,?_,(λh=>by cases h),?_⟩
 ·rintro t rfl;refine⟨rfl,λd z=>.inr ⟨24,#[.agg L],K,?_⟩⟩;obtain⟨⟨x,rfl⟩,-⟩:=z;refine(Z x.world).mono ?_;rintro e w2 ⟨a,l,rfl,j,g⟩;exact⟨_,rfl,a,l,rfl,j,Wx x.below g⟩
 ·rintro v aq au-w2 ⟨a,l,-,-,g⟩;exact(J0 g _ 0 37 I).trans T
 rintro v ⟨ah,ag,a,l,rfl,-⟩;refine⟨λv t w2=>∃p r,v=.slice p B r/\JA w2 a u l R/\JA w2 p B r af/\Ji Q w2,?_,λ_ _=>J4 rfl,(λh=>by cases h),?_⟩
 ·rintro t rfl;refine⟨rfl,λd z=>.inr ⟨24,#[.agg s],K,?_⟩⟩;obtain⟨ai,ab,M,j,G⟩:=z;obtain⟨rfl,rfl⟩:a=ai/\l=ab:=by simpa using M
  refine(X d).mono ?_;rintro e w2 ⟨p,r,rfl,y,g⟩;exact⟨_,rfl,p,r,rfl,j.below g,y,Wx G g⟩
 rintro v ⟨ao,ap,p,r,rfl,-⟩;refine⟨λv t w2=>v=.int .i64 U/\Ji Q w2,?_,λ_ _=>J4 rfl,(λh=>by cases h),?_⟩
 ·rintro t rfl;refine⟨rfl,λd z=>.inr ⟨75,#[.slice a u l,.slice p B r],K,?_⟩⟩;obtain⟨am,al,M,j,y,G⟩:=z;obtain⟨rfl,rfl⟩:p=am/\r=al:=by simpa using M
  refine(Mr j y).mono ?_;rintro e w2 ⟨rfl,g⟩;rw[<-ac.out];exact⟨_,rfl,rfl,Wx G g⟩
 rintro v ⟨aa,ae,rfl,-⟩;refine⟨.int .i64 U,⟨rfl,λ_=>K⟩,?_⟩;rintro aw ⟨-,S⟩;have ad:=H (o.out.out.trans (S.mono o.out.out.size));clear ah ao aa ag ap ae T Y I S;simp only[Act.put,Ja6,Ja7,Ja8];go_wp2_with fail
 go_ret;exact .mk rfl ad
theorem Ms:∀a b:List UInt8,(Op.bytesLess a b=true/\Lib.compareBytes a b=-1)\/(Op.bytesLess a b=false/\(a==b)=false/\Lib.compareBytes a b=1)\/(Op.bytesLess a b=false/\(a==b)=true/\Lib.compareBytes a b=0)
 |[],[]=>.inr (.inr ⟨rfl,rfl,rfl⟩)
 |[],_::_=>.inl ⟨rfl,rfl⟩
 |_::_,[]=>.inr (.inl ⟨rfl,rfl,rfl⟩)
 |x::a,Q::b=>by
  have d:=Ms a b;unfold Op.bytesLess Lib.compareBytes;by_cases j:x<Q
  ·rw[YH j];left;simp[j]
  ·by_cases y:Q<x
   ·have g:¬x=Q:=λe=>UInt8.lt_irrefl _ (e▸y)
    rw[Yw j,YH y];right;left;simp[j,g]
   ·have e:x=Q:=UInt8.le_antisymm (UInt8.not_lt.1 y) (UInt8.not_lt.1 j);subst e;rw[Yw j,Yw y];simpa using d
theorem Sj (k m:Ky)(A:Fz k)(W:Fz m)(w:World):Jf 31 #[.agg (kyV k),.agg (kyV m)] w (Jz w (Jk (Do k m))):=by
 obtain⟨E,ab⟩:∃n,(JZ k).length=n:=⟨_,rfl⟩
 obtain⟨I,aa⟩:∃n,(JZ m).length=n:=⟨_,rfl⟩
 have aj:Hid (∀w,Jf 25 #[.agg (kyV k)] w (AY w E (JZ k))):=H λw=>(DB k A w).mono λ_ _ h=>h.n ab (Zh k A)
 have af:Hid (∀w,Jf 25 #[.agg (kyV m)] w (AY w I (JZ m))):=H λw=>(DB m W w).mono λ_ _ h=>h.n aa (Zh m W)
 have t:Hid (Do k m=Lib.compareBytes (Lib.bytesOf (JZ k)) (Lib.bytesOf (JZ m))):=H rfl;have l:=((Bx.start w).box (kyV k) 38).box (kyV m) 38;rw[show(w.alloc (.cells (kyV k) 38)).heap.size=w.heap.size+1 by simp] at l;have p:=H l;generalize Do k m=V at*;generalize JZ k=e at*;generalize JZ m=o at*;clear l ab aa A W;obtain⟨X,J⟩:∃c,c=kyV k:=⟨_,rfl⟩
 obtain⟨z,L⟩:∃c,c=kyV m:=⟨_,rfl⟩
 have am:X.size=37:=by rw[J];rfl
 have T:z.size=37:=by rw[L];rfl
 rw[<-J,<-L] at p|-;rw[<-J] at aj;rw[<-L] at af;clear J L;go_enter func31,ntmps31
 go_wp2_with fail
 generalize (w.alloc _).alloc _=Q at*;have ag:w.heap.size<Q.heap.size:=p.lt 1 rfl;have S:w.heap.size+1<Q.heap.size:=p.lt 0 rfl;have ad:Jv Q (w.heap.size+1) 0 37=z:=p.part 0 rfl T;refine QO [.h,.w,.w,.h] [(3,1,0)] (λ_ d=>Jv d (w.heap.size+1) 0 37=z) [1] [(.w,1),(.c,2),(.w,4),(.c,5),(.q,6),(.q,7)] K K K K ?_;apply Exists.intro;refine⟨λM l=>?_,?_,?_⟩
 ·have ax:w.heap.size<M.heap.size:=Jd ag l.size;have ay:w.heap.size+1<M.heap.size:=Jd S l.size;have aw:Jv M w.heap.size 0 37=X:=(p.go l).part 1 rfl am;have au:Jv M (w.heap.size+1) 0 37=z:=(p.go l).part 0 rfl T;clear l;exact JcB
 ·intro q ae aq ao;simp only[YE,YF,YG] at ae;rcases ae with rfl;cases ao;exact⟨_,rfl,rfl,λw2 R=>LY _ w2 _ z K R T⟩
 simp only[Qp,Ja0,Jbf];refine⟨λv C w2=>∃a b,v=.slice a E b/\JA w2 a E b e/\Ji Q w2,?_,?_,?_⟩
 ·refine⟨rfl,λd Z=>.inr ⟨25,#[.agg X],K,?_⟩⟩;obtain⟨⟨x,rfl⟩,-⟩:=Z;refine(aj x.world).mono ?_;rintro an w2 ⟨a,b,rfl,j,g⟩;exact⟨_,rfl,a,b,rfl,j,Wx x.below g⟩
 ·rintro v C ar-w2 ⟨a,b,-,-,g⟩;exact(J0 g _ 0 37 S).trans ad
 rintro v ⟨al,a,b,rfl,-⟩;refine⟨.string (strOfNums e),λd=>JA d a E b e,⟨rfl,λd R=>Xv _ _ K (Qg R)⟩,?_,?_⟩
 ·rintro C d ⟨U,N,G,j,-⟩;obtain⟨rfl,rfl⟩:a=U/\b=N:=by simpa using G
  exact j
 refine⟨λv C w2=>∃r s,v=.slice r I s/\JA w2 a E b e/\JA w2 r I s o/\Ji Q w2,?_,?_,?_⟩
 ·refine⟨rfl,λd Z=>.inr ⟨25,#[.agg z],K,?_⟩⟩;obtain⟨U,N,G,j,ak⟩:=Z;obtain⟨rfl,rfl⟩:a=U/\b=N:=by simpa using G
  refine(af d).mono ?_;rintro an w2 ⟨r,s,rfl,y,g⟩;exact⟨_,rfl,r,s,rfl,j.below g,y,Wx ak g⟩
 ·intro v C;exact BO (J4 rfl) (λw2 ⟨_,_,_,j,_⟩=>j)
 rintro v ⟨ap,r,s,rfl,-⟩;refine⟨.string (strOfNums o),λd=>JA d r I s o,⟨rfl,λd R=>Xv _ _ K (Qg R)⟩,?_,?_⟩
 ·rintro C d ⟨ai,ah,G,-,y,-⟩;obtain⟨rfl,rfl⟩:r=ai/\s=ah:=by simpa using G
  exact y
 refine⟨.string (strOfNums e),⟨rfl,λ_=>K⟩,?_⟩;refine⟨.string (strOfNums o),⟨rfl,λ_=>K⟩,?_⟩;rintro av ⟨ai,ah,-,-,-,ac⟩;have P:=H (p.out.out.trans (ac.mono p.out.out.size));clear al ap ad ag S ac;simp only[Act.put,Ja6,Ja7,Ja8];have B:(strOfNums e).toList=Lib.bytesOf e:=Lib.strOfNums_toList e;have u:(strOfNums o).toList=Lib.bytesOf o:=Lib.strOfNums_toList o;rcases Ms (strOfNums e).toList (strOfNums o).toList with ⟨j,y⟩|⟨j,y,Y⟩|⟨j,y,Y⟩
 ·have F:Hid (V=-1):=H (by rw[t.out,<-B,<-u];exact y);clear B u y t;exact Jer
 ·have F:Hid (V=1):=H (by rw[t.out,<-B,<-u];exact Y);clear B u Y t;exact Jer
 ·have F:Hid (V=0):=H (by rw[t.out,<-B,<-u];exact Y);clear B u Y t;exact Jer
theorem Mt (k:Nat):∀(m:Int) (w:World),0<=m->m<65536->m<=k->Jf 73 #[Jk m,Jk 16] w (Jz w (.string ⟨(X1 16 m.toNat).toArray⟩)):=by
 induction k with
 |zero=>
  exact JdF
 |succ k a=>
  intro m w X j A;by_cases W:m<16
  ·obtain⟨N,rfl⟩:∃N:Nat,m=N:=⟨m.toNat,O⟩
   have g:=BB N O;clear a;exact Jep
  ·have b:=H a;have r:m.tdiv 16=m/16:=Jaw X;have v:m.tmod 16=m%16:=Jax X;have u:IntKind.i64.wrap (m/16)=m/16:=Jay _ O;have t:IntKind.i64.wrap (m%16)=m%16:=Jay _ O;have e:(X1 16 (m/16).toNat).length<=100000:=by have:=Aw 16 _ _ (Je (m/16).toNat);omega
   have l:(X1 16 (m%16).toNat).length<=100000:=by have:=Aw 16 _ _ (Je (m%16).toNat);omega
   have o:(X1 16 (m/16).toNat).length+(X1 16 (m%16).toNat).length<=9223372036854775807:=O;have s:((X1 16 (m/16).toNat).length:Int)+((X1 16 (m%16).toNat).length:Int)<=9223372036854775807:=O;have p:=XM (X1 16 (m/16).toNat) (X1 16 (m%16).toNat) e l;clear a;go_enter func73,ntmps73
   go_wp2_with fail
   refine JM K K ?_;iterate 4 go_big_quiet_step (fail)
   go_big_quiet_step ((go_at_call 73;exact JD (b (m/16) _ O O O)))
   iterate 4 go_big_quiet_step (fail)
   go_big_quiet_step ((go_at_call 73;exact JD (b (m%16) _ O O O)))
   repeat go_big_quiet_step (fail)
   refine Jaa ?_;intro x;go_wp2_with fail
   go_ret;refine .mk (AC ?_) x.below;have n:m.toNat/16=(m/16).toNat:=O;have d:m.toNat%16=(m%16).toNat:=O;rw[X1.eq_def 16 m.toNat,dif_neg O,n,d,X1.eq_def 16 (m%16).toNat,Jan O];exact Q5 _ [_]
theorem Sk (z:Nat->Bool):∀(f i:Nat),FL z f i<=f
 |0,_=>Je _
 |f+1,i=>by
  rw[FL];have:=Sk z f (i+1);split<;>omega
theorem UE (b:Bool)(U:Nat->Int)(C:U8 U)(a:Nat->Bool)(E:∀k,k<8->a k=(K6 U k==0))(i:Nat)(F:i<=8)(w:World):
 Jf 133 #[adV b U,Jk (i:Int)] w (Jz w (Jk ((FL a (8-i) i:Nat):Int))):=by
 have j:Hid (Qa (w.alloc (.cells (Jbr b U) 36)) w.heap.size 36 b U):=H (Qa.made w _ b U);have I:=H (Below.all (Jc w.heap.size w) (.cells (Jbr b U) 36));have N:=H (λk A w=>HV b U C k A w);have J:=H E;clear C E;unfold adV at*;go_enter func133,ntmps133
 go_wp2_with fail
 generalize w.alloc (.cells (Jbr b U) 36)=V at*;go_loopw [5] (λu5 wr=>∃n:Nat,i+n<=8/\u5=.int .i64 n/\Hid (FL a (8-i) i=n+FL a (8-(i+n)) (i+n))/\Hid (Qa wr w.heap.size 36 b U)/\Hid (Ji w wr)) (λu5 _=>(8:Int)-intOf u5 |>.toNat)
 case atStart=>exact⟨0,F,rfl,H (by simp),j,I⟩
 case round=>
  obtain⟨n,Q,rfl,o,j,u⟩:=hrel;by_cases B:i+n<8
  ·have L:=j.part;have M:(i:Int)+n<8:=O;have p:=J.out (i+n) B
   have s:Hid (FL a (8-(i+n)) (i+n)=if a (i+n) then FL a (8-(i+(n+1))) (i+(n+1))+1 else 0):=H (by
    rw[show FL a (8-(i+n)) (i+n)=FL a (8-(i+(n+1))+1) (i+n) by rw[show 8-(i+n)=8-(i+(n+1))+1 from O]];rfl)
   have g:=N.out (i+n) B;rw[show(((i+n:Nat)):Int)=(i:Int)+n from O] at g;have g:=H g;generalize K6 U (i+n)=r at*;go_wp2_with fail
   refine Jb (g _) ?_;rintro e w2 ⟨rfl,y⟩;have G:=H (j.below y);have z:=H (Wx u y);clear L y j u;by_cases v:r=0
   ·have l:a (i+n)=true:=by rw[p,v];rfl
    subst v;have d:=s.out;rw[l,YH rfl] at d;have P:=H d;clear s d l p g;go_wp2_with fail
    go_roundw
    case rel=>exact⟨n+1,O,by go_num,H (by rw[o.out,P.out];omega),G,z⟩
    case measure=>simp[intOf];omega
   ·have l:a (i+n)=false:=by rw[p];simpa using v
    have d:=s.out;rw[l,Yw (by simp)] at d;have t:Hid (FL a (8-i) i=n):=H (by rw[o.out,d];rfl);clear s d l p g o;go_wp2_with fail
    go_ret;exact .mk (by rw[t.out];rfl) z
  ·have M:¬((i:Int)+n<8):=O;have t:Hid (FL a (8-i) i=n):=H (by rw[o.out,show 8-(i+n)=0 from O];rfl);clear o;go_wp2_with fail
   go_ret;exact .mk (by rw[t.out];rfl) u
theorem NU (a:Bool)(U:Nat->Int)(u:Qr a U=false)(w:World):
 Jf 74 #[adV a U] w (Jz w (.string ⟨([]:List UInt8).toArray⟩)):=by
 have b:Hid (∀w,Jf 69 #[adV a U] w (Jz w (.bool false))):=H λw=>by rw[<-u];exact Bh a U w
 clear u;unfold adV at*;go_enter func74,ntmps74
 go_wp2_with fail
 refine Calls.later (b _) ?_;exact Jdu
theorem Zi (b:Nat)(h:b<65536)(w:World):Jf 73 #[Jk (b:Int),Jk 10] w (Jz w (.string ⟨(Lib.decDigits b).toArray⟩)):=by
 have:=Fa b (b:Int) w O O O;rwa [Jak,CE b b (Je _)] at this
theorem PK (U:Nat->Int)(d:U8 U)(u:Qr false U=true)(w:World):
 Jf 74 #[adV false U] w (Jz w (.string ⟨(Rg λi=>(U i).toNat).toArray⟩)):=by
 have z:Hid (∀w,Jf 69 #[adV false U] w (Jz w (.bool true))):=H λw=>by rw[<-u];exact Bh false U w
 have C:Hid (Qa (w.alloc (.cells (Jbr false U) 36)) w.heap.size 36 false U):=H (Qa.made w _ false U);have B:Hid (Below w.heap.size w (w.alloc (.cells (Jbr false U) 36))):=H (Below.all (Jc w.heap.size w) _)
 have s:Hid (Rg (λi=>(U i).toNat)=Lib.decDigits (U 0).toNat++[46]++Lib.decDigits (U 1).toNat++[46]++Lib.decDigits (U 2).toNat++[46]++Lib.decDigits (U 3).toNat):=H (by
  show XX 46 [Lib.decDigits (U 0).toNat,Lib.decDigits (U 1).toNat,Lib.decDigits (U 2).toNat,Lib.decDigits (U 3).toNat]=_;simp[XX])
 have X:=d 0;have j:=d 1;have y:=d 2;have Y:=d 3;generalize Rg (λi=>(U i).toNat)=ad at*;clear d u;unfold adV at*;go_enter func74,ntmps74
 go_wp2_with fail
 generalize w.alloc (.cells (Jbr false U) 36)=V at*;refine Jb (z _) ?_;rintro aa w2 ⟨rfl,t⟩;have a:=H (C.below t);have A:=H (Wx B t);have I:=a.six;clear t C B z;go_wp2_with fail
 clear I;have G:Jg w2 w.heap.size 1 (Jq (U 0)):=a.cell 0 O;have M:Jg w2 w.heap.size 2 (Jq (U 1)):=a.cell 1 O;have N:Jg w2 w.heap.size 3 (Jq (U 2)):=a.cell 2 O;have P:Jg w2 w.heap.size 4 (Jq (U 3)):=a.cell 3 O;have Z:=a.lt;obtain⟨e,r⟩:∃b:Nat,U 0=b:=⟨(U 0).toNat,O⟩
 obtain⟨g,v⟩:∃b:Nat,U 1=b:=⟨(U 1).toNat,O⟩
 obtain⟨p,l⟩:∃b:Nat,U 2=b:=⟨(U 2).toNat,O⟩
 obtain⟨n,o⟩:∃b:Nat,U 3=b:=⟨(U 3).toNat,O⟩
 rw[r,v,l,o] at s;rw[r] at G X;rw[v] at M j;rw[l] at N y;rw[o] at P Y;simp only[Jak] at s;clear r v l o;have F:=H (λw=>Zi e O w);have L:=H (λw=>Zi g O w);have E:=H (λw=>Zi p O w);have J:=H (λw=>Zi n O w);have T:=Zc e O;have R:=Zc g O;have Q:=Zc p O;have ae:=Zc n O;generalize Lib.decDigits e=ab at*;generalize Lib.decDigits g=S at*;generalize Lib.decDigits p=W at*;generalize Lib.decDigits n=ac at*;refine JM K K ?_;repeat go_big_quiet_step (fail)
 go_big_quiet_step ((go_at_call 73;exact JD (F _)))
 repeat go_big_quiet_step (fail)
 go_big_quiet_step ((go_at_call 73;exact JD (L _)))
 repeat go_big_quiet_step (fail)
 go_big_quiet_step ((go_at_call 73;exact JD (E _)))
 repeat go_big_quiet_step (fail)
 go_big_quiet_step ((go_at_call 73;exact JD (J _)))
 repeat go_big_quiet_step (fail)
 refine Jaa ?_;intro x;go_wp2_with fail
 go_ret;refine .mk ?_ (A.trans (x.below.mono A.size));rw[s.out];simp only[<-Q5];rfl
theorem Jdl{p:Prop}(h:p:=by
 refine Jaa ?_;intro x;have B:=H (g.below x.below);have C:=H (Wx n x.below);clear g n u;go_wp2_with fail
 go_roundw
 case rel=>exact⟨i+1,i,O,O,by go_num,rfl,p,H (.inr (by have:=aC.out;omega)),B,C⟩
 case measure=>simp[intOf];omega):p:=h
theorem Jdr{p:Prop}(h:p:=by
 refine Jaa ?_;intro x;have B:=H (g.below x.below);have C:=H (Wx n x.below);clear g n u;go_wp2_with fail
 go_roundw
 case rel=>exact⟨i+1,b,O,O,by go_num,rfl,p,aa,B,C⟩
 case measure=>simp[intOf];omega):p:=h
theorem PL {a:Nat->List UInt8}(g:∀i,a i≠[]/\(58:UInt8)∉a i)(b:List Tok)(h:b≠[]):∃l c,Av a b=l++[c]/\(c=58↔b.getLast? =some none):=by
 obtain⟨d,x,rfl⟩:∃d x,b=d++[x]:=⟨b.dropLast,b.getLast h,(JaC h).symm⟩
 rw[Xp,List.getLast?_concat];cases x with
 |none=>exact⟨Av a d,58,rfl,by simp⟩
 |some i=>
  obtain⟨j,y⟩:=g i;refine⟨Av a d++(a i).dropLast,(a i).getLast j,?_,?_⟩
  ·show Av a d++(a i++[])=_;rw[Ja2,Jao,JaC]
  ·constructor
   ·intro e;exact absurd (e▸List.getLast_mem j) y
   ·intro e;cases e
theorem It (l:List UInt8)(c:UInt8)(w:World):(Instr.index 9 (.string ⟨(l++[c]).toArray⟩) (Jk (l.length:Int))).run prog w=.ok (Jq (c.toNat:Int)) w:=by
 have z:l.length<(⟨(l++[c]).toArray⟩:ByteArray).size:=by simp[ByteArray.size]
 refine CD _ l.length z _ ?_ w;show((l++[c]).toArray[l.length]'(by simp)).toNat=_;simp
theorem Sl (U:Nat->Int)(t:U8 U)(w:World):
 Jf 74 #[adV true U] w (Jz w (.string ⟨(IX (grpN U)).toArray⟩)):=by
 have az:Hid (∀w,Jf 69 #[adV true U] w (Jz w (.bool true))):=H λw=>Bh true U w
 have ae:=H (λi ab w=>UE true U t (zg (grpN U)) (λk aj=>TM t k aj) i ab w);have X:=H (λk aj w=>HV true U t k aj w);have aK:=H (λk=>I0 t k);have aS:=H (λk=>Gj t k)
 have V:Hid (IX (grpN U)=Av (λi=>X1 16 (grpN U i)) (B9 (zg (grpN U)))):=H (by
  unfold IX;rw[show IK (zg (grpN U))=B9 (zg (grpN U)) from T4 _ _ _ _ _ _ _ _])
 have ay:Hid (∀i,X1 16 (grpN U i)≠[]/\(58:UInt8)∉X1 16 (grpN U i)):=H λi=>⟨Uf _ _,OQ _⟩
 have aB:Hid (∀i,(X1 16 (grpN U i)).length<=4):=H λi=>EI _ (Gj t i)
 have aH:Hid (∀i w,Jf 73 #[Jk (K6 U i),Jk 16] w (Jz w (.string ⟨(X1 16 (grpN U i)).toArray⟩))):=H λi w=>by
  have ba:=Gj t i;have:=Mt (grpN U i) (K6 U i) w (by have:=IL t i;omega) (by have:=IL t i;omega) (by rw[I0 t i];omega);exact this
 have g:Hid (Qa (w.alloc (.cells (Jbr true U) 36)) w.heap.size 36 true U):=H (Qa.made w _ true U);have n:Hid (Below w.heap.size w (w.alloc (.cells (Jbr true U) 36))):=H (Below.all (Jc w.heap.size w) _);clear t;generalize zg (grpN U)=a at*;generalize IX (grpN U)=a8 at*;generalize ax:(λi=>X1 16 (grpN U i))=j at*;have Z:Hid (∀i,X1 16 (grpN U i)=j i):=H λi=>by rw[<-ax]
 have S:Hid (∀i,j i≠[]/\(58:UInt8)∉j i):=H λi=>by rw[<-Z.out i];exact ay i
 have Q:Hid (∀i,(j i).length<=4):=H λi=>by rw[<-Z.out i];exact aB i
 have T:Hid (∀i w,Jf 73 #[Jk (K6 U i),Jk 16] w (Jz w (.string ⟨(j i).toArray⟩))):=H λi w=>by rw[<-Z.out i];exact aH i w
 clear ax Z ay aB aH aK aS;unfold adV at*;go_enter func74,ntmps74
 go_wp2_with fail
 generalize w.alloc (.cells (Jbr true U) 36)=aY at*;refine Jb (az _) ?_;rintro e w2 ⟨rfl,an⟩;have aF:=H (g.below an);have aP:=H (Wx n an);have aR:=aF.six;clear an g n az;go_wp2_with fail
 clear aR;go_loopw [3,4] (λu3 u4 wr=>∃(i b:Nat),i<=8/\b<=8/\u4=.int .i64 i/\u3=.int .i64 b/\Hid (BV a (8-i) i b=MR a)/\Hid (b=8\/2<=FL a (8-b) b)/\Hid (Qa wr w.heap.size 36 true U)/\Hid (Ji w wr)) (λ_ u4 _=>(8:Int)-intOf u4 |>.toNat)
 case atStart=>exact⟨0,8,O,O,rfl,rfl,H rfl,H (.inl rfl),aF,aP⟩
 case round=>
  obtain⟨i,b,ab,aD,rfl,rfl,y,aa,g,n⟩:=hrel;have u:=g.part;have aT:=g.lt;by_cases aA:i<8
  ·have z:Hid (BV a (8-i) i b=BV a (8-(i+1)) (i+1) (if 2<=FL a (8-i) i/\(b=8\/FL a (8-b) b<FL a (8-i) i) then i else b)):=H (by
    rw[show BV a (8-i) i b=BV a (8-(i+1)+1) i b by rw[show 8-i=8-(i+1)+1 from O]];rw[BV])
   have I:=H (ae i ab);have ar:=H (ae b aD);generalize aI:FL a (8-i) i=A at z I;have aC:=H aI;generalize aO:FL a (8-b) b=P at z ar;clear aI aO;by_cases aG:2<=A
   ·by_cases aE:b=8
    ·have p:Hid (BV a (8-(i+1)) (i+1) i=MR a):=H (by rw[<-y.out,z.out,YH ⟨aG,.inl aE⟩]);subst aE;have af:(2:Int)<=A:=O;clear z y;go_wp2_with fail
     refine JM K K ?_;repeat go_big_quiet_step ((go_at_call 133;exact JD (I _)))
     exact Jdl
    ·have a5:¬((b:Int)=8):=O;have a6:((b:Int)==8)=false:=by simp;omega
     by_cases aL:P<A
     ·have p:Hid (BV a (8-(i+1)) (i+1) i=MR a):=H (by rw[<-y.out,z.out,YH ⟨aG,.inr aL⟩]);have aM:(P:Int)<A:=O;have af:(2:Int)<=A:=O;clear z y;go_wp2_with fail
      refine JM K K ?_;repeat go_big_quiet_step (fail)
      go_big_quiet_step ((go_at_call 133;exact JD (I _)))
      repeat go_big_quiet_step (fail)
      go_big_quiet_step ((go_at_call 133;exact JD (I _)))
      repeat go_big_quiet_step (fail)
      go_big_quiet_step ((go_at_call 133;exact JD (ar _)))
      repeat go_big_quiet_step (fail)
      exact Jdl
     ·have p:Hid (BV a (8-(i+1)) (i+1) b=MR a):=H (by rw[<-y.out,z.out,Yw O]);have aM:¬((P:Int)<A):=O;have af:(2:Int)<=A:=O;clear z y;go_wp2_with fail
      refine JM K K ?_;repeat go_big_quiet_step (fail)
      go_big_quiet_step ((go_at_call 133;exact JD (I _)))
      repeat go_big_quiet_step (fail)
      go_big_quiet_step ((go_at_call 133;exact JD (I _)))
      repeat go_big_quiet_step (fail)
      go_big_quiet_step ((go_at_call 133;exact JD (ar _)))
      repeat go_big_quiet_step (fail)
      exact Jdr
   ·have p:Hid (BV a (8-(i+1)) (i+1) b=MR a):=H (by rw[<-y.out,z.out,Yw O]);have af:¬((2:Int)<=A):=O;have a2:decide ((2:Int)<=A)=false:=YA af;clear z y;go_wp2_with fail
    refine JM K K ?_;repeat go_big_quiet_step ((go_at_call 133;exact JD (I _)))
    exact Jdr
  ·obtain rfl:i=8:=O;have aw:Hid (b=MR a):=y;have R:Hid (B9 a=EE a b 9 0 []):=H (by rw[aw.out];rfl);have ac:=H (ae b aD);have a0:=Sk a (8-b) b;clear y aw ae u;have bc:=aa.out;clear aa;have J:Hid (∀(f i:Nat) (d:List Tok),EE a b (f+1) i d=if 8<=i then d else if i=b then EE a b f (i+FL a (8-b) b) (d++[none,none]) else EE a b f (i+1) (d++(if d=[]\/d.getLast? =some none then [] else [none])++[some i])):=H λ_ _ _=>rfl
   generalize FL a (8-b) b=P at*;go_wp2_with fail
   go_loopg [5,6] 8 (λf u5 u6 wr=>∃(i:Nat) (d:List Tok) (G:List UInt8),i<=8/\8<=i+f/\G.length<=8*(9-(f+1))/\f<=8/\u6=.int .i64 i/\u5=.string ⟨G.toArray⟩/\Hid (G=Av j d)/\Hid (EE a b (f+1) i d=B9 a)/\Hid (Qa wr w.heap.size 36 true U)/\Hid (Ji w wr))
   case atStart=>exact⟨0,[],[],O,O,by simp,O,rfl,rfl,H rfl,H R.symm,g,n⟩
   case round=>
    obtain⟨i,d,G,ab,bg,ag,a7,rfl,rfl,v,F,g,n⟩:=hrel;have u:=g.part;have aT:=g.lt;by_cases aA:i<8
    ·obtain⟨r,rfl⟩:∃r,gk=r+1:=⟨gk-1,O⟩
     by_cases am:i=b
     ·have E:Hid (EE a b (r+1) (i+P) (d++[none,none])=B9 a):=H (by rw[<-F.out,J.out (r+1) i d,Yw (show¬8<=i from O),YH am]);have p:Hid (G++[58,58]=Av j (d++[none,none])):=H (by rw[Xp,v.out];rfl);subst am;have ap:=XM G [58,58] O D;clear J F v V X T S Q R;go_wp2_with fail
      refine Jb (ac _) ?_;rintro e av ⟨rfl,o⟩;have B:=H (g.below o);have C:=H (Wx n o);clear g n u o;go_wp2_with fail
      go_roundg r
      case measure=>omega
      case rel=>exact⟨i+P,d++[none,none],G++[58,58],O,O,by simp;omega,O,by go_num,(by first|rfl|exact congrArg Value.string (Q5 G [58,58])),p,E,B,C⟩
     ·have aV:¬((i:Int)=b):=O;have aW:((i:Int)==b)=false:=by simp;omega
      have bf:=Q.out i;have ah:=H (X i aA);have al:=H (T i);have M:Hid (EE a b (r+1) (i+1) (d++(if d=[]\/d.getLast? =some none then [] else [none])++[some i])=B9 a):=H (by rw[<-F.out,J.out (r+1) i d,Yw (show¬8<=i from O),Yw am]);have ak:Hid (Av j [some i]=j i):=H (by simp[Av]);by_cases ao:d=[]
      ·subst ao;have L:G=[]:=v.out;subst L;have E:Hid (EE a b (r+1) (i+1) [some i]=B9 a):=M;clear M J F v V X T S Q R ac;go_wp2_with fail
       refine Jb (ah _) ?_;rintro e av ⟨rfl,o⟩;go_wp2_with fail
       refine Jb (al _) ?_;rintro e w4 ⟨rfl,s⟩;have W:=H ((g.below o).below s);have Y:=H (Wx (Wx n o) s);have ap:=XM [] (j i) (by simp) O;have aZ:(j i).length<=9223372036854775807:=O;have a9:((j i).length:Int)<=9223372036854775807:=O;clear g n u o s;go_wp2_with fail
       go_roundg r
       case measure=>omega
       case rel=>exact⟨i+1,[some i],[]++j i,O,O,by simp;omega,O,by go_num,(by first|rfl|exact congrArg Value.string (Q5 [] (j i))),H (by rw[ak.out];rfl),E,W,Y⟩
      ·obtain⟨l,c,au,ad⟩:=PL S d ao;have L:G=l++[c]:=by rw[v.out,au]
       have bd:l.length+1<=100:=by rw[L] at ag;simp at ag;omega
       by_cases N:d.getLast? =some none
       ·have ai:c=58:=ad.2 N;subst ai;have E:Hid (EE a b (r+1) (i+1) (d++[some i])=B9 a):=H (by rw[<-M.out,YH (.inr N),Ja2]);have p:Hid (G++j i=Av j (d++[some i])):=H (by rw[Xp,v.out,ak.out]);have aN:=It l 58;have bb:G.length=l.length+1:=by rw[L];simp
        have aQ:(l++[(58:UInt8)]==[])=false:=by simp
        have aq:(((l++[(58:UInt8)]).length:Nat):Int)-1=l.length:=by simp<;>omega
        have aU:IntKind.i64.wrap (((l++[(58:UInt8)]).length:Int)-1)=l.length:=by rw[aq];exact Jay _ O
        have ap:=XM (l++[58]) (j i) (by simp;omega) O;clear M J F v V X T S Q R ac au ad N;subst L;go_wp2_with fail
        refine Jb (ah _) ?_;rintro e av ⟨rfl,o⟩;go_wp2_with fail
        refine Jb (al _) ?_;rintro e w4 ⟨rfl,s⟩;have W:=H ((g.below o).below s);have Y:=H (Wx (Wx n o) s);clear g n u o s;go_wp2_with fail
        go_roundg r
        case measure=>omega
        case rel=>exact⟨i+1,d++[some i],l++[58]++j i,O,O,by simp at ag|-;omega,O,by go_num,(by first|rfl|exact congrArg Value.string (Q5 (l++[58]) (j i))),p,E,W,Y⟩
       ·have ai:c≠58:=λe=>N (ad.1 e)
        have E:Hid (EE a b (r+1) (i+1) (d++[none]++[some i])=B9 a):=H (by rw[<-M.out,Yw (λh=>h.elim ao N)]);have p:Hid (G++[58]++j i=Av j (d++[none]++[some i])):=H (by rw[Xp,Xp,v.out,ak.out];rfl);have aN:=It l c;have be:¬c.toNat=58:=λe=>ai (UInt8.toNat_inj.1 e)
        have aQ:(l++[c]==[])=false:=by simp
        have aq:(((l++[c]).length:Nat):Int)-1=l.length:=by simp<;>omega
        have aU:IntKind.i64.wrap (((l++[c]).length:Int)-1)=l.length:=by rw[aq];exact Jay _ O
        have ap:=XM (l++[c]) [58] (by simp;omega) D;have a1:=XM (l++[c]++[58]) (j i) (by simp;omega) O;have a3:¬((c.toNat:Int)=58):=O;have a4:((c.toNat:Int)==58)=false:=by simp;omega
        clear M J F v V X T S Q R ac au ad N;subst L;generalize c.toNat=aX at*;go_wp2_with fail
        refine Jb (ah _) ?_;rintro e av ⟨rfl,o⟩;go_wp2_with fail
        refine Jb (al _) ?_;rintro e w4 ⟨rfl,s⟩;have W:=H ((g.below o).below s);have Y:=H (Wx (Wx n o) s);clear g n u o s;go_wp2_with fail
        go_roundg r
        case measure=>omega
        case rel=>exact⟨i+1,d++[none]++[some i],l++[c]++[58]++j i,O,O,by simp at ag|-;omega,O,by go_num,(by first|rfl|exact congrArg Value.string (Q5 (l++[c]++[58]) (j i))),p,E,W,Y⟩
    ·obtain rfl:i=8:=O;have aJ:Hid (d=B9 a):=H (by rw[<-F.out,J.out gk 8 d,YH (Je _)]);go_wp2_with fail
     go_ret;exact .mk (by rw[V.out,<-aJ.out,<-v.out];rfl) n
theorem Mu (a:Bool)(U:Nat->Int)(b:U8 U)(w:World):
 Jf 74 #[adV a U] w (Jz w (.string ⟨(QX a U).toArray⟩)):=by
 unfold QX;by_cases h:Qr a U=true
 ·rw[YH h];cases a
  ·exact PK U b h w
  ·exact Sl U b w
 ·rw[Yw h];exact NU a U (by simpa using h) w
theorem PM (G:Bool)(Z:Nat->Int)(t:Bool)(d:Nat->Int)(p a b:Nat)(u:JS ⟨G,Z,t,d,p,a,b⟩=true)(l:U8 Z)(n:U8 d)(E:p<256)(ha:a<65536)(g:b<65536)(w:World):
 Jf 29 #[.agg (kyC G Z t d p a b)] w (Jz w (.string ⟨(XX 32 [Lib.decDigits p,QX G Z,Lib.decDigits a,QX t d,Lib.decDigits b]).toArray⟩)):=by
 have e:=λw=>QT G Z t d p a b w
 rw[u] at e;have v:=H (λw=>Zi p O w);have y:=H (λw=>Zi a O w);have A:=H (λw=>Zi b O w);have r:=H (λw=>Mu G Z l w);have z:=H (λw=>Mu t d n w);have s:Hid (XX 32 [Lib.decDigits p,QX G Z,Lib.decDigits a,QX t d,Lib.decDigits b]=Lib.decDigits p++[32]++QX G Z++[32]++Lib.decDigits a++[32]++QX t d++[32]++Lib.decDigits b):=H (by simp[XX]);have P:(Lib.decDigits p).length<=100000:=by have:=XI p O;omega
 have C:(QX G Z).length<=100000:=by have:=CM G Z l;omega
 have B:(Lib.decDigits a).length<=100000:=by have:=XI a O;omega
 have Y:(QX t d).length<=100000:=by have:=CM t d n;omega
 have F:(Lib.decDigits b).length<=100000:=by have:=XI b O;omega
 clear u l n;generalize XX 32 [Lib.decDigits p,QX G Z,Lib.decDigits a,QX t d,Lib.decDigits b]=L at*;generalize Lib.decDigits p=V at*;generalize QX G Z=M at*;generalize Lib.decDigits a=S at*;generalize QX t d=W at*;generalize Lib.decDigits b=X at*;unfold kyC adV at*;go_enter func29,ntmps29
 go_wp2_with fail
 refine Calls.later (e _) ?_;intro x;have j:Jh x.world w.heap.size (kyC G Z t d p a b) 38:=(x.below.block _ (by simp)).trans (WP w (.cells (kyC G Z t d p a b) 38));have o:Hid (Ji w x.world):=H (Ww (Below.all (Jc _ _) _));go_wp2_with fail
 generalize x.world=Q at*;have T:w.heap.size<Q.heap.size:=(Ja j).1;have N:Jv Q w.heap.size 0 17=(Jbr G Z:Array Value):=by rw[JG _ _ _ _ _ _ _ j];simp[kyC]
 have I:Jv Q w.heap.size 17 17=(Jbr t d:Array Value):=by rw[JG _ _ _ _ _ _ _ j];simp[kyC]
 have R:Jg Q w.heap.size 34 (Jq (p:Int)):=WF 34 j;have J:Jg Q w.heap.size 35 (Jl (a:Int)):=WF 35 j;have U:Jg Q w.heap.size 36 (Jl (b:Int)):=WF 36 j;clear j e;refine JM K K ?_;repeat go_big_quiet_step (fail)
 go_big_quiet_step ((go_at_call 73;exact JD (v _)))
 repeat go_big_quiet_step (fail)
 go_big_quiet_step ((go_at_call 74;exact JD (r _)))
 repeat go_big_quiet_step (fail)
 go_big_quiet_step ((go_at_call 73;exact JD (y _)))
 repeat go_big_quiet_step (fail)
 go_big_quiet_step ((go_at_call 74;exact JD (z _)))
 repeat go_big_quiet_step (fail)
 go_big_quiet_step ((go_at_call 73;exact JD (A _)))
 repeat go_big_quiet_step (fail)
 refine Jaa ?_;intro x;go_wp2_with fail
 go_ret;refine .mk ?_ (o.trans (x.below.mono o.size));rw[s.out];simp only[<-Q5];rfl
theorem Iu (k:Ky)(A:Fz k)(w:World):
 Jf 29 #[.agg (kyV k)] w (Jz w (.string ⟨(QY k).toArray⟩)):=by
 obtain⟨G,Z,t,d,p,a,b⟩:=k;obtain⟨e,j,E,ha,g⟩:=A;simp only at e j E ha g;cases hr:JS ⟨G,Z,t,d,p,a,b⟩ with
 |false=>rw[G2 hr];exact R0 G Z t d p a b hr w
 |true=>
  obtain⟨p,rfl⟩:=Jaq E.1;obtain⟨a,rfl⟩:=Jaq ha.1;obtain⟨b,rfl⟩:=Jaq g.1;rw[CX hr];simp only[Cq,Jak];exact PM G Z t d p a b hr e j O O O w
end
end Go.Proofs.YtkgjbipfhhjlpaaGreatDoor
