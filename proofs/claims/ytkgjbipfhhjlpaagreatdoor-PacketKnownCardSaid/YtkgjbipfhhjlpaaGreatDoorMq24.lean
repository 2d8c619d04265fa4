import Derived.Test.YtkgjbipfhhjlpaaGreatDoorMq23
set_option linter.unusedVariables false
set_option linter.unusedSimpArgs false
set_option maxRecDepth 100000
set_option maxHeartbeats 32000000
namespace Go.Proofs.YtkgjbipfhhjlpaaGreatDoor
open Go.Proofs.Tryz
section
open Go.RowKit Bits
theorem Jc5{p:Prop}(h:p:=by
 clear g p s;go_wp2_with fail
 refine Jb (z _) ?_;rintro e U ⟨rfl,g⟩;have j:=H ((g.block _ (Ja o).1).trans o);have v:=H (Wx r g);have I:=WF 0 j;have M:=WF 1 j;have J:=WF 2 j;have E:=WF 3 j;have L:=WF 4 j;have P:=WF 5 j;have N:=WF 6 j;have R:=WF 7 j;have T:=WF 8 j;have S:=WF 9 j;have F:=WF 10 j;clear g o r u;go_wp2_with fail
 go_ret;exact .mk K v):p:=h
theorem NN (a b f:Int)(l:ByteArray)(n:Nat)(G:l.size=n)(B:n<=60000)(w:World):
 Jf 97 #[.agg (JbK (6:Int) (Jl a) (Jl b) f (.string l):Array Value)] w (Jz w (.bool true)):=by
 have A:Hid (∀d,Jf 96 #[(6:Int)] d (Jz d (Jk (tHead 6:Int)))):=H (λd=>Aq 6 d);have z:Hid (∀d,Jf 99 #[.agg (JbK (6:Int) (Jl a) (Jl b) f (.string l):Array Value)] d (Jz d (Jk ((tHead 6:Int)+(n:Int))))):=H (λd=>BN 6 a b f 0 0 l n G O d);have V:1<=tHead 6/\tHead 6<=20:=D;generalize tHead 6=t at*;have Z:((t:Int)==0)=false:=by simp;omega
 have X:decide (((t:Int)+(n:Int))>65535)=false:=by simp;omega
 have Y:decide ((65535:Int)<((t:Int)+(n:Int)))=false:=by simp;omega
 have s:Below w.heap.size w (w.alloc (.cells (JbK (6:Int) (Jl a) (Jl b) f (.string l)) 102)):=Below.all (Jc _ _) _;have p:=H (WP w (.cells (JbK (6:Int) (Jl a) (Jl b) f (.string l)) 102));by_cases C:f=0
 ·subst C;go_enter func97,ntmps97
  go_wp2_with fail
  generalize w.alloc (.cells (JbI (6:Int) (Jl a) (Jl b) (.string l)) 102)=Q at*;refine Jb (A _) ?_;rintro e y ⟨rfl,g⟩;have o:=H ((g.block _ (Ja p).1).trans p);have r:=H (Wx s g);have u:Jv y w.heap.size 0 12=(JbI (6:Int) (Jl a) (Jl b) (.string l):Array Value):=Ju o rfl;exact Jc5
 ·have W:(f==0)=false:=by simpa using C
  go_enter func97,ntmps97
  go_wp2_with fail
  generalize w.alloc (.cells (JbK (6:Int) (Jl a) (Jl b) f (.string l)) 102)=Q at*;refine Jb (A _) ?_;rintro e y ⟨rfl,g⟩;have o:=H ((g.block _ (Ja p).1).trans p);have r:=H (Wx s g);have u:Jv y w.heap.size 0 12=(JbK (6:Int) (Jl a) (Jl b) f (.string l):Array Value):=Ju o rfl;exact Jc5
theorem NO (a b:Int)(l:ByteArray)(n:Nat)(y:l.size=n)(B:n<=60000)(w:World):
 Jf 97 #[.agg (JbI (17:Int) (Jl a) (Jl b) (.string l):Array Value)] w (Jz w (.bool true)):=by
 have A:Hid (∀d,Jf 96 #[(17:Int)] d (Jz d (Jk (tHead 17:Int)))):=H (λd=>Aq 17 d);have u:Hid (∀d,Jf 99 #[.agg (JbI (17:Int) (Jl a) (Jl b) (.string l):Array Value)] d (Jz d (Jk ((tHead 17:Int)+(n:Int))))):=H (λd=>BN 17 a b 0 0 0 l n y O d);have F:1<=tHead 17/\tHead 17<=20:=D;generalize tHead 17=p at*;have V:((p:Int)==0)=false:=by simp;omega
 have N:decide (((p:Int)+(n:Int))>65535)=false:=by simp;omega
 have T:decide ((65535:Int)<((p:Int)+(n:Int)))=false:=by simp;omega
 have t:Below w.heap.size w (w.alloc (.cells (JbI (17:Int) (Jl a) (Jl b) (.string l)) 102)):=Below.all (Jc _ _) _;have r:=H (WP w (.cells (JbI (17:Int) (Jl a) (Jl b) (.string l)) 102));go_enter func97,ntmps97
 go_wp2_with fail
 generalize w.alloc (.cells (JbI (17:Int) (Jl a) (Jl b) (.string l)) 102)=Q at*;refine Jb (A _) ?_;rintro e C ⟨rfl,g⟩;have o:=H ((g.block _ (Ja r).1).trans r);have s:=H (Wx t g);have v:Jv C w.heap.size 0 12=(JbI (17:Int) (Jl a) (Jl b) (.string l):Array Value):=Ju o rfl;clear g r t;go_wp2_with fail
 refine Jb (u _) ?_;rintro e X ⟨rfl,g⟩;have j:=H ((g.block _ (Ja o).1).trans o);have z:=H (Wx s g);have I:=WF 0 j;have M:=WF 1 j;have J:=WF 2 j;have E:=WF 3 j;have L:=WF 4 j;have R:=WF 5 j;have P:=WF 6 j;have S:=WF 7 j;have W:=WF 8 j;have U:=WF 9 j;have G:=WF 10 j;clear g o s v;go_wp2_with fail
 go_ret;exact .mk K z
theorem Mj (p a b:Int)(l:ByteArray)(n:Nat)(z:l.size=n)(B:n<=60000)(E:p=1\/p=58)(w:World):
 Jf 97 #[.agg (JbD p a b (.string l):Array Value)] w (Jz w (.bool true)):=by
 have C:Hid (∀d,Jf 96 #[p] d (Jz d (Jk (tHead p:Int)))):=H (λd=>Aq p d);have v:Hid (∀d,Jf 99 #[.agg (JbD p a b (.string l):Array Value)] d (Jz d (Jk ((tHead p:Int)+(n:Int))))):=H (λd=>BN p 0 0 0 a b l n z O d);have I:1<=tHead p/\tHead p<=20:=by rcases E with rfl|rfl<;>decide
 generalize tHead p=r at*;have Z:((r:Int)==0)=false:=by simp;omega
 have R:decide (((r:Int)+(n:Int))>65535)=false:=by simp;omega
 have X:decide ((65535:Int)<((r:Int)+(n:Int)))=false:=by simp;omega
 have u:Below w.heap.size w (w.alloc (.cells (JbD p a b (.string l)) 102)):=Below.all (Jc _ _) _;have s:=H (WP w (.cells (JbD p a b (.string l)) 102));have U:(p==6)=false:=by rcases E with rfl|rfl<;>rfl
 have T:(p==17)=false:=by rcases E with rfl|rfl<;>rfl
 go_enter func97,ntmps97
 go_wp2_with fail
 generalize w.alloc (.cells (JbD p a b (.string l)) 102)=Q at*;refine Jb (C _) ?_;rintro e F ⟨rfl,g⟩;have o:=H ((g.block _ (Ja s).1).trans s);have t:=H (Wx u g);have y:Jv F w.heap.size 0 12=(JbD p a b (.string l):Array Value):=Ju o rfl;clear g s u;go_wp2_with fail
 refine Jb (v _) ?_;rintro e ab ⟨rfl,g⟩;have j:=H ((g.block _ (Ja o).1).trans o);have A:=H (Wx t g);have L:=WF 0 j;have P:=WF 1 j;have M:=WF 2 j;have G:=WF 3 j;have N:=WF 4 j;have V:=WF 5 j;have S:=WF 6 j;have W:=WF 7 j;have aa:=WF 8 j;have Y:=WF 9 j;have J:=WF 10 j;clear g o t y;go_wp2_with fail
 go_ret;exact .mk K A
theorem Jel{p:Prop}(h:p:=by
 go_wp2_with fail
 go_ret2;refine .mk ?_ M;rw[P.out];exact N):p:=h
theorem Se (p z t y n r:Int)(v aG aK:ByteArray)(m:Nat)(b:List Int)(a:Int->List Int)(C:Nat)(aV:tHead p≠0)(a8:m<=60000)
 (aM:∀d,Jf 97 #[.agg (JbG p (Jl z) (Jl t) y n r (.string v):Array Value)] d (Jz d (.bool true)))
 (aQ:∀d,Jf 99 #[.agg (JbG p (Jl z) (Jl t) y n r (.string v):Array Value)] d (Jz d (Jk ((tHead p:Int)+(m:Int)))))
 (aI:∀c d,0<=c->c<65536->Jf 101 #[.agg (JbG p (Jl z) (Jl t) y n r (.string v):Array Value),Jl c] d (Jz d (.string (strOfNums (a c)))))
 (aj:∀d,Jf 98 #[p,Jk ((tHead p:Int)+(m:Int)),.string aG,.string aK] d (Jz d (.tuple #[.string (strOfNums b),true])))
 (ao:JF b)(a9:b.length<=1000)(aN:∀c,JF (a c)/\(a c).length=C)(a0:C<=70000)(I:List Int)(aA:I=a (if sumOf (b++a 0)=0/\p=17 then 65535 else (sumOf (b++a 0):Nat)))(w:World):
 Jf 48 #[.agg (JbG p (Jl z) (Jl t) y n r (.string v):Array Value),.string aG,.string aK] w (QI w I 0):=by
 have ah:Hid (∀d,Jf 96 #[p] d (Jz d (Jk (tHead p:Int)))):=H (λd=>Aq p d);have au:=H aM;have ab:=H aQ;have U:=H aI;have W:=H aj;have l:=H aN;have aX:=H ao;have a4:=DE (b++a 0);have aq:Hid (∀(d:World) s o,JA d s (b.length+C) o (b++a 0)->Jf 100 #[.slice s (b.length+C) o] d (Jz d (Jl (sumOf (b++a 0):Nat)))):=H (λd s o u=>RG s _ o _ d u O);generalize sumOf (b++a 0)=A at*;have aa:=H aA;clear aA;obtain⟨X,aL⟩:∃X,tHead p=X:=⟨_,rfl⟩
 rw[aL] at aV ah ab W;clear aL aM aQ aI aj aN ao;have bc:((X:Int)==0)=false:=by simp;omega
 have ax:Below w.heap.size w (w.alloc (.cells (JbG p (Jl z) (Jl t) y n r (.string v)) 102)):=Below.all (Jc _ _) _;have af:=H (WP w (.cells (JbG p (Jl z) (Jl t) y n r (.string v)) 102));obtain⟨am,S⟩:∃Z,strOfNums b=Z:=⟨_,rfl⟩
 have a3:am.size=b.length:=by rw[<-S,Jbe]
 have aS:=H S;rw[S] at W;clear S;go_enter func48,ntmps48
 go_wp2_with fail
 generalize w.alloc (.cells (JbG p (Jl z) (Jl t) y n r (.string v)) 102)=a2 at*;refine Jb (ah _) ?_;rintro e aY ⟨rfl,g⟩;have V:=H ((g.block _ (Ja af).1).trans af);have an:=H (Wx ax g);have B:Jv aY w.heap.size 0 12=(JbG p (Jl z) (Jl t) y n r (.string v):Array Value):=Ju V rfl;clear g af ax;go_wp2_with fail
 refine Jb (au _) ?_;rintro e aE ⟨rfl,g⟩;have F:=H ((g.block _ (Ja V).1).trans V);have ap:=H (Wx an g);clear g V an B;obtain⟨G,aB⟩:∃aW,aW=w.heap.size:=⟨_,rfl⟩
 go_wp2_with fail
 rw[<-aB] at F|-;have aU:G<aE.heap.size:=(Ja F).1;have B:Jv aE G 0 12=(JbG p (Jl z) (Jl t) y n r (.string v):Array Value):=Ju F rfl;have L:=WF 0 F;clear aB;refine JM K K ?_;repeat go_big_quiet_step ((first|(with_reducible exact JD (ab.out _))|(with_reducible exact JD (W.out _))))
 refine Jaa ?_;intro x;have T:=H ((x.below.block _ aU).trans F);have ar:=H (Wx ap x.below);clear F ap B L;generalize x.world=ak at*;have av:G<ak.heap.size:=(Ja T).1;have B:Jv ak G 0 12=(JbG p (Jl z) (Jl t) y n r (.string v):Array Value):=Ju T rfl;go_wp2_with fail
 refine Jb (U 0 _ D D) ?_;rintro e a6 ⟨rfl,g⟩;have ag:=H ((g.block _ av).trans T);have aH:=H (Wx ar g);clear g T ar B av;obtain⟨aF,R⟩:∃Z,strOfNums (a 0)=Z:=⟨_,rfl⟩
 have a7:aF.size=C:=by rw[<-R,Jbe,(l 0).2]
 have aT:=H R;rw[R];clear R;go_wp2_with (with_reducible refine XD 34 ?_)
 refine JJ.mk ?_;refine Qi _ rfl 9 22 _ rfl 5 underlying9 underlying22 underlying5 (b++a 0) (by show Value.string (am++aF)=_;rw[<-Zd,aS.out,aT.out]) (Jx aX (l 0).1) (by rw[WV,(l 0).2];omega) ?_;intro bb a1 g u;have aO:(b++a 0).length=b.length+C:=by rw[WV,(l 0).2]
 rw[aO] at u|-;have al:=H u;have ad:=H ((g.block _ (Ja ag).1).trans ag);have aP:=H (Wx aH g);clear g u ag aH aO;go_wp2_with fail
 refine Jb (aq _ _ _ al) ?_;rintro e aw ⟨rfl,g⟩;have Y:=H ((g.block _ (Ja ad).1).trans ad);have ae:=H (Wx aP g);have aZ:G<aw.heap.size:=(Ja Y).1;have B:Jv aw G 0 12=(JbG p (Jl z) (Jl t) y n r (.string v):Array Value):=Ju Y rfl;have L:=WF 0 Y;clear g ad aP al aq ab W au ah;by_cases ay:A=0
 ·subst ay;by_cases ac:p=17
  ·subst ac;have P:Hid (I=a 65535):=H (by rw[aa.out,YH ⟨rfl,rfl⟩]);go_wp2_with fail
   refine Jb (U 65535 _ O O) ?_;rintro e aC ⟨rfl,g⟩;have Q:=H (Wx ae g);obtain⟨E,j⟩:∃Z,strOfNums (a 65535)=Z:=⟨_,rfl⟩
   have aJ:E.size=C:=by rw[<-j,Jbe,(l 65535).2]
   have J:=H j;rw[j];clear j g B L;go_wp2_with (with_reducible refine XD 46 ?_)
   refine JJ.mk ?_;refine Qi _ rfl 9 22 _ rfl 5 underlying9 underlying22 underlying5 (a 65535) (by show Value.string E=_;rw[J.out]) (l 65535).1 (by rw[(l 65535).2];omega) ?_;intro aD ai g u;have N:=H u;have M:=H (Wx Q g);clear g u;generalize aR:(a 65535).length=az at*;exact Jel
  ·have ba:(p==17)=false:=by simpa using ac
   have P:Hid (I=a 0):=H (by rw[aa.out,Yw (λh=>ac h.2)];rfl);go_wp2_with fail
   refine Jb (U 0 _ O O) ?_;rintro e aC ⟨rfl,g⟩;have Q:=H (Wx ae g);obtain⟨E,j⟩:∃Z,strOfNums (a 0)=Z:=⟨_,rfl⟩
   have aJ:E.size=C:=by rw[<-j,Jbe,(l 0).2]
   have J:=H j;rw[j];clear j g B L;go_wp2_with (with_reducible refine XD 46 ?_)
   refine JJ.mk ?_;refine Qi _ rfl 9 22 _ rfl 5 underlying9 underlying22 underlying5 (a 0) (by show Value.string E=_;rw[J.out]) (l 0).1 (by rw[(l 0).2];omega) ?_;intro aD ai g u;have N:=H u;have M:=H (Wx Q g);clear g u;generalize aR:(a 0).length=az at*;exact Jel
 ·have a5:((A:Int)==0)=false:=by simp;omega
  have P:Hid (I=a (A:Int)):=H (by rw[aa.out,Yw (λh=>ay h.1)]);go_wp2_with fail
  refine Jb (U (A:Int) _ O O) ?_;rintro e aC ⟨rfl,g⟩;have Q:=H (Wx ae g);obtain⟨E,j⟩:∃Z,strOfNums (a (A:Int))=Z:=⟨_,rfl⟩
  have aJ:E.size=C:=by rw[<-j,Jbe,(l (A:Int)).2]
  have J:=H j;rw[j];clear j g B L;go_wp2_with (with_reducible refine XD 46 ?_)
  refine JJ.mk ?_;refine Qi _ rfl 9 22 _ rfl 5 underlying9 underlying22 underlying5 (a (A:Int)) (by show Value.string E=_;rw[J.out]) (l (A:Int)).1 (by rw[(l (A:Int)).2];omega) ?_;intro aD ai g u;have N:=H u;have M:=H (Wx Q g);clear g u;generalize aR:(a (A:Int)).length=az at*;exact Jel
open Go.RowKit
theorem Xv (a:Operand->Value)(w:World){l:Option Tmp}{j:TypeId}{e:String}{g:Array Edge}{r:Option (Nat×Bool)}{t d:TypeId}{x:Operand}{b v:Value}{w2:World}(P:a x=b)
 (u:(convert t d b).run prog w=.ok v w2):(execOp a ⟨l,.convert t d x,j,e,g,r⟩).run prog w=.ok (.value v) w2:=by
 simp[execOp,P,u,Result.andThen]
theorem Qg {w:World}{a:Option Addr}{n o:Nat}{l:List Int}(h:JA w a n o l):(convert 22 9 (.slice a n o)).run prog w=.ok (.string (strOfNums l)) w:=
 Qm 22 5 underlying22 underlying5 h 9 underlying9
theorem KO (p r n o j l:Int)(N b e:List Int)(L:N.length<=2048)(u:tHead p≠0)(E:Jm p)(M:b.length=e.length)(y:b.length=4\/b.length=16)(z:JF b)(t:JF e)(g:Int->List Int)
 (B:∀d,Jf 97 #[.agg (JbG p (Jl r) (Jl n) o j l (.string (strOfNums N)):Array Value)] d (Jz d (.bool true)))
 (A:∀c d,0<=c->c<65536->Jf 101 #[.agg (JbG p (Jl r) (Jl n) o j l (.string (strOfNums N)):Array Value),Jl c] d (Jz d (.string (strOfNums (g c)))))
 (C:∀c,JF (g c)/\(g c).length=tHead p+N.length)(s:List Int)(F:s=g (if sumOf (Qh p ((tHead p:Int)+(N.length:Int)) b e++g 0)=0/\p=17 then 65535 else (sumOf (Qh p ((tHead p:Int)+(N.length:Int)) b e++g 0):Nat)))(w:World):
 Jf 48 #[.agg (JbG p (Jl r) (Jl n) o j l (.string (strOfNums N)):Array Value),.string (strOfNums b),.string (strOfNums e)] w (QI w s 0):=by
 have G:tHead p<=20:=by
  unfold tHead;split
  ·omega
  ·split
   ·omega
   ·split<;>omega
 refine Se p r n o j l _ _ _ N.length (Qh p ((tHead p:Int)+(N.length:Int)) b e) g (tHead p+N.length) u O B (λd=>BN p r n o j l _ N.length (Jbe _) O d) A (λd=>?_) ?_ ?_ C O s F w
 ·rcases y with h|h
  ·exact Mi p _ b e h (M▸h) E O d
  ·exact NM p _ b e h (M▸h) E O d
 ·unfold Qh;split
  ·intro v a;cases a
  ·split
   ·refine Jx (Jx (Jx z t) ?_) (JN _);intro v a;simp only[YE,YF,YG] at a;rcases a with rfl|rfl;decide;exact E
   ·refine Jx (Jx (Jx (Jx z t) ?_) (JN _)) ?_
    ·intro v a;simp only[YE,YF,YG] at a;rcases a with rfl|rfl<;>decide
    ·intro v a;simp only[YE,YF,YG] at a;rcases a with rfl|rfl|rfl|rfl<;>first|exact E|decide
 ·unfold Qh;split
  ·simp
  ·split
   ·simp[be2];omega
   ·simp[be2];omega
theorem Dz (p a b f n c:Int)(N:List Int)(d:tHead p≠0):(JU p a b f n c N).length=tHead p+N.length:=by
 unfold JU tHead at*;split
 ·simp[be2];omega
 ·split
  ·simp[be2];omega
  ·rename_i j y;rw[Yw j,Yw y] at d;split
   ·simp[be2];omega
   ·rename_i Y;rw[Yw Y] at d;exact absurd rfl d
theorem Cw (p a b f n c:Int)(N:List Int)(E:¬(p=6\/p=17)->(Jm a)/\(Jm b))(e:Jm f)(L:JF N):JF (JU p a b f n c N):=by
 unfold JU;exact JcY
theorem KP (p a b f:Int)(N d e:List Int):DR p a b f N d e=(λc=>JU p a b f ((tHead p:Int)+(N.length:Int)) c N) (if sumOf (Qh p ((tHead p:Int)+(N.length:Int)) d e++JU p a b f ((tHead p:Int)+(N.length:Int)) 0 N)=0/\p=17 then 65535 else (sumOf (Qh p ((tHead p:Int)+(N.length:Int)) d e++JU p a b f ((tHead p:Int)+(N.length:Int)) 0 N):Nat)):=by
 unfold DR U0;simp only[Int.natCast_add];generalize sumOf (Qh p ((tHead p:Int)+(N.length:Int)) d e++JU p a b f ((tHead p:Int)+(N.length:Int)) 0 N)=g;by_cases h:g=0/\p=17
 ·rw[YH h,YH ⟨O,h.2⟩]
 ·rw[Yw h,Yw (λj=>h ⟨O,j.2⟩)]
theorem Ml (a b f:Int)(N d e:List Int)(L:N.length<=2048)(o:JF N)(M:d.length=e.length)(p:d.length=4\/d.length=16)(z:JF d)(r:JF e)(ha:Jn a)(g:Jn b)(l:Jm f)(w:World):
 Jf 48 #[.agg (JbK (6:Int) (Jl a) (Jl b) f (.string (strOfNums N)):Array Value),.string (strOfNums d),.string (strOfNums e)] w (QI w (DR 6 a b f N d e) 0):=
 KO 6 a b f 0 0 N d e L D D M p z r (λc=>JU 6 a b f ((tHead 6:Int)+(N.length:Int)) c N) (λw=>NN a b f _ N.length (Jbe _) O w) (λc w X j=>NK a b f _ N c o O ha g l ⟨X,j⟩ w) (λc=>⟨Cw 6 a b f _ c N (λh=>absurd (.inl rfl) h) l o,Dz 6 a b f _ c N D⟩) _ (KP 6 a b f N d e) w
theorem Mm (a b:Int)(N d e:List Int)(L:N.length<=2048)(l:JF N)(M:d.length=e.length)(o:d.length=4\/d.length=16)(z:JF d)(p:JF e)(ha:Jn a)(g:Jn b)(w:World):
 Jf 48 #[.agg (JbI (17:Int) (Jl a) (Jl b) (.string (strOfNums N)):Array Value),.string (strOfNums d),.string (strOfNums e)] w (QI w (DR 17 a b 0 N d e) 0):=
 KO 17 a b 0 0 0 N d e L D D M o z p (λc=>JU 17 a b 0 ((tHead 17:Int)+(N.length:Int)) c N) (λw=>NO a b _ N.length (Jbe _) O w) (λc w X j=>NL a b N c l O ha g ⟨X,j⟩ w) (λc=>⟨Cw 17 a b 0 _ c N (λh=>absurd (.inr rfl) h) D l,Dz 17 a b 0 _ c N D⟩) _ (KP 17 a b 0 N d e) w
theorem Iq (p a b:Int)(E:p=1\/p=58)(N d e:List Int)(L:N.length<=2048)(n:JF N)(M:d.length=e.length)(o:d.length=4\/d.length=16)(z:JF d)(t:JF e)(ha:Jm a)(g:Jm b)(w:World):
 Jf 48 #[.agg (JbD p a b (.string (strOfNums N)):Array Value),.string (strOfNums d),.string (strOfNums e)] w (QI w (DR p a b 0 N d e) 0):=by
 have l:tHead p≠0:=by rcases E with rfl|rfl<;>decide
 have r:Jm p:=O;exact KO p 0 0 0 a b N d e L l r M o z t (λc=>JU p a b 0 ((tHead p:Int)+(N.length:Int)) c N) (λw=>Mj p a b _ N.length (Jbe _) O E w) (λc w X j=>Mh p a b _ N c n O E ha g ⟨X,j⟩ w) (λc=>⟨Cw p a b 0 _ c N (λ_=>⟨ha,g⟩) D n,Dz p a b 0 _ c N l⟩) _ (KP p a b 0 N d e) w
end
section
open Go.RowKit
section
variable {P:Program} {ops:Array Oper} {md:Region.Mode}
def TV (P:Program)(ops:Array Oper)(b:World->Prop)(C:Oper)(v:Value)(a:Act):Prop:=Region.wanted C (yielded ops a.tmps)=true/\∀w,b w->(execOp a.eval C).run P w=.ok (.value v) w
def Sf (b:Nat->World->Prop)(n:Nat)(a:World->Prop):Nat->World->Prop:=λr=>if r=n then a else b r
theorem BO {g:Nat->World->Prop}{a:List Nat}{k l:Nat}{d:World->Prop}{j:World->Prop}(h:Hh g a (k+1) d)(E:∀w,d w->j w):Hh (Sf g a.length j) (a++[l]) (k+1) d:=by
 intro r b w R;unfold Sf;by_cases e:r=a.length
 ·rw[YH e];exact E w R
 ·rw[Yw e];refine h r ?_ w R;rw[Yi] at b|-;rcases Yh r a.length with M|M
  ·rwa [WX M] at b
  ·rw[WZ M,W5 (by simp;omega)] at b;simp at b
theorem Ir {e:Nat->World->Prop}{a:List Nat}{k R:Nat}{d:World->Prop}{Ψ:World->Prop}(h:Hh (Sf e a.length Ψ) (a++[R]) (k+1) d):Hh e a (k+1) d:=by
 intro r b w g
 have M:r<a.length:=by
  rcases Yh r a.length with M|M
  ·exact M
  ·rw[Yi,W5 M] at b;simp at b
 have:=h r (by rw[Yi,WX M,<-Yi];exact b) w g;unfold Sf at this;rwa [Yw O] at this
theorem Ow {e:Nat->World->Prop}{a:List Nat}{k R:Nat}{b:World->Prop}{Ψ:World->Prop}(A:k+1<=R)(h:Hh (Sf e a.length Ψ) (a++[R]) (k+1) b):∀w,b w->Ψ w:=by
 intro w d;have:=h a.length (by rw[Yi,WZ (Je _)];simpa using A) w d;unfold Sf at this;rwa [YH rfl] at this
theorem Ev {L p:List Nat}{f:Nat}{z:Obj}{r:Nat->Value}{B s:Nat->World->Prop}{u t:List Nat}{A:Exit->Act->World->Prop}(l:∀k d,Hh s t (k+1) d->Hh B u (k+1) d):
 ∀(n k:Nat) (d:FC) (e:Option Nat) (g:Array Bool) (a:Act),wpZ P md ops L p f z r s t A n k d e g a->wpZ P md ops L p f z r B u A n k d e g a
 |0,k,d,e,g,a,h=>h
 |n+1,k,d,e,g,a,h=>by
  refine⟨h.1,λi F G J=>?_⟩;rcases h.2 i F G J with ⟨j,v,y,Y⟩|⟨j,I,y,Y,o⟩|⟨j,y,Y,o,E⟩
  ·exact .inl ⟨j,v,y,Ev l n _ _ _ _ _ Y⟩
  ·exact .inr (.inl ⟨j,I,y,λv e=>l _ _ (Y v e),λv C=>Ev l n _ _ _ _ _ (o v C)⟩)
  ·exact .inr (.inr ⟨j,y,Y,o,λb=>Ev l n _ _ _ _ _ (E b)⟩)
def G6 (P:Program)(ops:Array Oper)(R:Nat)(E:FC->Act->Prop):List (Kd×Oper)->(Nat->World->Prop)->List Nat->Nat->FC->Act->Prop
 |[],_,_,_,b,a=>E b a
 |(.w,o)::rest,e,d,k,b,a=>∃g:Value->FC,(JX P ops (b none) (λv w=>g v none w) o a)/\(∀v fl,Hh e d (k+1) (g v fl))/\∀v,(∃w,g v none w)->G6 P ops R E rest e d (k+1) (g v) (a.put o.dst v)
 |(.c,o)::rest,e,d,k,b,a=>∃(v:Value) (Ψ:World->Prop),TV P ops Ψ o v a/\(∀fl w,b fl w->Ψ w)/\G6 P ops R E rest (Sf e d.length Ψ) (d++[R]) k b (a.put o.dst v)
 |(_,o)::rest,e,d,k,b,a=>∃v,Bf P ops o v a/\G6 P ops R E rest e d k b (a.put o.dst v)
def DA (md:Region.Mode)(ops:Array Oper):List (Kd×Nat)->Array Bool->Bool
 |[],_=>true
 |(.w,i)::T,a=>decide (Region.ready md ops a=[i])&&DA md ops T (a.setIfInBounds i true)
 |(.q,i)::T,a=>(Region.ready md ops a).contains i&&(Region.free md ops a i&&DA md ops T (a.setIfInBounds i true))
 |(.c,i)::T,a=>(Region.ready md ops a).contains i&&(Region.free md ops a i&&DA md ops T (a.setIfInBounds i true))
 |_,_=>false
def AV:List (Kd×Nat)->List Nat
 |[]=>[]
 |(.q,i)::r=>i::AV r
 |(.c,i)::r=>i::AV r
 |_::r=>AV r
theorem E8:∀(a:List (Kd×Nat)) (p:Kd×Nat),p∈a->(p.1=.q\/p.1=.c)->p.2∈AV a
 |(kd,i)::r,p,h,A=>by
  rcases YE.1 h with rfl|h
  ·simp only at A;rcases A with rfl|rfl<;>simp[AV]
  ·have:=E8 r p h A;cases kd<;>simp only[AV]<;>first|exact this|exact Yg _ this
theorem Ew {hd sq:List Nat}{f:Nat}{ob:Obj}{vf:Nat->Value}{Q:Exit->Act->World->Prop}{R:Nat}{E:FC->Act->Prop}{m:Nat}(X:sq.length<=R)
 (B:∀(J:Nat) (C:Oper) cs b,ops[J]? =some C->C.op≠ .select cs b)(A:∀k T t:Nat,sq[k]? =some t->sq[T]? =some t->k=T)(n:∀J∈hd,J∉sq):
 ∀(l:List (Kd×Oper)) (is:List (Kd×Nat)) (s:Nat->World->Prop) (o:List Nat) (k:Nat) (e:FC) (g:Array Bool) (a:Act),is.map (λp=>ops[p.2]?)=l.map (λp=>some p.2)->is.map (·.1)=l.map (·.1)->(∀p∈is,(p.1=.q\/p.1=.c)->p.2∈hd)->(∀J t,(QW is)[J]? =some t->sq[k+J]? =some t)->Q4 md ops sq k g->
 DA md ops is g=true->(∀ag ah T L U,E L U->Q4 md ops sq T (XG is g)->wpZ P md ops hd sq f ob vf ag ah Q m T L none (XG is g) U)->
 G6 P ops R E l s o k e a->wpZ P md ops hd sq f ob vf s o Q (l.length+m) k e none g a
 |[],is,s,o,k,e,g,a,j,_,_,_,u,_,F,h=>by
  cases is with
  |cons i is=>cases j
  |nil=>rw[Jau,WM];exact F s o k e a h u
 |(kk,C)::l,is,s,o,k,e,g,a,j,y,Y,V,u,d,F,h=>by
  cases is with
  |nil=>cases j
  |cons q is=>
   obtain⟨ab,i⟩:=q;simp only[Jap,JaD] at j y;obtain⟨rfl,y⟩:=y
   have ha:i∈Region.ready md ops g:=by
    cases ab<;>simp only[DA,YO,YS] at d
    ·cases d
    ·simpa using d.1
    ·rw[d.1];simp
    ·simpa using d.1
    ·cases d
   rw[show((ab,C)::l).length+m=(l.length+m)+1 by simp only[Yy];omega];cases ab with
   |h=>cases d
   |f=>cases d
   |q=>
    simp only[DA,YO] at d;obtain⟨v,z,aa⟩:=h;have I:=Y (.q,i) (by simp) (.inl rfl);refine Al (a0:=a) j.1 B A n I (λ_ _=>True) (λ_ _ _ fl U S G=>(z.of_same S G).yields _) (λ_ _ _ _ _ _ _ _ _ _ _=>trivial) (l.length+m) k e none g a trivial u (YQ j.1 d.2.1) ha rfl rfl ?_;exact Ew X B A n l is s o k e _ _ j.2 y (λp M=>Y p (by simp[M])) (λJ t N=>V J t N) (u.other ha (n i I)) d.2.2 F aa
   |c=>
    simp only[DA,YO] at d;obtain⟨v,Ψ,z,ai,aa⟩:=h;have I:=Y (.c,i) (by simp) (.inr rfl);refine Ev (λk e=>Ir (R:=R) (Ψ:=Ψ)) _ _ _ _ _ _ ?_;refine Al (a0:=a) j.1 B A n I (λ_ e=>∀fl w,e fl w->Ψ w) (λ_ e ad fl U S G=>Ah (by rw[G];exact z.1) (λw Z=>by rw[S];exact z.2 w (ad fl w Z))) (λam al ao an J _ _ _ _ W af fl w Z=>?_) (l.length+m) k e none g a ai u (YQ j.1 d.2.1) ha rfl rfl ?_
    ·exact Ow (WJ (W0.1 W).1 X) (af fl) w Z
    exact Ew X B A n l is _ _ k e _ _ j.2 y (λp M=>Y p (by simp[M])) (λJ t N=>V J t N) (u.other ha (n i I)) d.2.2 F aa
   |w=>
    simp only[DA,YO,YS] at d;obtain⟨L,S,G,ak⟩:=h;have ac:sq[k]? =some i:=V 0 i rfl;refine⟨by rw[d.1];simp,λJ W ae aj=>?_⟩;rw[d.1] at W;obtain rfl:J=i:=by simpa using W
    obtain rfl:C=ae:=Yp (j.1.symm.trans aj);refine .inr (.inl ⟨ac,L,S,G,λv z=>?_⟩);exact Ew X B A n l is s o (k+1) (L v) _ _ j.2 y (λp M=>Y p (by simp[M])) (λJ t N=>by have:=V (J+1) t (by simpa[QW] using N);rwa [show k+(J+1)=k+1+J from O] at this) (u.row2 A ha ac) d.2 F (ak v z)
def srB (l:List Oper)(z:List Nat)(b:List (Nat×Nat×Nat))(e:List Nat)(d:List Oper)(G:List (Kd×Nat)):Bool:=
 let late:=λi=>((b.lookup i).map (·.1)).getD 0
 let grp:=λi=>((b.lookup i).map (·.2)).getD 0
 let sq:=QW G
 let hd:=z++AV G
 let a:=Xr z (Array.replicate l.toArray.size false)
 Region.noSelect l.toArray&&(Un .any l.toArray z sq late&&(z.all (λi=>decide (late i<=e.getD (grp i) 0))&&(Bl .any l.toArray z (Array.replicate l.toArray.size false)&&(ZW l.toArray d&&
  (hd.all (λi=>!sq.contains i)&&(G.all (λp=>decide (p.2<l.length))&&(DA .any l.toArray G a&&(decide (Region.ready .any l.toArray (XG G a)=[])&&decide (z.length+G.length=l.length)))))))))
theorem QO {id:Nat}{Q:Exit->Act->World->Prop}{a:Act}{w:World}{l:List Oper}(b:List Kd)(e:List (Nat×Nat×Nat))(A:Nat->World->Prop)(v:List Nat)(s:List (Kd×Nat))(aq:P.follows .mixedOrders=true)(ar:Nat.ble b.length l.length=true)
 (I:srB l (Qs b 0) e v (JW b l) s=true)(hd:Be a.tmps.size (JW b l)=true)
 (h:∃j:Act,(∀V,Ji w V->wpQuiet P l.toArray (λd=>∃x:J2 V,d=x.world) (λaj=>aj=j) (JW b l) a)/\
   (∀p∈e,∀o,l[p.1]? =some o->Gw P l.toArray (A p.2.2) o j)/\
   G6 P l.toArray (QW s).length (λu y=>∀d,u none d->Q .normal y d) (Qp l s) A v 0 (De w (.cells #[] 0)) j):(Code.region id l.toArray true).wp P Q a w:=by
 have aG:b.length<=l.length:=Jbd ar;obtain⟨j,U,au,al⟩:=h;simp only[srB,YO,YS,Y4] at I;obtain⟨B,Z,av,ak,ai,X,N,ag,ao,aB⟩:=I;have C:=D8 Z
 have S:∀J∈Qs b 0++AV s,J∉QW s:=λJ aa ad=>by
  have:=X J aa;rw[JaT.2 ad] at this;cases this
 have ab:(Qs b 0).map (λi=>l.toArray[i]?)=(JW b l).map some:=by
  have:=ZX (l0:=l) b 0 O;exact Jek
 obtain⟨L,ae⟩:=AO (l:=l) s (Y4.2 λp g=>by simpa using N p g);have aw:s.length=(Qp l s).length:=by have:=congrArg List.length L;simpa using this
 have am:Q4 .any l.toArray (QW s) 0 (Array.replicate l.toArray.size false):=
  ⟨by simp,λJ aC _ M=>(by rw[getD_replicate_false] at M;cases M),λap t _ z=>by
    refine getD_in ?_ (getD_replicate_false _ _);obtain⟨p,g,rfl⟩:=GJ _ t (YD z);simpa using N p g,λap t aA z=>O⟩
 have af:=λhinv=>Ew (P:=P) (md:=.any) (ops:=l.toArray) (f:=l.length) (m:=0) (hd:=Qs b 0++AV s) (sq:=QW s) (Q:=Q) (ob:=.cells #[] 0) (vf:=XK) (R:=(QW s).length) (E:=λu y=>∀d,u none d->Q .normal y d) (Je _) (YP B) C.once S (Qp l s) s A v 0 (De w (.cells #[] 0)) (Xr (Qs b 0) (Array.replicate l.toArray.size false)) j (by simpa using L) ae
  (λp g Y=>Ye.2 (.inr (E8 _ p g Y))) (λJ t h=>by rw[WM];exact h) hinv ag (λaF ay aE ax az W _=>⟨ao,W⟩) al
 have T:=Ec (GI w _) (md:=.any) (hd:=Qs b 0++AV s) (f:=l.length) (ob:=.cells #[] 0) (vf:=XK) (w0:=w) (fl:=none) (r:=(Qp l s).length+0) (late:=λi=>((e.lookup i).map (·.1)).getD 0) (grp:=λi=>((e.lookup i).map (·.2)).getD 0) (Q:=Q) B C (λi F=>F)
  (λi F=>Ye.2 (.inl F)) S av
  (λi F o ah G=>by
    cases hlk:e.lookup i with
    |none=>rw[hlk] at G;simp at G
    |some m=>
     have ac:=ZY e i m hlk;have:=au (i,m) ac o (by simpa using ah);simpa[hlk] using this)
  (Qs b 0) (JW b l) _ a ab (λi F=>F) am hd ai ak af U
 refine YT aq ?_;have:=X3 (Q':=Q) _ 0 _ none _ _ _ ⟨⟨⟨_,(Jc w.heap.size w).drew⟩,rfl⟩,λaD an=>by cases an⟩ T;rw[show(Qs b 0).length+((Qp l s).length+0)=l.toArray.size by simp only[JaK];omega] at this;exact this
end
end
section
open Go.RowKit Bits
structure UD (k:Nat)(h:IpH):Prop where
 tos:Jm h.tos
 total:Jn h.total
 id:Jn h.id
 frag:Jn h.frag
 ttl:Jm h.ttl
 proto:Jm h.proto
 src:h.src.length=k/\JF h.src
 dst:h.dst.length=k/\JF h.dst
 opt:JF h.opt
theorem G7 {h:IpH}{k:Nat}(A:UD k h)(P:QF h=true)(b:Int):JF (Qc h b):=by
 have B:h.opt.length<=40:=by unfold QF at P;simp at P;omega
 unfold Qc;refine Jx (Jx (Jx (Jx (Jx (Jx ?_ (JN _)) (JN _)) (JN _)) ?_) (JN _)) (Jx (Jx A.src.2 A.dst.2) A.opt)
 ·intro v a;simp only[YE,YF,YG] at a;rcases a with rfl|rfl;omega;exact A.tos
 ·intro v a;simp only[YE,YF,YG] at a;rcases a with rfl|rfl;exact A.ttl;exact A.proto
theorem Mn (h:IpH)(j:Int)(b1:Jn j)(w:World)(k:Nat)(bD:k<=16)(A:UD k h)(P:QF h=true):
 Jf 103 #[.agg (Tg h),Jl j] w (J5 w (Qc h j)):=by
 have bJ:h.opt.length<=40/\h.opt.length%4=0:=by
  unfold QF at P;simp at P;omega
 have bK:=H A
 have I:Hid (∀(v:Int) (w:World),0<=v->v<65536->Jf 67 #[Jo v,Jk 2] w (J5 w (be2 v))):=H (λv w X av=>by
  have:=X2 2 v w D X O;rwa [Dv] at this)
 have bf:Hid (∀(v:Int) (w:World),0<=v->v<256->Jf 67 #[Jo v,Jk 1] w (J5 w [v])):=H (λv w X av=>by
  have:=X2 1 v w D X O;rwa [Ut v ⟨X,av⟩] at this)
 have br:Hid (∀w,Jf 157 #[.bool h.df,Jo 16384] w (Jz w (Jo (if h.df then 16384 else 0)))):=H (λw=>Oi _ _ _);have aG:Hid (∀w,Jf 157 #[.bool h.mf,Jo 8192] w (Jz w (Jo (if h.mf then 8192 else 0)))):=H (λw=>Oi _ _ _);have a7:0<=(if h.df then (16384:Int) else 0)/\(if h.df then (16384:Int) else 0)<=16384:=by split<;>omega
 have bS:0<=(if h.mf then (8192:Int) else 0)/\(if h.mf then (8192:Int) else 0)<=8192:=by split<;>omega
 have bQ:h.frag<=8191:=by unfold QF at P;simp at P;omega
 have bb:Hid (Qc h j=[64+((20+h.opt.length:Nat):Int)/4,h.tos]++be2 h.total++be2 h.id++be2 ((if h.df then 16384 else 0)+(if h.mf then 8192 else 0)+h.frag)++[h.ttl,h.proto]++be2 j++(h.src++h.dst++h.opt)):=H rfl;have bX:(strOfNums h.opt).size=h.opt.length:=Jbe _;have bR:(strOfNums h.src).size=k:=by rw[Jbe,A.src.1]
 have bP:(strOfNums h.dst).size=k:=by rw[Jbe,A.dst.1]
 have a3:Hid (strOfNums h.src++strOfNums h.dst++strOfNums h.opt=strOfNums (h.src++h.dst++h.opt)):=H (by rw[Zd,Zd]);have ag:Hid ((h.src++h.dst++h.opt).length=2*k+h.opt.length):=H (by rw[WV,WV,A.src.1,A.dst.1];omega);have a4:Hid (JF (h.src++h.dst++h.opt)):=H (Jx (Jx A.src.2 A.dst.2) A.opt);unfold Tg;generalize (if h.df then (16384:Int) else 0)=n at*;generalize (if h.mf then (8192:Int) else 0)=l at*;generalize strOfNums h.opt=Z at*;generalize strOfNums h.src=M at*;generalize strOfNums h.dst=Q at*;generalize h.opt.length=ad at*;obtain⟨q,aK⟩:∃q:Int,(20+(ad:Int))/4=q:=⟨_,rfl⟩
 have bx:Int.tdiv (20+(ad:Int)) 4=q:=by rw[Jaw O];exact aK
 have bA:0<=q/\q<16:=O;have a8:Hid (((20+ad:Nat):Int)/4=q):=H O;have bz:=A.total;have bF:=A.id;have bO:=A.frag;have ax:=A.ttl;have az:=A.proto;have aw:=A.tos;clear A P;go_enter func103,ntmps103
 go_wp2_with fail
 refine Jb (bf _ _ O O) ?_;rintro e af ⟨aI,aP,rfl,a,g⟩;have Y:=ZN.start (w:=w) (WP w _) (Below.all (Jc _ _) _) (Je _) g a (by intro v d;obtain rfl:=YI.1 d;omega);have L:=H Y
 have B:=H (XF (WP af (.cells #[Jq h.tos] 5)) 0 1 [h.tos] rfl (by intro v d;obtain rfl:=YI.1 d;exact aw) D (λJ aL=>by
  rcases J with _|J
  ·rfl
  ·omega))
 have aa:=Y.lt;clear Y a g;have u:=L.box;have bc:Jg af w.heap.size 0 (Jq h.tos):=WF 0 u;clear u;go_wp2_with (at_builtin;refine JJ.of ?_)
 refine JJ.mk ?_;refine JI _ rfl _ _ 22 rfl 5 (w.heap.size+1) underlying22 infoU8 aI 1 aP _ rfl (L.below (Below.all (Jc _ _) _)).own (some ⟨af.heap.size,0,none⟩) 1 1 [h.tos] rfl B O (by simp;omega) ?_;intro bs aY a6 a r _;have T:=H ((L.below (Below.all (Jc _ _) _)).app a r (by intro v d;obtain rfl:=YI.1 d;exact aw));rw[show[64+q]++[h.tos]=[64+q,h.tos] from rfl] at T;clear a r B L bc aa;have u:=T.box;have a2:Jg a6 w.heap.size 1 (Jl h.total):=WF 1 u;clear u;go_wp2_with fail
 refine Jb (I _ _ O O) ?_;rintro e bT ⟨bW,b0,rfl,a,g⟩;have F:=H (T.below g);have an:=H (a.reads (JN _));clear a g T a2;go_wp2_with fail
 refine Jb (Bits.join_any bs 2 aY [64+q,h.tos] _ _ _ (be2 (h.total)) _ F.reads an O (by simp[be2])) ?_;rintro e bv ⟨be,bo,rfl,a,g⟩;obtain⟨G,b⟩:∃G,G=[64+q,h.tos]++be2 (h.total):=⟨_,rfl⟩
 rw[<-b] at a|-;have R:=H (F.anew g a (by rw[b];exact Jx F.byte (JN _)));have aN:G.length=4:=by rw[b,WV,F.len];rfl
 have aE:=H b;clear b a g F an;rw[aN] at R|-;have u:=R.box;have bg:Jg bv w.heap.size 2 (Jl h.id):=WF 2 u;clear u;go_wp2_with fail
 refine Jb (I _ _ O O) ?_;rintro e bL ⟨b2,bY,rfl,a,g⟩;have s:=H (R.below g);have ai:=H (a.reads (JN _));clear a g R bg;go_wp2_with fail
 refine Jb (Bits.join_any be 4 bo G _ _ _ (be2 (h.id)) _ s.reads ai O (by simp[be2])) ?_;rintro e ae ⟨aU,bl,rfl,a,g⟩;obtain⟨E,b⟩:∃E,E=G++be2 (h.id):=⟨_,rfl⟩
 rw[<-b] at a|-;have o:=H (s.anew g a (by rw[b];exact Jx s.byte (JN _)));have bq:E.length=6:=by rw[b,WV,s.len];rfl
 have bp:=H b;clear b a g s ai;rw[bq] at o|-;have u:=o.box;have aA:Jg ae w.heap.size 3 (.bool h.df):=WF 3 u;have ao:Jg ae w.heap.size 4 (.bool h.mf):=WF 4 u;have ah:Jg ae w.heap.size 5 (Jl h.frag):=WF 5 u;clear u;go_wp2_with fail
 have ap:Hid (0<=n+l+h.frag/\n+l+h.frag<65536):=H O;clear aA ao ah;refine Xf 12 [true] K K K ?_;apply Exists.intro;refine⟨λV ab=>?_,?_⟩
 ·have bC:w.heap.size<V.heap.size:=(o.below ab).lt;have u:=(o.below ab).box;have aA:Jg V w.heap.size 3 (.bool h.df):=WF 3 u;have ao:Jg V w.heap.size 4 (.bool h.mf):=WF 4 u;have ah:Jg V w.heap.size 5 (Jl h.frag):=WF 5 u;clear u;clear ab;simp only[Y6,Y7];repeat go_big_quiet_step ((first|(go_at_call 157;exact JD (br _))|(go_at_call 157;exact JD (aG _))))
  exact Jaa rfl
 simp only[Y8,Y9,Jba,Jbb,Yy,Jau];refine Xz (SB (be2 (n+l+h.frag))) (B2.call 67 #[Jo (n+l+h.frag),Jk 2] rfl (λak=>K) (λak a7 _=>(I _ ak ap.1 ap.2).mono λe w2 aH=>Dt aH)) (AN _) ?_;rintro bV bN v aB a0-⟨bH,bt,aS,rfl,-⟩;refine ZD ?_;intro aR g am;obtain⟨a1,aC,ar,ay,-⟩:=((am _ (Yf ..)).2 aR (Jc _ _))
 obtain⟨rfl,-,rfl⟩:bt=a1/\True/\aS=aC:=by simpa using ar
 have z:=H (o.below g);have aq:=H (ay.reads (JN _));clear am ar a0 aB ay g o;go_wp2_with fail
 refine Jb (Bits.join_any aU 6 bl E _ _ _ (be2 (n+l+h.frag)) _ z.reads aq O (by simp[be2])) ?_;rintro e S ⟨bn,aT,rfl,a,g⟩;obtain⟨C,b⟩:∃C,C=E++be2 (n+l+h.frag):=⟨_,rfl⟩
 rw[<-b] at a|-;have p:=H (z.anew g a (by rw[b];exact Jx z.byte (JN _)));have a9:C.length=8:=by rw[b,WV,z.len];rfl
 have bk:=H b;clear b a g z aq;rw[a9] at p|-;have u:=p.box;have bh:Jg S w.heap.size 6 (Jq h.ttl):=WF 6 u;have ba:Jg S w.heap.size 7 (Jq h.proto):=WF 7 u;clear u
 have B:=H (XF (WP S (.cells #[Jq h.ttl,Jq h.proto] 5)) 0 2 [h.ttl,h.proto] rfl (by intro v d;simp only[YE,YF,YG] at d;rcases d with rfl|rfl;exact ax;exact az) D (λJ aL=>by
  rcases J with _|_|J
  ·rfl
  ·rfl
  ·omega))
 have aa:=p.lt;go_wp2_with (at_builtin;refine JJ.of ?_)
 refine JJ.mk ?_;refine JI _ rfl _ _ 22 rfl 5 (w.heap.size+1) underlying22 infoU8 bn 8 aT _ rfl (p.below (Below.all (Jc _ _) _)).own (some ⟨S.heap.size,0,none⟩) 2 2 [h.ttl,h.proto] rfl B O (by simp;omega) ?_;intro aF aJ bE a r _;have al:=H ((p.below (Below.all (Jc _ _) _)).app a r (by intro v d;simp only[YE,YF,YG] at d;rcases d with rfl|rfl;exact ax;exact az));clear a r B p bh ba aa;go_wp2_with fail
 refine Jb (I _ _ O O) ?_;rintro e bZ ⟨bI,bG,rfl,a,g⟩;have y:=H (al.below g);have aj:=H (a.reads (JN _));clear a g al;go_wp2_with fail
 refine Jb (Bits.join_any aF 10 aJ (C++[h.ttl,h.proto]) _ _ _ (be2 (j)) _ y.reads aj O (by simp[be2])) ?_;rintro e ac ⟨aV,aX,rfl,a,g⟩;obtain⟨t,b⟩:∃t,t=(C++[h.ttl,h.proto])++be2 (j):=⟨_,rfl⟩
 rw[<-b] at a|-;have U:=H (y.anew g a (by rw[b];exact Jx y.byte (JN _)));have aZ:t.length=12:=by rw[b,WV,y.len];rfl
 have bu:=H b;clear b a g y aj;rw[aZ] at U|-;have u:=U.box;have aO:Jg ac w.heap.size 8 (.string M):=WF 8 u;have aM:Jg ac w.heap.size 9 (.string Q):=WF 9 u;have bm:Jg ac w.heap.size 10 (.string Z):=WF 10 u;clear u;have bU:M.size+Q.size<=9223372036854775807:=O;have bB:(M++Q).size+Z.size<=9223372036854775807:=by rw[ByteArray.size_append];omega
 go_wp2_with (with_reducible refine XD 66 ?_)
 refine JJ.mk ?_;refine Qi _ rfl 9 22 _ rfl 5 underlying9 underlying22 underlying5 (h.src++h.dst++h.opt) (by show Value.string (M++Q++Z)=_;rw[a3.out]) a4 (by rw[ag.out];omega) ?_;intro bM bw g W;rw[ag.out] at W|-;have N:=H (U.below g);have au:=H W;clear g W aO aM bm U;go_wp2_with fail
 refine Jb (Bits.join_any aV 12 aX t _ _ _ (h.src++h.dst++h.opt) _ N.reads au O O) ?_;rintro e aW ⟨a5,bj,rfl,a,g⟩
 have bi:Hid (t++(h.src++h.dst++h.opt)=Qc h j):=H (by
  rw[bb.out,a8.out,bu.out,bk.out,bp.out,aE.out])
 rw[bi.out] at a|-;have aD:=H a;have aQ:Hid (Ji w aW):=H (Wx N.out.out g);have bd:=H N.out.out.size;clear a g N au;go_wp2_with fail
 go_ret;exact⟨a5,bj,rfl,aD.mono bd,aQ.out⟩
theorem Z9 (h:IpH)(w:World)(k:Nat)(M:k<=16)(A:UD k h)(aj:h.opt.length<=100000):Jf 49 #[.agg (Tg h)] w (JO w (Ai h) (Xs h)):=by
 have d:Hid (∀w,Jf 102 #[.agg (Tg h)] w (Jz w (.bool (QF h)))):=H (λw=>LS h w aj A.total);by_cases P:QF h=true
 ·have l:Hid (JO w (Ai h) (Xs h)=JO w (Q7 h) 0):=H (by unfold Ai Xs;rw[P];rfl);have B:Hid (∀(a:Int) (w:World),0<=a->a<65536->Jf 103 #[.agg (Tg h),Jl a] w (J5 w (Qc h a))):=H (λa w ai j=>Mn h a ⟨ai,j⟩ w k M A P);have ac:Hid (Q7 h=Qc h (sumOf (Qc h 0))):=H rfl
  have af:Hid ((Qc h 0).length<=1000000):=H (by
   have j:=A.src.1;have y:=A.dst.1;unfold Qc;simp[be2,j,y];omega)
  have ag:Hid (JF (Qc h 0)):=H (G7 A P 0);rw[P] at d;clear P A;unfold Tg at*;generalize strOfNums h.opt=Z at*;generalize strOfNums h.src=E at*;generalize strOfNums h.dst=F at*;go_enter func49,ntmps49
  go_wp2_with (go_at_call 102;refine Calls.later (d _) ?_;intro x)
  have b:=(x.below.block w.heap.size (by simp)).trans (WP w _);have Q:Hid (Ji w x.world):=H (Ww (Below.all (Jc _ _) _));have C:=H b;clear b;generalize x.world=ao at*;refine Xf 2 [true,false] K K K ?_;apply Exists.intro;refine⟨λt b=>?_,?_⟩
  ·have u:=(b.block _ (Ja C).1).trans C;have X:w.heap.size<t.heap.size:=(Ja u).1;have T:Jv t w.heap.size 0 11=(JbR (Jq h.tos) (Jl h.total) (Jl h.id) (.bool h.df) (.bool h.mf) (Jl h.frag) (Jq h.ttl) (Jq h.proto) (.string E) (.string F) (.string Z):Array Value):=by rw[JG _ _ _ _ _ _ _ u];simp
   have av:∀x:J2 t,Xj prog 106 x.world (Jj w.heap.size)=.ok (.value (.agg (JbR (Jq h.tos) (Jl h.total) (Jl h.id) (.bool h.df) (.bool h.mf) (Jl h.frag) (Jq h.ttl) (Jq h.proto) (.string E) (.string F) (.string Z)))) x.world:=λx=>by
    have e:Jv x.world w.heap.size 0 11=_:=(J2.part x w.heap.size 0 11 X).trans T;rw[DT x.world w.heap.size 0 (by rw[e];rfl),e]
   clear u b;simp only[Y6,Y7];exact JcD
  simp only[Y8,Y9,Jba,Jbb,Yy,Jau];refine Xz (SB (Qc h 0)) (B2.call 103 #[.agg _,Jbl] rfl (λV=>K) (λV N _=>(B 0 V D D).mono λe w2 aa=>Dt aa)) (AN _) ?_;rintro au an aw R ae-⟨aq,I,J,rfl,-⟩;generalize ah:(Qc h 0).length=Y at*;refine Ch (Jl (sumOf (Qc h 0):Nat)) (ZV.call 100 #[.slice I Y J] rfl (λV=>K) ?_) ?_
  ·intro V N o;obtain⟨ab,U,L,z,-⟩:=((o _ (Yf ..)).2 V (Jc _ _))
   rw[ah] at L z;obtain⟨rfl,-,rfl⟩:I=ab/\True/\J=U:=by simpa using L
   exact RG _ _ _ _ V (z.reads ag) af
  refine ZD ?_;intro am g o;have v:Hid (Ji w am):=H (Wx Q g);clear o g ae R;have ar:=DE (Qc h 0);generalize sumOf (Qc h 0)=sm at*;go_wp2_with fail
  refine Jb (B sm _ O O) ?_;rintro e W ⟨ak,al,rfl,r,g⟩;rw[<-ac.out] at r|-;have S:=H (r.mono v.size);have ad:Hid (Ji w W):=H (Wx v g);clear r g;generalize G:(Q7 h).length=ap at*;go_wp2_with fail
  go_ret2;show JO w (Ai h) (Xs h) _ _;rw[l.out];exact⟨ak,al,by rw[G];rfl,by rw[G];exact S,ad.out⟩
 ·have p:QF h=false:=by simpa using P
  have l:Hid (JO w (Ai h) (Xs h)=JO w [] 51):=H (by unfold Ai Xs;rw[p];rfl);rw[p] at d;clear P p;unfold Tg at*;go_enter func49,ntmps49
  go_wp2_with (go_at_call 102;refine Calls.later (d _) ?_;intro x)
  go_ret2;show JO w (Ai h) (Xs h) _ _;rw[l.out];exact⟨none,0,rfl,J8.nil _ _ _,Ww (Below.all (Jc _ _) _)⟩
open Go.RowKit
theorem Bx.set {d w:World}{g:List (Nat×Obj)}{b:Nat}{o:Array Value}{t:TypeId}(h:Bx d w ((b,.cells o t (0,0))::g))(cs:Array Value)(hb:d.heap.size<=b)(n:∀p∈g,p.1≠b):Bx d (w.setRow b cs) ((b,.cells cs t (0,0))::g):=by
 refine⟨λc j W=>?_,below_setRow h.out hb _⟩;rcases YE.1 W with e|W
 ·cases e;exact JC (h.at 0 rfl)
 ·exact(Ja5 _ _ _ _ (n _ W)).trans (h.all c j (Yg _ W))
theorem Bx.cons {a w:World}{j:List (Nat×Obj)}{b:Nat}{C:Obj}(h:Bx a w j)(g:w.heap[b]? =some C):Bx a w ((b,C)::j):=by
 refine⟨λc l W=>?_,h.out⟩;rcases YE.1 W with e|W
 ·cases e;exact g
 ·exact h.all c l W
theorem Bx.lts {b w:World}{a:List (Nat×Obj)}(h:Bx b w a):∀p∈a,p.1<w.heap.size:=λp E=>(Ja (h.all p.1 p.2 E)).1
theorem Bx.grown {o w d n:World}{g:List (Nat×Obj)}{s:Option Addr}(h:Bx o w g)(u:Bx o n g)(t:w.grownBy d (s.map Addr.block))(B:∀a,s=some a->n.heap.size<=a.block):Bx o d g:=by
 refine⟨λb r W=>?_,Yr h.out t h.out.size (λk A=>?_)⟩
 ·refine(t.block b (Ja (h.all b r W)).1 (λe=>?_)).trans (h.all b r W);obtain⟨a,ha,z⟩:=Yb.1 e.symm;have j:=B a ha;have y:b<n.heap.size:=u.lts _ W;omega
 ·obtain⟨a,ha,z⟩:=Yb.1 A;have j:=B a ha;have y:=u.out.size;omega
open Go.RowKit
theorem JdB{p:Prop}(h:p:=by
 go_wp2_with fail
 go_ret2;exact Au j.out.out):p:=h
theorem Jee{p:Prop}(h:p:=by
 go_wp2_with fail
 go_ret2;exact Au n.out.out):p:=h
theorem Au {w d:World}{err:Int}(h:Ji w d):QI w [] err (.returned (.tuple #[Jbo,Jk err])) d:=
 ⟨none,0,rfl,⟨rfl,Je _,WG _,(λv a=>by cases a),.inl rfl⟩,h⟩
theorem BP {s t:Bool}{Z d:Nat->Int}{p a b f N:Int}(e:X9 ⟨⟨s,Z,t,d,p,a,b⟩,f,N⟩=false):JS ⟨s,Z,t,d,p,a,b⟩=true/\(s&&Qe p)=false/\(f != 0&&p != 6)=false/\decide (N<0)=false:=by
 rw[show X9 ⟨⟨s,Z,t,d,p,a,b⟩,f,N⟩=(!(JS ⟨s,Z,t,d,p,a,b⟩)||((s&&Qe p)||((f != 0&&p != 6)||decide (N<0)))) from rfl] at e;generalize JS ⟨s,Z,t,d,p,a,b⟩=T at*;generalize (s&&Qe p)=x at*;generalize (f != 0&&p != 6)=Q at*;generalize decide (N<0)=g at*;revert e
 cases T<;>cases x<;>cases Q<;>cases g<;>decide
theorem A7 (p:Int):((true&&Qe p)=true->p=0\/p=43\/p=44\/p=60)/\((true&&Qe p)=false->(p==0)=false/\(p==43)=false/\(p==44)=false/\(p==60)=false):=by
 rw[Bool.true_and];unfold Qe;constructor
 ·intro h;simp only[Bool.or_eq_true,Y2] at h;rcases h with ((h|h)|h)|h<;>simp[h]
 ·intro h;simp only[Bool.or_eq_false_iff] at h;exact⟨h.1.1.1,h.1.1.2,h.1.2,h.2⟩
def Sg (w:World)(n:Nat)(err:Int):Ending->World->Prop:=λe d=>∃a o,e=.returned (.tuple #[.slice a n o,Jk err])/\Ji w d
theorem KQ (Z:Nat->Int)(t:Bool)(d:Nat->Int)(p a b f N:Int)(l:X9 ⟨⟨false,Z,t,d,p,a,b⟩,f,N⟩=true\/(X9 ⟨⟨false,Z,t,d,p,a,b⟩,f,N⟩=false/\2048<N))(I:EA ⟨⟨false,Z,t,d,p,a,b⟩,f,N⟩)(w:World):
 Jf 16 #[.agg (spC false Z t d p a b f N)] w (QI w (spL ⟨⟨false,Z,t,d,p,a,b⟩,f,N⟩) (Qy ⟨⟨false,Z,t,d,p,a,b⟩,f,N⟩)):=by
 obtain⟨T,u⟩:∃T,JS ⟨false,Z,t,d,p,a,b⟩=T:=⟨_,rfl⟩
 have M:Hid (∀w,Jf 27 #[.agg (kyC false Z t d p a b)] w (Jz w (.bool T))):=H λw=>by rw[<-u];exact QT false Z t d p a b w
 obtain⟨e,E⟩:∃e,spL ⟨⟨false,Z,t,d,p,a,b⟩,f,N⟩=e:=⟨_,rfl⟩
 obtain⟨o,A⟩:∃e,Qy ⟨⟨false,Z,t,d,p,a,b⟩,f,N⟩=e:=⟨_,rfl⟩
 obtain⟨x,P⟩:∃x,(false&&Qe p)=x:=⟨_,rfl⟩
 have g:Hid ((((!T||(x||((f != 0&&p != 6)||decide (N<0))))=true)/\e=[]/\o=2)\/(((!T||(x||((f != 0&&p != 6)||decide (N<0))))=false)/\decide (2048<N)=true/\e=[]/\o=3)):=H (by
  rw[<-u,<-P,<-E,<-A];rcases l with l|⟨l,B⟩
  ·obtain⟨F,v⟩:=KL l;exact .inl ⟨l,v,F⟩
  ·obtain⟨F,v⟩:=Oq l B;exact .inr ⟨l,Yz B,v,F⟩)
 have R:=I.n;rw[E,A];obtain rfl:x=false:=P▸rfl;clear P;clear u E A l I;have G:=((Bx.start w).box (spC false Z t d p a b f N) 52).box (kyC false Z t d p a b) 38;rw[show(w.alloc (.cells (spC false Z t d p a b f N) 52)).heap.size=w.heap.size+1 by simp] at G;have J:=H G;clear G;unfold spC kyC at*;go_enter func16,ntmps16
 go_wp2_with fail
 refine J.ret (M _) ?_;intro z L n;clear L J;cases T
 ·obtain⟨rfl,rfl⟩:e=[]/\o=2:=by rcases g.out with h|h;exact h.2;exact absurd h.1 (by simp)
  clear g;exact Jee
 have U:Jg z w.heap.size 37 (Jq f):=n.cell 1 37 rfl rfl;have Q:Jg z w.heap.size 38 (Jk N):=n.cell 1 38 rfl rfl;have S:Jg z (w.heap.size+1) 34 (Jq p):=n.cell 0 34 rfl rfl;rcases(by cases j:(f != 0)<;>cases y:(p != 6)<;>simp:(f != 0)=false\/((f != 0)=true/\(p != 6)=false)\/((f != 0)=true/\(p != 6)=true)) with r|⟨r,C⟩|⟨r,C⟩;rotate_right
 ·obtain⟨rfl,rfl⟩:e=[]/\o=2:=by rcases g.out with h|h;exact h.2;exact absurd h.1 (by rw[r,C];simp)
  clear g;exact Jee
 all_goals
  by_cases s:N<0
  ·have y:decide (N<0)=true:=by simpa using s
   obtain⟨rfl,rfl⟩:e=[]/\o=2:=by rcases g.out with h|h;exact h.2;exact absurd h.1 (by rw[y];simp)
   clear g s;exact Jee
  have y:decide (N<0)=false:=by simpa using s
  obtain⟨Y,rfl,rfl⟩:decide (2048<N)=true/\e=[]/\o=3:=by
   rcases g.out with h|h
   ·exact absurd h.1 (by rw[y];first|(rw[r,C];decide)|(rw[r];simp))
   ·exact h.2
  clear g s;exact Jee
theorem Mo (Z:Nat->Int)(t:Bool)(d:Nat->Int)(p a b f N:Int)(l:X9 ⟨⟨true,Z,t,d,p,a,b⟩,f,N⟩=true\/(X9 ⟨⟨true,Z,t,d,p,a,b⟩,f,N⟩=false/\2048<N))(M:EA ⟨⟨true,Z,t,d,p,a,b⟩,f,N⟩)(w:World):
 Jf 16 #[.agg (spC true Z t d p a b f N)] w (QI w (spL ⟨⟨true,Z,t,d,p,a,b⟩,f,N⟩) (Qy ⟨⟨true,Z,t,d,p,a,b⟩,f,N⟩)):=by
 obtain⟨T,u⟩:∃T,JS ⟨true,Z,t,d,p,a,b⟩=T:=⟨_,rfl⟩
 have J:Hid (∀w,Jf 27 #[.agg (kyC true Z t d p a b)] w (Jz w (.bool T))):=H λw=>by rw[<-u];exact QT true Z t d p a b w
 obtain⟨e,F⟩:∃e,spL ⟨⟨true,Z,t,d,p,a,b⟩,f,N⟩=e:=⟨_,rfl⟩
 obtain⟨n,C⟩:∃e,Qy ⟨⟨true,Z,t,d,p,a,b⟩,f,N⟩=e:=⟨_,rfl⟩
 obtain⟨x,P⟩:∃x,(true&&Qe p)=x:=⟨_,rfl⟩
 have g:Hid ((((!T||(x||((f != 0&&p != 6)||decide (N<0))))=true)/\e=[]/\n=2)\/(((!T||(x||((f != 0&&p != 6)||decide (N<0))))=false)/\decide (2048<N)=true/\e=[]/\n=3)):=H (by
  rw[<-u,<-P,<-F,<-C];rcases l with l|⟨l,B⟩
  ·obtain⟨G,A⟩:=KL l;exact .inl ⟨l,A,G⟩
  ·obtain⟨G,A⟩:=Oq l B;exact .inr ⟨l,Yz B,A,G⟩)
 have W:=M.n;rw[F,C];have L:Hid ((x=true->p=0\/p=43\/p=44\/p=60)/\(x=false->(p==0)=false/\(p==43)=false/\(p==44)=false/\(p==60)=false)):=H (by rw[<-P];exact A7 p);clear P;clear u F C l M;have I:=((Bx.start w).box (spC true Z t d p a b f N) 52).box (kyC true Z t d p a b) 38;rw[show(w.alloc (.cells (spC true Z t d p a b f N) 52)).heap.size=w.heap.size+1 by simp] at I;have v:=H I;clear I;unfold spC kyC at*;go_enter func16,ntmps16
 cases x;rotate_right
 ·obtain⟨rfl,rfl⟩:e=[]/\n=2:=by rcases g.out with h|h;exact h.2;exact absurd h.1 (by cases T<;>simp)
  clear g;rcases L.1 rfl with rfl|rfl|rfl|rfl
  all_goals
   go_wp2_with fail
   refine v.ret (J _) ?_;intro s z j;clear z v;cases T
   ·exact JdB
   ·exact JdB
 obtain⟨U,R,Q,S⟩:=L.2 rfl;go_wp2_with fail
 refine v.ret (J _) ?_;intro s z j;clear z v U R Q S;cases T
 ·obtain⟨rfl,rfl⟩:e=[]/\n=2:=by rcases g.out with h|h;exact h.2;exact absurd h.1 (by simp)
  clear g;exact JdB
 have ab:Jg s w.heap.size 37 (Jq f):=j.cell 1 37 rfl rfl;have V:Jg s w.heap.size 38 (Jk N):=j.cell 1 38 rfl rfl;have X:Jg s (w.heap.size+1) 34 (Jq p):=j.cell 0 34 rfl rfl;rcases(by cases aa:(f != 0)<;>cases y:(p != 6)<;>simp:(f != 0)=false\/((f != 0)=true/\(p != 6)=false)\/((f != 0)=true/\(p != 6)=true)) with o|⟨o,E⟩|⟨o,E⟩;rotate_right
 ·obtain⟨rfl,rfl⟩:e=[]/\n=2:=by rcases g.out with h|h;exact h.2;exact absurd h.1 (by rw[o,E];simp)
  clear g;exact JdB
 all_goals
  by_cases r:N<0
  ·have y:decide (N<0)=true:=by simpa using r
   obtain⟨rfl,rfl⟩:e=[]/\n=2:=by rcases g.out with h|h;exact h.2;exact absurd h.1 (by rw[y];simp)
   clear g r;exact JdB
  have y:decide (N<0)=false:=by simpa using r
  obtain⟨Y,rfl,rfl⟩:decide (2048<N)=true/\e=[]/\n=3:=by
   rcases g.out with h|h
   ·exact absurd h.1 (by rw[y];first|(rw[o,E];decide)|(rw[o];simp))
   ·exact h.2
  clear g r;exact JdB
open Go.RowKit
theorem NP (Z l:Nat->Int)(p a b f N:Int)(af:EA ⟨⟨false,Z,false,l,p,a,b⟩,f,N⟩)(ay:X9 ⟨⟨false,Z,false,l,p,a,b⟩,f,N⟩=false)(ar:¬2048<N)(ag:J1 p=true)(V:(f != 0)=false\/((f != 0)=true/\(p != 6)=false))(w:World):
 Jf 16 #[.agg (spC false Z false l p a b f N)] w (QI w (spL ⟨⟨false,Z,false,l,p,a,b⟩,f,N⟩) (Qy ⟨⟨false,Z,false,l,p,a,b⟩,f,N⟩)):=by
 have A:Hid (Fz ⟨false,Z,false,l,p,a,b⟩):=H af.k;have bq:Hid (Jm f):=H af.f;have aS:=H af;obtain⟨a4,b1,-,y⟩:=BP ay;have bx:Hid (∀w,Jf 27 #[.agg (kyC false Z false l p a b)] w (Jz w (.bool true))):=H λw=>by have h:=QT false Z false l p a b w;rw[a4] at h;exact h
 obtain⟨o,ab⟩:∃o:Sp,o=⟨⟨false,Z,false,l,p,a,b⟩,f,N⟩:=⟨_,rfl⟩
 rw[<-ab];have J:=H ab;have b0:=af.n;have bU:¬N<0:=Ja9 y;have ck:decide (2048<N)=false:=YA ar;have bk:Hid (X9 o=false):=H (by rw[ab];exact ay);have aV:Hid (¬2048<o.n):=H (by rw[ab];exact ar);have bu:=H ar;clear a4 af ab ay ar;clear b1;have I:=((Bx.start w).box (spC false Z false l p a b f N) 52).box (kyC false Z false l p a b) 38;rw[show(w.alloc (.cells (spC false Z false l p a b f N) 52)).heap.size=w.heap.size+1 by simp] at I;have bg:=H I;clear I;unfold spC kyC at*;go_enter func16,ntmps16
 go_wp2_with fail
 refine bg.ret (bx _) ?_;intro C aI X;clear aI bg;have aP:Jg C w.heap.size 37 (Jq f):=X.cell 1 37 rfl rfl;have bz:Jg C w.heap.size 38 (Jk N):=X.cell 1 38 rfl rfl;have M:Jg C (w.heap.size+1) 34 (Jq p):=X.cell 0 34 rfl rfl;rcases V with V|⟨V,bE⟩
 all_goals
  obtain⟨r,aC⟩:=Jaq (show 0<=N from O);have am:r<=2048:=by have:=bu.out;omega
  have au:=H (And.intro aC am);have bs:(Instr.makeSlice 22 (Jk N) (Jk N)).run prog C=.ok (.slice (some ⟨C.heap.size,0,none⟩) r r) (C.alloc (.cells ((JP r).map (.int .u8)).toArray 5)):=by rw[aC];exact Zs C r am
  have bw:=Qg (Zf (WP C (.cells ((JP r).map (.int .u8)).toArray 5)) am);clear b0 bU aC am;go_wp2_with (with_reducible refine XD 68 ?_)
  refine JJ.mk ?_;refine Qi _ rfl 9 22 _ rfl 5 underlying9 underlying22 underlying5 (JP r) rfl (Qx r) (by have:=au.2;simp[JP];omega) ?_;intro cg Q bd av;rw[show(JP r).length=r by simp[JP]] at av|-;have ad:=H ((X.go (Below.all (Jc _ _) (.cells ((JP r).map (.int .u8)).toArray 5))).go bd);obtain⟨cf,bc⟩:∃bR,bR=some (⟨(C.alloc (.cells ((JP r).map (.int .u8)).toArray 5)).heap.size,0,none⟩:Addr):=⟨_,rfl⟩
  rw[<-bc] at av|-;have bf:=H av;clear bc av bd bs bw M aP bz X;go_wp2_with fail
  obtain⟨z,aF⟩:∃m,(Jt false Z).length=m:=⟨_,rfl⟩
  have aW:(Jt false l).length=z:=by rw[JB,<-aF,JB]
  have ao:Hid (((Jt false Z).length=(Jt false l).length)/\((Jt false Z).length=4\/(Jt false Z).length=16)):=H ⟨by rw[JB,JB],by rw[JB];exact .inl rfl⟩;have a9:Hid (∀d,Jf 45 #[adV false Z] d (AY d z (Jt false Z))):=H λd=>(QV false Z d).mono λ_ _ h=>h.n aF (JL A.S false)
  have a1:Hid (∀d,Jf 45 #[adV false l] d (AY d z (Jt false l))):=H λd=>(QV false l d).mono λ_ _ h=>h.n aW (JL A.T false)
  have aE:w.heap.size+1<Q.heap.size:=ad.lt 0 rfl;have bp:Jv Q (w.heap.size+1) 17 17=(Jbr false l:Array Value):=by rw[JG _ _ _ _ _ _ _ (ad.at 0 rfl)];simp
  clear aF aW;refine QO [.h,.h,.w,.w,.h,.h] [(4,1,0),(5,1,0)] (λ_ d=>Jv d (w.heap.size+1) 17 17=(Jbr false l:Array Value)) [1] [(.w,2),(.c,3),(.w,6),(.c,7),(.q,8),(.q,9)] K K K K ?_;apply Exists.intro;refine⟨λaQ I=>?_,?_,?_⟩
  ·have ax:=(ad.go I).at 0 rfl;have b7:w.heap.size+1<aQ.heap.size:=Jd aE I.size;have ci:Jv aQ (w.heap.size+1) 0 17=(Jbr false Z:Array Value):=by rw[JG _ _ _ _ _ _ _ ax];simp
   have cb:Jv aQ (w.heap.size+1) 17 17=(Jbr false l:Array Value):=by rw[JG _ _ _ _ _ _ _ ax];simp
   clear ax I;exact JcB
  ·intro q a3 b8 a6;simp only[YE,YF,YG] at a3;rcases a3 with rfl|rfl
   ·cases a6;exact⟨_,rfl,rfl,λw2 R=>K⟩
   ·cases a6;exact⟨_,rfl,rfl,λw2 R=>by simp[execOp,go_sem,R]⟩
  simp only[Qp,Ja0,Jbf];refine⟨λv Y w2=>∃B u,v=.slice B z u/\JA w2 B z u (Jt false Z)/\Ji Q w2,?_,?_,?_⟩
  ·refine⟨rfl,λd aG=>.inr ⟨45,#[adV false Z],K,?_⟩⟩;obtain⟨⟨x,rfl⟩,-⟩:=aG;refine(a9 x.world).mono ?_;rintro e w2 ⟨B,u,rfl,j,g⟩;exact⟨_,rfl,B,u,rfl,j,Wx x.below g⟩
  ·rintro v Y ch-w2 ⟨B,u,-,-,g⟩;exact(J0 g _ 17 17 aE).trans bp
  rintro v ⟨bX,B,u,rfl,-⟩;refine⟨.string (strOfNums (Jt false Z)),λd=>JA d B z u (Jt false Z),⟨rfl,λd R=>Xv _ _ K (Qg R)⟩,?_,?_⟩
  ·rintro Y d ⟨aJ,aB,ac,j,-⟩;obtain⟨rfl,rfl⟩:B=aJ/\u=aB:=by simpa using ac
   exact j
  refine⟨λv Y w2=>∃L F,v=.slice L z F/\JA w2 B z u (Jt false Z)/\JA w2 L z F (Jt false l)/\Ji Q w2,?_,?_,?_⟩
  ·refine⟨rfl,λd aG=>.inr ⟨45,#[adV false l],K,?_⟩⟩;obtain⟨aJ,aB,ac,j,aI⟩:=aG;obtain⟨rfl,rfl⟩:B=aJ/\u=aB:=by simpa using ac
   refine(a1 d).mono ?_;rintro e w2 ⟨L,F,rfl,y,g⟩;exact⟨_,rfl,L,F,rfl,j.below g,y,Wx aI g⟩
  ·intro v Y;exact BO (J4 rfl) (λw2 ⟨_,_,_,j,_⟩=>j)
  rintro v ⟨bF,L,F,rfl,-⟩;refine⟨.string (strOfNums (Jt false l)),λd=>JA d L z F (Jt false l),⟨rfl,λd R=>Xv _ _ K (Qg R)⟩,?_,?_⟩
  ·rintro Y d ⟨bl,a5,ac,-,y,-⟩;obtain⟨rfl,rfl⟩:L=bl/\F=a5:=by simpa using ac
   exact y
  refine⟨.string (strOfNums (Jt false Z)),⟨rfl,λ_=>K⟩,?_⟩;refine⟨.string (strOfNums (Jt false l)),⟨rfl,λ_=>K⟩,?_⟩;rintro bB ⟨bl,a5,-,-,-,aN⟩;have aL:=H (ad.go aN);have ba:=H (bf.below aN);clear aN ad bf a9 a1 bX bF bp aE;have aA:=H (JL A.S false);have aO:=H (JL A.T false);have bo:Hid (∀d,Jf 46 #[p] d (Jz d (.bool true))):=H (λd=>by have h:=Xn p d;rw[ag] at h;exact h);have a8:Qb p=false:=by rcases(by simpa[J1] using ag:p=6\/p=17) with rfl|rfl<;>rfl
  have bn:Hid (∀d,Jf 47 #[p] d (Jz d (.bool false))):=H (λd=>by have h:=XH p d;rw[a8] at h;exact h);have M:Jg bB (w.heap.size+1) 34 (Jq p):=aL.cell 0 34 rfl rfl;simp only[Act.put,Ja6,Ja7,Ja8];go_wp2_with fail
  refine aL.ret (bo _) ?_;intro aq aU E;have bI:=H (ba.below aU);clear aU aL ba M bo;have bK:(Qk o).length<=40:=by rw[Zg];split<;>omega
  have bD:(JH o).length<=2068:=by have:=ZG o;rw[J.out] at this|-;simp only at this;have:=au.out;omega
  have b9:JF (JH o):=QU (by rw[J.out];exact aS);have b4:JF (Qk o):=Zz (by rw[J.out];exact aS)
  have aD:Hid (∀d,Jf 49 #[.agg (JbX (Jl (20+((JH o).length:Int))) false false (64:Int) p (.string (strOfNums (Jt false Z))) (.string (strOfNums (Jt false l))):Array Value)] d (SE d (Qk o).length (Qk o) 0)):=H (λd=>by
   have bP:QF ⟨0,20+((JH o).length:Int),0,false,false,0,64,p,Jt false Z,Jt false l,[]⟩=true:=by
    unfold QF;simp;omega
   have h:=Z9 ⟨0,20+((JH o).length:Int),0,false,false,0,64,p,Jt false Z,Jt false l,[]⟩ d 4 D ⟨(show(0:Int)<=0/\(0:Int)<256 from D),⟨by show 0<=20+((JH o).length:Int);omega,by show 20+((JH o).length:Int)<65536;omega⟩,(show(0:Int)<=0/\(0:Int)<65536 from D),(show(0:Int)<=0/\(0:Int)<65536 from D),(show(0:Int)<=64/\(64:Int)<256 from D),A.p,⟨JB _ _,aA.out⟩,⟨JB _ _,aO.out⟩,λv bL=>by cases bL⟩ (by simp);unfold Ai Xs at h;rw[bP] at h;have e:Qk o=_:=CZ (by rw[J.out]);rw[e];rw[J.out] at h|-;exact h.mono λ_ _ h=>h.n rfl (by have:=b4;rw[e] at this;rw[J.out] at this;exact this))
  have bQ:=H (λh=>Cu (s:=o) bk (by have:=aV.out;omega) h);have b2:=H (λh=>Cv (s:=o) bk (by have:=aV.out;omega) h)
  have ak:Hid (∀d,Jf 48 #[.agg (JbK p (Jl a) (Jl b) f (.string (strOfNums (JP r))):Array Value),.string (strOfNums (Jt false Z)),.string (strOfNums (Jt false l))] d (QI d (JH o) 0)):=H (λd=>by
   have e:JH o=DR p a b f (JP r) (Jt false Z) (Jt false l):=by
    rw[J.out];unfold JH;simp only[ag,YW,au.1,Jak]
   have a2:(JP r).length<=2048:=by simp[JP];exact au.2
   rw[e];rcases(by simpa[J1] using ag:p=6\/p=17) with rfl|rfl
   ·exact Ml a b f _ _ _ a2 (Qx _) ao.1 ao.2 aA aO A.a A.b bq d
   ·have bt:f=0:=by first|(simpa using V;done)|(simp at bE)
    subst bt;exact Mm a b _ _ _ a2 (Qx _) ao.1 ao.2 aA aO A.a A.b d)
  have cj:Hid (Jn b):=H A.b;clear V ag a8;generalize JH o=U at*;generalize Qk o=P at*;obtain⟨t,az⟩:∃n,U.length=n:=⟨_,rfl⟩
  obtain⟨W,aM⟩:∃n,P.length=n:=⟨_,rfl⟩
  unfold QI at ak;rw[az] at ak aD bD;rw[aM] at aD bK;have aZ:Hid (U.length=t/\P.length=W):=H ⟨az,aM⟩;clear az aM;generalize strOfNums (Jt false Z)=cc at*;generalize strOfNums (Jt false l)=ce at*;generalize strOfNums (JP r)=bG at*;have M:Jg aq (w.heap.size+1) 34 (Jq p):=E.cell 0 34 rfl rfl;have bM:Jg aq (w.heap.size+1) 35 (Jl a):=E.cell 0 35 rfl rfl;have bv:Jg aq (w.heap.size+1) 36 (Jl b):=E.cell 0 36 rfl rfl;have aP:Jg aq w.heap.size 37 (Jq f):=E.cell 1 37 rfl rfl;have bC:=E.lt 1 rfl;have bN:=E.lt 0 rfl;go_wp2_with fail
  have bi:=H (E.box (JbK p (Jl a) (Jl b) f (.string bG)) 102);clear M bM bv aP bC bN E bI;refine bi.ret (bn _) ?_;intro ca b3 an;clear b3 bi bn;have bT:=an.part (n:=12) 0 rfl rfl;have b5:=an.lt 0 rfl;go_wp2_with fail
  refine Jb (ak _) ?_;rintro e bO ⟨S,ae,rfl,aY,bj⟩;have aH:=H (an.go bj);have be:=H aY;clear aY bj an bT b5 ak;have M:Jg bO (w.heap.size+1) 34 (Jq p):=aH.cell 1 34 rfl rfl;have bV:IntKind.i64.wrap (20+(t:Int))=20+(t:Int):=by rw[JaI];omega
  have bZ:IntKind.u16.wrap (20+(t:Int))=20+(t:Int):=by rw[Jbi];omega
  have bH:IntKind.u16.wrap (t:Int)=(t:Int):=by rw[Jbi];omega
  go_wp2_with fail
  refine Jb (aD _) ?_;rintro e bS ⟨ah,ai,rfl,aX,aR⟩;have aK:=H (aH.go aR);have bh:=H (be.below aR);have aT:=H aX;clear aX aR aH be M;have bY:Jg bS (w.heap.size+1) 0 (.bool false):=aK.cell 1 0 rfl rfl;obtain⟨G,aw⟩:∃n,(P++U).length=n:=⟨_,rfl⟩
  have bb:Hid (∀d ah ai S ae,JA d ah W ai P->JA d S t ae U->Jf 51 #[.slice ah W ai,.slice S t ae] d (AY d G (P++U))):=H (λd ah ai S ae j y=>(Bits.join_any ah W ai P S t ae U d j y O O).mono λ_ _ h=>h.n aw (Jx j.byte y.byte));have b6:Hid (G=W+t):=H (by rw[<-aw,WV,aZ.1,aZ.2,YR]);have al:=H aw;clear aw;go_wp2_with fail
  refine Jb (bb _ _ _ _ _ aT bh) ?_;rintro e cd ⟨bJ,bW,rfl,bm,a0⟩;have a7:=H (aK.go a0).out;have br:=H bm;clear bm a0 aK aT bh bY bb bV bZ bH;by_cases ap:2048<G
  ·have bA:decide ((2048:Int)<(G:Int))=true:=by simpa using(by omega:(2048:Int)<(G:Int))
   obtain⟨aj,T⟩:=bQ.out (by rw[al.out];exact ap);have aa:=H (And.intro aj T);clear aj T ap;go_wp2_with fail
   go_ret2;rw[aa.1,aa.2];exact Au a7
  ·have bA:decide ((2048:Int)<(G:Int))=false:=by simpa using(by omega:¬(2048:Int)<(G:Int))
   obtain⟨aj,T⟩:=b2.out (by rw[al.out];exact ap);have aa:=H (And.intro aj T);clear aj T ap;go_wp2_with fail
   go_ret2;rw[aa.1,aa.2];exact⟨bJ,bW,by rw[al.out];rfl,by rw[al.out];exact br,a7.out⟩
end
end Go.Proofs.YtkgjbipfhhjlpaaGreatDoor
