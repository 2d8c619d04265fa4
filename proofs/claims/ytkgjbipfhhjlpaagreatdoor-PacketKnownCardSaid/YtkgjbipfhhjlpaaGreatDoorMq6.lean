import Derived.Test.YtkgjbipfhhjlpaaGreatDoorMq5
import Derived.Test.YtkgjbipfhhjlpaaGreatDoorMq3
set_option linter.unusedVariables false
set_option linter.unusedSimpArgs false
set_option maxRecDepth 100000
set_option maxHeartbeats 32000000
namespace Go.Proofs.YtkgjbipfhhjlpaaGreatDoor
open Go.Proofs.Tryz
section
open Go.RowKit
theorem JcQ{p:Prop}(h:p:=by
 go_wp2_with fail
 refine Jag (v:=.tuple #[adV false λ_=>0,false]) ?_ ?_ ?_
 ·exact JY _ _ underlying27 AJ rfl _ _ w.heap.size (.bool false) rfl rfl (Qu B)
 ·rfl
 ·exact⟨below_setRow I (Je _) _,.inr ⟨p.out,rfl⟩⟩):p:=h
def Ri (w:World)(b:Option (List Nat)):Ending->World->Prop:=λe d=>Ji w d/\
 ((∃l,b=some l/\e=.returned (.tuple #[adV true (C4 l),true]))\/(b=none/\e=.returned (.tuple #[adV false λ_=>0,false])))
section
variable {P:Program}
theorem Xq (w:World){L:Array Oper}{rest:List Oper}{b:Oper}{a:Act}{U:Exit->Act->World->Prop}
 (Q:b.guard=none)(G x:Operand)(t:TypeId)(T:b.op=Op.call { callee:=Callee.builtin Builtin.append,args:=#[G,x],argTypes:=#[t,t] })
 (e:TypeId)(A:Value)(bytes j ab:Nat)(R:P.underlying t=some (.slice e))(N:(P.info? e).map (λi=>(i.zero,i.size,i.bytes))=some (some A,1,bytes))(Z:A.cells.size=1)
 (s:Option Addr)(n o:Nat)(E:List Value)(z:a.eval G=.slice s n o)(y:J8 w j 1 s n o E)
 (B:Option Addr)(m c:Nat)(g:List Value)(M:a.eval x=.slice B m c)(J:J8 w ab 1 B m c g)(ad:∀p∈g,p.oneCell'=true)
 (V:n+m<=maxLen)(ae:(n+m)*bytes<=140737488355328)(af:j<=w.heap.size)
 (h:∀l S d,J8 d j 1 l (n+m) S (E++g)->w.grownBy d (s.map Addr.block)->(∀a,l=some a->s=some a\/w.heap.size<=a.block)->wpList P L U rest (a.put b.dst (.slice l (n+m) S)) d):
 wpList P L U (b::rest) a w:=by
 rcases Yo m with X|X
 ·subst X;have Y:g=[]:=WL (by simpa using J.len);subst Y;obtain⟨i,F,-,W,-⟩:=WT N;have u:=BT (P:=P) w t b.type e 1 R (by rw[F,<-W];rfl) s n o y.le B c;exact Lib.wpList_append_run w Q G x t t T _ _ z M _ _ u (h s o w (by simpa using y) (WB w _) λa ha=>.inl ha)
 ·obtain⟨r,ac,rfl,-,-,I,-⟩:=J.here X;exact J7 w Q G x t T e A 1 bytes j R N Z O s n o E z y ⟨r,ac,none⟩ m c g M J.len (λag p aa=>by rw[W3];exact I ag p aa) ad X V ae af h
end
theorem Rj {w:World}{b:Nat}{t:TypeId}{k:Nat}{d:List Nat}(h:Qa w b t true (λJ=>if J<2*k then C4 d J else 0))(A:k<8){g v:Int}(n:g=C4 d (2*k))(l:v=C4 d (2*k+1)):
 Qa ((w.setCell ⟨b,1+2*k,none⟩ (Jq g)).setCell ⟨b,1+(2*k+1),none⟩ (Jq v)) b t true (λJ=>if J<2*(k+1) then C4 d J else 0):=
 ((h.set (2*k) O g).set (2*k+1) O v).congr λi _=>by
   by_cases e:i=2*k+1
   ·subst e;simp only[YW,YH (show 2*k+1<2*(k+1) from O),l]
   ·by_cases j:i=2*k
    ·subst j;simp only[Yw e,YW,YH (show 2*k<2*(k+1) from O),n]
    ·simp only[Yw e,Yw j];by_cases h:i<2*k
     ·rw[YH h,YH (show i<2*(k+1) from O)]
     ·rw[Yw h,Yw (show¬i<2*(k+1) from O)]
theorem Uj (G:ByteArray)(w:World)(bt:G.size<=1000)(ah:Env w):Jf 121 #[.string G] w (Ri w (Fx G.data.toList)):=by
 have bD:=H ah;obtain⟨m,a3⟩:=ah.len;have bc:=H (N1 G.data.toList);have bI:G.data.toList.length=G.size:=by rw[WS,Jat]
 have aE:=Ud G.data.toList [58,58];have ac:=H (λ(w:World) h=>strings_Cut G ⟨#[58,58]⟩ m w O h);have ak:Hid (Below w.heap.size w (w.alloc (.cells (JbF false) 27))):=H (Below.all (Jc _ _) _);have av:=H a3;rw[show(⟨#[58,58]⟩:ByteArray).data.toList=[58,58] from rfl] at ac;clear ah a3;generalize Lib.cut G.data.toList [58,58]=C at*;obtain⟨F,R,r⟩:=C;obtain⟨a0,aT⟩:=aE;simp only at a0 aT ac;go_enter func121,ntmps121
 go_wp2_with fail
 have ar:∀(v:World) (ao:Nat),Below v.heap.size v (v.drewN ao):=λv ao=>⟨rfl,rfl,rfl,Je _,λ_ _=>rfl⟩
 refine Jb (ac _ ((ak.cell (Jar w _ av)).trans av)) ?_;rintro e V ⟨rfl,X,rfl⟩;have a4:=H ((Qa.made0 w 27 false).below (ar _ X));have ae:=H (Wx ak (ar _ X));have bd:w.heap.size<((w.alloc (.cells (JbF false) 27)).drewN X).heap.size:=by simp[World.drewN]
 clear ar ak ac av;generalize World.drewN _ X=V at*;have ad:=H (bD.below ae);have aM:Hid (∀w,Env w->Jf 174 #[.string ⟨F.toArray⟩] w (M0 w (Qn F))):=H λw h=>Rf ⟨F.toArray⟩ w (by simp[ByteArray.size];omega) h
 have aK:Hid (∀w,Env w->Jf 174 #[.string ⟨R.toArray⟩] w (M0 w (Qn R))):=H λw h=>Rf ⟨R.toArray⟩ w (by simp[ByteArray.size];omega) h
 have aa:Hid (Fx G.data.toList=(Qn F).bind λl=>(Qn R).bind λm=>if (r=true/\l.length+m.length<=7)\/(r=false/\l.length+m.length=8) then some (l++List.replicate (8-l.length-m.length) 0++m) else none):=bc;clear bc bI a0 aT bt;go_wp2_with fail
 refine Jb (aM _ ad) ?_;rintro e w2 ⟨T,bm,y,bx,rfl,ag,Q,bv,aP⟩;have M:=H ag;have be:=H (ad.below Q);have a2:=H (a4.below Q);have aC:=H (Wx ae Q);have am:=H aP;have aH:=H (λa (ha:T=some a)=>ag.lt ha);have bL:V.heap.size<=w2.heap.size:=Q.size;clear ag Q aP a4 ae ad aM;generalize aY:y.length=d at*;have aR:=H aY;clear aY;go_wp2_with fail
 refine Jb (aK _ be) ?_;rintro e t ⟨bG,bF,z,bg,rfl,aD,S,bz,aW⟩;have M:=H (M.below S);have au:=H aD;have L:=H (a2.below S);have I:=H (Wx aC S);have af:=H aW;have W:=H (λa (ha:T=some a)=>M.lt ha);have bN:w2.heap.size<=t.heap.size:=S.size;have aA:=L.part;have aJ:=L.row;have B:=H L.heap;clear aD S aW a2 aC be aK;generalize aB:z.length=n at*;have aG:=H aB;clear aB;cases bx
 ·have p:Hid (Fx G.data.toList=none):=H (by
   rcases am.out with ⟨h,-⟩|⟨-,h⟩
   ·cases h
   ·rw[aa.out,h];rfl)
  exact JcQ
 cases bg
 ·have p:Hid (Fx G.data.toList=none):=H (by
   rcases af.out with ⟨h,-⟩|⟨-,h⟩
   ·cases h
   ·rw[aa.out,h];cases Qn F<;>rfl)
  exact JcQ
 have aV:Hid (Qn F=some y):=H (by rcases am.out with ⟨-,h⟩|⟨h,-⟩;exact h;cases h);have a8:Hid (Qn R=some z):=H (by rcases af.out with ⟨-,h⟩|⟨h,-⟩;exact h;cases h);have Z:Hid (Fx G.data.toList=if (r=true/\d+n<=7)\/(r=false/\d+n=8) then some (y++List.replicate (8-d-n) 0++z) else none):=H (by rw[aa.out,aV.out,a8.out,<-aR.out,<-aG.out];rfl);clear aa am af;by_cases u:(r=true/\d+n<=7)\/(r=false/\d+n=8)
 ·have p:Hid (Fx G.data.toList=some (y++List.replicate (8-d-n) 0++z)):=H (by rw[Z.out,YH u]);obtain⟨g,bn⟩:∃g:Nat,(8:Int)-d-n=g:=⟨8-d-n,O⟩
  have aw:(r=true/\1<=g)\/(r=false/\g=0):=by rcases u with ⟨j,a7⟩|⟨j,a7⟩<;>simp only[j,true_and,false_and,JaL]<;>omega
  have bB:d+g+n=8:=O;have bH:g<=8:=O;rw[show 8-d-n=g from O] at p;clear u Z;cases r
  all_goals
   first
    |(have aj:g=0:=by simpa using aw)
    |(have aj:1<=g:=by simpa using aw)
   clear aw;go_wp2_with (at_builtin;refine JJ.of ?_)
   have a5:=H aj;clear aj;refine JJ.mk ?_;refine AK _ rfl _ _ 252 3 rfl 124 (Jo 0) 8 V.heap.size .i64 underlying252 underlying3 CI rfl rfl T d bm _ rfl (M.alloc _) g ?_ O (by unfold maxLen;omega) O (by simp only[Jai];omega) ?_
   ·first
     |rfl
     |(show Value.int .i64 0=.int .i64 (g:Int);rw[a5.out];rfl)
   intro ap bj aX ai E bb;have bR:=L.lt
   have s:∀b,(b<V.heap.size\/t.heap.size<=b)->some b≠T.map Addr.block:=λb bA e=>by
    obtain⟨a,ha,ab⟩:=Yb.1 e.symm;have:=W.out a ha;omega
   have aS:=H ((L.alloc (.cells (JbF true) 27)).keep (E.block _ (by simp;omega) (s _ (.inl bd))));have aN:=H ((Qa.made0 t 27 true).keep (E.block _ (by simp) (s _ (.inr (Je _)))))
   have ba:=H (Yr (Below.all I _) E (by simp;omega) (λk A=>by
    obtain⟨a,ha,ab⟩:=Yb.1 A;have:=W.out a ha;omega))
   have aQ:=H ((au.alloc _).grown E (λa ha e=>by
    obtain⟨bu,bl,ab⟩:=Yb.1 e.symm;have j:=aH.out bu bl;have a7:=au.lt ha;omega))
   have bO:t.heap.size+1<=aX.heap.size:=by have:=E.size;simpa using this
   have Y:Hid (∀a,ap=some a->V.heap.size<=a.block/\a.block≠t.heap.size/\a.block<aX.heap.size):=H λa ha=>by
    have j:=ai.lt ha;rcases bb a ha with h|h
    ·have:=W.out a h;omega
    ·simp only[Jai] at h;omega
   have aZ:=H ai;clear s E bb ai aA aJ B M au;go_wp2_with (at_builtin;refine JJ.of ?_)
   refine JJ.mk ?_;refine Xq _ rfl _ _ 252 rfl 124 (Jo 0) 8 V.heap.size w2.heap.size underlying252 CI rfl ap (d+g) bj _ rfl aZ bG n bF _ rfl aQ ?_ (by unfold maxLen;omega) O O ?_
   ·intro bT bq;obtain⟨i,-,rfl⟩:=Yq.1 bq;rfl
   intro aF bs bM N U aU
   have s:∀b,(b<V.heap.size\/b=t.heap.size)->some b≠ap.map Addr.block:=λb bA e=>by
    obtain⟨a,ha,ab⟩:=Yb.1 e.symm;have:=Y.out a ha;omega
   have bh:=H (aS.keep (U.block _ O (s _ (.inl bd))));have br:=H (aN.keep (U.block _ O (s _ (.inr rfl))))
   have bE:=H (Yr ba U O (λk A=>by
    obtain⟨a,ha,ab⟩:=Yb.1 A;have:=Y.out a ha;omega))
   have bC:Hid (∀a,aF=some a->V.heap.size<=a.block/\a.block≠t.heap.size):=H λa ha=>by
    have j:=N.lt ha;rcases aU a ha with h|h
    ·have:=Y.out a h;omega
    ·omega
   rw[bB] at N|-;have a9:List.map (λ(m:Nat)=>Value.int .u64 (m:Int)) y++List.replicate g (.int .u64 0)++List.map (λ(m:Nat)=>Value.int .u64 (m:Int)) z=(y++List.replicate g 0++z).map λ(m:Nat)=>Value.int .u64 (m:Int):=by simp
   rw[a9] at N;have bk:=H N;have an:=H (M2 p);clear a9 s U aU N aS aN ba aQ aZ Y L I aH W a5 aV a8 aR aG bn bv bz bH;generalize y++List.replicate g 0++z=o at*;generalize t.heap.size=bo at*;go_wp2_with fail
   have bw:Hid (∀k (h:k<o.length),o[k]<65536):=H λk h=>an.2 _ (Yj h)
   have bp:=H an.1;clear an;go_loopw [66] (λu66 wr=>∃k:Nat,k<=8/\u66=.int .i64 k/\Hid (Qa wr w.heap.size 27 false λ_=>0)/\Hid (Qa wr bo 27 true (λbf=>if bf<2*k then C4 o bf else 0))/\Hid (J8 wr V.heap.size 1 aF 8 bs (o.map λ(m:Nat)=>Value.int .u64 (m:Int)))/\Hid (Ji w wr)) (λu66 _=>(8:Int)-intOf u66 |>.toNat)
   case atStart=>exact⟨0,O,rfl,bh,H (br.congr λi _=>by simp),bk,bE⟩
   case round=>
    obtain⟨k,A,rfl,aq,J,az,ay⟩:=hrel;by_cases aO:k<8
    ·have al:k<o.length:=by rw[bp.out];exact aO
     obtain⟨bV,bU,ax,bX,bP,aI,bi⟩:=az.here O;have a1:=(bC _ ax).2;subst ax;have aE:=aI k (Jo (o[k]:Nat)) (by simp[al]);have bJ:=bw.out k al
     have a6:Hid (((o[k]/256:Nat):Int)=C4 o (2*k)/\((o[k]%256:Nat):Int)=C4 o (2*k+1)):=H (by
      unfold C4;rw[YH O,Yw O,show 2*k/2=k from O,show(2*k+1)/2=k from O,Yi,W2 al];exact⟨rfl,rfl⟩)
     generalize o[k]=ao at*;have bQ:=J.cell (2*k) O;have bK:=J.cell (2*k+1) O;have bY:=J.free (1+2*k);have bW:=J.free (1+(2*k+1));clear aI bi;go_wp2_with fail
     go_roundw
     case rel=>
      refine⟨k+1,O,by go_num,H ((aq.other _ _ (by simp only;omega)).other _ _ (by simp only;omega)),H (Rj J aO (by rw[<-a6.1];omega) (by rw[<-a6.2];omega)),H ((az.other ?_ _).other ?_ _),H ((ay.setCell (by simp only;omega) _).setCell (by simp only;omega) _)⟩
      ·intro a ha;cases ha;exact a1
      ·intro a ha;cases ha;exact a1
     case measure=>simp[intOf];omega
    ·obtain rfl:k=8:=O;have aL:=J.congr (C:=C4 o) λi bS=>by rw[YH O]
     have aA:=aL.part;have aJ:=aq.row;have B:=H aq.heap;clear aL;go_wp2_with fail
     refine Jag (v:=.tuple #[adV true (C4 o),true]) ?_ ?_ ?_
     ·exact JY _ _ underlying27 AJ rfl _ _ w.heap.size (.bool true) rfl rfl (Qu B)
     ·rfl
     ·exact⟨below_setRow ay (Je _) _,.inl ⟨o,p.out,rfl⟩⟩
 ·have p:Hid (Fx G.data.toList=none):=H (by rw[Z.out,Yw u]);clear Z;cases r
  ·have s:¬((8:Int)-d-n=0):=λh=>u (.inr ⟨rfl,O⟩)
   clear u;exact JcQ
  ·have s:(8:Int)-d-n<1:=by
    have:¬(d+n<=7):=λh=>u (.inl ⟨rfl,h⟩)
    omega
   clear u;exact JcQ
end
section
open Go.RowKit
def Bb (F S:Option (List Nat)):Option (Bool×(Nat->Int)):=match F with
 |some l=>some (false,AI l)
 |none=>match S with
  |some l=>some (true,C4 l)
  |none=>none
theorem Lo (L:List UInt8):Zb L=Bb (Gd L) (Fx L):=rfl
theorem Lp (S:Option (List Nat)):(∀l,S=some l->Bb none S=some (true,C4 l))/\(S=none->Bb none S=none):=⟨λl h=>by rw[h];rfl,λh=>by rw[h];rfl⟩
theorem IZ {w:World}{b:Nat}{t:TypeId}{G s':Bool}{U B':Nat->Int}(h:Qa w b t G U)(S:Array Value)(C:Obj)(I:S=(Jby s' (Jq (B' 0)) (Jq (B' 1)) (Jq (B' 2)) (Jq (B' 3)) (Jq (B' 4)) (Jq (B' 5)) (Jq (B' 6)) (Jq (B' 7)) (Jq (B' 8)) (Jq (B' 9)) (Jq (B' 10)) (Jq (B' 11)) (Jq (B' 12)) (Jq (B' 13)) (Jq (B' 14)) (Jq (B' 15)):Array Value):=by rfl):Jv ((w.setRow b S).alloc C) b 0 17=(Jby s' (Jq (B' 0)) (Jq (B' 1)) (Jq (B' 2)) (Jq (B' 3)) (Jq (B' 4)) (Jq (B' 5)) (Jq (B' 6)) (Jq (B' 7)) (Jq (B' 8)) (Jq (B' 9)) (Jq (B' 10)) (Jq (B' 11)) (Jq (B' 12)) (Jq (B' 13)) (Jq (B' 14)) (Jq (B' 15)):Array Value):=by
 rw[HS _ _ _ _ _ (by have:=h.lt;simpa using this)];subst I;exact Qu h.heap
theorem Lq (G:ByteArray)(w:World)(z:G.size<=1000)(u:Env w):Jf 59 #[.string G] w (Jz w (DQ (Zb G.data.toList))):=by
 have L:=H u;have Q:=H (λw h=>SQ G w z h);have A:=H (λw h=>Uj G w z h);rw[Lo];clear u z;generalize G.data.toList=E at*;generalize Gd E=J at*;generalize Fx E=Z at*;go_enter func59,ntmps59
 go_wp2_with fail
 refine Jb (Q _ (L.below (Below.all (Jc _ _) _))) ?_;rintro e w2 ⟨U,ok,rfl,r,I⟩;have b:=H ((Qa.made0 w 27 false).below r);have o:=H (Wx (Below.all (Jc w.heap.size w) _) r);have C:=b.lt;have g:=H I;clear r I;cases ok
 ·have hF:J=none:=by rcases g.out with ⟨h,-⟩|⟨-,h⟩;cases h;exact h
  subst hF;have d:=H (Lp Z);generalize Bb none Z=B at*;unfold adV;have s:=H (b.alloc (.cells (Jbr false U) 27));have n:=H (Below.all o (.cells (Jbr false U) 27));clear g b o C;go_wp2_with fail
  generalize w2.alloc (.cells (Jbr false U) 27)=R at*;refine Jb (A _ (L.below n)) ?_;rintro e w4 ⟨p,I⟩;have a:=H (s.below p);have y:=H (Wx n p);have C:=a.lt;clear p s n;rcases I with ⟨l,M,rfl⟩|⟨M,rfl⟩
  ·have j:Hid (B=some (true,C4 l)):=H (d.1 l M);generalize C4 l=N at*;have a:=H a.out;clear M d;unfold adV;have t:=a.row;go_wp2_with fail
   exact Jag (v:=.tuple #[adV true N,Jk 0]) (JY _ _ underlying27 AJ rfl _ _ w.heap.size (Jk 0) rfl rfl (IZ (s':=true) (B':=N) a _ _ rfl)) rfl (.mk (by rw[j.out];rfl) (Below.all (below_setRow y (Je _) _) _))
  ·have j:Hid (B=none):=H (d.2 M);clear M d;unfold adV;have t:=a.row;go_wp2_with fail
   exact Jag (v:=.tuple #[adV false λ_=>0,Jk 40]) (JY _ _ underlying27 AJ rfl _ _ w.heap.size (Jk 40) rfl rfl (IZ (s':=false) (B':=λ_=>0) a _ _ rfl)) rfl (.mk (by rw[j.out];rfl) (Below.all (below_setRow y (Je _) _) _))
 ·obtain⟨l,rfl,F⟩:∃l,J=some l/\∀i,i<16->U i=AI l i:=by
   rcases g.out with ⟨-,h⟩|⟨h,-⟩
   ·exact h
   ·cases h
  have P:=H (SI (six:=false) F);clear g F A;unfold adV at*;have t:=b.row;go_wp2_with fail
  refine Jag (v:=.tuple #[adV false U,Jk 0]) (JY _ _ underlying27 AJ rfl _ _ w.heap.size (Jk 0) rfl rfl (IZ (s':=false) (B':=U) b _ _ rfl)) rfl (.mk ?_ (Below.all (below_setRow o (Je _) _) _));show Value.tuple #[adV false U,Jk 0]=.tuple #[adV false (AI l),Jk 0];rw[show adV false U=adV false (AI l) from P.out]
theorem Jdu{p:Prop}(h:p:=by
 intro x;go_wp2_with fail
 go_ret;exact .mk rfl (Ww (Below.all (Jc _ _) _))):p:=h
theorem EK (c:UInt8):∀l:List (List UInt8),Lib.join l [c]=XX c l
 |[]=>rfl
 |[p]=>by rw[Lib.join_one];rfl
 |p::q::l=>by
  rw[Lib.join_cons,Zw,<-EK c (q::l),Lib.join_cons];simp[Lib.joinTail]
theorem join_any (t:Option Addr)(n o A:Nat)(a:List (List UInt8))(c:UInt8)(w:World)(j:J8 w A 1 t n o (a.map Bv))(C:(XX c a).length<=140737488355328)(B:n<=140737488355328):
 Jf 70 #[.slice t n o,.string ⟨#[c]⟩] w (Jz w (.string ⟨(XX c a).toArray⟩)):=by
 have v:a.length=n:=by have:=j.len;simpa using this
 rcases Yo n with X|X
 ·subst X;obtain rfl:=WL v;refine Jb (strings_Join_none t o _ w) ?_;rintro e d ⟨rfl,rfl⟩;exact .mk rfl (Jc _ _)
 ·obtain⟨r,z,rfl,g,y,I,F⟩:=j.here X;have p:(a.map λl:List UInt8=>(⟨l.toArray⟩:ByteArray)).length=n:=by rw[Jaz,v]
  have u:((a.map λl:List UInt8=>(⟨l.toArray⟩:ByteArray)).map (·.data.toList))=a:=by simp[Function.comp_def]
  have h:=strings_Join r z o (a.map λl:List UInt8=>(⟨l.toArray⟩:ByteArray)) ⟨#[c]⟩ w (λJ x b=>by
   refine I J _ ?_;rw[Yk] at b|-;cases h:a[J]? with
   |none=>rw[h] at b;cases b
   |some l=>rw[h] at b;cases b;rfl) y (by rw[p];exact B) (by rw[p];exact j.le) (by rw[u];show(Lib.join a [c]).length<=_;rw[EK];exact C)
  rw[p,u,show(⟨#[c]⟩:ByteArray).data.toList=[c] from rfl,EK] at h;refine Jb h ?_;rintro e d ⟨rfl,E⟩;exact .mk rfl E
theorem FM (a:Nat)(j:a<9223372036854775808)(w:World)(b:Env w):Jf 71 #[Jk (a:Int)] w (Jz w (.string ⟨(Lib.decDigits a).toArray⟩)):=by
 refine Jb (strconv_Itoa (a:Int) O O w b.tab) ?_;rintro e d ⟨rfl,k,g,rfl⟩;refine .mk ?_ (Lib.below_grow _ _ (Je _) _ _);unfold Lib.itoa;rw[Yw O];rfl
theorem Zc (u:Nat)(h:u<256):(Lib.decDigits u).length<=257:=by
 rw[<-CE u u (Je _)];have:=Aw 10 u u (Je _);omega
theorem Zo (c:UInt8)(m:Nat):∀L:List (List UInt8),(∀p∈L,p.length<=m)->(XX c L).length<=L.length*(m+1)
 |[],_=>by simp[XX]
 |[p],h=>by have:=h p (by simp);simp[XX];omega
 |p::q::l,h=>by
  have j:=h p (by simp);have y:=Zo c m (q::l) (λx b=>h x (by simp at b|-;exact .inr b));have Y:(p::q::l).length*(m+1)=(q::l).length*(m+1)+(m+1):=by rw[Yy (a:=p),Nat.add_mul,Nat.one_mul]
  rw[Zw,WV,Yy];omega
theorem Rk (U:Nat->Int)(M:U8 U)(u:Qr false U=true)(w:World)(I:Env w):
 Jf 72 #[adV false U] w (Jz w (.string ⟨(Rg λi=>(U i).toNat).toArray⟩)):=by
 have ag:=H I;have F:=H M;have R:Hid (∀w,Jf 68 #[adV false U] w (Jz w (.bool true))):=H λw=>by rw[<-u];exact Xo false U w
 clear I M u;have j:Hid (Qa (w.alloc (.cells (Jbr false U) 27)) w.heap.size 27 false U):=H (Qa.made w _ false U);have d:Hid (Below w.heap.size w (w.alloc (.cells (Jbr false U) 27))):=H (Below.all (Jc w.heap.size w) _);unfold adV at*;go_enter func72,ntmps72
 go_wp2_with fail
 generalize C:w.alloc (.cells (Jbr false U) 27)=V at*;have Y:V.heap.size=w.heap.size+1:=by rw[<-C];simp
 clear C;refine Jb (R _) ?_;rintro e w2 ⟨rfl,p⟩;have z:=H (j.below p);have S:=H (Wx d p);have W:w.heap.size+1<=w2.heap.size:=by have:=p.size;omega
 have ab:=z.six;clear p j d Y;go_wp2_with fail
 clear ab;go_loopw [3,20] (λu3 u20 wr=>∃(k:Nat) (s:Option Addr) (o:Nat),k<=4/\u20=.int .i64 k/\u3=.slice s k o/\Hid (J8 wr (w.heap.size+1) 1 s k o (((List.range k).map λi=>Lib.decDigits (U i).toNat).map Bv))/\Hid (Qa wr w.heap.size 27 false U)/\Hid (Ji w wr)/\w.heap.size+1<=wr.heap.size) (λ_ u20 _=>(4:Int)-intOf u20 |>.toNat)
 case atStart=>exact⟨0,none,0,O,rfl,rfl,H (J8.nil _ _ _),z,S,W⟩
 case round=>
  obtain⟨k,s,o,ai,rfl,rfl,t,j,d,T⟩:=hrel;by_cases aj:k<4
  ·have N:=j.cell k O;have Q:=F.out k;have X:Hid (List.range (k+1)=List.range k++[k]):=H List.range_succ;obtain⟨b,v⟩:=Jaq Q.1;have ac:=H v;rw[v] at N Q;clear v;go_wp2_with fail
   refine Jb (FM b O wr (ag.below d)) ?_;rintro e y ⟨rfl,g⟩;have n:=H (t.below g);have A:=H (j.below g);have r:=H (Wx d g);have af:w.heap.size+1<=y.heap.size:=by have:=g.size;omega
   have P:=H (λa (ha:s=some a)=>(n.lt ha).1);clear g N t j d T;go_wp2_with (at_builtin;refine JJ.of ?_)
   refine JJ.mk ?_;refine J7 _ rfl _ _ 76 rfl 9 (.string ⟨#[]⟩) 1 16 (w.heap.size+1) underlying76 DL rfl D s k o _ rfl (n.alloc _) ⟨y.heap.size,0,none⟩ 1 1 [.string ⟨(Lib.decDigits b).toArray⟩] rfl rfl ?_ ?_ D ?_ ?_ ?_ ?_
   ·exact X5 _ _ _
   ·exact JdZ
   ·unfold maxLen;omega
   ·omega
   ·simp only[Jai];omega
   intro B J w4 G l L
   have Z:=H ((A.alloc (.cells #[.string ⟨(Lib.decDigits b).toArray⟩] 9)).keep (l.block _ (by simp;omega) (λe=>by
    obtain⟨a,ha,ah⟩:=Yb.1 e.symm;have:=P.out a ha;omega)))
   have aa:Hid (Ji w w4):=H (Wv (Below.all r _) (n.alloc _) O l (by simp only[Jai];omega));have ad:w.heap.size+1<=w4.heap.size:=by have:=l.size;simp only[Jai] at this;omega
   have ae:Hid (J8 w4 (w.heap.size+1) 1 B (k+1) J (((List.range (k+1)).map λi=>Lib.decDigits (U i).toNat).map Bv)):=H (by
    rw[X.out,Jaj,Jaj];simp only[Jap,JaM];rw[ac.out];exact G)
   clear l L G A r n af P;go_wp2_with fail
   go_roundw
   case rel=>exact⟨k+1,B,J,O,by go_num,rfl,ae,Z,aa,ad⟩
   case measure=>simp[intOf];omega
  ·obtain rfl:k=4:=O;go_wp2_with fail
   refine Jb (join_any s 4 o _ _ 46 wr t ?_ O) ?_
   ·refine WJ (Zo 46 257 _ λak E=>?_) (by simp);obtain⟨i,-,rfl⟩:=Yq.1 E;exact Zc _ (by have:=F.out i;omega)
   rintro e y ⟨rfl,g⟩;have r:=H (Wx d g);go_wp2_with fail
   go_ret;exact .mk rfl r
def grpN (B:Nat->Int)(k:Nat):Nat:=(K6 B k).toNat
theorem Gj {U:Nat->Int}(a:U8 U)(k:Nat):grpN U k<65536:=by have:=IL a k;unfold grpN;omega
theorem I0 {U:Nat->Int}(a:U8 U)(k:Nat):K6 U k=(grpN U k:Int):=by have:=IL a k;unfold grpN;omega
theorem TM {U:Nat->Int}(a:U8 U)(k:Nat)(h:k<8):zg (grpN U) k=(K6 U k==0):=by
 rw[VA _ _ h,I0 a k,Bool.eq_iff_iff];simp only[Y2];omega
theorem OR (d:Nat->Bool)(g:∃a b c N e f r h:Bool,d=zof [a,b,c,N,e,f,r,h]):(QA d).1<=(QA d).2/\(QA d).2<=8:=by
 obtain⟨a,b,c,N,e,f,r,h,rfl⟩:=g;exact MT a b c N e f r h
theorem I1 (g:Nat->Nat):IX g=if (QA (zg g)).1=(QA (zg g)).2 then XX 58 ((List.range 8).map λi=>X1 16 (g i))
 else XX 58 (((List.range 8).map λi=>X1 16 (g i)).take (QA (zg g)).1)++[58,58]++XX 58 (((List.range 8).map λi=>X1 16 (g i)).drop (QA (zg g)).2):=by
 unfold IX IK;split
 ·exact DK _ _
 ·rw[Xp,Xp,DK,DK,List.map_take,List.map_drop];rfl
theorem SV (U:Nat->Int)(v:U8 U)(w:World)(af:Env w):
 Jf 72 #[adV true U] w (Jz w (.string ⟨(IX (grpN U)).toArray⟩)):=by
 have aJ:=H af;have aB:=H v;have ae:Hid (∀w,Jf 68 #[adV true U] w (Jz w (.bool true))):=H λw=>Xo true U w
 have ao:=H (λk A w=>K7 true U v k A w);have Y:=H (λw=>MU true U v (zg (grpN U)) (λk A=>TM v k A) w);have ac:=OR (zg (grpN U)) ⟨_,_,_,_,_,_,_,_,rfl⟩;have z:=H (I1 (grpN U));have W:=H (λk=>Gj v k);have aa:=H (λk=>I0 v k);clear af v;generalize IX (grpN U)=aY at*;generalize QA (zg (grpN U))=aM at*;obtain⟨f,t⟩:=aM;simp only at Y ac z;obtain⟨aP,aZ⟩:=ac;have j:Hid (Qa (w.alloc (.cells (Jbr true U) 27)) w.heap.size 27 true U):=H (Qa.made w _ true U);have r:Hid (Below w.heap.size w (w.alloc (.cells (Jbr true U) 27))):=H (Below.all (Jc w.heap.size w) _);unfold adV at*;go_enter func72,ntmps72
 go_wp2_with fail
 generalize am:w.alloc (.cells (Jbr true U) 27)=au at*;have aC:au.heap.size=w.heap.size+1:=by rw[<-am];simp
 clear am;refine Jb (ae _) ?_;rintro e w2 ⟨rfl,M⟩;have ak:=H (j.below M);have az:=H (Wx r M);have aA:w.heap.size+1<=w2.heap.size:=by have:=M.size;omega
 have aE:=ak.six;clear M j r aC;go_wp2_with fail
 clear aE;go_loopw [3,33] (λu3 u33 wr=>∃(k:Nat) (s:Option Addr) (o:Nat),k<=8/\u33=.int .i64 k/\u3=.slice s k o/\Hid (J8 wr (w.heap.size+1) 1 s k o (((List.range k).map λi=>X1 16 (grpN U i)).map Bv))/\Hid (Qa wr w.heap.size 27 true U)/\Hid (Ji w wr)/\w.heap.size+1<=wr.heap.size) (λ_ u33 _=>(8:Int)-intOf u33 |>.toNat)
 case atStart=>exact⟨0,none,0,O,rfl,rfl,H (J8.nil _ _ _),ak,az,aA⟩
 case round=>
  obtain⟨k,s,o,A,rfl,rfl,B,j,r,aL⟩:=hrel;by_cases aw:k<8
  ·have R:=j.part;have av:Hid (List.range (k+1)=List.range k++[k]):=H List.range_succ;have T:=H (ao k aw);have ag:=W.out k;rw[aa.out k] at T;have L:Hid (∃b,grpN U k=b):=H ⟨_,rfl⟩;obtain⟨b,S⟩:=L.out;clear L;have L:=H S;rw[S] at T ag;clear S;go_wp2_with fail
   refine Jb (T _) ?_;rintro e l ⟨rfl,d⟩;have g:=H (B.below d);have ai:=H (j.below d);have y:=H (Wx r d);have aI:w.heap.size+1<=l.heap.size:=by have:=d.size;omega
   clear d R B j r aL;go_wp2_with fail
   refine Jb (UW b ag l (aJ.below y)) ?_;rintro e w4 ⟨rfl,u⟩;have G:=H (g.below u);have an:=H (ai.below u);have N:=H (Wx y u);have aG:w.heap.size+1<=w4.heap.size:=by have:=u.size;omega
   have ad:=H (λa (ha:s=some a)=>(G.lt ha).1);clear u g ai y aI;go_wp2_with (at_builtin;refine JJ.of ?_)
   refine JJ.mk ?_;refine J7 _ rfl _ _ 76 rfl 9 (.string ⟨#[]⟩) 1 16 (w.heap.size+1) underlying76 DL rfl D s k o _ rfl (G.alloc _) ⟨w4.heap.size,0,none⟩ 1 1 [.string ⟨(X1 16 b).toArray⟩] rfl rfl ?_ ?_ D ?_ ?_ ?_ ?_
   ·exact X5 _ _ _
   ·exact JdZ
   ·unfold maxLen;omega
   ·omega
   ·simp only[Jai];omega
   intro al ab X Z C aq
   have aF:=H ((an.alloc (.cells #[.string ⟨(X1 16 b).toArray⟩] 9)).keep (C.block _ (by simp;omega) (λe=>by
    obtain⟨a,ha,a0⟩:=Yb.1 e.symm;have:=ad.out a ha;omega)))
   have ay:Hid (Ji w X):=H (Wv (Below.all N _) (G.alloc _) O C (by simp only[Jai];omega));have ar:w.heap.size+1<=X.heap.size:=by have:=C.size;simp only[Jai] at this;omega
   have aK:Hid (J8 X (w.heap.size+1) 1 al (k+1) ab (((List.range (k+1)).map λi=>X1 16 (grpN U i)).map Bv)):=H (by
    rw[av.out,Jaj,Jaj];simp only[Jap,JaM];rw[L.out];exact Z)
   clear C aq Z an N G aG ad;go_wp2_with fail
   go_roundw
   case rel=>exact⟨k+1,al,ab,O,by go_num,rfl,aK,aF,ay,ar⟩
   case measure=>simp[intOf];omega
  ·obtain rfl:k=8:=O;have R:=j.part
   have J:Hid (∀p∈(List.range 8).map λi=>X1 16 (grpN U i),p.length<=4):=H λp E=>by
    obtain⟨i,-,rfl⟩:=Yq.1 E;exact EI _ (W i)
   have I:Hid (((List.range 8).map λi=>X1 16 (grpN U i)).length=8):=H (by simp);clear W aa ao aB ae;generalize ((List.range 8).map λi=>X1 16 (grpN U i))=P at*;go_wp2_with fail
   refine Jb (Y _) ?_;rintro e l ⟨rfl,d⟩;have g:=H (B.below d);have y:=H (Wx r d);clear d R j B r Y;by_cases Q:f=t
   ·have n:=z.out;rw[YH Q] at n;have V:=H n;have ax:(f:Int)=t:=O;clear n z Q;go_wp2_with fail
    refine Jb (join_any s 8 o _ _ 58 l g (WJ (Zo 58 4 _ J) (by rw[I.out];decide)) O) ?_;rintro e w4 ⟨rfl,u⟩;have N:=H (Wx y u);go_wp2_with fail
    go_ret;exact .mk (by rw[V.out];rfl) N
   ·have n:=z.out;rw[Yw Q] at n;have V:=H n;have ax:¬((f:Int)=t):=O;have ap:Hid (J8 l (w.heap.size+1) 1 s f o ((P.take f).map Bv)):=H (by rw[List.map_take];have:=g.take f O;rwa [JaA] at this);have aj:Hid (J8 l (w.heap.size+1) 1 (JQ s t o 1) (8-t) (o-t) ((P.drop t).map Bv)):=H (by rw[List.map_drop];have:=g.cut t O;rwa [JaA] at this);have aO:=g.le;have aQ:=λw=>B5 (P:=prog) 76 s 8 o 1 underlying76 K f (f:Int) rfl O w
    have aX:=λw=>B4 (P:=prog) 76 s 8 o 1 underlying76 K t (t:Int) rfl O w
    have aS:(XX 58 (P.take f)).length<=1000:=WJ (Zo 58 4 _ λp E=>J.out p (Ym E)) (by rw[WR,I.out];omega);have aV:(XX 58 (P.drop t)).length<=1000:=WJ (Zo 58 4 _ λp E=>J.out p (Yl E)) (by rw[W4,I.out];omega);have aD:=H (λ(x:J2 l)=>join_any s f o _ _ 58 _ (ap.later x) O O);have aH:=H (λ(x:J2 l)=>join_any _ (8-t) (o-t) _ _ 58 _ (aj.later x) O O);generalize XX 58 (P.take f)=F at*;generalize XX 58 (P.drop t)=ah at*;generalize JQ s t o 1=aR at*;clear n z Q ap aj g J I;go_wp2_with fail
    have aT:F.length+2<=9223372036854775807:=O;have aW:(F.length:Int)+2<=9223372036854775807:=O;have aN:F.length+2+ah.length<=9223372036854775807:=O;have aU:(F.length:Int)+2+(ah.length:Int)<=9223372036854775807:=O;refine JM K K ?_;iterate 3 go_big_quiet_step (fail)
    go_big_quiet_step ((go_at_call 70;exact JD (aD _)))
    iterate 4 go_big_quiet_step (fail)
    go_big_quiet_step ((go_at_call 70;exact JD (aH _)))
    repeat go_big_quiet_step (fail)
    refine Jaa ?_;intro x;go_wp2_with fail
    go_ret;refine .mk ?_ (y.trans (x.below.mono y.size));rw[V.out,<-Q5,<-Q5];rfl
theorem OS (a:Bool)(U:Nat->Int)(u:Qr a U=false)(w:World):
 Jf 72 #[adV a U] w (Jz w (.string ⟨([]:List UInt8).toArray⟩)):=by
 have b:Hid (∀w,Jf 68 #[adV a U] w (Jz w (.bool false))):=H λw=>by rw[<-u];exact Xo a U w
 clear u;unfold adV at*;go_enter func72,ntmps72
 go_wp2_with fail
 refine Calls.later (b _) ?_;exact Jdu
def QX (a:Bool)(U:Nat->Int):List UInt8:=if Qr a U=true then (if a=true then IX (grpN U) else Rg λi=>(U i).toNat) else []
theorem N3 (a:Bool)(U:Nat->Int)(d:U8 U)(w:World)(b:Env w):
 Jf 72 #[adV a U] w (Jz w (.string ⟨(QX a U).toArray⟩)):=by
 unfold QX;by_cases h:Qr a U=true
 ·rw[YH h];cases a
  ·exact Rk U d h w b
  ·exact SV U d w b
 ·rw[Yw h];exact OS a U (by simpa using h) w
theorem JcA{p:Prop}(h:p:=by
 go_wp2_with fail
 go_loopw [6] (λu6 wr=>u6=.slice Y u al/\wr=a7) (λ_ _=>0)
 case atStart=>exact⟨rfl,rfl⟩
 case round=>
  obtain⟨rfl,rfl⟩:=hrel;go_wp2_with (at_builtin;refine JJ.of ?_)
  refine JJ.mk ?_;refine Xq _ rfl _ _ 275 rfl 3 (Jk 0) 8 (w.heap.size+1) (w.heap.size+1) underlying275 CH rfl Y u al _ rfl t X r aw _ rfl B ?_ (by unfold maxLen;omega) O O ?_
  ·intro aZ ac;obtain⟨i,-,rfl⟩:=Yq.1 ac;rfl
  intro V aa av Q z ah
  have F:=H (d.keep (z.block _ O (λe=>by
   obtain⟨a,ha,R⟩:=Yb.1 e.symm;have:=(t.lt ha).1;omega)))
  have M:=H (Yr j z O (λk A=>by
   obtain⟨a,ha,R⟩:=Yb.1 A;have:=(t.lt ha).1;omega))
  clear Q z ah d j t B;have d:=H F.out;have j:=H M.out;clear F M;have ap:=d.row;have N:=H d.heap;go_wp2_with fail
  refine Jag (v:=.tuple #[adV false λ_=>0,false]) ?_ ?_ ?_
  ·exact JY _ _ underlying36 Zu rfl _ _ w.heap.size (.bool false) rfl rfl (Qu N)
  ·rfl
  ·exact⟨below_setRow j (Je _) _,.inr ⟨y.out,rfl⟩⟩):p:=h
theorem JcC{p:Prop}(h:p:=by
 obtain⟨k,A,rfl,d,L,E,j⟩:=hrel;by_cases P:k<8
 ·have ae:k<l.length:=by rw[aQ.out];exact P
  obtain⟨a9,b6,aC,cf,an,I,aL⟩:=E.here O;have a8:=(ao _ aC).2;subst aC;simp only at a8;have bO:=I k (Jk (l[k]:Nat)) (by simp[ae]);have bH:=a2.out k ae
  have aD:Hid (((l[k]/256:Nat):Int)=C4 l (2*k)/\((l[k]%256:Nat):Int)=C4 l (2*k+1)):=H (by
   unfold C4;rw[YH O,Yw O,show 2*k/2=k from O,show(2*k+1)/2=k from O,Yi,W2 ae];exact⟨rfl,rfl⟩)
  generalize l[k]=n at*;have cg:Int.tdiv (n:Int) 256=((n/256:Nat):Int):=by rw[Jaw O];omega
  have b1:Int.tmod (n:Int) 256=((n%256:Nat):Int):=by rw[Jax O];omega
  have cb:n/256<256:=O;have bX:n%256<256:=O;generalize n/256=q at*;generalize n%256=bQ at*;have bR:=L.cell (2*k) O;have bK:=L.cell (2*k+1) O;have cd:=L.free (1+2*k);have cc:=L.free (1+(2*k+1));clear I aL;go_wp2_with fail
  go_roundw
  case rel=>
   refine⟨k+1,O,by go_num,H ((d.other _ _ (by simp only;omega)).other _ _ (by simp only;omega)),H (Rj L P aD.1 aD.2),H ((E.other ?_ _).other ?_ _),H ((j.setCell (by simp only;omega) _).setCell (by simp only;omega) _)⟩
   ·intro a ha;cases ha;simp only;omega
   ·intro a ha;cases ha;simp only;omega
  case measure=>simp[intOf];omega
 ·obtain rfl:k=8:=O;have ay:=L.congr (C:=C4 l) λi aW=>by rw[YH O]
  have bL:=ay.part;have ap:=d.row;have N:=H d.heap;clear ay;go_wp2_with fail
  refine Jag (v:=.tuple #[adV true (C4 l),true]) ?_ ?_ ?_
  ·exact JY _ _ underlying36 Zu rfl _ _ w.heap.size (.bool true) rfl rfl (Qu N)
  ·rfl
  ·exact⟨below_setRow j (Je _) _,.inl ⟨l,y.out,rfl⟩⟩):p:=h
theorem JcH{p:Prop}(h:p:=by
 have ap:=d.row;have N:=H d.heap;go_wp2_with fail
 refine Jag (v:=.tuple #[adV false λ_=>0,false]) ?_ ?_ ?_
 ·exact JY _ _ underlying36 Zu rfl _ _ w.heap.size (.bool false) rfl rfl (Qu N)
 ·rfl
 ·exact⟨below_setRow j (Je _) _,.inr ⟨y.out,rfl⟩⟩):p:=h
theorem M4 {s:List UInt8}{L:List Nat}(h:Qn s=some L):L.length<=s.length+1:=by
 unfold Qn at h;split at h
 ·cases h;simp
 ·have:=DO _ _ _ h;have:=Xy 58 s;omega
def Dn (w:World)(g:Option (List Nat))(m:Nat):Ending->World->Prop:=λe d=>∃(s:Option Addr) (o:Nat) (b:List Nat) (ok:Bool),e=.returned (.tuple #[.slice s b.length o,ok])/\
 J8 d w.heap.size 1 s b.length o (b.map λ(n:Nat)=>Value.int .i64 (n:Int))/\Ji w d/\b.length<=m+1/\((ok=true/\g=some b)\/(ok=false/\g=none))
theorem Hq (G:ByteArray){a:List Nat}(h:Qn G.data.toList=some a):a.length<=G.size+1:=by
 have b:=M4 h;have d:G.data.toList.length=G.size:=by rw[WS,Jat]
 omega
theorem CL (G:ByteArray)(w:World)(z:G.size<=1000):Jf 175 #[.string G] w (Dn w (Qn G.data.toList) G.size):=by
 refine Jb (OM G w z) ?_;rintro e d (⟨j,rfl,Y⟩|⟨g,s,o,j,rfl,Y,b⟩)
 ·exact⟨none,0,[],false,rfl,J8.nil _ _ _,Y,by simp,.inr ⟨rfl,j⟩⟩
 ·exact⟨s,o,g,true,rfl,Y,b,Hq G j,.inl ⟨rfl,j⟩⟩
theorem Lr (s:ByteArray)(k:Nat)(h:k+1<s.size)(w:World):(Instr.slice 9 (.string s) (some (.int .i64 (k:Int))) (some (.int .i64 ((k:Int)+2))) none).run prog w=.ok (.string ⟨[s[k],s[k+1]].toArray⟩) w:=by
 have e:s.extract k (k+2)=⟨[s[k],s[k+1]].toArray⟩:=by
  apply JaE;rw[Lib.extract_data];rw[show k+2-k=2 from O,ZC s k O,ZC s (k+1) h];rfl
 rw[run_slice_string w 9 s .i64 .i64 (k:Int) ((k:Int)+2) underlying9 O O O];rw[show((k:Int)+2).toNat=k+2 from O,Jak,e]
theorem OT (s:ByteArray)(k:Nat)(h:k<=s.size)(w:World):(Instr.slice 9 (.string s) none (some (.int .i64 (k:Int))) none).run prog w=.ok (.string ⟨(s.data.toList.take k).toArray⟩) w:=by
 have e:s.extract 0 k=⟨(s.data.toList.take k).toArray⟩:=by
  apply JaE;rw[Lib.extract_data];simp
 rw[run_slice_string_h w 9 s underlying9 .i64 (k:Int) O O];rw[Jak,e]
theorem OU (G:ByteArray)(k:Nat)(i:Int)(F:i=(k:Int))(h:k<=G.size)(w:World):(Instr.slice 9 (.string G) (some (.int .i64 i)) none none).run prog w=.ok (.string ⟨(G.data.toList.drop k).toArray⟩) w:=by
 subst F
 have e:G.extract k G.size=⟨(G.data.toList.drop k).toArray⟩:=by
  apply JaE;rw[Lib.extract_data,Jav (by rw[W4,WS,Jat];exact Je _)]
 rw[run_slice_string_l w 9 G underlying9 .i64 (k:Int) O O];rw[Jak,e]
theorem Uk (G:ByteArray)(k:Nat)(h:k+1<G.size)(j:G[k]=58)(y:G[k+1]=58):Lib.index (G.data.toList.drop k) [58,58]=0:=by
 rw[ZC G k O,ZC G (k+1) h,j,y,HY]
theorem SW (G:ByteArray)(k:Nat)(h:k+1<G.size)(j:¬(G[k]=58/\G[k+1]=58)):Lib.index (G.data.toList.drop k) [58,58]=if Lib.index (G.data.toList.drop (k+1)) [58,58]=-1 then-1 else Lib.index (G.data.toList.drop (k+1)) [58,58]+1:=by
 rw[ZC G k O];refine HX _ _ ?_;rintro⟨t,b⟩;rw[ZC G (k+1) h] at b;simp only[JaD] at b;exact j ⟨b.1,b.2.1⟩
theorem Ul (G:ByteArray)(k:Nat)(h:G.size<=k+1):Lib.index (G.data.toList.drop k) [58,58]=-1:=by
 by_cases A:k<G.size
 ·rw[ZC G k A,JaH (by rw[WS,Jat];omega)];simp[Lib.index]
 ·rw[JaH (by rw[WS,Jat];omega)];rfl
theorem UY (G:ByteArray)(h:Lib.index G.data.toList [58,58]≠-1):0<=Lib.index G.data.toList [58,58]/\Lib.index G.data.toList [58,58]+2<=G.size:=by
 have X:=Lib.index_ge G.data.toList [58,58];refine⟨O,?_⟩
 have M:∀l:List UInt8,Lib.index l [58,58]≠-1->Lib.index l [58,58]+2<=l.length:=by
  intro l;induction l with
  |nil=>intro h;exact absurd rfl h
  |cons x T b=>
   intro h;by_cases E:∃t,x::T=58::58::t
   ·obtain⟨t,d⟩:=E;rw[d,HY];simp only[Yy];omega
   ·rw[HX x T E] at h|-;by_cases e:Lib.index T [58,58]=-1
    ·rw[YH e] at h;exact absurd rfl h
    ·rw[Yw e];have:=b e;simp only[Yy];omega
 have:=M _ h;rwa [WS,Jat] at this
theorem SX (G:ByteArray)(w:World)(br:G.size<=1000):Jf 122 #[.string G] w (Ri w (Fx G.data.toList)):=by
 have d:Hid (Qa (w.alloc (.cells (Jbu false) 36)) w.heap.size 36 false λ_=>0):=H (Qa.made w _ false λ_=>0);have j:Hid (Below w.heap.size w (w.alloc (.cells (Jbu false) 36))):=H (Below.all (Jc w.heap.size w) _);have aM:=H (λk h=>Ul G k h);have bb:=H (λk h az=>SW G k h az);have bh:=H (λk h az bD=>Uk G k h az bD);have a0:=H (UY G);have aS:Hid (Lib.index G.data.toList [58,58]=if Lib.index (G.data.toList.drop 0) [58,58]=-1 then-1 else Lib.index (G.data.toList.drop 0) [58,58]+(0:Nat)):=H (by rw[Y9];split<;>simp_all)
 have aI:Hid (Fx G.data.toList=if Lib.index G.data.toList [58,58]=-1 then (Qn G.data.toList).bind λaq=>if aq.length=8 then some aq else none
  else (Qn (G.data.toList.take (Lib.index G.data.toList [58,58]).toNat)).bind λaq=>(Qn (G.data.toList.drop ((Lib.index G.data.toList [58,58]).toNat+2))).bind λm=>
   if aq.length+m.length<=7 then some (aq++List.replicate (8-aq.length-m.length) 0++m) else none):=H rfl
 have bw:=H (λ(l:List Nat) (h:Fx G.data.toList=some l)=>M2 h);generalize bP:Lib.index G.data.toList [58,58]=Z at*;clear bP;go_enter func122,ntmps122
 go_wp2_with fail
 generalize w.alloc (.cells (Jbu false) 36)=bW at*;go_loopw [4,5] (λu4 u5 wr=>∃(i:Nat) (ar:Int),i<=1001/\u5=.int .i64 i/\u4=.int .i64 ar/\wr=bW/\((ar=-1/\Hid (Z=if Lib.index (G.data.toList.drop i) [58,58]=-1 then-1 else Lib.index (G.data.toList.drop i) [58,58]+(i:Nat)))\/(0<=ar/\ar<=1001/\Z=ar))) (λ_ u5 _=>(1001:Int)-intOf u5 |>.toNat)
 case atStart=>exact⟨0,-1,O,rfl,rfl,rfl,.inl ⟨rfl,aS⟩⟩
 case round=>
  obtain⟨i,ar,aW,rfl,rfl,rfl,I⟩:=hrel;rcases I with ⟨rfl,aF⟩|⟨co,az,rfl⟩
  ·by_cases P:i+1<G.size
   ·have bZ:(i:Int)+1<G.size:=O;by_cases W:G[i]=58/\G[i+1]=58
    ·have bf:=Lr G i P;rw[W.1,W.2] at bf;have ab:Hid (Z=i):=H (by rw[aF.out,bh.out i P W.1 W.2];simp);clear W;go_wp2_with fail
     go_roundw
     case rel=>exact⟨i+1,i,O,by go_num,rfl,by trivial,.inr ⟨O,O,ab.out⟩⟩
     case measure=>simp[intOf];omega
    ·have bf:=Lr G i P;have bo:=H W;have ab:=H (bb i P W);clear W;obtain⟨x,a1⟩:∃x,G[i]=x:=⟨_,rfl⟩
     obtain⟨aH,aX⟩:∃aH,G[i+1]=aH:=⟨_,rfl⟩
     rw[a1,aX] at bf;have bu:¬(x=58/\aH=58):=λh=>bo.out (by rw[a1,aX];exact h)
     have bM:Hid (Z=if Lib.index (G.data.toList.drop (i+1)) [58,58]=-1 then-1 else Lib.index (G.data.toList.drop (i+1)) [58,58]+((i+1:Nat):Int)):=H (by
      rw[aF.out,ab.out];have:=Lib.index_ge (G.data.toList.drop (i+1)) [58,58];by_cases e:Lib.index (G.data.toList.drop (i+1)) [58,58]=-1
      ·rw[YH e,YH e,YH rfl]
      ·rw[Yw e,Yw e,Yw O];omega)
     clear a1 aX bo ab aF;by_cases aJ:x=58
     all_goals
      first
       |(have cl:(aH==58)=false:=by simpa using λh=>bu ⟨aJ,h⟩
         have b5:(x==58)=true:=by simpa using aJ)
       |(have b5:(x==58)=false:=by simpa using aJ)
      clear aJ bu;go_wp2_with fail
      go_roundw
      case rel=>exact⟨i+1,-1,O,by go_num,rfl,by trivial,.inl ⟨rfl,bM⟩⟩
      case measure=>simp[intOf];omega
   ·have bZ:¬((i:Int)+1<G.size):=O;have ab:Hid (Z=-1):=H (by rw[aF.out,aM.out i O];rfl);clear aF aM bb bh a0 aS;go_wp2_with fail
    refine Jb (CL G wr br) ?_;rintro e ag ⟨s,o,l,ok,rfl,S,ak,b2,I⟩;have bS:=d.lt;have bA:=H (d.below ak);have bs:=H (Wx j ak);clear d j;have d:=H bA.out;have j:=H bs.out;clear bA bs;have bI:=d.lt;have E:=H S;have bg:=H I;clear S ak I aW;have ad:=aI.out;rw[ab.out,YH rfl] at ad;have U:=H ad;clear ad aI ab;generalize wr.heap.size=a6 at*;obtain⟨n,aU⟩:∃n,l.length=n:=⟨_,rfl⟩
    rw[aU] at E b2|-;have bF:=H aU;clear aU;cases ok
    ·have y:Hid (Fx G.data.toList=none):=H (by
      rcases bg.out with ⟨h,-⟩|⟨-,h⟩
      ·cases h
      ·rw[U.out,h];rfl)
     exact JcH
    ·have be:Hid (Qn G.data.toList=some l):=H (by rcases bg.out with ⟨-,h⟩|⟨h,-⟩;exact h;cases h);by_cases aA:n=8
     ·subst aA;have y:Hid (Fx G.data.toList=some l):=H (by rw[U.out,be.out];show(if l.length=8 then some l else none)=_;rw[YH bF.out]);clear U bg be;have aj:=H (bw _ y);have a2:Hid (∀k (h:k<l.length),l[k]<65536):=H λk h=>aj.2 _ (Yj h)
      have aQ:=H aj.1;have ao:=H (λa (ha:s=some a)=>E.lt ha);clear aj;go_wp2_with fail
      have bc:=H (d.alloc (.cells (JbF true) 36));have a3:=H (Qa.made0 ag 36 true);have aO:=H (E.alloc (.cells (JbF true) 36));have ba:=H (Below.all j (.cells (JbF true) 36));clear d E j;generalize ag.alloc (.cells (JbF true) 36)=b7 at*;generalize ag.heap.size=aP at*;go_loopw [13] (λu13 wr=>∃k:Nat,k<=8/\u13=.int .i64 k/\Hid (Qa wr w.heap.size 36 false λ_=>0)/\Hid (Qa wr aP 36 true (λJ=>if J<2*k then C4 l J else 0))/\Hid (J8 wr a6 1 s 8 o (l.map λ(m:Nat)=>Value.int .i64 (m:Int)))/\Hid (Ji w wr)) (λu13 _=>(8:Int)-intOf u13 |>.toNat)
      case atStart=>exact⟨0,O,rfl,bc,H (a3.congr λi _=>by simp),aO,ba⟩
      case round=>
       exact JcC
     ·have y:Hid (Fx G.data.toList=none):=H (by rw[U.out,be.out];show(if l.length=8 then some l else none)=_;rw[Yw (by rw[bF.out];exact aA)]);have cp:¬((n:Int)=8):=O;exact JcH
  ·obtain⟨a,rfl⟩:∃a:Nat,Z=a:=⟨Z.toNat,O⟩
   have cs:=a0.out O;have ad:=aI.out;rw[Yw O,Jak] at ad;have U:=H ad;have b3:=OT G a O;have b4:=OU G (a+2) ((a:Int)+2) O O;have ci:G.data.toList.length=G.size:=by rw[WS,Jat]
   have ck:(G.data.toList.take a).length<=1000:=by rw[WR];omega
   have ct:(G.data.toList.drop (a+2)).length<=1000:=by rw[W4];omega
   clear ad aI aM bb bh a0 aS ci;generalize Fx G.data.toList=ax at*;generalize G.data.toList.take a=au at*;generalize G.data.toList.drop (a+2)=aB at*;have b8:Hid (∀w,Jf 175 #[.string ⟨au.toArray⟩] w (Dn w (Qn au) au.length)):=H λw=>CL ⟨au.toArray⟩ w (by simp[ByteArray.size];omega)
   have ca:Hid (∀w,Jf 175 #[.string ⟨aB.toArray⟩] w (Dn w (Qn aB) aB.length)):=H λw=>CL ⟨aB.toArray⟩ w (by simp[ByteArray.size];omega)
   by_cases P:i+1<G.size
   all_goals
    go_wp2_with fail
    refine Jb (CL G wr br) ?_;rintro e cj ⟨cr,cw,cv,cm,rfl,-,ak,cn,-⟩;have aV:=H (d.below ak);have bx:=H (Wx j ak);clear ak d j P;go_wp2_with fail
    refine Jb (b8 cj) ?_;rintro e w4 ⟨Y,al,ai,ce,rfl,S,g,bT,bC⟩;have a5:=aV.lt;have bd:=H (aV.below g);have bE:=H (Wx bx g);have bv:=H (S.mono (base':=w.heap.size+1) O);have bB:=H (λa ha=>(S.lt (a:=a) ha).2);have a4:=H bC;clear g S aV bx bC a5 b3;go_wp2_with fail
    refine Jb (ca w4) ?_;rintro e a7 ⟨X,aw,am,bN,rfl,S,g,bJ,bq⟩;have a5:=bd.lt;have d:=H (bd.below g);have j:=H (Wx bE g);have t:=H (bv.below g);have B:=H (S.mono (base':=w.heap.size+1) O)
    have af:Hid (∀a b,Y=some a->X=some b->a.block≠b.block):=H λa b ha b9 e=>by
     have az:=bB.out a ha;have bD:=(S.lt b9).1;omega
    have cq:=d.lt;have aT:=H bq;clear g S bd bE bv bq bB b4;obtain⟨u,aK⟩:∃n,ai.length=n:=⟨_,rfl⟩
    obtain⟨r,aN⟩:∃n,am.length=n:=⟨_,rfl⟩
    have bz:=H aK;have bl:=H aN;rw[aK] at t bT|-;rw[aN] at B bJ|-;clear aK aN;cases ce
    ·have y:Hid (ax=none):=H (by
      rcases a4.out with ⟨h,-⟩|⟨-,h⟩
      ·cases h
      ·rw[U.out,h];rfl)
     exact JcA
    have aY:Hid (Qn au=some ai):=H (by rcases a4.out with ⟨-,h⟩|⟨h,-⟩;exact h;cases h);cases bN
    ·have y:Hid (ax=none):=H (by
      rcases aT.out with ⟨h,-⟩|⟨-,h⟩
      ·cases h
      ·rw[U.out,aY.out,h];rfl)
     exact JcA
    have bi:Hid (Qn aB=some am):=H (by rcases aT.out with ⟨-,h⟩|⟨h,-⟩;exact h;cases h);have aG:Hid (ax=if u+r<=7 then some (ai++List.replicate (8-u-r) 0++am) else none):=H (by rw[U.out,aY.out,bi.out,<-bz.out,<-bl.out];rfl);clear U aY bi a4 aT bz bl;by_cases bt:u+r<=7
    ·have bm:Hid (ax=some (ai++List.replicate (8-u-r) 0++am)):=H (by rw[aG.out,YH bt]);have bY:(u:Int)+r<=7:=O;have y:=H bm.out;clear aG bm;go_wp2_with fail
     go_loopg [6] (8-u-r) (λa9 u6 wr=>∃(m:Nat) (s:Option Addr) (o:Nat),m+r+a9=8/\u6=.slice s m o/\Hid (∃J,m=u+J/\J8 wr (w.heap.size+1) 1 s m o ((ai++List.replicate J 0).map λ(m:Nat)=>Value.int .i64 (m:Int)))/\Hid (J8 wr (w.heap.size+1) 1 X r aw (am.map λ(m:Nat)=>Value.int .i64 (m:Int)))/\
      Hid (∀a b,s=some a->X=some b->a.block≠b.block)/\Hid (Qa wr w.heap.size 36 false λ_=>0)/\Hid (Ji w wr))
     case atStart=>exact⟨u,Y,al,O,rfl,H ⟨0,rfl,by simpa using t.out⟩,B,af,d,j⟩
     case round=>
      clear t B af d j;obtain⟨m,s,o,cu,rfl,t,B,af,d,j⟩:=hrel;obtain⟨J,aR,aE⟩:=t.out;have bp:=H aR;have b0:=aE.le;have a5:=d.lt;by_cases ch:m+r<8
      ·have bn:(m:Int)+r<8:=O;have T:=H aE;clear aE aR;go_wp2_with (at_builtin;refine JJ.of ?_)
       refine JJ.mk ?_;refine J7 _ rfl _ _ 275 rfl 3 (Jk 0) 1 8 (w.heap.size+1) underlying275 CH rfl D s m o _ rfl (T.alloc _) ⟨wr.heap.size,0,none⟩ 1 1 [.int .i64 0] rfl rfl ?_ ?_ D ?_ ?_ ?_ ?_
       ·exact X5 _ _ _
       ·exact JdZ
       ·unfold maxLen;omega
       ·omega
       ·simp only[Jai];omega
       intro V aa av bk an bj;have ao:=H (λa (ha:s=some a)=>T.lt ha)
       have F:=H ((d.alloc (.cells #[Jk 0] 3)).keep (an.block _ (by simp only[Jai];omega) (λe=>by
        obtain⟨a,ha,R⟩:=Yb.1 e.symm;have:=(ao a ha).1;omega)))
       have M:Hid (Ji w av):=H (Wv (Below.all j _) (T.alloc _) O an (by simp only[Jai];omega))
       have bV:=H ((B.alloc (.cells #[Jk 0] 3)).grown an (λb g e=>by
        obtain⟨a,ha,R⟩:=Yb.1 e.symm;exact af a b ha g R))
       have bG:Hid (∀a b,V=some a->X=some b->a.block≠b.block):=H λa b ha g=>by
        rcases bj a ha with h|h
        ·exact af a b h g
        ·have:=(B.lt g).2;simp only[Jai] at h;omega
       have bU:Hid (∃J,m+1=u+J/\J8 av (w.heap.size+1) 1 V (m+1) aa ((ai++List.replicate J 0).map λ(m:Nat)=>Value.int .i64 (m:Int))):=H ⟨J+1,by have:=bp.out;omega,by
        rw[show List.replicate (J+1) 0=List.replicate J 0++[0] from List.replicate_succ',<-Jao,Jaj];exact bk⟩
       clear ao an bj bk t T B af d j;go_wp2_with fail
       go_roundg (8-(m+1)-r)
       case measure=>omega
       case rel=>exact⟨m+1,V,aa,O,rfl,bU,bV,bG,F,M⟩
      ·have bn:¬((m:Int)+r<8):=O;have aA:m+r=8:=O;obtain rfl:J=8-u-r:=O;have T:=H aE;clear aE aR;go_wp2_with (at_builtin;refine JJ.of ?_)
       refine JJ.mk ?_;refine Xq _ rfl _ _ 275 rfl 3 (Jk 0) 8 (w.heap.size+1) (w.heap.size+1) underlying275 CH rfl s m o _ rfl T X r aw _ rfl B ?_ (by unfold maxLen;omega) O O ?_
       ·intro aZ ac;obtain⟨i,-,rfl⟩:=Yq.1 ac;rfl
       intro V aa ag Q z ah
       have F:=H (d.keep (z.block _ O (λe=>by
        obtain⟨a,ha,R⟩:=Yb.1 e.symm;have:=(T.lt ha).1;omega)))
       have M:=H (Yr j z O (λk A=>by
        obtain⟨a,ha,R⟩:=Yb.1 A;have:=(T.lt ha).1;omega))
       rw[aA] at Q|-;rw[<-Jaj] at Q;have E:=H Q;clear Q z ah d j t T B af bp;have d:=H F.out;have j:=H M.out;have bI:=d.lt;have bS:w.heap.size<w.heap.size+1:=O;clear F M b0 ch bn aA;generalize ai++List.replicate (8-u-r) 0++am=l at*;generalize w.heap.size+1=a6 at*;have aj:=H (bw _ y);have a2:Hid (∀k (h:k<l.length),l[k]<65536):=H λk h=>aj.2 _ (Yj h)
       have aQ:=H aj.1;have ao:=H (λa (ha:V=some a)=>E.lt ha);clear aj;go_wp2_with fail
       have bc:=H (d.alloc (.cells (JbF true) 36));have a3:=H (Qa.made0 ag 36 true);have aO:=H (E.alloc (.cells (JbF true) 36));have ba:=H (Below.all j (.cells (JbF true) 36));clear d E j;generalize ag.alloc (.cells (JbF true) 36)=b7 at*;generalize ag.heap.size=aP at*;go_loopw [13] (λu13 wr=>∃k:Nat,k<=8/\u13=.int .i64 k/\Hid (Qa wr w.heap.size 36 false λ_=>0)/\Hid (Qa wr aP 36 true (λJ=>if J<2*k then C4 l J else 0))/\Hid (J8 wr a6 1 V 8 aa (l.map λ(m:Nat)=>Value.int .i64 (m:Int)))/\Hid (Ji w wr)) (λu13 _=>(8:Int)-intOf u13 |>.toNat)
       case atStart=>exact⟨0,O,rfl,bc,H (a3.congr λi _=>by simp),aO,ba⟩
       case round=>
        exact JcC
    ·have y:Hid (ax=none):=H (by rw[aG.out,Yw bt]);have bY:¬((u:Int)+r<=7):=O;clear aG;exact JcA
theorem Jdc{p:Prop}(h:p:=by
 refine Jaa ?_;intro x;have y:=H (t.below x.below);have N:=H (Wx u x.below);have T:=y.row;have z:=H y.heap;clear t u;go_wp2_with fail
 exact Jag (v:=.tuple #[adV false λ_=>0,Jk 40]) (JY _ _ underlying36 Zu rfl _ _ w.heap.size (Jk 40) rfl rfl (Qu z)) rfl (.mk (by rw[Y.out C.out];rfl) (below_setRow N (Je _) _))):p:=h
theorem Ls {b Z:Option (List Nat)}(d:∀m,Z=some m->b=none){l:List Nat}(h:Z=some l):Bb b Z=some (true,C4 l):=by
 rw[d l h,h];rfl
theorem HZ {d b:Nat}{l:List UInt8}{n:Nat}(X:0<b)(h:Q0 d b l=some n):n<b:=by
 unfold Q0 at h;split at h
 ·cases h
 ·exact II d b l 0 n X h
theorem OV (l:List Nat)(n k:Nat)(A:l.length=k)(i:Nat):AI (l++[n]) i=if i=k then (n:Int) else AI l i:=by
 unfold AI;by_cases b:i=k
 ·rw[YH b];rw[Yi,WZ O];simp[b,A]
 ·rw[Yw b,Yi,Yi];by_cases d:i<k
  ·rw[WX O]
  ·rw[W5 (by simp;omega),W5 O]
theorem H0 (G:ByteArray)(w:World)(ag:G.size<=1000):Jf 62 #[.string G] w (Jz w (DQ (Zb G.data.toList))):=by
 have ay:=H (λw=>SX G w ag);have ar:=H (λm (h:Fx G.data.toList=some m)=>SS G.data.toList h);have X:Hid (Gd G.data.toList=if (Ql 46 G.data.toList).length=4 then (Ql 46 G.data.toList).mapM (DJ 256) else none):=H rfl;have aU:G.data.toList.length=G.size:=by rw[WS,Jat]
 have aI:Hid (∀p∈Ql 46 G.data.toList,p.length<=1000):=H (λp az=>by have:=ZK 46 _ p az;omega);have aT:Hid ((Ql 46 G.data.toList).length<=1001):=H (by have:=Xy 46 G.data.toList;omega);have aw:=H (λw=>IV G 46 w ag);rw[Lo];clear aU ag;generalize Ql 46 G.data.toList=g at*;generalize Gd G.data.toList=o at*;generalize Fx G.data.toList=ao at*;go_enter func62,ntmps62
 go_wp2_with fail
 refine Jb (ay _) ?_;rintro e w2 ⟨aj,I⟩;have d:=H ((Qa.made0 w 36 false).below aj);have j:=H (Wx (Below.all (Jc w.heap.size w) _) aj);have af:=d.lt;clear aj ay;rcases I with ⟨l,M,rfl⟩|⟨M,rfl⟩
 ·have ab:Hid (Bb o ao=some (true,C4 l)):=H (Ls ar M);generalize C4 l=au at*;generalize Bb o ao=aB at*;clear M;unfold adV;have T:=d.row;go_wp2_with fail
  exact Jag (v:=.tuple #[adV true au,Jk 0]) (JY _ _ underlying36 Zu rfl _ _ w.heap.size (Jk 0) rfl rfl (IZ (s':=true) (B':=au) d _ _ rfl)) rfl (.mk (by rw[ab.out];rfl) (Below.all (below_setRow j (Je _) _) _))
 ·subst M;have ab:Hid (∀l,o=some l->Bb o none=some (false,AI l)):=H λl h=>by rw[h];rfl
  have Y:Hid (o=none->Bb o none=none):=H λh=>by rw[h];rfl
  generalize Bb o none=aB at*;clear ar;unfold adV;have ak:=H (d.alloc (.cells (Jbu false) 36));have av:=H (Below.all j (.cells (Jbu false) 36));clear d j af;go_wp2_with fail
  generalize w2.alloc (.cells (Jbu false) 36)=bb at*;refine Jb (aw _) ?_;rintro e w4 ⟨aS,aN,rfl,Z,ac⟩;have d:=H (ak.below ac);have j:=H (Wx av ac);have aQ:=ak.lt;have aa:=H (Z.mono (base':=w.heap.size+1) O);have aJ:=H (λa ha=>(Z.lt (a:=a) ha).2);clear Z ac ak av aQ aw;by_cases U:g.length=4
  ·rw[U] at aa|-;have Q:=H U;clear U;have aK:=H (d.alloc (.cells (Jbu false) 36));have aG:=H (Below.all j (.cells (Jbu false) 36));have aF:=H (Qa.made0 w4 36 false);have aM:=H (aa.alloc (.cells (Jbu false) 36));have ba:=d.lt;go_wp2_with fail
   clear d j aa;generalize w4.alloc (.cells (Jbu false) 36)=a5 at*;generalize w4.heap.size=aA at*;go_loopw [8] (λu8 wr=>∃(k:Nat) (s:List Nat),k<=4/\u8=.int .i64 k/\Hid ((g.take k).mapM (DJ 256)=some s)/\Hid (Qa wr w.heap.size 36 false λ_=>0)/\Hid (Qa wr aA 36 false (AI s))/\Hid (J8 wr (w.heap.size+1) 1 aS 4 aN (g.map Bv))/\Hid (Ji w wr)) (λu8 _=>(4:Int)-intOf u8 |>.toNat)
   case atStart=>exact⟨0,[],O,rfl,H rfl,aK,H (aF.congr λi _=>by simp[AI]),aM,aG⟩
   case round=>
    obtain⟨k,s,a0,rfl,P,d,L,F,j⟩:=hrel;by_cases af:k<4
    ·have W:k<g.length:=by rw[Q.out];exact af
     obtain⟨r,ai,ax,a8,E,I,aC⟩:=F.here O;have aO:=aJ.out _ ax;subst ax;simp only at aO;have A:=I k (Bv g[k]) (by simp[W]);have a2:=aI.out g[k] (Yj W);have ah:=H (show g.take (k+1)=g.take k++[g[k]] by rw[Yt W]);have V:=H (λh=>DN (DJ 256) g k W h);clear I aC;unfold Bv at A;generalize g[k]=p at*;have aL:(⟨p.toArray⟩:ByteArray).size=p.length:=by simp[ByteArray.size]
     have am:((⟨p.toArray⟩:ByteArray).data.toList)=p:=by simp
     have aq:(⟨p.toArray⟩:ByteArray).size<=1000:=O;have B:=H (λw=>EH ⟨p.toArray⟩ 10 256 w aq D D D);rw[am] at B;clear aL am aq;have a6:=j.size;cases hn:Q0 10 256 p with
     |none=>
      rw[hn] at B;have C:Hid (o=none):=H (by rw[X.out,YH Q.out];exact V (by unfold DJ;rw[hn]));clear hn;go_wp2_with fail
      refine Jb (B wr) ?_;rintro e R ⟨rfl,b⟩;simp only[P6];have J:=b.cell (p:=⟨r,ai+k,none⟩) E;rw[A] at J;have t:=H (d.below b);have u:=H (Wx j b);clear b;go_wp2_with fail
      refine JM K K ?_;repeat go_big_quiet_step (fail)
      exact Jdc
     |some n=>
      rw[hn] at B;have aW:=HZ D hn
      have ap:Hid (∀w,Jf 73 #[Jk (n:Int),Jk 10] w (Jz w (.string ⟨(Lib.decDigits n).toArray⟩))):=H λw=>by
       have:=Fa n (n:Int) w O O O;rwa [Jak,CE n n (Je _)] at this
      by_cases S:Lib.decDigits n=p
      ·have an:DJ 256 p=some n:=by unfold DJ;rw[hn];simp only;rw[YH S]
       have aR:Hid ((g.take (k+1)).mapM (DJ 256)=some (s++[n])):=H (by rw[ah.out];exact DM _ _ _ _ _ P an);have aE:Hid (s.length=k):=H (by rw[DO _ _ _ P.out,WR];omega);clear an hn P ah V;subst S;have a1:IntKind.u8.wrap (n:Int)=n:=Ub _ O O;go_wp2_with fail
       refine Jb (B wr) ?_;rintro e R ⟨rfl,b⟩;simp only[P6];have J:=b.cell (p:=⟨r,ai+k,none⟩) E;rw[A] at J;have aD:r<R.heap.size:=Jd E b.size;have t:=H (d.below b);have ae:=H (L.below b);have al:=H (F.below b);have u:=H (Wx j b);clear b d L F j A;go_wp2_with fail
       refine JM K K ?_;repeat go_big_quiet_step ((go_at_call 73;exact JD (ap _)))
       refine Jaa ?_;intro x;have y:=H (t.below x.below);have ad:=H (ae.below x.below);have aP:=H (al.below x.below);have N:=H (Wx u x.below);have aY:=ad.cell k O;have a9:=ad.free (1+k);clear t ae al u;go_wp2_with fail
       go_roundw
       case rel=>
        refine⟨k+1,s++[n],O,by go_num,aR,H (y.other _ _ (by simp only;omega)),H ((ad.set k O n).congr λi _=>(OV s n k aE i).symm),H (aP.other (λa ha=>by cases ha;simp only;omega) _),H (N.setCell (by simp only;omega) _)⟩
       case measure=>simp[intOf];omega
      ·have C:Hid (o=none):=H (by rw[X.out,YH Q.out];exact V (by unfold DJ;rw[hn];simp only;rw[Yw S]));have a7:(Lib.decDigits n==p)=false:=by simpa using S
       clear hn P ah V;go_wp2_with fail
       refine Jb (B wr) ?_;rintro e R ⟨rfl,b⟩;simp only[P6];have J:=b.cell (p:=⟨r,ai+k,none⟩) E;rw[A] at J;have aD:r<R.heap.size:=Jd E b.size;have t:=H (d.below b);have ae:=H (L.below b);have al:=H (F.below b);have u:=H (Wx j b);clear b d L F j A;go_wp2_with fail
       refine JM K K ?_;repeat go_big_quiet_step ((go_at_call 73;exact JD (ap _)))
       exact Jdc
    ·obtain rfl:k=4:=O
     have aH:Hid (o=some s):=H (by
      have:=P.out;rw[Jav (by rw[Q.out];exact Je _)] at this;rw[X.out,YH Q.out,this])
     have aX:=L.part;have T:=d.row;have z:=H d.heap;go_wp2_with fail
     exact Jag (v:=.tuple #[adV false (AI s),Jk 0]) (JY _ _ underlying36 Zu rfl _ _ w.heap.size (Jk 0) rfl rfl (Qu z)) rfl (.mk (by rw[ab.out _ aH.out];rfl) (below_setRow j (Je _) _))
  ·have aV:((g.length:Int)==4)=false:=by simp;omega
   have C:Hid (o=none):=H (by rw[X.out,Yw U]);have T:=d.row;have z:=H d.heap;have aZ:=aT.out;have a3:¬((g.length:Int)=4):=O;generalize g.length=a4 at*;go_wp2_with fail
   refine Jag (v:=.tuple #[adV false λ_=>0,Jk 40]) (JY _ _ underlying36 Zu rfl _ _ w.heap.size (Jk 40) rfl rfl (Qu z)) rfl (.mk (by rw[Y.out C.out];rfl) (below_setRow j (Je _) _))
theorem Lt (G:List UInt8):(∃(a:Bool) (U:Nat->Int),Zb G=some (a,U)/\Qr a U=true/\U8 U/\DQ (Zb G)=.tuple #[adV a U,Jk 0])\/(Zb G=none/\DQ (Zb G)=.tuple #[adV false λ_=>0,Jk 40]):=by
 cases h:Zb G with
 |none=>exact .inr ⟨rfl,rfl⟩
 |some p=>
  obtain⟨a,U⟩:=p;have:=Ln h;exact .inl ⟨a,U,rfl,this.1,this.2,rfl⟩
end
section
open Go.Lib Go.RowKit
def UZ (s:Bool)(B:Nat->Int)(t:Bool)(A:Nat->Int):Bool:=s==t&&eqL (b16 B) (b16 A)
theorem SY {s t:Bool}{B A:Nat->Int}:UZ s B t A=true↔s=t/\∀i,i<16->B i=A i:=by
 unfold UZ;rw[YO,EC,TK];simp
theorem Lu (x c:UInt8):∀L:List (List UInt8),x∈XX c L->x=c\/∃p∈L,x∈p
 |[],h=>by simp[XX] at h
 |[p],h=>.inr ⟨p,by simp,by simpa[XX] using h⟩
 |p::q::l,h=>by
  rw[Zw] at h;rcases Ye.1 h with h|h
  ·exact .inr ⟨p,by simp,h⟩
  ·rcases YE.1 h with h|h
   ·exact .inl h
   ·rcases Lu x c (q::l) h with h|⟨T,u,P⟩
    ·exact .inl h
    ·exact .inr ⟨T,by simp at u|-;exact .inr u,P⟩
theorem Wa:∀b:Fin 256,(Lib.decDigits b).length<=3:=by decide+kernel
theorem CM (G:Bool)(U:Nat->Int)(a:U8 U):(QX G U).length<=100:=by
 unfold QX;split
 ·split
  ·have E:∀p∈(List.range 8).map λi=>X1 16 (grpN U i),p.length<=4:=λp E=>by
    obtain⟨i,-,rfl⟩:=Yq.1 E;exact EI _ (Gj a i)
   rw[I1];split
   ·exact WJ (Zo 58 4 _ E) (by simp)
   ·have j:=Zo 58 4 (((List.range 8).map λi=>X1 16 (grpN U i)).take (QA (zg (grpN U))).1) (λp h=>E p (Ym h));have y:=Zo 58 4 (((List.range 8).map λi=>X1 16 (grpN U i)).drop (QA (zg (grpN U))).2) (λp h=>E p (Yl h));rw[WR,Jaz,List.length_range] at j;rw[W4,Jaz,List.length_range] at y;simp only[WV,Yy,Jau];have Y:min (QA (zg (grpN U))).1 8*(4+1)<=40:=by have:=Nat.min_le_right (QA (zg (grpN U))).1 8;omega
    have b:(8-(QA (zg (grpN U))).2)*(4+1)<=40:=O;omega
  ·refine WJ (Zo 46 3 _ λp E=>?_) (by simp);obtain⟨i,-,rfl⟩:=Yq.1 E;have:=a i;exact Wa ⟨(U i).toNat,O⟩
 ·simp
section
end
end
end Go.Proofs.YtkgjbipfhhjlpaaGreatDoor
