import Derived.Test.YtkgjbipfhhjlpaaGreatDoorMq28
set_option linter.unusedVariables false
set_option linter.unusedSimpArgs false
set_option maxRecDepth 100000
set_option maxHeartbeats 32000000
namespace Go.Proofs.YtkgjbipfhhjlpaaGreatDoor
open Go.Proofs.Tryz
section
open Go.RowKit
theorem TE {a:Sp}(j:EA a)(v:Qy a=0)(cut:Nat)(l:8<=cut)(W:cut%8=0)(I:hdI a.k.s+(cut:Int)<((spL a).length:Int))(y:(spL a).length<=2048)(M:((spL a).length:Int)=hdI a.k.s+(JH a).length)(t:ChG a)(s:Option Addr)(n o:Nat)(w:World)(u:JA w s n o (spL a)):
 Jf 20 #[.slice s n o,Jk (hdI a.k.s),Jk (cut:Int)] w (Ex w (BJ a cut) (BK a cut)):=by
 have b:=ZT v;have A:=j.k;obtain⟨-,r,p,-,-⟩:=t;have g:JF (JH a):=QU j;unfold BJ BK;cases hs:a.k.s with
 |false=>
  rw[hs,U6] at I M;have d:=(r hs).1;rw[b.is,CZ hs] at u d;exact PP a.k.S a.k.T a.k.p (JH a) cut A.S A.T A.p g l W O O s n o w u d
 |true=>
  rw[hs,U7] at I M;have e:=p hs;rw[b.is,C1 hs] at u e;exact Sq a.k.S a.k.T a.k.p (JH a) cut A.S A.T A.p (b.chain hs) g l W O O s n o w u e
theorem Sr (n:Sp)(ae:Int)(ah:EA n)(ha:0<=ae)(I:U9 n (8*(1+(ae%200).toNat)))(w:World)(aG:Env w):Jf 5 #[.agg (spV n),Jk ae] w (Jz w (.bool true)):=by
 have aq:=H aG;have bb:=H (BL ah);have aK:=H (λw=>AT n ah w);obtain⟨k,ba,aY,aM⟩:=TA ae;rw[<-aY ha,Jak] at I;clear aY ha;have a7:=H aM;obtain⟨cut,hcut⟩:∃c:Nat,8*(1+k)=c:=⟨_,rfl⟩
 rw[hcut] at I;have a4:Hid (8<=cut/\cut%8=0/\cut<=1600):=H O
 have aE:Hid ((spL n).length<=2048):=H (by
  by_cases h:Qy n=0
  ·have r:=(ZT h).len;rw[(ZT h).is];exact r
  ·unfold spL;rw[Yw h];decide)
 have S:Hid (Qy n=0->hdI n.k.s+(cut:Int)<((spL n).length:Int)->(spL n).length+8<=2048->∀d C c,JA d C (spL n).length c (spL n)->Jf 20 #[.slice C (spL n).length c,Jk (hdI n.k.s),Jk (cut:Int)] d (Ex d (BJ n cut) (BK n cut))):=H λo ap y d C c r=>TE ah o cut O O ap aE (I o ap y).1 (I o ap y).2.1 C _ c d r
 obtain⟨F,X⟩:∃q:Int,(if cut<14 then 0 else n.f)=q:=⟨_,rfl⟩
 have bj:Hid (cut<14->F=0):=H λh=>by rw[<-X,YH h]
 have ay:Hid (¬cut<14->F=n.f):=H λh=>by rw[<-X,Yw h]
 have aa:Hid (Qy n=0->n.k.s=n.k.t):=H λo=>(ZT o).st
 have U:Hid (Qy n=0->hdI n.k.s+(cut:Int)<((spL n).length:Int)->(spL n).length+8<=2048->pkR (BJ n cut)=.tuple #[.agg (Xl ⟨n.k.s,n.k.S,n.k.T,n.k.p,n.k.a,n.k.b,(BJ n cut).length,F,false⟩),Jk 0]):=H λo j y=>by
  rw[<-X];exact(I o j y).2.2.1.is
 have ab:Hid (Qy n=0->hdI n.k.s+(cut:Int)<((spL n).length:Int)->(spL n).length+8<=2048->pkR (BK n cut)=.tuple #[.agg (Xl ⟨n.k.s,n.k.S,n.k.T,n.k.p,0,0,(BK n cut).length,0,true⟩),Jk 0]):=H λo j y=>by
  exact(I o j y).2.2.2.is
 clear I;obtain⟨⟨G,Z,t,e,p,a,b⟩,f,N⟩:=n;simp only at aa ay U ab S;obtain⟨A,M⟩:∃h:Int,hdI G=h:=⟨_,rfl⟩
 have bk:0<=A/\A<=40:=by rw[<-M];cases G<;>decide
 rw[M] at U ab S;generalize ac:BJ ⟨⟨G,Z,t,e,p,a,b⟩,f,N⟩ cut=J at*;generalize af:BK ⟨⟨G,Z,t,e,p,a,b⟩,f,N⟩ cut=T at*
 have aS:Hid (Qy ⟨⟨G,Z,t,e,p,a,b⟩,f,N⟩=0->A+(cut:Int)<((spL ⟨⟨G,Z,t,e,p,a,b⟩,f,N⟩).length:Int)->(spL ⟨⟨G,Z,t,e,p,a,b⟩,f,N⟩).length+8<=2048->∀d C c,JA d C J.length c J->Jf 11 #[.slice C J.length c] d (Jz d (.tuple #[.agg (Jbt G t p (Jl a) (Jl b) (Jk (J.length:Int)) F false Z e:Array Value),Jk 0]))):=H λo j y d C c r=>by
  have h:=AF C _ c _ d r;have am:G=t:=aa.out o;rw[U.out o j y] at h;subst am;exact h
 have aw:Hid (Qy ⟨⟨G,Z,t,e,p,a,b⟩,f,N⟩=0->A+(cut:Int)<((spL ⟨⟨G,Z,t,e,p,a,b⟩,f,N⟩).length:Int)->(spL ⟨⟨G,Z,t,e,p,a,b⟩,f,N⟩).length+8<=2048->∀d C c,JA d C T.length c T->Jf 11 #[.slice C T.length c] d (Jz d (.tuple #[.agg (Jbv G t p (Jk (T.length:Int)) true Z e:Array Value),Jk 0]))):=H λo j y d C c r=>by
  have h:=AF C _ c _ d r;have am:G=t:=aa.out o;rw[ab.out o j y] at h;subst am;exact h
 have aT:Hid (Bx w (w.alloc (.cells (Jbw G t p (Jl a) (Jl b) f (Jk N) Z e) 47)) [(w.heap.size,.cells (Jbw G t p (Jl a) (Jl b) f (Jk N) Z e) 47 (0,0))]):=H ((Bx.start w).box _ _);have aL:Hid ((∀(v:World) ao,Bx w v ao->Bx w (v.alloc (.cells (Jbt G t p (Jl a) (Jl b) (Jk (J.length:Int)) F false Z e) 32)) ((v.heap.size,.cells (Jbt G t p (Jl a) (Jl b) (Jk (J.length:Int)) F false Z e) 32 (0,0))::ao))/\∀(v:World) C ar c l,JA v C ar c l->JA (v.alloc (.cells (Jbt G t p (Jl a) (Jl b) (Jk (J.length:Int)) F false Z e) 32)) C ar c l):=H ⟨λv ao h=>h.box _ _,λv C ar c l h=>h.alloc _⟩;have ad:Hid (∀v:World,Jh v w.heap.size (Jbw G t p (Jl a) (Jl b) f (Jk N) Z e) 47->Jv v w.heap.size 0 37=(Jbs G t p (Jl a) (Jl b) Z e:Array Value)/\Jv v w.heap.size 0 17=(Jbr G Z:Array Value)/\Jv v w.heap.size 17 17=(Jbr t e:Array Value)/\Jg v w.heap.size 0 (.bool G)):=H λv h=>⟨by rw[JG _ _ _ _ _ _ _ h];simp,by rw[JG _ _ _ _ _ _ _ h];simp,by rw[JG _ _ _ _ _ _ _ h];simp,by rw[WN _ _ _ _ _ _ h];rfl⟩
 have ak:wrap64 (1+(k:Int))=1+(k:Int):=Jbk _ O;have Q:wrap64 (cut:Int)=(cut:Int):=Jbk _ O;have ag:8*(1+(k:Int))=(cut:Int):=O;have Y:=H (And.intro ak (And.intro Q ag));clear ah aG ac af X aa U ab ba aM hcut ak Q ag;generalize Qy ⟨⟨G,Z,t,e,p,a,b⟩,f,N⟩=aB at*;generalize spL ⟨⟨G,Z,t,e,p,a,b⟩,f,N⟩=z at*;unfold spV at*;simp only at aK|-;have aZ:((z.length:Int)<=A+(cut:Int))\/(A+(cut:Int)<(z.length:Int)/\2048<z.length+8)\/(A+(cut:Int)<(z.length:Int)/\z.length+8<=2048):=O
 have a3:Hid ((decide ((z.length:Int)<=A+(cut:Int))=true)\/(decide ((z.length:Int)<=A+(cut:Int))=false/\decide ((z.length:Int)+8>2048)=true)\/(A+(cut:Int)<(z.length:Int)/\z.length+8<=2048/\decide ((z.length:Int)<=A+(cut:Int))=false/\decide ((z.length:Int)+8>2048)=false)):=H (by
  rcases aZ with h|⟨j,y⟩|⟨j,y⟩
  ·exact .inl (Yz h)
  ·exact .inr (.inl ⟨YA O,Yz O⟩)
  ·exact .inr (.inr ⟨j,y,YA O,YA O⟩))
 have V:wrap64 (A+(cut:Int))=A+(cut:Int):=Jbk _ (by have:=a4.out;omega);have W:wrap64 ((z.length:Int)+8)=(z.length:Int)+8:=Jbk _ (by have:=aE.out;omega);clear aZ bk;cases G<;>(
 first
  |rw[U6] at M
  |rw[U7] at M
 subst M;have a1:=H (And.intro V W);clear V W;go_enter func5,ntmps5
 go_wp2_with fail
 generalize w.alloc _=bo at*;refine Jb (aK _) ?_;rintro ai bB ⟨bd,bf,rfl,aO,g⟩;have aj:=H (aT.go g);have aD:=H (aO.reads bb);clear aO g aT;by_cases o:aB=0
 rotate_left
 ·have br:(aB != 0)=true:=by simpa using o
  clear o;go_wp2_with fail
  refine Jb (Xg _ (aq.below aj.out.out)) ?_;rintro ai aJ ⟨rfl,g⟩;have P:=H (Wx aj.out.out g);clear g;go_wp2_with fail
  go_ret;exact .mk rfl P
 subst o;have aU:=H (S rfl);have aI:=H (aS rfl);have aP:=H (aw rfl);clear S aS aw;go_wp2_with fail
 refine aj.ret (a7 _) ?_;intro aJ aQ L;have aV:=H (aD.below aQ);clear aQ aj aD;have ak:=Y.1;have Q:=Y.2.1;have ag:=Y.2.2;have V:=a1.1;have W:=a1.2;have bg:=(ad aJ (L.at 0 rfl)).2.2.2;have aX:=L.lt 0 rfl;rcases a3.out with al|⟨al,ax⟩|⟨j,y,al,ax⟩
 case' inl=>
  go_wp2_with fail
 case' inr.inl=>
  go_wp2_with fail
 case' inr.inr=>
  have be:=H (aU j y);have a6:=H (aI j y);have bi:=H (aP j y);clear aU aI aP j y;go_wp2_with fail
 ·refine Jb (be _ bd bf aV) ?_;rintro ai a2 ⟨u,a5,s,a8,rfl,ac,af,aW⟩;have aH:=H (L.go aW);have aR:=H ac;have aC:=H af;clear ac af aW L aV bg aX al ax ak Q ag V W;go_wp2_with fail
  refine aH.ret (a6 _ u a5 aR) ?_;intro aN az aF;have aA:=H (aL.2 _ _ _ _ _ (aC.below az));have an:=H (aL.1 _ _ aF);clear az aF aH aR aC;go_wp2_with fail
  generalize aN.alloc _=bp at*;obtain⟨a0,av⟩:∃b,b=aN.heap.size:=⟨_,rfl⟩
  rw[<-av] at an|-;clear av;refine an.ret (bi _ s a8 aA) ?_;intro B bh E;clear bh an aA;have bt:Jv B a0 0 40=_:=E.part 0 rfl rfl;have bz:=E.lt 0 rfl;have bA:Jg B w.heap.size 37 (Jq f):=E.cell 1 37 rfl rfl;have bw:Jg B w.heap.size 34 (Jq p):=E.cell 1 34 rfl rfl;have aX:=E.lt 1 rfl;obtain⟨bv,bm,bs,-⟩:=ad.out B (E.at 1 rfl);have au:=H (λu s=>E.go (Below.all (Below.all (Jc B.heap.size B) u) s));have a9:=H (λu s R=>E.go (Below.all (Below.all (Below.all (Jc B.heap.size B) u) s) R));have bx:=λu s=>(ad _ ((au u s).at 1 rfl)).2.1
  have bl:=λu s=>(ad _ ((au u s).at 1 rfl)).2.2.1
  have bn:∀u s,Jg ((B.alloc u).alloc s) w.heap.size 34 (Jq p):=λu s=>(au u s).cell 1 34 rfl rfl
  have bu:∀u s R,Jv (((B.alloc u).alloc s).alloc R) a0 0 40=_:=λu s R=>(a9 u s R).part 0 rfl rfl
  have Q:=Y.2.1;by_cases hcut:cut<14
  case' pos=>
   have bc:decide ((cut:Int)<14)=true:=by simp;omega
   obtain rfl:F=0:=bj.out hcut;clear hcut;go_wp2_with fail
  case' neg=>
   have bc:decide ((cut:Int)<14)=false:=by simp;omega
   obtain rfl:F=f:=ay.out hcut;clear hcut;go_wp2_with fail
  all_goals
   refine Jb (Xg _ (aq.below (Below.all (Below.all (Below.all E.out.out _) _) _))) ?_;rintro ai bq ⟨rfl,g⟩;have P:=H (Wx (Below.all (Below.all (Below.all E.out.out _) _) _) g);clear g;go_wp2_with fail
   go_ret;exact .mk rfl P
 all_goals
  refine Jb (Xg _ (aq.below L.out.out)) ?_;rintro ai a2 ⟨rfl,g⟩;have P:=H (Wx L.out.out g);clear g;go_wp2_with fail
  go_ret;exact .mk rfl P)
def knP (n:Nat):Int:=[6,17,1,58,47,0,44].getD (n%7) 0
def knX (n:Nat):Bool:=decide (n/7%2=1)
def knZ (n:Nat):Bool:=(knP n != 6&&knP n != 17)&&decide (0<n%11)
def knA (n:Nat):Int:=if knZ n then 0 else ((n*3%5:Nat):Int)
def knB (n:Nat):Int:=if knZ n&&(knP n != 1&&knP n != 58) then 0 else ((n*77%1000:Nat):Int)
def knL (n:Nat):Int:=if knX n then ((n%256:Nat):Int) else 0
def knC (n:Nat):Array Value:=#[.bool (knX n),.int .u8 10,.int .u8 0,.int .u8 0,.int .u8 ((n%3:Nat):Int),.int .u8 0,.int .u8 0,.int .u8 0,.int .u8 0,.int .u8 0,.int .u8 0,.int .u8 0,.int .u8 0,.int .u8 0,.int .u8 0,.int .u8 0,.int .u8 0,
 .bool (knX n),.int .u8 10,.int .u8 0,.int .u8 ((n%4:Nat):Int),.int .u8 1,.int .u8 0,.int .u8 0,.int .u8 0,.int .u8 0,.int .u8 0,.int .u8 0,.int .u8 0,.int .u8 0,.int .u8 0,.int .u8 0,.int .u8 0,.int .u8 (knL n),.int .u8 (knP n),.int .u16 (knA n),.int .u16 (knB n)]
def UJ (S:Array Value):Nat->List Value->Array Value
 |_,[]=>S
 |k,v::a=>UJ (S.setIfInBounds k v) (k+1) a
theorem OBx.sets {d:World}{b:Nat}{t:TypeId}:∀(a:List Value) (k:Nat) {w:World} {S:Array Value},OBx d b S t w->OBx d b (UJ S k a) t (w.setCells b k a)
 |[],_,_,_,h=>h
 |v::a,k,_,_,h=>OBx.sets a (k+1) (h.set k v)
theorem OBx.start (w:World)(S:Array Value)(t:TypeId):OBx (w.alloc (.cells S t)) w.heap.size S t (w.alloc (.cells S t)):=⟨WP w _,Jc _ _,λ_ _ _=>rfl⟩
theorem OBx.to {z w:World}{b k:Nat}{S cs':Array Value}{t:TypeId}{vs:List Value}(h:OBx z b S t w)(e:UJ S k vs=cs'):OBx z b cs' t (w.setCells b k vs):=e▸h.sets vs k
theorem OBx.there {z w:World}{b:Nat}{S:Array Value}{t:TypeId}(h:OBx z b S t w)(C m:Nat)(hs:C+m<=S.size):w.there b C m:=λJ a=>by
 rw[WN _ _ (C+J) _ _ (0,0) h.1,Jad _ _ (C+J) _ _ h.1];exact⟨by rw[Array.getElem?_eq_getElem O];rfl,rfl⟩
theorem MA (w:World)(b C:Nat)(a:Array Value)(ht:w.there b C a.size)(h:a.size=16)(h1:a.all (·.oneCell')=true):
 XC prog 25 w (.pointer (some ⟨b,C,none⟩)) (.agg a)=.ok .skip (w.setCells b C a.toList):=by
 have:=run_storeAt_mid (P:=prog) w b C 25 a ht (by rw[h];kernel_rfl) h1;unfold XC execOp;simp[this]
theorem TF {z w:World}{b:Nat}{S cs':Array Value}{t:TypeId}(h:OBx z b S t w)(e:S=cs')(hs:cs'.size=37):Xj prog 30 w (Jj b)=.ok (.value (.agg cs')) w:=by
 subst e;rw[Cf w b 0 (by rw[Ju h.1 hs];exact hs),Ju h.1 hs]
theorem Ss {Q d:World}{b a:Nat}{S g:Array Value}{t:TypeId}(h:OBx Q b S t d)(e:Jh Q a g 30)(j:a<b):Jh d a g 30:=(h.2.2 a O (Ja e).1).trans e
theorem St {y z:World}{b d:Nat}{S g a:Array Value}{t:TypeId}(h:OBx y b S t z)(hy:Jh y d g 30)(hc:(g.size==37)=true)(hW:d<b)(hk:a.size=37)(h1:AX a.toList=true):XC prog 30 z (Jj d) (.agg a)=.ok .skip (z.setRow d a):=
 DZ z d a (by rw[Jw _ _ _ _ _ (Ss h hy hW)];exact hc) hk h1
theorem TG {w y z:World}{b:Nat}{S g a:Array Value}{t:TypeId}{d:Array Value}(h:OBx y b S t z)(hy:Jh y w.heap.size g 30)(hW:w.heap.size<b)(hk:a.size=37)(hb:Ji w y)(ht:d.getD 2 undef=.pointer (some ⟨w.heap.size,0,none⟩)):
 bodyPost prog f33 (Jz w (.agg a)) .ret { tmps:=d,defers:=[] } (z.setRow w.heap.size a):=
 Jag (v:=.agg a) (XO rfl _ _ w.heap.size 37 _ underlying30 rfl N6 ht a (Ju (JC (Ss h hy hW)) hk) hk) rfl (.mk rfl ((hb.trans (h.2.1.mono (Ja1 hW))).trans (Jy _ (Je _))))
theorem F2 (n:Nat)(ay:n<100000)(w:World):
 Jf 33 #[Jk (n:Int)] w (Jz w (.agg (knC n))):=by
 obtain⟨p,ap,aj⟩:∃p:Int,((JbZ (6:Int) (17:Int) (1:Int) (58:Int) (47:Int) (44:Int)):Array Value)[n%7]? =some (.int .u8 p)/\knP n=p:=by
  have X:n%7<7:=Yu _ D;unfold knP;generalize n%7=i at*;rcases(by omega:i=0\/i=1\/i=2\/i=3\/i=4\/i=5\/i=6) with rfl|rfl|rfl|rfl|rfl|rfl|rfl;all_goals exact⟨_,rfl,rfl⟩
 have aq:Int.tmod (n:Int) 7=((n%7:Nat):Int):=by rw[Jax O];omega
 have W:Hid (∀x a b,x=knX n->(a=if (p != 6&&p != 17)&&decide (0<n%11) then 0 else ((n*3%5:Nat):Int))->(b=if ((p != 6&&p != 17)&&decide (0<n%11))&&(p != 1&&p != 58) then 0 else ((n*77%1000:Nat):Int))->∀l:Int,(l=if x then ((n%256:Nat):Int) else 0)->
  knC n=#[.bool x,.int .u8 10,.int .u8 0,.int .u8 0,.int .u8 ((n%3:Nat):Int),.int .u8 0,.int .u8 0,.int .u8 0,.int .u8 0,.int .u8 0,.int .u8 0,.int .u8 0,.int .u8 0,.int .u8 0,.int .u8 0,.int .u8 0,.int .u8 0,.bool x,.int .u8 10,.int .u8 0,.int .u8 ((n%4:Nat):Int),.int .u8 1,.int .u8 0,.int .u8 0,.int .u8 0,.int .u8 0,.int .u8 0,.int .u8 0,.int .u8 0,.int .u8 0,.int .u8 0,.int .u8 0,.int .u8 0,.int .u8 l,.int .u8 p,.int .u16 a,.int .u16 b]):=H (by
  rintro x a b rfl rfl rfl l rfl;unfold knC knA knB knL knZ;rw[aj])
 obtain⟨N,ai⟩:∃c:Int,((n%3:Nat):Int)=c:=⟨_,rfl⟩
 obtain⟨R,af⟩:∃c:Int,((n%4:Nat):Int)=c:=⟨_,rfl⟩
 obtain⟨C,ab⟩:∃c:Int,((n*3%5:Nat):Int)=c:=⟨_,rfl⟩
 obtain⟨s,X⟩:∃c:Int,((n*77%1000:Nat):Int)=c:=⟨_,rfl⟩
 rw[ai,af,ab,X] at W;have aE:(n:Int)%3=N:=O;have az:(n:Int)%4=R:=O;have ar:(n:Int)*3%5=C:=O;have aD:(n:Int)*77%1000=s:=O;go_enter func33,ntmps33
 go_wp2_with fail
 have M:=H (OBx.start ((w.alloc (.cells (JbJ false false) 30)).alloc (.cells (JbZ (6:Int) (17:Int) (1:Int) (58:Int) (47:Int) (44:Int)) 5)) (Jci false false p (Jl C) (Jl s)) 30);have al:Hid (Below w.heap.size w (((w.alloc (.cells (JbJ false false) 30)).alloc (.cells (JbZ (6:Int) (17:Int) (1:Int) (58:Int) (47:Int) (44:Int)) 5)).alloc (.cells (Jci false false p (Jl C) (Jl s)) 30))):=H (Below.all (Below.all (Below.all (Jc _ _) _) _) _);have ac:Hid (Jh (((w.alloc (.cells (JbJ false false) 30)).alloc (.cells (JbZ (6:Int) (17:Int) (1:Int) (58:Int) (47:Int) (44:Int)) 5)).alloc (.cells (Jci false false p (Jl C) (Jl s)) 30)) w.heap.size (JbJ false false) 30):=H ((YU _ _ (by simp;omega)).trans ((YU _ _ (by simp)).trans (WP w _)));rw[show((w.alloc (.cells (JbJ false false) 30)).alloc (.cells (JbZ (6:Int) (17:Int) (1:Int) (58:Int) (47:Int) (44:Int)) 5)).heap.size=w.heap.size+1+1 by simp] at M;obtain⟨b,hb⟩:∃b,b=w.heap.size+1+1:=⟨_,rfl⟩
 rw[<-hb] at M|-;have ad:=H hb;clear hb;generalize ((w.alloc _).alloc _).alloc _=y at*;rw[MA y b 1 (Jcw (10:Int) N) (M.there 1 16 (by show 1+16<=37;decide)) rfl K];have Y:Hid (OBx y b #[.bool false,.int .u8 10,.int .u8 0,.int .u8 0,.int .u8 N,.int .u8 0,.int .u8 0,.int .u8 0,.int .u8 0,.int .u8 0,.int .u8 0,.int .u8 0,.int .u8 0,.int .u8 0,.int .u8 0,.int .u8 0,.int .u8 0,.bool false,.int .u8 0,.int .u8 0,.int .u8 0,.int .u8 0,.int .u8 0,.int .u8 0,.int .u8 0,.int .u8 0,.int .u8 0,.int .u8 0,.int .u8 0,.int .u8 0,.int .u8 0,.int .u8 0,.int .u8 0,.int .u8 0,.int .u8 p,.int .u16 C,.int .u16 s] 30 (y.setCells b 1 ((Jcw (10:Int) N):Array Value).toList)):=H (M.to K);generalize y.setCells b 1 _=Z at*;go_wp2_with fail
 rw[MA Z b 18 (Jcx (10:Int) R (1:Int)) (Y.there 18 16 (by show 18+16<=37;decide)) rfl K];have u:Hid (OBx y b #[.bool false,.int .u8 10,.int .u8 0,.int .u8 0,.int .u8 N,.int .u8 0,.int .u8 0,.int .u8 0,.int .u8 0,.int .u8 0,.int .u8 0,.int .u8 0,.int .u8 0,.int .u8 0,.int .u8 0,.int .u8 0,.int .u8 0,.bool false,.int .u8 10,.int .u8 0,.int .u8 R,.int .u8 1,.int .u8 0,.int .u8 0,.int .u8 0,.int .u8 0,.int .u8 0,.int .u8 0,.int .u8 0,.int .u8 0,.int .u8 0,.int .u8 0,.int .u8 0,.int .u8 0,.int .u8 p,.int .u16 C,.int .u16 s] 30 (Z.setCells b 18 ((Jcx (10:Int) R (1:Int)):Array Value).toList)):=H (Y.to K);generalize Z.setCells b 18 _=aA at*;have av:=WF 0 u.1;have aw:=WF 17 u.1;have ao:=WF 33 u.1;have aG:=WF 34 u.1;have aH:=WF 35 u.1;have aF:=Jad _ _ 0 _ _ u.1;have au:=Jad _ _ 17 _ _ u.1;have aC:=Jad _ _ 33 _ _ u.1;have ax:=Jad _ _ 35 _ _ u.1;obtain⟨F,ag⟩:∃c:Int,((n%256:Nat):Int)=c:=⟨_,rfl⟩
 rw[ag] at W;have aB:(n:Int)%256=F:=O;have o:=H W;clear W ai af ab X ag M Y
 have P:(((n:Int)/7%2==1)=true/\true=knX n)\/(((n:Int)/7%2==1)=false/\false=knX n):=by
  unfold knX;by_cases h:n/7%2=1
  ·exact .inl ⟨by simp;omega,(Yz h).symm⟩
  ·exact .inr ⟨by simp;omega,(YA h).symm⟩
 have ah:((p != 6)=false/\p=6)\/((p != 6)=true/\(p != 17)=false/\p=17)\/((p != 6)=true/\(p != 17)=true/\decide ((0:Int)<(n:Int)%11)=false/\decide (0<n%11)=false)\/
  ((p != 6)=true/\(p != 17)=true/\decide ((0:Int)<(n:Int)%11)=true/\decide (0<n%11)=true/\(p != 1)=false/\p=1)\/
  ((p != 6)=true/\(p != 17)=true/\decide ((0:Int)<(n:Int)%11)=true/\decide (0<n%11)=true/\(p != 1)=true/\(p != 58)=false/\p=58)\/
  ((p != 6)=true/\(p != 17)=true/\decide ((0:Int)<(n:Int)%11)=true/\decide (0<n%11)=true/\(p != 1)=true/\(p != 58)=true):=by
  by_cases S:p=6
  ·exact .inl ⟨by simpa using S,S⟩
  have L:(p != 6)=true:=by simpa using S
  by_cases V:p=17
  ·exact .inr (.inl ⟨L,by simpa using V,V⟩)
  have Q:(p != 17)=true:=by simpa using V
  by_cases U:0<n%11
  rotate_left
  ·exact .inr (.inr (.inl ⟨L,Q,by simp;omega,by simp;omega⟩))
  have T:decide ((0:Int)<(n:Int)%11)=true:=by simp;omega
  by_cases h1:p=1
  ·exact .inr (.inr (.inr (.inl ⟨L,Q,T,Yz U,by simpa using h1,h1⟩)))
  have ae:(p != 1)=true:=by simpa using h1
  by_cases aa:p=58
  ·exact .inr (.inr (.inr (.inr (.inl ⟨L,Q,T,Yz U,ae,by simpa using aa,aa⟩))))
  ·exact .inr (.inr (.inr (.inr (.inr ⟨L,Q,T,Yz U,ae,by simpa using aa⟩))))
 rcases P with ⟨P,j⟩|⟨P,j⟩
 case' inl=>
  rcases ah with ⟨d,v⟩|⟨d,g,v⟩|⟨d,g,G,r⟩|⟨d,g,G,r,E,v⟩|⟨d,g,G,r,E,I,v⟩|⟨d,g,G,r,E,I⟩
  case' inl.inl=>
   have B:=H (o true C s j (by rw[d];rfl) (by rw[d];rfl) F rfl);clear j o v
  case' inl.inr.inl=>
   have B:=H (o true C s j (by rw[d,g];rfl) (by rw[d,g];rfl) F rfl);clear j o v
  case' inl.inr.inr.inl=>
   have B:=H (o true C s j (by rw[d,g,r];rfl) (by rw[d,g,r];rfl) F rfl);clear j o
  case' inl.inr.inr.inr.inl=>
   have B:=H (o true 0 s j (by rw[d,g,r];rfl) (by rw[d,g,r];try rw[E];rfl) F rfl);have A:=H ((((u.set 0 (.bool true)).set 17 (.bool true)).set 33 (Jq F)).set 35 (Jl 0));have J:World.cell? _ ⟨b,34,none⟩=some (.int .u8 p):=(WF 34 A.1).trans K;clear j o v
  case' inl.inr.inr.inr.inr.inl=>
   have B:=H (o true 0 s j (by rw[d,g,r];rfl) (by rw[d,g,r];try rw[E,I];rfl) F rfl);have A:=H ((((u.set 0 (.bool true)).set 17 (.bool true)).set 33 (Jq F)).set 35 (Jl 0));have J:World.cell? _ ⟨b,34,none⟩=some (.int .u8 p):=(WF 34 A.1).trans K;clear j o v
  case' inl.inr.inr.inr.inr.inr=>
   have B:=H (o true 0 0 j (by rw[d,g,r];rfl) (by rw[d,g,r];try rw[E,I];rfl) F rfl);have A:=H ((((u.set 0 (.bool true)).set 17 (.bool true)).set 33 (Jq F)).set 35 (Jl 0));have J:World.cell? _ ⟨b,34,none⟩=some (.int .u8 p):=(WF 34 A.1).trans K;have ak:World.cell? _ ⟨b,36,none⟩=some (.int .u16 s):=(WF 36 A.1).trans K;have am:=Jad _ _ 36 _ _ A.1;clear j o
 case' inr=>
  rcases ah with ⟨d,v⟩|⟨d,g,v⟩|⟨d,g,G,r⟩|⟨d,g,G,r,E,v⟩|⟨d,g,G,r,E,I,v⟩|⟨d,g,G,r,E,I⟩
  case' inr.inl=>
   have B:=H (o false C s j (by rw[d];rfl) (by rw[d];rfl) 0 rfl);clear j o v
  case' inr.inr.inl=>
   have B:=H (o false C s j (by rw[d,g];rfl) (by rw[d,g];rfl) 0 rfl);clear j o v
  case' inr.inr.inr.inl=>
   have B:=H (o false C s j (by rw[d,g,r];rfl) (by rw[d,g,r];rfl) 0 rfl);clear j o
  case' inr.inr.inr.inr.inl=>
   have B:=H (o false 0 s j (by rw[d,g,r];rfl) (by rw[d,g,r];try rw[E];rfl) 0 rfl);have A:=H (u.set 35 (Jl 0));have J:World.cell? _ ⟨b,34,none⟩=some (.int .u8 p):=(WF 34 A.1).trans K;clear j o v
  case' inr.inr.inr.inr.inr.inl=>
   have B:=H (o false 0 s j (by rw[d,g,r];rfl) (by rw[d,g,r];try rw[E,I];rfl) 0 rfl);have A:=H (u.set 35 (Jl 0));have J:World.cell? _ ⟨b,34,none⟩=some (.int .u8 p):=(WF 34 A.1).trans K;clear j o v
  case' inr.inr.inr.inr.inr.inr=>
   have B:=H (o false 0 0 j (by rw[d,g,r];rfl) (by rw[d,g,r];try rw[E,I];rfl) 0 rfl);have A:=H (u.set 35 (Jl 0));have J:World.cell? _ ⟨b,34,none⟩=some (.int .u8 p):=(WF 34 A.1).trans K;have ak:World.cell? _ ⟨b,36,none⟩=some (.int .u16 s):=(WF 36 A.1).trans K;have am:=Jad _ _ 36 _ _ A.1;clear j o
 all_goals
  repeat (first|go_values|go_skip|go_guarded|go_step|go_upon)
  rw[TF (z:=y) (cs':=knC n) (t:=30) (hs:=rfl) (h:=by repeat (first|exact u|apply OBx.set)) (e:=by rw[B.out]<;>kernel_rfl)];have an:Hid (AX (knC n).toList=true):=H (by rw[B.out];rfl);repeat (first|go_values|go_skip|go_guarded|go_step|go_upon)
  rw[St (y:=y) (b:=b) (t:=30) (hy:=ac.out) (hc:=rfl) (hW:=by have:=ad.out;omega) (hk:=rfl) (h1:=an.out) (h:=by repeat (first|exact u|apply OBx.set))];repeat (first|go_values|go_skip|go_guarded|go_step|go_upon)
  exact TG (y:=y) (b:=b) (t:=30) (hy:=ac.out) (hW:=by have:=ad.out;omega) (hk:=rfl) (hb:=al.out) (ht:=rfl) (h:=by repeat (first|exact u|apply OBx.set))
def lst (l:List Int):Nat->Int:=λi=>l.getD i 0
def knS (n:Nat):List Int:=[10,0,0,((n%3:Nat):Int)]
def knT (n:Nat):List Int:=[10,0,((n%4:Nat):Int),1,0,0,0,0,0,0,0,0,0,0,0,knL n]
def knK (n:Nat):Ky:=⟨knX n,lst (knS n),knX n,lst (knT n),knP n,knA n,knB n⟩
theorem TW (n:Nat):kyV (knK n)=knC n:=rfl
def knF (n:Nat):Int:=if knP n != 6&&decide (0<n%13) then 0 else ((n*5%64:Nat):Int)
def knU (n:Nat):List Int:=if n%17=0 then (knT n).set (4+n%12) 1 else knT n
def knE (n:Nat):Sp:=⟨⟨knX n,lst (knS n),knX n,lst (knU n),knP n,knA n,knB n⟩,knF n,((n*n%90:Nat):Int)⟩
def knM (n:Nat):List Int:=(spL (knE n)).set (n*7%(spL (knE n)).length) ((n%256:Nat):Int)
def knW:Sp:=⟨knK 0,0,2008⟩
abbrev VL (l:List Int):Prop:=l.getD 0 0/16=6->40<=l.length->Qe (l.getD 6 0)=false
theorem Oz {l:List Int}(h:∀v,v∈l->Jm v):U8 (lst l):=λi=>by
 unfold lst;rw[Yi];cases e:l[i]? with
 |none=>decide
 |some v=>exact h v (YD e)
theorem TX (n:Nat):0<=knP n/\knP n<256:=Oz (l:=[6,17,1,58,47,0,44]) D (n%7)
theorem Vb (n:Nat):0<=knL n/\knL n<256:=by unfold knL;split<;>omega
theorem TY (n:Nat):0<=knA n/\knA n<65536:=by unfold knA;split<;>omega
theorem TZ (n:Nat):0<=knB n/\knB n<65536:=by unfold knB;split<;>omega
theorem T0 (n:Nat):U8 (lst (knS n)):=Oz λv a=>by
 unfold knS at a;simp only[YE,YF,YG] at a;rcases a with rfl|rfl|rfl|rfl<;>omega
theorem Su (n:Nat):∀v,v∈knT n->Jm v:=λv a=>by
 have:=Vb n;unfold knT at a;simp only[YE,YF,YG] at a;rcases a with rfl|rfl|rfl|rfl|rfl|rfl|rfl|rfl|rfl|rfl|rfl|rfl|rfl|rfl|rfl|rfl<;>omega
theorem Vc (n:Nat):U8 (lst (knU n)):=Oz λv a=>by
 unfold knU at a;split at a
 ·rcases List.mem_or_eq_of_mem_set a with h|rfl
  ·exact Su n v h
  ·decide
 ·exact Su n v a
theorem Fu (n:Nat):Fz (knK n):=⟨T0 n,Oz (Su n),TX n,TY n,TZ n⟩
theorem Iw (n:Nat):EA (knE n):=⟨⟨T0 n,Vc n,TX n,TY n,TZ n⟩,by show 0<=knF n/\knF n<256;unfold knF;split<;>omega,by show-9223372036854775808<=((n*n%90:Nat):Int)/\((n*n%90:Nat):Int)<=9223372036854775807;omega⟩
theorem UK (n:Nat)(h:n%17=0)(x:Bool)(Z:Nat->Int)(p a b f N:Int):
 ((Jcy x x (Jq ((lst (knT n)) 0)) (Jq ((lst (knT n)) 1)) (Jq ((lst (knT n)) 2)) (Jq ((lst (knT n)) 3)) (Jq ((lst (knT n)) 4)) (Jq ((lst (knT n)) 5)) (Jq ((lst (knT n)) 6)) (Jq ((lst (knT n)) 7)) (Jq ((lst (knT n)) 8)) (Jq ((lst (knT n)) 9)) (Jq ((lst (knT n)) 10)) (Jq ((lst (knT n)) 11)) (Jq ((lst (knT n)) 12)) (Jq ((lst (knT n)) 13)) (Jq ((lst (knT n)) 14)) (Jq ((lst (knT n)) 15)) p (Jl a) (Jl b) f (Jk N) Z):Array Value).setIfInBounds (22+n%12) (.int .u8 1)=(Jcy x x (Jq ((lst (knU n)) 0)) (Jq ((lst (knU n)) 1)) (Jq ((lst (knU n)) 2)) (Jq ((lst (knU n)) 3)) (Jq ((lst (knU n)) 4)) (Jq ((lst (knU n)) 5)) (Jq ((lst (knU n)) 6)) (Jq ((lst (knU n)) 7)) (Jq ((lst (knU n)) 8)) (Jq ((lst (knU n)) 9)) (Jq ((lst (knU n)) 10)) (Jq ((lst (knU n)) 11)) (Jq ((lst (knU n)) 12)) (Jq ((lst (knU n)) 13)) (Jq ((lst (knU n)) 14)) (Jq ((lst (knU n)) 15)) p (Jl a) (Jl b) f (Jk N) Z:Array Value):=by
 unfold knU;rw[YH h];unfold knT;have d:n%12<12:=Yu _ D;generalize n%12=J at*;rcases(by omega:J=0\/J=1\/J=2\/J=3\/J=4\/J=5\/J=6\/J=7\/J=8\/J=9\/J=10\/J=11) with rfl|rfl|rfl|rfl|rfl|rfl|rfl|rfl|rfl|rfl|rfl|rfl;all_goals rfl
theorem Vd (n:Nat)(h:n%17≠0):lst (knU n)=lst (knT n):=by unfold knU;rw[Yw h]
theorem Ve:∀n,n<250->VL (spL (knE n))/\VL (knM n)/\VL ((knM n).take (n*5%(knM n).length)):=by decide+kernel
theorem Vf:∀n,n<250->Qy (knE n)=0->0<(spL (knE n)).length/\PT (spL (knE n)) ⟨(knE n).k.s,(knE n).k.S,(knE n).k.T,(knE n).k.p,(knE n).k.a,(knE n).k.b,(spL (knE n)).length,(knE n).f,false⟩:=by decide+kernel
theorem VM:∀n,n<250->Qy (knE n)=0->PT (spL (knE n)++JP (n%9)) ⟨(knE n).k.s,(knE n).k.S,(knE n).k.T,(knE n).k.p,(knE n).k.a,(knE n).k.b,(spL (knE n)).length,(knE n).f,false⟩:=by decide+kernel
theorem Vg:∀n,n<250->Qy (knE n)=0->((knE n).n.toNat<=(JH (knE n)).length/\(JH (knE n)).length<=2068)/\((knE n).k.s=false->QJ (spL (knE n))=0/\JR (spL (knE n))=0/\QK (spL (knE n))=JH (knE n)):=by decide+kernel
def VN (s:Sp):Prop:=JT (spL s)=0/\Xb (spL s)=[]/\Xh (spL s)=s.k.p/\Xk (spL s)=JH s/\(spL s).getD 6 0=s.k.p/\(spL s).getD 7 0=64/\w2 (spL s) 4=((JH s).length:Nat)
instance (s:Sp):Decidable (VN s):=by unfold VN;infer_instance
theorem VO:∀n,n<250->Qy (knE n)=0->(knE n).k.s=true->VN (knE n):=by decide+kernel
theorem VP:∀n,n<250->Qy (knE n)=0->¬((knE n).k.p=6\/(knE n).k.p=17\/(knE n).k.p=1\/(knE n).k.p=58)->(JH (knE n)).length=(knE n).n.toNat:=by decide+kernel
def Vs (s:Sp):Prop:=Ab s.k.p (JH s)=0/\(Fy s.k.p (JH s)).data.length=s.n.toNat/\(Fy s.k.p (JH s)).opt.length=0/\(Fy s.k.p (JH s)).flags=s.f/\(JH s).length=tHead s.k.p+s.n.toNat/\XW (Qh s.k.p ((JH s).length:Nat) (Jt s.k.s s.k.S) (Jt s.k.t s.k.T)++JH s)=true
instance (s:Sp):Decidable (Vs s):=by unfold Vs;infer_instance
theorem VQ:∀n,n<250->Qy (knE n)=0->(knE n).k.p=6\/(knE n).k.p=17\/(knE n).k.p=1\/(knE n).k.p=58->Vs (knE n):=by decide+kernel
theorem Vh (n:Nat)(h:n<250)(e:Qy (knE n)=0):ChG (knE n):=⟨(Vg n h e).1,(Vg n h e).2,VO n h e,VP n h e,VQ n h e⟩
theorem Vi:∀n,n<250->(QY (knE n).k).length<=1000/\(JS (knE n).k=true->((XB (QY (knE n).k)).any λk=>Is k (knE n).k)=true):=by decide+kernel
theorem VR:∀n,n<250->JS (knE n).k=true->JS (knK (n*31))=true->eqL (JZ (knE n).k) (JZ (knK (n*31)))=Is (knE n).k (knK (n*31))/\(QY (knE n).k==QY (knK (n*31)))=Is (knE n).k (knK (n*31))/\(Do (knE n).k (knK (n*31))==0)=Is (knE n).k (knK (n*31)):=by decide+kernel
theorem VS:∀n,n<250->(QY (knK (n*31))).length<=1000:=by decide+kernel
theorem UL (n:Nat)(h:n<250):UF (knE n) (knK (n*31)) (JP (n%9)):=⟨λe=>⟨(Vf n h e).1,(Vf n h e).2,λ_=>VM n h e,Vh n h e⟩,(Vi n h).1,(Vi n h).2,VR n h⟩
def V7 (n:Nat):List Int:=BJ (knE n) (8*(1+n%200))
def V8 (n:Nat):List Int:=BK (knE n) (8*(1+n%200))
def Ws (n:Nat):Pk:=⟨(knE n).k.s,(knE n).k.S,(knE n).k.T,(knE n).k.p,(knE n).k.a,(knE n).k.b,(V7 n).length,if 8*(1+n%200)<14 then 0 else (knE n).f,false⟩
def Wt (n:Nat):Pk:=⟨(knE n).k.s,(knE n).k.S,(knE n).k.T,(knE n).k.p,0,0,(V8 n).length,0,true⟩
def Vj (n:Nat):Prop:=Qy (knE n)=0/\hdI (knE n).k.s+((8*(1+n%200):Nat):Int)<((spL (knE n)).length:Int)
instance (n:Nat):Decidable (Vj n):=by unfold Vj;infer_instance
theorem VT:∀n,n<250->Vj n->((spL (knE n)).length:Int)=hdI (knE n).k.s+(JH (knE n)).length:=by decide+kernel
theorem VU:∀n,n<250->Vj n->PT (V7 n) (Ws n):=by decide+kernel
theorem VV:∀n,n<250->Vj n->PT (V8 n) (Wt n):=by decide+kernel
theorem UM (n:Nat)(h:n<250):U9 (knE n) (8*(1+(((n:Nat):Int)%200).toNat)):=by
 rw[show(((n:Nat):Int)%200).toNat=n%200 from O];exact λe j _=>⟨VT n h ⟨e,j⟩,Vh n h e,VU n h ⟨e,j⟩,VV n h ⟨e,j⟩⟩
theorem Vk:Qy knW=0/\0<(spL knW).length/\PT (spL knW) ⟨knW.k.s,knW.k.S,knW.k.T,knW.k.p,knW.k.a,knW.k.b,(spL knW).length,knW.f,false⟩:=by decide+kernel
theorem VW:(spL knW++[1]).length<=2048->PT (spL knW++[1]) ⟨knW.k.s,knW.k.S,knW.k.T,knW.k.p,knW.k.a,knW.k.b,(spL knW).length,knW.f,false⟩:=by decide+kernel
theorem UN:((knW.n.toNat<=(JH knW).length/\(JH knW).length<=2068)/\(QJ (spL knW)=0/\JR (spL knW)=0/\QK (spL knW)=JH knW))/\Vs knW:=by decide+kernel
theorem VX:ChG knW:=⟨UN.1.1,λ_=>UN.1.2,λh=>absurd h D,λh=>absurd (Or.inl D) h,λ_=>UN.2⟩
theorem Vl:(QY knW.k).length<=1000/\(JS knW.k=true->((XB (QY knW.k)).any λk=>Is k knW.k)=true):=by decide+kernel
theorem VY:JS knW.k=true->JS (knK 1)=true->eqL (JZ knW.k) (JZ (knK 1))=Is knW.k (knK 1)/\(QY knW.k==QY (knK 1))=Is knW.k (knK 1)/\(Do knW.k (knK 1)==0)=Is knW.k (knK 1):=by decide+kernel
theorem Vm:UF knW (knK 1) [1]:=⟨λ_=>⟨Vk.2.1,Vk.2.2,VW,VX⟩,Vl.1,Vl.2,VY⟩
end
section
open Go.RowKit
section
variable {P:Program} {ops:Array Oper} {md:Region.Mode}
def ZA (P:Program)(ops:Array Oper)(φ:Option Nat)(R:Nat)(E:FC->Act->Prop):List (Kd×Oper)->(Nat->World->Prop)->List Nat->Nat->FC->Act->Prop
 |[],_,_,_,b,a=>E b a
 |(.w,o)::rest,G,top,k,b,a=>∃d:Value->FC,(JX P ops (b φ) (λv w=>d v φ w) o a)/\(∀v fl,Hh G top (k+1) (d v fl))/\∀v,(∃w,d v φ w)->ZA P ops φ R E rest G top (k+1) (d v) (a.put o.dst v)
 |(.c,o)::rest,G,top,k,b,a=>∃(v:Value) (Ψ:World->Prop),TV P ops Ψ o v a/\(∀fl w,b fl w->Ψ w)/\ZA P ops φ R E rest (Sf G top.length Ψ) (top++[R]) k b (a.put o.dst v)
 |(_,o)::rest,G,top,k,b,a=>∃v,Bf P ops o v a/\ZA P ops φ R E rest G top k b (a.put o.dst v)
theorem Ey {φ:Option Nat}{hd sq:List Nat}{f:Nat}{ob:Obj}{vf:Nat->Value}{Q:Exit->Act->World->Prop}{R:Nat}{E:FC->Act->Prop}{m:Nat}(Z:sq.length<=R)
 (z:∀(J:Nat) (C:Oper) cs b,ops[J]? =some C->C.op≠ .select cs b)(u:∀k T t:Nat,sq[k]? =some t->sq[T]? =some t->k=T)(n:∀J∈hd,J∉sq):
 ∀(l:List (Kd×Oper)) (is:List (Kd×Nat)) (G:Nat->World->Prop) (top:List Nat) (k:Nat) (e:FC) (g:Array Bool) (a:Act),is.map (λp=>ops[p.2]?)=l.map (λp=>some p.2)->is.map (·.1)=l.map (·.1)->(∀p∈is,(p.1=.q\/p.1=.c)->p.2∈hd)->(∀J t,(QW is)[J]? =some t->sq[k+J]? =some t)->Q4 md ops sq k g->
 DA md ops is g=true->(∀ah ai T L U,E L U->Q4 md ops sq T (XG is g)->wpZ P md ops hd sq f ob vf ah ai Q m T L φ (XG is g) U)->
 ZA P ops φ R E l G top k e a->wpZ P md ops hd sq f ob vf G top Q (l.length+m) k e φ g a
 |[],is,G,top,k,e,g,a,j,_,_,_,o,_,A,h=>by
  cases is with
  |cons i is=>cases j
  |nil=>rw[Jau,WM];exact A G top k e a h o
 |(kk,C)::l,is,G,top,k,e,g,a,j,y,Y,W,o,d,A,h=>by
  cases is with
  |nil=>cases j
  |cons q is=>
   obtain⟨ac,i⟩:=q;simp only[Jap,JaD] at j y;obtain⟨rfl,y⟩:=y
   have ha:i∈Region.ready md ops g:=by
    cases ac<;>simp only[DA,YO,YS] at d
    ·cases d
    ·simpa using d.1
    ·rw[d.1];simp
    ·simpa using d.1
    ·cases d
   rw[show((ac,C)::l).length+m=(l.length+m)+1 by simp only[Yy];omega];cases ac with
   |h=>cases d
   |f=>cases d
   |q=>
    simp only[DA,YO] at d;obtain⟨v,s,ab⟩:=h;have I:=Y (.q,i) (by simp) (.inl rfl);refine Al (a0:=a) j.1 z u n I (λ_ _=>True) (λ_ _ _ fl U S F=>(s.of_same S F).yields _) (λ_ _ _ _ _ _ _ _ _ _ _=>trivial) (l.length+m) k e φ g a trivial o (YQ j.1 d.2.1) ha rfl rfl ?_;exact Ey Z z u n l is G top k e _ _ j.2 y (λp M=>Y p (by simp[M])) (λJ t N=>W J t N) (o.other ha (n i I)) d.2.2 A ab
   |c=>
    simp only[DA,YO] at d;obtain⟨v,Ψ,s,aj,ab⟩:=h;have I:=Y (.c,i) (by simp) (.inr rfl);refine Ev (λk e=>Ir (R:=R) (Ψ:=Ψ)) _ _ _ _ _ _ ?_;refine Al (a0:=a) j.1 z u n I (λ_ e=>∀fl w,e fl w->Ψ w) (λ_ e ae fl U S F=>Ah (by rw[F];exact s.1) (λw aa=>by rw[S];exact s.2 w (ae fl w aa))) (λan am ap ao J _ _ _ _ X ag fl w aa=>?_) (l.length+m) k e φ g a aj o (YQ j.1 d.2.1) ha rfl rfl ?_
    ·exact Ow (WJ (W0.1 X).1 Z) (ag fl) w aa
    exact Ey Z z u n l is _ _ k e _ _ j.2 y (λp M=>Y p (by simp[M])) (λJ t N=>W J t N) (o.other ha (n i I)) d.2.2 A ab
   |w=>
    simp only[DA,YO,YS] at d;obtain⟨L,S,F,al⟩:=h;have ad:sq[k]? =some i:=W 0 i rfl;refine⟨by rw[d.1];simp,λJ X af ak=>?_⟩;rw[d.1] at X;obtain rfl:J=i:=by simpa using X
    obtain rfl:C=af:=Yp (j.1.symm.trans ak);refine .inr (.inl ⟨ad,L,S,F,λv s=>?_⟩);exact Ey Z z u n l is G top (k+1) (L v) _ _ j.2 y (λp M=>Y p (by simp[M])) (λJ t N=>by have:=W (J+1) t (by simpa[QW] using N);rwa [show k+(J+1)=k+1+J from O] at this) (o.row2 u ha ad) d.2 A (al v s)
def OA (B:World)(C:FC):Prop:=∀w,C none w->Ji B w/\∀w2,Ji w w2->C (some 0) w2
def Hc (P:Program)(ops:Array Oper)(B:World)(G:Nat->World->Prop)(top:List Nat)(E:Nat->FC->Act->Prop):List (Kd×Oper)->Nat->FC->Act->Prop
 |[],k,b,a=>E k b a
 |(.w,o)::rest,k,b,a=>∃e:Value->FC,(∀fl,JX P ops (b fl) (λv w=>e v fl w) o a)/\(∀v fl,Hh G top (k+1) (e v fl))/\(∀v,OA B (e v))/\∀v,(∃fl w,e v fl w)->Hc P ops B G top E rest (k+1) (e v) (a.put o.dst v)
 |(_,o)::rest,k,b,a=>∃v,Bf P ops o v a/\Hc P ops B G top E rest k b (a.put o.dst v)
theorem Hd {B:World}{G:Nat->World->Prop}{top:List Nat}{ob:Obj}{E E':Nat->FC->Act->Prop}{d:Tmp}{x:Value}{fl:Option Nat}:∀(l:List (Kd×Oper)) (k:Nat) (g:FC) (a:Act),(∀p∈l,(∀S b,p.2.op≠ .select S b)/\d∉p.2.looksAt ops/\p.2.dst≠some d)->
 (∀t n z,E t n z->E' t n (z.put (some d) x))->Hc P ops B G top E l k g a->BY P ops G top false (λf=>f=fl) ob E' l k g (a.put (some d) x)
 |[],k,g,a,_,u,h=>u k g a h
 |(kk,C)::rest,k,g,a,A,u,h=>by
  obtain⟨T,M,L⟩:=A (kk,C) (by simp);have I:∀e,some d=some e->e∉C.looksAt ops:=λe o=>by cases o;exact M
  have o:=JaN C T a (some d) x I;have R:=JaO (ops:=ops) C a (some d) x I;have s:∀v,(a.put (some d) x).put C.dst v=(a.put C.dst v).put (some d) x:=λv=>JaQ a x v (λe j y=>L (y.trans j.symm))
  have r:=λv t n=>Hd (B:=B) (G:=G) (top:=top) (E:=E) (E':=E') (d:=d) (x:=x) (ob:=ob) (fl:=fl) rest t n (a.put C.dst v) (λp U=>A p (by simp[U])) u
  cases kk with
  |h=>obtain⟨v,j,y⟩:=h;exact⟨v,j.of_same o R,by rw[s];exact r v k g y⟩
  |q=>obtain⟨v,j,y⟩:=h;exact⟨v,j.of_same o R,by rw[s];exact r v k g y⟩
  |c=>obtain⟨v,j,y⟩:=h;exact⟨v,j.of_same o R,by rw[s];exact r v k g y⟩
  |f=>obtain⟨v,j,y⟩:=h;exact⟨v,j.of_same o R,by rw[s];exact r v k g y⟩
  |w=>obtain⟨n,j,y,Y,N⟩:=h;exact⟨n,λf V=>(j f).of_same o R,y,λh=>by simp at h,λv J=>by rw[s];exact r v (k+1) (n v) (N v J)⟩
def BQ (P:Program)(ops:Array Oper)(B:World)(V:Value)(C:Oper)(a:Act):Prop:=Region.wanted C (yielded ops a.tmps)=true/\∃f b,∀w,Ji B w->(execOp a.eval C).run P w=.ok (.enter f b) w/\Calls P f b w (Jz w V)
theorem BQ.of_same {B:World}{e:Value}{C:Oper}{a b:Act}(h:BQ P ops B e C a)(g:execOp b.eval C=execOp a.eval C)(l:Region.wanted C (yielded ops b.tmps)=Region.wanted C (yielded ops a.tmps)):BQ P ops B e C b:=by
 unfold BQ at*;rw[g,l];exact h
theorem BQ.seq {U:World}{n:Value}{C:Oper}{a:Act}{l:FC}(h:BQ P ops U n C a)(j:OA U l):JX P ops (l none) (λv w=>∃b:Nat,v=n/\l (some b) w) C a:=by
 obtain⟨R,f,o,I⟩:=h;refine⟨R,λw h=>.inr ⟨f,o,(I w (j w h).1).1,((I w (j w h).1).2).mono ?_⟩⟩;rintro e w2 ⟨rfl,g⟩;exact⟨_,rfl,0,rfl,(j w h).2 w2 g⟩
def He (md:Region.Mode)(ops:Array Oper)(f:Nat):List (Kd×Nat)->Array Bool->Bool
 |[],listed=>decide (Region.ready md ops listed=[f])
 |(.w,i)::r,listed=>decide (Region.ready md ops listed=[f,i])&&(HI md ops ((.w,i)::r) (listed.setIfInBounds f true)&&He md ops f r (listed.setIfInBounds i true))
 |(.q,i)::r,listed=>(Region.ready md ops listed).contains i&&(Region.free md ops listed i&&He md ops f r (listed.setIfInBounds i true))
 |_,_=>false
theorem Hf {hd sq:List Nat}{f:Nat}{ob:Obj}{B:World}{V:Value}{G:Nat->World->Prop}{top:List Nat}{Q:Exit->Act->World->Prop}{E:Nat->FC->Act->Prop}{EF:Nat->Nat->FC->Act->Prop}{u:Oper}{d:Tmp}{m:Nat}(ah:ops[f]? =some u)(ac:u.dst=some d)(al:∀S b,u.op≠ .select S b)(L:f∉sq)
 (W:∀(J:Nat) (C:Oper) S b,ops[J]? =some C->C.op≠ .select S b)(T:∀k o t:Nat,sq[k]? =some t->sq[o]? =some t->k=o)(N:∀J∈hd,J∉sq)(ad:∀b k g a,E k g a->EF b k g (a.put (some d) V)):
 ∀(l:List (Kd×Oper)) (is:List (Kd×Nat)) (k:Nat) (g:FC) (z:Array Bool) (a:Act),is.map (λp=>ops[p.2]?)=l.map (λp=>some p.2)->is.map (·.1)=l.map (·.1)->(∀p∈is,(p.1=.q->p.2∈hd)/\p.2≠f)->(∀J t,(QW is)[J]? =some t->sq[k+J]? =some t)->Q4 md ops sq k z->
 (∀p∈l,(∀S b,p.2.op≠ .select S b)/\d∉p.2.looksAt ops/\p.2.dst≠some d)->(∀p∈l,∀ay,p.2.dst=some ay->ay∉u.looksAt ops)->BQ P ops B V u a->
 He md ops f is z=true->OA B g->(∀b o s A,EF b o s A->o=k+X6 is->Q4 md ops sq o ((XG is z).setIfInBounds f true)->wpZ P md ops hd sq f ob (λ_=>V) G top Q m o s (some b) ((XG is z).setIfInBounds f true) A)->
 Hc P ops B G top E l k g a->wpZ P md ops hd sq f ob (λ_=>V) G top Q (l.length+(m+1)) k g none z a
 |[],is,k,g,z,a,j,_,_,_,M,_,_,ag,n,ae,U,h=>by
  cases is with
  |cons i is=>cases j
  |nil=>
   simp only[He,YS] at n;rw[Jau,WM];refine⟨by rw[n];simp,λJ I af ai=>?_⟩;have Z:=I;rw[n] at I;obtain rfl:J=f:=by simpa using I
   obtain rfl:u=af:=Yp (ah.symm.trans ai);refine .inr (.inr ⟨rfl,L,rfl,ag.seq ae,λb=>?_⟩);rw[ac];exact U b k g _ (ad b k g a h) rfl (M.other Z L)
 |(kk,C)::l,is,k,g,z,a,j,y,Y,aa,M,aj,X,ag,n,ae,U,h=>by
  have aw:∀v,BQ P ops B V u (a.put C.dst v):=λv=>ag.of_same (JaN u al a C.dst v (X (kk,C) (by simp))) (JaO (ops:=ops) u a C.dst v (X (kk,C) (by simp)))
  cases is with
  |nil=>cases j
  |cons q is=>
   obtain⟨ar,i⟩:=q;have aD:=j;have aC:=y;simp only[Jap,JaD] at j y;obtain⟨rfl,y⟩:=y;rw[show((ar,C)::l).length+(m+1)=(l.length+(m+1))+1 by simp only[Yy];omega];cases ar with
   |h=>cases n
   |c=>cases n
   |f=>cases n
   |q=>
    simp only[He,YO] at n;obtain⟨v,ao,aA⟩:=h;have au:=(Y (.q,i) (by simp)).1 rfl;have ha:i∈Region.ready md ops z:=by simpa using n.1
    refine Al (a0:=a) j.1 W T N au (λ_ _=>True) (λ_ _ _ fl A ap ak=>(ao.of_same ap ak).yields _) (λ_ _ _ _ _ _ _ _ _ _ _=>trivial) (l.length+(m+1)) k g none z a trivial M (YQ j.1 n.2.1) ha rfl rfl ?_;exact Hf ah ac al L W T N ad l is k g _ _ j.2 y (λp e=>Y p (by simp[e])) (λJ t am=>aa J t am) (M.other ha (N i au)) (λp e=>aj p (by simp[e])) (λp e=>X p (by simp[e])) (aw _) n.2.2 ae U aA
   |w=>
    have aH:=h;simp only[He,YO,YS] at n;obtain⟨av,aB,aK⟩:=n;obtain⟨s,ap,ak,aI,aE⟩:=h;have ax:sq[k]? =some i:=aa 0 i rfl;refine⟨by rw[av];simp,λJ I af ai=>?_⟩;have Z:=I;rw[av] at I;have az:J=i\/J=f:=by simpa[or_comm] using I
    rcases az with rfl|rfl
    ·obtain rfl:C=af:=Yp (j.1.symm.trans ai);refine .inr (.inl ⟨ax,s,ap none,ak,λv ao=>?_⟩);obtain⟨w,aG⟩:=ao
     exact Hf ah ac al L W T N ad l is (k+1) (s v) _ _ j.2 y (λp e=>Y p (by simp[e])) (λJ t am=>by have:=aa (J+1) t (by simpa[QW] using am);rwa [show k+(J+1)=k+1+J from O] at this) (M.row2 T Z ax) (λp e=>aj p (by simp[e])) (λp e=>X p (by simp[e])) (aw _) aK (aI v)
      (λb o s A an aq ab=>U b o s A an (by simp only[X6];omega) ab) (aE v ⟨none,w,aG⟩)
    ·obtain rfl:u=af:=Yp (ah.symm.trans ai);refine .inr (.inr ⟨rfl,L,rfl,ag.seq ae,λb=>?_⟩);rw[ac];have aF:∀p∈((Kd.w,i)::is),p.2≠J:=λp e=>(Y p e).2
     have aJ:=Hd (ob:=ob) (fl:=some b) (E':=EF b) (d:=d) (x:=V) ((.w,C)::l) k g a aj (λo s A=>ad b o s A) aH
     have:=CQ (vf:=λ_=>V) (m:=m) (f:=J) (hd:=hd) (sq:=sq) (Q:=Q) (F:=λfl=>fl=some b) (fl:=some b) rfl W T N ((.w,C)::l) ((.w,i)::is) k g (z.setIfInBounds J true) _ aD aC (λp e=>(Y p e).1) aa (M.other Z L) aB
      (λo s A an aq ab=>by rw[Ci _ _ _ aF] at ab|-;exact U b o s A an aq ab) aJ
     rw[show((Kd.w,C)::l).length+m=l.length+(m+1) by simp only[Yy];omega] at this;exact this
def OC (w:World):FC:=λ_ d=>∃x:J2 w,d=x.world
theorem Sv (w:World):Ks w (OC w):=λ_ _ h=>by
 obtain⟨x,rfl⟩:=h;refine⟨⟨x,rfl⟩,λw2 y=>?_⟩;obtain⟨a,rfl⟩:=y;exact⟨⟨_,Wx x.below a.below⟩,rfl⟩
theorem MB (w:World):OA w (OC w):=λd h=>by
 obtain⟨x,rfl⟩:=h;exact⟨x.below,λw2 g=>⟨⟨_,Wx x.below g⟩,rfl⟩⟩
def V9 (l:List Oper)(z:List Nat)(g:List (Nat×Nat×Nat))(top:List Nat)(n:List Oper)(a b:List (Kd×Nat))(f:Nat)(N:Tmp):Bool:=
 let late:=λi=>((g.lookup i).map (·.1)).getD 0
 let o:=λi=>if i=f then X6 a else late i
 let grp:=λi=>((g.lookup i).map (·.2)).getD 0
 let sq:=QW (a++b)
 let hd:=z++(XS a++AV b)
 let j:=Xr z (Array.replicate l.toArray.size false)
 let d:=(XG a j).setIfInBounds f true
 Region.noSelect l.toArray&&(Un .any l.toArray (f::z) sq o&&(!z.contains f&&(z.all (λi=>decide (late i<=top.getD (grp i) 0))&&(Bl .any l.toArray z (Array.replicate l.toArray.size false)&&(ZW l.toArray n&&
  (hd.all (λi=>!sq.contains i)&&(!sq.contains f&&(a.all (λp=>decide (p.2≠f)&&decide (p.2<l.length))&&(b.all (λp=>decide (p.2<l.length))&&((Qp l a).all (λp=>!(p.2.looksAt l.toArray).contains N&&(p.2.dst != some N&&(match p.2.dst with|some e=>(match l[f]? with|some C=>!(C.looksAt l.toArray).contains e|none=>false)|none=>true)))&&(He .any l.toArray f a j&&(DA .any l.toArray b d&&
  (decide (Region.ready .any l.toArray (XG b d)=[])&&decide (z.length+a.length+1+b.length=l.length))))))))))))))
theorem Ez {id:Nat}{Q:Exit->Act->World->Prop}{a:Act}{w:World}{l:List Oper}(o:List Kd)(z:List (Nat×Nat×Nat))(G:Nat->World->Prop)(top:List Nat)(e g:List (Kd×Nat))(f:Nat)(V:Value){N:Tmp}{T:Oper}(aS:P.follows .mixedOrders=true)(aT:Nat.ble o.length l.length=true)
 (aa:l[f]? =some T)(aI:T.dst=some N)
 (ae:V9 l (Qs o 0) z top (JW o l) e g f N=true)(hd:Be a.tmps.size (JW o l)=true)
 (h:∃A:Act,(∀ac,Ji w ac->wpQuiet P l.toArray (λd=>∃x:J2 ac,d=x.world) (λu=>u=A) (JW o l) a)/\
   (∀p∈z,∀M,l[p.1]? =some M->Gw P l.toArray (G p.2.2) M A)/\
   BQ P l.toArray w V T A/\Hc P l.toArray w G top (λk s u=>∀b,ZA P l.toArray (some b) (QW (e++g)).length (λs v=>∀d,s (some b) d->Q .normal v d) (Qp l g) G top k s (u.put (some N) V)) (Qp l e) 0 (OC w) A):(Code.region id l.toArray true).wp P Q a w:=by
 have a7:o.length<=l.length:=Jbd aT;obtain⟨A,aq,aU,aF,aP⟩:=h;simp only[V9,YO,YS,Y4] at ae;obtain⟨C,ax,ag,aX,aN,aM,av,af,Y,ai,ak,aH,aW,aR,a4⟩:=ae;have U:=D8 ax
 have ao:∀i∈Qs o 0,i≠f:=λi F an=>by
  subst an;rw[JaT.2 F] at ag;cases ag
 have Z:∀J∈Qs o 0++(XS e++AV g),J∉QW (e++g):=λJ ay I=>by
  have:=av J ay;rw[JaT.2 I] at this;cases this
 have aV:f∉QW (e++g):=λI=>by rw[JaT.2 I] at af;cases af
 have aA:(Qs o 0).map (λi=>l.toArray[i]?)=(JW o l).map some:=by
  have:=ZX (l0:=l) o 0 O;exact Jek
 obtain⟨X,aC⟩:=AO (l:=l) e (Y4.2 λp n=>by simpa using(Y p n).2);obtain⟨ab,am⟩:=AO (l:=l) g (Y4.2 λp n=>by simpa using ai p n);have aZ:e.length=(Qp l e).length:=by have:=congrArg List.length X;simpa using this
 have aY:g.length=(Qp l g).length:=by have:=congrArg List.length ab;simpa using this
 have aO:∀J t,(QW e)[J]? =some t->(QW (e++g))[0+J]? =some t:=λJ t h=>by
  rw[Am,WM,WX (W0.1 h).1];exact h
 have au:∀J t,(QW g)[J]? =some t->(QW (e++g))[0+X6 e+J]? =some t:=λJ t h=>by
  rw[Am,Du,WM,WZ O,show(QW e).length+J-(QW e).length=J from O];exact h
 have aQ:Q4 .any l.toArray (QW (e++g)) 0 (Array.replicate l.toArray.size false):=
  ⟨by simp,λJ a5 _ ad=>(by rw[getD_replicate_false] at ad;cases ad),λal t _ ah=>by
    refine getD_in ?_ (getD_replicate_false _ _);obtain⟨p,n,rfl⟩:=GJ _ t (YD ah);rcases Ye.1 n with n|n
    ·simpa using(Y p n).2
    ·simpa using ai p n,λal t a3 ah=>O⟩
 have aD:=λhinv=>Hf (P:=P) (md:=.any) (ops:=l.toArray) (hd:=Qs o 0++(XS e++AV g)) (sq:=QW (e++g)) (f:=f) (ob:=.cells #[] 0) (B:=w) (V:=V) (G:=G) (top:=top) (Q:=Q) (m:=(Qp l g).length+0)
  (E:=λk s u=>∀b,ZA P l.toArray (some b) (QW (e++g)).length (λs v=>∀d,s (some b) d->Q .normal v d) (Qp l g) G top k s (u.put (some N) V))
  (EF:=λb k s u=>ZA P l.toArray (some b) (QW (e++g)).length (λs v=>∀d,s (some b) d->Q .normal v d) (Qp l g) G top k s u)
  (by simpa using aa) aI (λS b=>YP C f T S b (by simpa using aa)) aV (YP C) U.once Z (λb k s a h=>h b) (Qp l e) e 0 (OC w) (Xr (Qs o 0) (Array.replicate l.toArray.size false)) A (by simpa using X) aC
  (λp n=>⟨λL=>Ye.2 (.inr (Ye.2 (.inl (Cj _ p n L)))),(Y p n).1⟩) aO hinv
  (λp n=>by
    have j:=ak p n;simp only[YO,JaW,bne_iff_ne,ne_eq] at j;have aj:some p.2∈(Qp l e).map (λp=>some p.2):=Yq.2 ⟨p,n,rfl⟩;rw[<-X] at aj;obtain⟨q,L,aJ⟩:=Yq.1 aj;refine⟨λS b=>YP C q.2 p.2 S b (by simpa using aJ),λI=>?_,j.2.1⟩;have y:=j.1;rw[JaT.2 I] at y;cases y)
  (λp n an aL I=>by
    have j:=ak p n;simp only[YO,aL,aa,JaW] at j;have y:=j.2.2;rw[JaT.2 I] at y;cases y) aF aH (MB w)
  (λb al aE u az aw aG=>by
    subst aw
    exact Ey (P:=P) (md:=.any) (ops:=l.toArray) (f:=f) (ob:=.cells #[] 0) (vf:=λ_=>V) (m:=0) (hd:=Qs o 0++(XS e++AV g)) (sq:=QW (e++g)) (Q:=Q) (R:=(QW (e++g)).length) (E:=λs v=>∀d,s (some b) d->Q .normal v d) (φ:=some b) (Je _) (YP C) U.once Z (Qp l g) g G top _ aE _ u (by simpa using ab) am
     (λp n L=>Ye.2 (.inr (Ye.2 (.inr (E8 _ p n L))))) au aG aW (λa6 a1 am a0 a2 ar _=>⟨aR,ar⟩) az) aP
 have ap:=Ec (Sv w) (md:=.any) (hd:=Qs o 0++(XS e++AV g)) (f:=f) (ob:=.cells #[] 0) (vf:=λ_=>V) (w0:=w) (fl:=none) (r:=(Qp l e).length+((Qp l g).length+0+1)) (late:=λi=>if i=f then X6 e else ((z.lookup i).map (·.1)).getD 0) (grp:=λi=>((z.lookup i).map (·.2)).getD 0) (Q:=Q) C U (λi F=>Yg _ F)
  (λi F=>Ye.2 (.inl F)) Z (λi F=>by rw[Yw (ao i F)];exact aX i F)
  (λi F M aK W=>by
    rw[Yw (ao i F)] at W;cases hlk:z.lookup i with
    |none=>rw[hlk] at W;simp at W
    |some m=>
     have aB:=ZY z i m hlk;have:=aU (i,m) aB M (by simpa using aK);simpa[hlk] using this)
  (Qs o 0) (JW o l) _ a aA (λi F=>F) aQ hd aM aN aD aq
 refine YT aS ?_;have:=X3 (Q':=Q) _ 0 _ none _ _ _ ⟨⟨_,(Jc w.heap.size w).drew⟩,rfl⟩ ap;exact Jd4
end
end
end Go.Proofs.YtkgjbipfhhjlpaaGreatDoor
