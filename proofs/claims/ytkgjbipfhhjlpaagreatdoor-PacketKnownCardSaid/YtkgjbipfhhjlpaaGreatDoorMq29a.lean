import Derived.Test.YtkgjbipfhhjlpaaGreatDoorMq28
set_option linter.unusedVariables false
set_option linter.unusedSimpArgs false
set_option maxRecDepth 100000
set_option maxHeartbeats 32000000
namespace Go.Proofs.YtkgjbipfhhjlpaaGreatDoor
open Go.Proofs.Tryz
section
open Go.RowKit
theorem TE {a:Sp}(j:EA a)(v:Qy a=0)(cut:Nat)(l:8<=cut)(W:cut%8=0)(I:hdI a.k.s+(cut:Int)<((spL a).length:Int))(y:(spL a).length<=2048)(M:((spL a).length:Int)=hdI a.k.s+(JH a).length)(t:ChG a)(s:Option Addr)(n o:Nat)(w:World)(u:JA w s n o (spL a)):
 Jf 20 #[.slice s n o,Jk (hdI a.k.s),Jk (cut:Int)] w (Ex w (BJ a cut) (BK a cut)):=by
 have b:=ZT v;have A:=j.k;obtain⟨-,r,p,-,-⟩:=t;have g:JF (JH a):=QU j;unfold BJ BK;cases hs:a.k.s with
 |false=>
  rw[hs,U6] at I M;have d:=(r hs).1;rw[b.is,CZ hs] at u d;exact PP a.k.S a.k.T a.k.p (JH a) cut A.S A.T A.p g l W O O s n o w u d
 |true=>
  rw[hs,U7] at I M;have e:=p hs;rw[b.is,C1 hs] at u e;exact Sq a.k.S a.k.T a.k.p (JH a) cut A.S A.T A.p (b.chain hs) g l W O O s n o w u e
theorem Sr (n:Sp)(ae:Int)(ah:EA n)(ha:0<=ae)(I:U9 n (8*(1+(ae%200).toNat)))(w:World)(aG:Env w):Jf 5 #[.agg (spV n),Jk ae] w (Jz w (.bool true)):=by
 have aq:=H aG;have bb:=H (BL ah);have aK:=H (λw=>AT n ah w);obtain⟨k,ba,aY,aM⟩:=TA ae;rw[<-aY ha,Jak] at I;clear aY ha;have a7:=H aM;obtain⟨cut,hcut⟩:∃c:Nat,8*(1+k)=c:=⟨_,rfl⟩
 rw[hcut] at I;have a4:Hid (8<=cut/\cut%8=0/\cut<=1600):=H O
 have aE:Hid ((spL n).length<=2048):=H (by
  by_cases h:Qy n=0
  ·have r:=(ZT h).len;rw[(ZT h).is];exact r
  ·unfold spL;rw[Yw h];decide)
 have S:Hid (Qy n=0->hdI n.k.s+(cut:Int)<((spL n).length:Int)->(spL n).length+8<=2048->∀d C c,JA d C (spL n).length c (spL n)->Jf 20 #[.slice C (spL n).length c,Jk (hdI n.k.s),Jk (cut:Int)] d (Ex d (BJ n cut) (BK n cut))):=H λo ap y d C c r=>TE ah o cut O O ap aE (I o ap y).1 (I o ap y).2.1 C _ c d r
 obtain⟨F,X⟩:∃q:Int,(if cut<14 then 0 else n.f)=q:=⟨_,rfl⟩
 have bj:Hid (cut<14->F=0):=H λh=>by rw[<-X,YH h]
 have ay:Hid (¬cut<14->F=n.f):=H λh=>by rw[<-X,Yw h]
 have aa:Hid (Qy n=0->n.k.s=n.k.t):=H λo=>(ZT o).st
 have U:Hid (Qy n=0->hdI n.k.s+(cut:Int)<((spL n).length:Int)->(spL n).length+8<=2048->pkR (BJ n cut)=.tuple #[.agg (Xl ⟨n.k.s,n.k.S,n.k.T,n.k.p,n.k.a,n.k.b,(BJ n cut).length,F,false⟩),Jk 0]):=H λo j y=>by
  rw[<-X];exact(I o j y).2.2.1.is
 have ab:Hid (Qy n=0->hdI n.k.s+(cut:Int)<((spL n).length:Int)->(spL n).length+8<=2048->pkR (BK n cut)=.tuple #[.agg (Xl ⟨n.k.s,n.k.S,n.k.T,n.k.p,0,0,(BK n cut).length,0,true⟩),Jk 0]):=H λo j y=>by
  exact(I o j y).2.2.2.is
 clear I;obtain⟨⟨G,Z,t,e,p,a,b⟩,f,N⟩:=n;simp only at aa ay U ab S;obtain⟨A,M⟩:∃h:Int,hdI G=h:=⟨_,rfl⟩
 have bk:0<=A/\A<=40:=by rw[<-M];cases G<;>decide
 rw[M] at U ab S;generalize ac:BJ ⟨⟨G,Z,t,e,p,a,b⟩,f,N⟩ cut=J at*;generalize af:BK ⟨⟨G,Z,t,e,p,a,b⟩,f,N⟩ cut=T at*
 have aS:Hid (Qy ⟨⟨G,Z,t,e,p,a,b⟩,f,N⟩=0->A+(cut:Int)<((spL ⟨⟨G,Z,t,e,p,a,b⟩,f,N⟩).length:Int)->(spL ⟨⟨G,Z,t,e,p,a,b⟩,f,N⟩).length+8<=2048->∀d C c,JA d C J.length c J->Jf 11 #[.slice C J.length c] d (Jz d (.tuple #[.agg (Jbt G t p (Jl a) (Jl b) (Jk (J.length:Int)) F false Z e:Array Value),Jk 0]))):=H λo j y d C c r=>by
  have h:=AF C _ c _ d r;have am:G=t:=aa.out o;rw[U.out o j y] at h;subst am;exact h
 have aw:Hid (Qy ⟨⟨G,Z,t,e,p,a,b⟩,f,N⟩=0->A+(cut:Int)<((spL ⟨⟨G,Z,t,e,p,a,b⟩,f,N⟩).length:Int)->(spL ⟨⟨G,Z,t,e,p,a,b⟩,f,N⟩).length+8<=2048->∀d C c,JA d C T.length c T->Jf 11 #[.slice C T.length c] d (Jz d (.tuple #[.agg (Jbv G t p (Jk (T.length:Int)) true Z e:Array Value),Jk 0]))):=H λo j y d C c r=>by
  have h:=AF C _ c _ d r;have am:G=t:=aa.out o;rw[ab.out o j y] at h;subst am;exact h
 have aT:Hid (Bx w (w.alloc (.cells (Jbw G t p (Jl a) (Jl b) f (Jk N) Z e) 47)) [(w.heap.size,.cells (Jbw G t p (Jl a) (Jl b) f (Jk N) Z e) 47 (0,0))]):=H ((Bx.start w).box _ _);have aL:Hid ((∀(v:World) ao,Bx w v ao->Bx w (v.alloc (.cells (Jbt G t p (Jl a) (Jl b) (Jk (J.length:Int)) F false Z e) 32)) ((v.heap.size,.cells (Jbt G t p (Jl a) (Jl b) (Jk (J.length:Int)) F false Z e) 32 (0,0))::ao))/\∀(v:World) C ar c l,JA v C ar c l->JA (v.alloc (.cells (Jbt G t p (Jl a) (Jl b) (Jk (J.length:Int)) F false Z e) 32)) C ar c l):=H ⟨λv ao h=>h.box _ _,λv C ar c l h=>h.alloc _⟩;have ad:Hid (∀v:World,Jh v w.heap.size (Jbw G t p (Jl a) (Jl b) f (Jk N) Z e) 47->Jv v w.heap.size 0 37=(Jbs G t p (Jl a) (Jl b) Z e:Array Value)/\Jv v w.heap.size 0 17=(Jbr G Z:Array Value)/\Jv v w.heap.size 17 17=(Jbr t e:Array Value)/\Jg v w.heap.size 0 (.bool G)):=H λv h=>⟨by rw[JG _ _ _ _ _ _ _ h];simp,by rw[JG _ _ _ _ _ _ _ h];simp,by rw[JG _ _ _ _ _ _ _ h];simp,by rw[WN _ _ _ _ _ _ h];rfl⟩
 have ak:wrap64 (1+(k:Int))=1+(k:Int):=Jbk _ O;have Q:wrap64 (cut:Int)=(cut:Int):=Jbk _ O;have ag:8*(1+(k:Int))=(cut:Int):=O;have Y:=H (And.intro ak (And.intro Q ag));clear ah aG ac af X aa U ab ba aM hcut ak Q ag;generalize Qy ⟨⟨G,Z,t,e,p,a,b⟩,f,N⟩=aB at*;generalize spL ⟨⟨G,Z,t,e,p,a,b⟩,f,N⟩=z at*;unfold spV at*;simp only at aK|-;have aZ:((z.length:Int)<=A+(cut:Int))\/(A+(cut:Int)<(z.length:Int)/\2048<z.length+8)\/(A+(cut:Int)<(z.length:Int)/\z.length+8<=2048):=O
 have a3:Hid ((decide ((z.length:Int)<=A+(cut:Int))=true)\/(decide ((z.length:Int)<=A+(cut:Int))=false/\decide ((z.length:Int)+8>2048)=true)\/(A+(cut:Int)<(z.length:Int)/\z.length+8<=2048/\decide ((z.length:Int)<=A+(cut:Int))=false/\decide ((z.length:Int)+8>2048)=false)):=H (by
  rcases aZ with h|⟨j,y⟩|⟨j,y⟩
  ·exact .inl (Yz h)
  ·exact .inr (.inl ⟨YA O,Yz O⟩)
  ·exact .inr (.inr ⟨j,y,YA O,YA O⟩))
 have V:wrap64 (A+(cut:Int))=A+(cut:Int):=Jbk _ (by have:=a4.out;omega);have W:wrap64 ((z.length:Int)+8)=(z.length:Int)+8:=Jbk _ (by have:=aE.out;omega);clear aZ bk;cases G<;>(
 first
  |rw[U6] at M
  |rw[U7] at M
 subst M;have a1:=H (And.intro V W);clear V W;go_enter func5,ntmps5
 go_wp2_with fail
 generalize w.alloc _=bo at*;refine Jb (aK _) ?_;rintro ai bB ⟨bd,bf,rfl,aO,g⟩;have aj:=H (aT.go g);have aD:=H (aO.reads bb);clear aO g aT;by_cases o:aB=0
 rotate_left
 ·have br:(aB != 0)=true:=by simpa using o
  clear o;go_wp2_with fail
  refine Jb (Xg _ (aq.below aj.out.out)) ?_;rintro ai aJ ⟨rfl,g⟩;have P:=H (Wx aj.out.out g);clear g;go_wp2_with fail
  go_ret;exact .mk rfl P
 subst o;have aU:=H (S rfl);have aI:=H (aS rfl);have aP:=H (aw rfl);clear S aS aw;go_wp2_with fail
 refine aj.ret (a7 _) ?_;intro aJ aQ L;have aV:=H (aD.below aQ);clear aQ aj aD;have ak:=Y.1;have Q:=Y.2.1;have ag:=Y.2.2;have V:=a1.1;have W:=a1.2;have bg:=(ad aJ (L.at 0 rfl)).2.2.2;have aX:=L.lt 0 rfl;rcases a3.out with al|⟨al,ax⟩|⟨j,y,al,ax⟩
 case' inl=>
  go_wp2_with fail
 case' inr.inl=>
  go_wp2_with fail
 case' inr.inr=>
  have be:=H (aU j y);have a6:=H (aI j y);have bi:=H (aP j y);clear aU aI aP j y;go_wp2_with fail
 ·refine Jb (be _ bd bf aV) ?_;rintro ai a2 ⟨u,a5,s,a8,rfl,ac,af,aW⟩;have aH:=H (L.go aW);have aR:=H ac;have aC:=H af;clear ac af aW L aV bg aX al ax ak Q ag V W;go_wp2_with fail
  refine aH.ret (a6 _ u a5 aR) ?_;intro aN az aF;have aA:=H (aL.2 _ _ _ _ _ (aC.below az));have an:=H (aL.1 _ _ aF);clear az aF aH aR aC;go_wp2_with fail
  generalize aN.alloc _=bp at*;obtain⟨a0,av⟩:∃b,b=aN.heap.size:=⟨_,rfl⟩
  rw[<-av] at an|-;clear av;refine an.ret (bi _ s a8 aA) ?_;intro B bh E;clear bh an aA;have bt:Jv B a0 0 40=_:=E.part 0 rfl rfl;have bz:=E.lt 0 rfl;have bA:Jg B w.heap.size 37 (Jq f):=E.cell 1 37 rfl rfl;have bw:Jg B w.heap.size 34 (Jq p):=E.cell 1 34 rfl rfl;have aX:=E.lt 1 rfl;obtain⟨bv,bm,bs,-⟩:=ad.out B (E.at 1 rfl);have au:=H (λu s=>E.go (Below.all (Below.all (Jc B.heap.size B) u) s));have a9:=H (λu s R=>E.go (Below.all (Below.all (Below.all (Jc B.heap.size B) u) s) R));have bx:=λu s=>(ad _ ((au u s).at 1 rfl)).2.1
  have bl:=λu s=>(ad _ ((au u s).at 1 rfl)).2.2.1
  have bn:∀u s,Jg ((B.alloc u).alloc s) w.heap.size 34 (Jq p):=λu s=>(au u s).cell 1 34 rfl rfl
  have bu:∀u s R,Jv (((B.alloc u).alloc s).alloc R) a0 0 40=_:=λu s R=>(a9 u s R).part 0 rfl rfl
  have Q:=Y.2.1;by_cases hcut:cut<14
  case' pos=>
   have bc:decide ((cut:Int)<14)=true:=by simp;omega
   obtain rfl:F=0:=bj.out hcut;clear hcut;go_wp2_with fail
  case' neg=>
   have bc:decide ((cut:Int)<14)=false:=by simp;omega
   obtain rfl:F=f:=ay.out hcut;clear hcut;go_wp2_with fail
  all_goals
   refine Jb (Xg _ (aq.below (Below.all (Below.all (Below.all E.out.out _) _) _))) ?_;rintro ai bq ⟨rfl,g⟩;have P:=H (Wx (Below.all (Below.all (Below.all E.out.out _) _) _) g);clear g;go_wp2_with fail
   go_ret;exact .mk rfl P
 all_goals
  refine Jb (Xg _ (aq.below L.out.out)) ?_;rintro ai a2 ⟨rfl,g⟩;have P:=H (Wx L.out.out g);clear g;go_wp2_with fail
  go_ret;exact .mk rfl P)
def knP (n:Nat):Int:=[6,17,1,58,47,0,44].getD (n%7) 0
def knX (n:Nat):Bool:=decide (n/7%2=1)
def knZ (n:Nat):Bool:=(knP n != 6&&knP n != 17)&&decide (0<n%11)
def knA (n:Nat):Int:=if knZ n then 0 else ((n*3%5:Nat):Int)
def knB (n:Nat):Int:=if knZ n&&(knP n != 1&&knP n != 58) then 0 else ((n*77%1000:Nat):Int)
def knL (n:Nat):Int:=if knX n then ((n%256:Nat):Int) else 0
def knC (n:Nat):Array Value:=#[.bool (knX n),.int .u8 10,.int .u8 0,.int .u8 0,.int .u8 ((n%3:Nat):Int),.int .u8 0,.int .u8 0,.int .u8 0,.int .u8 0,.int .u8 0,.int .u8 0,.int .u8 0,.int .u8 0,.int .u8 0,.int .u8 0,.int .u8 0,.int .u8 0,
 .bool (knX n),.int .u8 10,.int .u8 0,.int .u8 ((n%4:Nat):Int),.int .u8 1,.int .u8 0,.int .u8 0,.int .u8 0,.int .u8 0,.int .u8 0,.int .u8 0,.int .u8 0,.int .u8 0,.int .u8 0,.int .u8 0,.int .u8 0,.int .u8 (knL n),.int .u8 (knP n),.int .u16 (knA n),.int .u16 (knB n)]
def UJ (S:Array Value):Nat->List Value->Array Value
 |_,[]=>S
 |k,v::a=>UJ (S.setIfInBounds k v) (k+1) a
theorem OBx.sets {d:World}{b:Nat}{t:TypeId}:∀(a:List Value) (k:Nat) {w:World} {S:Array Value},OBx d b S t w->OBx d b (UJ S k a) t (w.setCells b k a)
 |[],_,_,_,h=>h
 |v::a,k,_,_,h=>OBx.sets a (k+1) (h.set k v)
theorem OBx.start (w:World)(S:Array Value)(t:TypeId):OBx (w.alloc (.cells S t)) w.heap.size S t (w.alloc (.cells S t)):=⟨WP w _,Jc _ _,λ_ _ _=>rfl⟩
theorem OBx.to {z w:World}{b k:Nat}{S cs':Array Value}{t:TypeId}{vs:List Value}(h:OBx z b S t w)(e:UJ S k vs=cs'):OBx z b cs' t (w.setCells b k vs):=e▸h.sets vs k
theorem OBx.there {z w:World}{b:Nat}{S:Array Value}{t:TypeId}(h:OBx z b S t w)(C m:Nat)(hs:C+m<=S.size):w.there b C m:=λJ a=>by
 rw[WN _ _ (C+J) _ _ (0,0) h.1,Jad _ _ (C+J) _ _ h.1];exact⟨by rw[Array.getElem?_eq_getElem O];rfl,rfl⟩
theorem MA (w:World)(b C:Nat)(a:Array Value)(ht:w.there b C a.size)(h:a.size=16)(h1:a.all (·.oneCell')=true):
 XC prog 25 w (.pointer (some ⟨b,C,none⟩)) (.agg a)=.ok .skip (w.setCells b C a.toList):=by
 have:=run_storeAt_mid (P:=prog) w b C 25 a ht (by rw[h];kernel_rfl) h1;unfold XC execOp;simp[this]
theorem TF {z w:World}{b:Nat}{S cs':Array Value}{t:TypeId}(h:OBx z b S t w)(e:S=cs')(hs:cs'.size=37):Xj prog 30 w (Jj b)=.ok (.value (.agg cs')) w:=by
 subst e;rw[Cf w b 0 (by rw[Ju h.1 hs];exact hs),Ju h.1 hs]
theorem Ss {Q d:World}{b a:Nat}{S g:Array Value}{t:TypeId}(h:OBx Q b S t d)(e:Jh Q a g 30)(j:a<b):Jh d a g 30:=(h.2.2 a O (Ja e).1).trans e
theorem St {y z:World}{b d:Nat}{S g a:Array Value}{t:TypeId}(h:OBx y b S t z)(hy:Jh y d g 30)(hc:(g.size==37)=true)(hW:d<b)(hk:a.size=37)(h1:AX a.toList=true):XC prog 30 z (Jj d) (.agg a)=.ok .skip (z.setRow d a):=
 DZ z d a (by rw[Jw _ _ _ _ _ (Ss h hy hW)];exact hc) hk h1
theorem TG {w y z:World}{b:Nat}{S g a:Array Value}{t:TypeId}{d:Array Value}(h:OBx y b S t z)(hy:Jh y w.heap.size g 30)(hW:w.heap.size<b)(hk:a.size=37)(hb:Ji w y)(ht:d.getD 2 undef=.pointer (some ⟨w.heap.size,0,none⟩)):
 bodyPost prog f33 (Jz w (.agg a)) .ret { tmps:=d,defers:=[] } (z.setRow w.heap.size a):=
 Jag (v:=.agg a) (XO rfl _ _ w.heap.size 37 _ underlying30 rfl N6 ht a (Ju (JC (Ss h hy hW)) hk) hk) rfl (.mk rfl ((hb.trans (h.2.1.mono (Ja1 hW))).trans (Jy _ (Je _))))
end
end Go.Proofs.YtkgjbipfhhjlpaaGreatDoor
