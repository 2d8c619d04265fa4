import Derived.Test.YtkgjbipfhhjlpaaGreatDoorMq2
import Derived.Lib.AppendIntMem
import Derived.StillTailTactics
set_option linter.unusedVariables false
set_option linter.unusedSimpArgs false
set_option maxRecDepth 100000
set_option maxHeartbeats 32000000
namespace Go.Proofs.YtkgjbipfhhjlpaaGreatDoor
open Go.Proofs.Tryz
section
open Go.Lib
def Ql (c:UInt8):List UInt8->List (List UInt8)
 |[]=>[[]]
 |x::r=>if x=c then []::Ql c r else match Ql c r with
  |[]=>[[x]]
  |h::t=>(x::h)::t
theorem CC (c:UInt8):∀l,Ql c l≠[]
 |[]=>by simp[Ql]
 |x::r=>by
  unfold Ql;split
  ·simp
  ·split<;>simp
theorem DI (c:UInt8):index [] [c]=-1:=by simp[index]
theorem C6 (c x:UInt8)(T:List UInt8):index (x::T) [c]=if x=c then 0 else if index T [c]=-1 then-1 else index T [c]+1:=by
 rw[index];by_cases h:x=c
 ·subst h;simp
 ·have a:([c].isPrefixOf (x::T))=false:=by
   show(c==x&&List.isPrefixOf [] T)=false;have:(c==x)=false:=by simpa using λe:c=x=>h e.symm
   rw[this];rfl
  rw[a,Yw h];simp
theorem HT (c:UInt8):∀l,index l [c]=-1->Ql c l=[l]
 |[],_=>rfl
 |x::T,h=>by
  rw[C6] at h;by_cases P:x=c
  ·rw[YH P] at h;exact absurd h D
  ·rw[Yw P] at h
   have u:index T [c]=-1:=by
    by_cases e:index T [c]=-1
    ·exact e
    ·rw[Yw e] at h;have:=index_ge T [c];omega
   rw[Ql,Yw P,HT c T u]
theorem K3 (c:UInt8):∀(l:List UInt8) (i:Nat),index l [c]=(i:Int)->Ql c l=l.take i::Ql c (l.drop (i+1))
 |[],i,h=>by rw[DI] at h;omega
 |x::T,i,h=>by
  rw[C6] at h;by_cases P:x=c
  ·rw[YH P] at h;obtain rfl:i=0:=O;rw[Ql,YH P];rfl
  ·rw[Yw P] at h;by_cases e:index T [c]=-1
   ·rw[YH e] at h;omega
   ·rw[Yw e] at h;have b:=index_ge T [c];obtain⟨J,rfl⟩:∃J,i=J+1:=⟨i-1,O⟩
    have a:index T [c]=(J:Int):=O;rw[Ql,Yw P,K3 c T J a];rfl
theorem B6 (c:UInt8):∀(fuel:Nat) (s:List UInt8),s.length<fuel->splitK [c] 0 (countFrom [c] fuel s) s=Ql c s
 |0,s,h=>absurd h (Nat.not_lt_zero _)
 |fuel+1,s,h=>by
  rw[countFrom];by_cases e:index s [c]=-1
  ·rw[YH (by simpa using e),HT c s e];rfl
  ·rw[Yw (by simpa using e)];have b:=index_ge s [c];obtain⟨i,F⟩:∃i:Nat,index s [c]=(i:Int):=⟨(index s [c]).toNat,O⟩
   rw[K3 c s i F,F,show 1+countFrom [c] fuel (s.drop ((i:Int).toNat+[c].length))=countFrom [c] fuel (s.drop (i+1))+1 by simp[YR]];rw[splitK,F,Yw (by simp)];have z:s≠[]:=by rintro rfl;rw[DI] at F;omega
   have a:0<s.length:=List.length_pos_iff.2 z;have:=B6 c fuel (s.drop (i+1)) (by rw[W4];omega);simp only[Jak,Jal,Ys];rw[this]
theorem OI (c:UInt8)(s:List UInt8):split s [c]=Ql c s:=B6 c _ s (Jam _)
def XL (c:UInt8):Nat:=
 if 65<=c.toNat/\c.toNat<=70 then c.toNat-55 else if 97<=c.toNat/\c.toNat<=102 then c.toNat-87 else if 48<=c.toNat/\c.toNat<=57 then c.toNat-48 else 99
def Fw (a b:Nat):Nat->List UInt8->Option Nat
 |n,[]=>some n
 |n,c::T=>if a<=XL c\/b<=n*a+XL c then none else Fw a b (n*a+XL c) T
def Q0 (b d:Nat)(l:List UInt8):Option Nat:=if l=[] then none else Fw b d 0 l
theorem BA (b a:Nat):∀(l:List UInt8) (n:Nat) (T:List UInt8),Fw b a n (l++T)=(Fw b a n l).bind λm=>Fw b a m T
 |[],n,T=>rfl
 |c::l,n,T=>by
  rw[Yx,Fw,Fw];split
  ·rfl
  ·exact BA b a l _ T
theorem II (b a:Nat):∀(l:List UInt8) (n m:Nat),n<a->Fw b a n l=some m->m<a
 |[],n,m,h,e=>by simp only[Fw,Option.some.injEq] at e;omega
 |c::l,n,m,h,e=>by
  rw[Fw] at e;split at e
  ·cases e
  ·exact II b a l _ m O e
theorem ED (d:Nat)(h:d<10):XL (UInt8.ofNat (48+d))=d:=by
 have:d=0\/d=1\/d=2\/d=3\/d=4\/d=5\/d=6\/d=7\/d=8\/d=9:=O;rcases this with rfl|rfl|rfl|rfl|rfl|rfl|rfl|rfl|rfl|rfl<;>decide
theorem B7 (u:Nat):decDigits u≠[]:=by
 rw[decDigits];split<;>simp
theorem IJ (a:Nat):∀(k u:Nat),u<=k->u<a->Fw 10 a 0 (decDigits u)=some u
 |0,u,A,W=>by
  obtain rfl:u=0:=O;rw[decDigits,Jan O,Fw,ED 0 O,Yw O];rfl
 |k+1,u,A,W=>by
  rw[decDigits];by_cases h:u<10
  ·rw[Jan h,Fw,ED u h,Yw O];simp[Fw]
  ·rw[dif_neg h,BA,IJ a k (u/10) O O];simp only[Option.bind];rw[Fw,ED _ O,Yw O,Fw];congr 1
   omega
def DJ (b:Nat)(l:List UInt8):Option Nat:=match Q0 10 b l with
 |some n=>if decDigits n=l then some n else none
 |none=>none
theorem Zn {a:Nat}{l:List UInt8}{n:Nat}:DJ a l=some n↔n<a/\l=decDigits n:=by
 unfold DJ;constructor
 ·intro h;split at h
  ·rename_i m W;split at h
   ·rename_i L;cases h;refine⟨?_,L.symm⟩;unfold Q0 at W;split at W
    ·cases W
    ·rcases Yh 0 a with X|X
     ·exact II 10 a l 0 _ X W
     ·exfalso
      obtain rfl:a=0:=O;cases l with
      |nil=>contradiction
      |cons c T=>rw[Fw,YH (.inr (WG _))] at W;cases W
   ·cases h
  ·cases h
 ·rintro⟨j,rfl⟩
  have:Q0 10 a (decDigits n)=some n:=by
   rw[Q0,Yw (B7 n),IJ a n n (Je _) j]
  rw[this];simp
theorem A0:∀(l:List UInt8) (acc:Nat) (T:List UInt8) (m:Nat),parseUint10 acc l=.ok m->parseUint10 acc (l++T)=parseUint10 m T
 |[],acc,T,m,h=>by simp only[parseUint10,NumEnd.ok.injEq] at h;subst h;rfl
 |c::l,acc,T,m,h=>by
  rw[Yx,parseUint10];rw[parseUint10] at h;split
  ·rename_i I;rw[YH I] at h;split
   ·rename_i y;rw[YH y] at h;cases h
   ·rename_i y;rw[Yw y] at h;split
    ·rename_i Y;rw[YH Y] at h;cases h
    ·rename_i Y;rw[Yw Y] at h;exact A0 l _ T m h
  ·rename_i I;rw[Yw I] at h;cases h
theorem Bi (d:Nat)(h:d<10):(UInt8.ofNat (48+d)).toNat=48+d:=by
 simp[UInt8.toNat_ofNat'];omega
theorem B8:∀(k u:Nat),u<=k->u<9223372036854775808->parseUint10 0 (decDigits u)=.ok u
 |0,u,A,W=>by
  obtain rfl:u=0:=O;rw[decDigits,Jan O];decide
 |k+1,u,A,W=>by
  rw[decDigits];by_cases h:u<10
  ·rw[Jan h,parseUint10,Bi u h,YH O,Yw O,Yw O,parseUint10];congr 1;omega
  ·rw[dif_neg h,A0 _ _ _ _ (B8 k (u/10) O O),parseUint10,Bi _ O,YH O,Yw O,Yw O,parseUint10];congr 1;omega
theorem Ho (a:Nat):∀k,a<=k->∃(N:Nat) (T:List UInt8),N<10/\decDigits a=UInt8.ofNat (48+N)::T:=by
 intro k;induction k generalizing a with
 |zero=>intro h;obtain rfl:a=0:=O
        exact⟨0,[],O,by rw[decDigits,Jan O]⟩
 |succ k d=>
  intro h;rw[decDigits];by_cases b:a<10
  ·rw[Jan b];exact⟨a,[],b,rfl⟩
  ·rw[dif_neg b];obtain⟨N,T,L,e⟩:=d (a/10) O;exact⟨N,T++[UInt8.ofNat (48+a%10)],L,by rw[e];rfl⟩
theorem SL (a:Nat)(W:a<9223372036854775808):atoiAll (decDigits a)=.ok (a:Int):=by
 obtain⟨N,T,L,e⟩:=Ho a a (Je _);have E:=B8 a a (Je _) W;rw[e] at E|-;have b:=Bi N L;simp only[atoiAll,b];rw[Yw (by omega:¬(48+N=43\/48+N=45))];simp only[parseMag];rw[Yw (by simp),E];simp only;rw[Yw O,Yw O,Yw O]
theorem P4 (a:Nat)(b:a<=1000000)(l:List UInt8):DJ a l=match atoiAll l with
 | .ok v=>if 0<=v/\v<a/\itoa v=l then some v.toNat else none
 |_=>none:=by
 cases h:DJ a l with
 |some n=>
  obtain⟨j,rfl⟩:=Zn.1 h;rw[SL n O];simp only;rw[YH ⟨O,O,by unfold itoa;rw[Yw O];simp⟩];simp
 |none=>
  cases hv:atoiAll l with
  |ok v=>
   simp only;by_cases I:0<=v/\v<a/\itoa v=l
   ·exfalso
    obtain⟨X,j,y⟩:=I;have:DJ a l=some v.toNat:=Zn.2 ⟨O,by rw[<-y];unfold itoa;rw[Yw O]⟩;rw[this] at h;cases h
   ·rw[Yw I]
  |range=>rfl
  |_=>rfl
def FK (g:List UInt8):Option Nat:=if g.length<=4 then Q0 16 65536 g else none
def Qn (s:List UInt8):Option (List Nat):=if s=[] then some [] else (Ql 58 s).mapM FK
def Fx (s:List UInt8):Option (List Nat):=
 if index s [58,58]=-1 then (Qn s).bind λl=>if l.length=8 then some l else none
 else (Qn (s.take (index s [58,58]).toNat)).bind λl=>(Qn (s.drop ((index s [58,58]).toNat+2))).bind λm=>
  if l.length+m.length<=7 then some (l++List.replicate (8-l.length-m.length) 0++m) else none
def Gd (s:List UInt8):Option (List Nat):=if (Ql 46 s).length=4 then (Ql 46 s).mapM (DJ 256) else none
def UP (b:Nat->Bool)(i:Nat):Nat->Nat->Nat×Nat->Nat×Nat
 |0,_,a=>a
 |f+1,n,a=>if b n then UP b i f (n+1) (if 2<=n+1-i/\a.2-a.1<n+1-i then (i,n+1) else a) else a
def K4 (b:Nat->Bool):Nat->Nat->Nat×Nat->Nat×Nat
 |0,_,a=>a
 |f+1,i,a=>K4 b f (i+1) (UP b i (8-i) i a)
def QA (z:Nat->Bool):Nat×Nat:=K4 z 8 0 (0,0)
def FL (z:Nat->Bool):Nat->Nat->Nat
 |0,_=>0
 |f+1,i=>if z i then FL z f (i+1)+1 else 0
def BV (z:Nat->Bool):Nat->Nat->Nat->Nat
 |0,_,b=>b
 |f+1,i,b=>BV z f (i+1) (if 2<=FL z (8-i) i/\(b=8\/FL z (8-b) b<FL z (8-i) i) then i else b)
def MR (z:Nat->Bool):Nat:=BV z 8 0 8
abbrev Tok:=Option Nat
def EE (d:Nat->Bool)(b:Nat):Nat->Nat->List Tok->List Tok
 |0,_,a=>a
 |f+1,i,a=>if 8<=i then a else if i=b then EE d b f (i+FL d (8-b) b) (a++[none,none])
  else EE d b f (i+1) (a++(if a=[]\/a.getLast? =some none then [] else [none])++[some i])
def B9 (z:Nat->Bool):List Tok:=EE z (MR z) 9 0 []
def MS:List Nat->List Tok
 |[]=>[]
 |[i]=>[some i]
 |i::l=>some i::none::MS l
def IK (z:Nat->Bool):List Tok:=
 if (QA z).1=(QA z).2 then MS (List.range 8) else MS ((List.range 8).take (QA z).1)++[none,none]++MS ((List.range 8).drop (QA z).2)
def zof (l:List Bool)(i:Nat):Bool:=l.getD i false
theorem T4:∀a b c d e f g h:Bool,IK (zof [a,b,c,d,e,f,g,h])=B9 (zof [a,b,c,d,e,f,g,h]):=D
theorem MT:∀a b c d e f g h:Bool,(QA (zof [a,b,c,d,e,f,g,h])).1<=(QA (zof [a,b,c,d,e,f,g,h])).2/\(QA (zof [a,b,c,d,e,f,g,h])).2<=8:=D
def Av (G:Nat->List UInt8):List Tok->List UInt8
 |[]=>[]
 |none::l=>58::Av G l
 |some i::l=>G i++Av G l
theorem Xp (G:Nat->List UInt8):∀a b:List Tok,Av G (a++b)=Av G a++Av G b
 |[],b=>rfl
 |none::a,b=>by rw[Yx,Av,Av,Xp G a b];rfl
 |some i::a,b=>by rw[Yx,Av,Av,Xp G a b,Jao]
def XX (c:UInt8):List (List UInt8)->List UInt8
 |[]=>[]
 |[p]=>p
 |p::l=>p++c::XX c l
theorem Zw (c:UInt8)(p q:List UInt8)(l:List (List UInt8)):XX c (p::q::l)=p++c::XX c (q::l):=rfl
theorem DK (G:Nat->List UInt8):∀l:List Nat,Av G (MS l)=XX 58 (l.map G)
 |[]=>rfl
 |[i]=>by simp[MS,Av,XX]
 |i::j::l=>by
  have:=DK G (j::l);rw[MS]
  ·simp only[Av,Jap,Zw];rw[this];rfl
  ·simp
theorem EG (c:UInt8):∀p:List UInt8,c∉p->Ql c p=[p]
 |[],_=>rfl
 |x::r,h=>by
  simp only[YE,not_or] at h;rw[Ql,Yw (λe=>h.1 e.symm),EG c r h.2]
theorem K5 (c:UInt8):∀(p r:List UInt8),c∉p->Ql c (p++c::r)=p::Ql c r
 |[],r,_=>by rw[Jah,Ql,YH rfl]
 |x::p,r,h=>by
  simp only[YE,not_or] at h;rw[Yx,Ql,Yw (λe=>h.1 e.symm),K5 c p r h.2]
theorem HU (c:UInt8):∀l:List (List UInt8),l≠[]->(∀p∈l,c∉p)->Ql c (XX c l)=l
 |[],h,_=>absurd rfl h
 |[p],_,h=>by rw[XX];exact EG c p (h p (by simp))
 |p::q::l,_,h=>by
  rw[Zw,K5 c p _ (h p (by simp)),HU c (q::l) (by simp) (λa E=>h a (by simp[E]))]
open Go.RowKit
theorem JdC{p:Prop}(h:p:=by
 go_wp2_with fail
 go_roundg (8-(n+1))
 case measure=>omega
 case rel=>exact⟨n+1,f,t,O,O,O,O,rfl,rfl,by go_num,H (by rw[<-o.out];exact g),s,u⟩):p:=h
def K6 (B:Nat->Int)(k:Nat):Int:=B (2*k)*256+B (2*k+1)
theorem IL {U:Nat->Int}(a:U8 U)(k:Nat):0<=K6 U k/\K6 U k<65536:=by
 have j:=a (2*k);have y:=a (2*k+1);unfold K6;omega
theorem P5 (a b i m:Nat)(W:m=2^i)(h:a<m):(b*m) ||| a=b*m+a:=by
 subst W;rw[<-Nat.shiftLeft_eq,Nat.shiftLeft_add_eq_or_of_lt h]
theorem T5 (x Q:Int)(X:0<=x)(j:x<256)(y:0<=Q)(Y:Q<256):bits BinOp.or IntKind.u64 (x*256) Q=x*256+Q:=by
 obtain⟨n,rfl⟩:=Jaq X;obtain⟨m,rfl⟩:=Jaq y;rw[show((n:Int)*256)=((n*256:Nat):Int) from O,u64_or_nat (n*256) m O O,P5 m n 8 256 D O];omega
theorem K7 (a:Bool)(U:Nat->Int)(g:U8 U)(k:Nat)(A:k<8)(w:World):Jf 131 #[adV a U,Jk (k:Int)] w (Jz w (Jo (K6 U k))):=by
 have b:Qa (w.alloc (.cells (Jbr a U) 27)) w.heap.size 27 a U:=Qa.made w _ a U;have l:=H (Below.all (Jc w.heap.size w) (.cells (Jbr a U) 27));have n:=b.cell (2*k) O;have o:=b.cell (2*k+1) O;have e:=g (2*k);have d:=g (2*k+1);have j:Hid (K6 U k=U (2*k)*256+U (2*k+1)):=H rfl;clear b;unfold adV;go_enter func131,ntmps131
 go_wp2_with fail
 generalize w.alloc (.cells (Jbr a U) 27)=V at*;generalize U (2*k)=x at*;generalize U (2*k+1)=Q at*;go_region
 go_wp2_with fail
 go_ret;exact .mk (by rw[T5 x Q e.1 e.2 d.1 d.2,j.out];rfl) l.drew
theorem HV (a:Bool)(U:Nat->Int)(d:U8 U)(k:Nat)(A:k<8)(w:World):Jf 134 #[adV a U,Jk (k:Int)] w (Jz w (Jk (K6 U k))):=by
 have b:Qa (w.alloc (.cells (Jbr a U) 36)) w.heap.size 36 a U:=Qa.made w _ a U;have g:=H (Below.all (Jc w.heap.size w) (.cells (Jbr a U) 36));have j:=b.cell (2*k) O;have n:=b.cell (2*k+1) O;have P:=d (2*k);have l:=d (2*k+1);have e:Hid (K6 U k=U (2*k)*256+U (2*k+1)):=H rfl;clear b;unfold adV;go_enter func134,ntmps134
 go_wp2_with fail
 generalize w.alloc (.cells (Jbr a U) 36)=V at*;generalize U (2*k)=x at*;generalize U (2*k+1)=Q at*;go_region
 go_wp2_with fail
 go_ret;exact .mk (by rw[e.out];rfl) g.drew
theorem MU (b:Bool)(U:Nat->Int)(M:U8 U)(a:Nat->Bool)(N:∀k,k<8->a k=(K6 U k==0))(w:World):
 Jf 132 #[adV b U] w (Jz w (.tuple #[Jk ((QA a).1:Nat),Jk ((QA a).2:Nat)])):=by
 have e:Hid (Qa (w.alloc (.cells (Jbr b U) 27)) w.heap.size 27 b U):=H (Qa.made w _ b U);have R:=H (Below.all (Jc w.heap.size w) (.cells (Jbr b U) 27));have W:=H (λk A w=>K7 b U M k A w);have S:=H N;clear M N;unfold adV at*;go_enter func132,ntmps132
 go_wp2_with fail
 generalize w.alloc (.cells (Jbr b U) 27)=V at*;go_step3
 go_wp2_with fail
 go_step3
 go_wp2_with fail
 go_loopg [2,3,4] 8 (λr u2 u3 u4 wr=>∃(i f t:Nat),i+r=8/\f<=t/\t<=8/\u2=.int .i64 f/\u3=.int .i64 t/\u4=.int .i64 i/\Hid (K4 a (8-i) i (f,t)=QA a)/\Hid (Qa wr w.heap.size 27 b U)/\Hid (Ji w wr))
 case atStart=>exact⟨0,0,0,O,O,O,rfl,rfl,rfl,H rfl,e,R⟩
 case round=>
  obtain⟨i,f,t,F,I,J,rfl,rfl,rfl,g,e,j⟩:=hrel;by_cases ac:i<8
  ·have Q:Hid (K4 a (7-i) (i+1) (UP a i (8-i) i (f,t))=QA a):=H (by rw[<-g.out,show K4 a (8-i) i (f,t)=K4 a (7-i+1) i (f,t) by rw[show 8-i=7-i+1 from O]];rfl);have L:decide ((i:Int)<8)=true:=by simp;omega
   go_wp2_with fail
   clear L;go_loopg [2,3,5] (8-i) (λh u2 u3 u5 wr=>∃(n f t:Nat),n+h=8/\i<=n/\f<=t/\t<=8/\u2=.int .i64 f/\u3=.int .i64 t/\u5=.int .i64 n/\Hid (K4 a (7-i) (i+1) (UP a i (8-n) n (f,t))=QA a)/\Hid (Qa wr w.heap.size 27 b U)/\Hid (Ji w wr))
   case atStart=>exact⟨i,f,t,O,O,I,J,rfl,rfl,rfl,Q,e,j⟩
   case round=>
    obtain⟨n,f,t,ae,aa,I,J,rfl,rfl,rfl,g,e,j⟩:=hrel;by_cases G:n<8
    ·have T:=e.part;have B:=H (W n G);have v:=S.out n G;have p:Hid (UP a i (8-n) n (f,t)=if a n then UP a i (8-(n+1)) (n+1) (if 2<=n+1-i/\t-f<n+1-i then (i,n+1) else (f,t)) else (f,t)):=H (by rw[show 8-n=8-(n+1)+1 from O];rfl);generalize K6 U n=r at*;go_wp2_with fail
     refine Jb (B _) ?_;rintro ad w2 ⟨rfl,E⟩;have s:=H (e.below E);have u:=H (Wx j E);clear T E e j;by_cases C:r=0
     ·have l:a n=true:=by rw[v,C];rfl
      subst C;rw[l,YH rfl] at p;have d:=p.out;clear p v l B;by_cases y:2<=n+1-i
      ·have Z:(2:Int)<=n+1-i:=O;by_cases Y:t-f<n+1-i
       ·have X:(t:Int)-f<n+1-i:=O;rw[YH ⟨y,Y⟩] at d;have o:=H d;clear d y Y;go_wp2_with fail
        go_roundg (8-(n+1))
        case measure=>omega
        case rel=>exact⟨n+1,i,n+1,O,O,O,O,rfl,by go_num,by go_num,H (by rw[<-o.out];exact g),s,u⟩
       ·have X:¬((n:Int)+1-i>t-f):=O;have ab:¬((t:Int)-f<n+1-i):=O;rw[Yw (λh=>Y h.2)] at d;have o:=H d;clear d y Y;exact JdC
      ·have Z:¬((2:Int)<=n+1-i):=O;rw[Yw (λh=>y h.1)] at d;have o:=H d;clear d y;exact JdC
     ·have l:a n=false:=by rw[v];simpa using C
      rw[l,Yw (by simp)] at p;clear v l B;go_wp2_with fail
      go_roundg (8-(i+1))
      case measure=>omega
      case rel=>exact⟨i+1,f,t,O,O,O,rfl,rfl,by go_num,H (by rw[<-g.out,p.out,show 8-(i+1)=7-i from O]),s,u⟩
    ·obtain rfl:n=8:=O;have z:Hid (K4 a (7-i) (i+1) (f,t)=QA a):=g;go_wp2_with fail
     go_roundg (8-(i+1))
     case measure=>omega
     case rel=>exact⟨i+1,f,t,O,O,O,rfl,rfl,by go_num,H (by rw[<-z.out,show 8-(i+1)=7-i from O]),e,j⟩
  ·obtain rfl:i=8:=O;have z:Hid ((f,t)=QA a):=g;go_wp2_with fail
   go_ret2;exact .mk (by rw[<-z.out];rfl) j
open Go.RowKit
theorem Vu:IntKind.u64.wrap (-16)=18446744073709551600:=D
theorem Vv:bits BinOp.and IntKind.u64 16 18446744073709551600=16:=K
theorem Vw:IntKind.u64.wrap (16*285870213051353865)=4573923408821661840:=D
theorem Vx:(4573923408821661840:Int)/288230376151711744=15:=D
theorem T6 (w:World)(g:Jg w 7 15 (Jq 4)):Jf 239 #[Jo 16] w (λe d=>e=.returned (Jk 4)/\w=d):=by
 have j:=Vu;have y:=Vv;have Y:=Vw;have a:=Vx;go_enter func239,ntmps239
 exact Jei
theorem Vy (w:World)(g:Jg w 7 15 (Jq 4)):Jf 232 #[Jo 16] w (λe d=>e=.returned (Jk 4)/\w=d):=by
 go_enter func232,ntmps232
 go_wp2_with fail
 refine Jb (T6 w g) ?_;rintro e w2 ⟨rfl,rfl⟩;exact Jei
theorem Vz (w:World):Jf 231 #[Jk 16] w (λe d=>e=.returned (.bool true)/\w=d):=by
 have j:bits BinOp.and IntKind.i64 16 15=0:=K;go_enter func231,ntmps231
 exact Jei
open Go.RowKit
structure Env (w:World):Prop where
 len:∃m,Jg w 0 0 (Jk m)
 syn:∃te pe,Jg w 1 0 (.iface te pe)
 rng:∃te pe,Jg w 2 0 (.iface te pe)
 tab:Lib.TabIs prog w "internal/strconv.uint64pow10" .u64 Lib.pow10Tab
 bits:Jg w 7 15 (Jq 4)
theorem Env.below {w d:World}(h:Env w)(b:Ji w d):Env d:=by
 obtain⟨m,W⟩:=h.len;obtain⟨e,z,j⟩:=h.syn;obtain⟨t,o,y⟩:=h.rng
 exact⟨⟨m,(b.cell (p:=⟨_,_,none⟩) (Jar w _ W)).trans W⟩,⟨e,z,(b.cell (p:=⟨_,_,none⟩) (Jar w _ j)).trans j⟩,
  ⟨t,o,(b.cell (p:=⟨_,_,none⟩) (Jar w _ y)).trans y⟩,Joins.tab_stays (g:=3) K h.tab b (Je _),(b.cell (p:=⟨_,_,none⟩) (Jar w _ h.bits)).trans h.bits⟩
theorem Env.later {w:World}(h:Env w)(x:J2 w):Env x.world:=h.below x.below
theorem HW (s:ByteArray)(k:Nat)(h:k<s.size):s.data.toList.take (k+1)=s.data.toList.take k++[s[k]]:=by
 rw[Yt (by simpa using h)];rfl
theorem ZC (s:ByteArray)(k:Nat)(h:k<s.size):s.data.toList.drop k=s[k]::s.data.toList.drop (k+1):=by
 rw[Jas (by simpa using h)];rfl
theorem CD (G:ByteArray)(k:Nat)(h:k<G.size)(c:Nat)(I:G[k].toNat=c)(w:World):(Instr.index 9 (.string G) (Jk (k:Int))).run prog w=.ok (Jq (c:Int)) w:=by
 rw[run_index_string w 9 G .i64 k underlying9,Jan O];simp only[Jak,I]
def P6 (o:Option Nat):Value:=match o with
 |some n=>.tuple #[Jk n,true]
 |none=>.tuple #[Jk 0,false]
theorem AH {o:Option Nat}(h:o=none):Value.tuple #[Jk 0,false]=P6 o:=by rw[h];rfl
theorem EH (G:ByteArray)(b r:Nat)(w:World)(z:G.size<=1000)(g:b<=16)(W:r<=65536)(U:1<=r):
 Jf 61 #[.string G,Jk b,Jk r] w (Jz w (P6 (Q0 b r G.data.toList))):=by
 go_enter func61,ntmps61
 go_wp2_with fail
 go_loopw [8,9] (λu8 u9 wr=>∃k n:Nat,k<=G.size/\u9=.int .i64 k/\u8=.int .i64 n/\n<r/\Hid (Fw b r 0 (G.data.toList.take k)=some n)/\wr=w) (λ_ u9 _=>(G.size:Int)-intOf u9 |>.toNat)
 case atStart=>exact⟨0,0,WG _,rfl,rfl,O,H rfl,rfl⟩
 case round=>
  obtain⟨k,n,A,rfl,rfl,B,M,rfl⟩:=hrel;by_cases L:k<G.size
  ·have J:=HW G k L
   have y:Hid (Fw b r 0 (G.data.toList.take (k+1))=if b<=XL G[k]\/r<=n*b+XL G[k] then none else some (n*b+XL G[k])):=H (by
    rw[J,BA,M.out];simp only[Option.bind,Fw])
   have C:Hid (b<=XL G[k]\/r<=n*b+XL G[k]->Q0 b r G.data.toList=none):=H (λh=>by
    have P:G.data.toList≠[]:=λe=>by
     have X:=congrArg List.length e;rw[WS,Jat] at X;simp only[Jau] at X;omega
    rw[Q0,Yw P];have e:G.data.toList=G.data.toList.take (k+1)++G.data.toList.drop (k+1):=(List.take_append_drop _ _).symm;rw[e,BA,y.out,YH h];rfl)
   clear J;have t:XL G[k]=if 65<=G[k].toNat/\G[k].toNat<=70 then G[k].toNat-55 else if 97<=G[k].toNat/\G[k].toNat<=102 then G[k].toNat-87 else if 48<=G[k].toNat/\G[k].toNat<=57 then G[k].toNat-48 else 99:=rfl
   have T:G[k].toNat<256:=G[k].toNat_lt;have V:=CD G k L _ rfl;generalize XL G[k]=d at*;generalize G[k].toNat=c at*;have R:n*b<=65536*16:=Nat.mul_le_mul O g;have s:((n*b:Nat):Int)=(n:Int)*b:=by push_cast;rfl
   have Q:(0:Int)<=(n:Int)*b:=by rw[<-s];omega
   have S:(n:Int)*b<=1048576:=by rw[<-s];omega
   rcases(show c<48\/(48<=c/\c<=57)\/(58<=c/\c<=64)\/(65<=c/\c<=70)\/(71<=c/\c<=96)\/(97<=c/\c<=102)\/103<=c from O) with h|⟨h,F⟩|⟨h,F⟩|⟨h,F⟩|⟨h,F⟩|⟨h,F⟩|h
   ·have o:d=99:=by rw[t];(repeat' split)<;>omega
    have l:=H o;have j:=H s;clear t o s;go_wp2_with fail
    all_goals first
     |(go_ret2;exact .mk (AH (C (by have:=l.out;have:=j.out;omega))) (Jc _ _))
     |(have u:¬(b<=d\/r<=n*b+d):=by(have:=l.out;have:=j.out;omega)
       go_roundw
       case rel=>exact⟨k+1,n*b+d,O,by go_num,Za (by have:=l.out;have:=j.out;omega),O,H (by rw[y.out,Yw u]),trivial⟩
       case measure=>simp[intOf];omega)
   ·have o:d=c-48:=by rw[t];(repeat' split)<;>omega
    have l:=H o;have j:=H s;clear t o s;go_wp2_with fail
    all_goals first
     |(go_ret2;exact .mk (AH (C (by have:=l.out;have:=j.out;omega))) (Jc _ _))
     |(have u:¬(b<=d\/r<=n*b+d):=by(have:=l.out;have:=j.out;omega)
       go_roundw
       case rel=>exact⟨k+1,n*b+d,O,by go_num,Za (by have:=l.out;have:=j.out;omega),O,H (by rw[y.out,Yw u]),trivial⟩
       case measure=>simp[intOf];omega)
   ·have o:d=99:=by rw[t];(repeat' split)<;>omega
    have l:=H o;have j:=H s;clear t o s;go_wp2_with fail
    all_goals first
     |(go_ret2;exact .mk (AH (C (by have:=l.out;have:=j.out;omega))) (Jc _ _))
     |(have u:¬(b<=d\/r<=n*b+d):=by(have:=l.out;have:=j.out;omega)
       go_roundw
       case rel=>exact⟨k+1,n*b+d,O,by go_num,Za (by have:=l.out;have:=j.out;omega),O,H (by rw[y.out,Yw u]),trivial⟩
       case measure=>simp[intOf];omega)
   ·have o:d=c-55:=by rw[t];(repeat' split)<;>omega
    have l:=H o;have j:=H s;clear t o s;go_wp2_with fail
    all_goals first
     |(go_ret2;exact .mk (AH (C (by have:=l.out;have:=j.out;omega))) (Jc _ _))
     |(have u:¬(b<=d\/r<=n*b+d):=by(have:=l.out;have:=j.out;omega)
       go_roundw
       case rel=>exact⟨k+1,n*b+d,O,by go_num,Za (by have:=l.out;have:=j.out;omega),O,H (by rw[y.out,Yw u]),trivial⟩
       case measure=>simp[intOf];omega)
   ·have o:d=99:=by rw[t];(repeat' split)<;>omega
    have l:=H o;have j:=H s;clear t o s;go_wp2_with fail
    all_goals first
     |(go_ret2;exact .mk (AH (C (by have:=l.out;have:=j.out;omega))) (Jc _ _))
     |(have u:¬(b<=d\/r<=n*b+d):=by(have:=l.out;have:=j.out;omega)
       go_roundw
       case rel=>exact⟨k+1,n*b+d,O,by go_num,Za (by have:=l.out;have:=j.out;omega),O,H (by rw[y.out,Yw u]),trivial⟩
       case measure=>simp[intOf];omega)
   ·have o:d=c-87:=by rw[t];(repeat' split)<;>omega
    have l:=H o;have j:=H s;clear t o s;go_wp2_with fail
    all_goals first
     |(go_ret2;exact .mk (AH (C (by have:=l.out;have:=j.out;omega))) (Jc _ _))
     |(have u:¬(b<=d\/r<=n*b+d):=by(have:=l.out;have:=j.out;omega)
       go_roundw
       case rel=>exact⟨k+1,n*b+d,O,by go_num,Za (by have:=l.out;have:=j.out;omega),O,H (by rw[y.out,Yw u]),trivial⟩
       case measure=>simp[intOf];omega)
   ·have o:d=99:=by rw[t];(repeat' split)<;>omega
    have l:=H o;have j:=H s;clear t o s;go_wp2_with fail
    all_goals first
     |(go_ret2;exact .mk (AH (C (by have:=l.out;have:=j.out;omega))) (Jc _ _))
     |(have u:¬(b<=d\/r<=n*b+d):=by(have:=l.out;have:=j.out;omega)
       go_roundw
       case rel=>exact⟨k+1,n*b+d,O,by go_num,Za (by have:=l.out;have:=j.out;omega),O,H (by rw[y.out,Yw u]),trivial⟩
       case measure=>simp[intOf];omega)
  ·obtain rfl:k=G.size:=O;have N:Hid (G.data.toList.take G.size=G.data.toList):=H (Jav (by rw[WS,Jat];exact Je _));go_wp2_with fail
   go_ret2;refine .mk ?_ (Jc _ _);have E:=M.out;rw[N.out] at E;by_cases X:G.data.toList=[]
   ·have I:G.size=0:=by
     have:=congrArg List.length X;rwa [WS,Jat] at this
    rw[X] at E|-;simp only[Fw,Option.some.injEq] at E;subst E;simp[Q0,P6,I]
   ·have I:0<G.size:=by
     rcases Yo G.size with e|e
     ·exact absurd (WL (by rw[WS,Jat];exact e)) X
     ·exact e
    rw[Q0,Yw X,E];simp[P6,I]
open Go.RowKit
theorem Jde{p:Prop}(h:p:=by
 have B:DJ l G.data.toList=none:=by rw[L,Yw O]
 have a:=H B;clear L B;go_enter func172,ntmps172
 go_wp2_with fail
 refine Jb (d.out w) ?_;rintro e V ⟨rfl,R⟩
 have g:Ji w V:=by
  rcases R with rfl|⟨t,rfl⟩
  ·exact Jc _ _
  ·exact Xm _ _
 clear R;go_wp2_with fail
 go_ret2;exact .no a rfl b.1 b.2 g):p:=h
theorem JdF{p:Prop}(h:p:=by
 intro m w X j A;obtain rfl:m=0:=O;have g:=BB 0 D;go_enter func73,ntmps73
 go_wp2_with fail
 go_ret;exact .mk (AC (by decide+kernel)) (Jc _ _)):p:=h
theorem Jep{p:Prop}(h:p:=by
 go_enter func73,ntmps73
 go_wp2_with fail
 go_ret;refine .mk (AC ?_) (Jc _ _);rw[Jak,X1,Jan O]):p:=h
def hexc (d:Nat):UInt8:=if d<10 then UInt8.ofNat (48+d) else UInt8.ofNat (87+d)
def X1 (b u:Nat):List UInt8:=if h:u<b\/b<2 then [hexc u] else X1 b (u/b)++[hexc (u%b)]
termination_by u
decreasing_by exact Nat.div_lt_self O O
theorem CE:∀(k u:Nat),u<=k->X1 10 u=Lib.decDigits u
 |0,u,h=>by
  obtain rfl:u=0:=O;rw[X1,Jan O,Lib.decDigits,Jan O];rfl
 |k+1,u,h=>by
  rw[X1,Lib.decDigits];by_cases b:u<10
  ·rw[Jan (.inl b),Jan b,hexc,YH b]
  ·rw[dif_neg O,dif_neg b,CE k (u/10) O,hexc,YH O]
theorem A1 (s:ByteArray):s.toList=s.data.toList:=ByteArray.toList_eq s
theorem Aw (b:Nat):∀(k u:Nat),u<=k->(X1 b u).length<=u+1
 |0,u,h=>by
  obtain rfl:u=0:=O;rw[X1];split
  ·simp
  ·rename_i a;simp only[not_or,Nat.not_lt] at a;omega
 |k+1,u,h=>by
  rw[X1];split
  ·simp
  ·rename_i a;simp only[not_or,Nat.not_lt] at a;have d:u/b<u:=Nat.div_lt_self O O;have:=Aw b k (u/b) O;rw[WV,Ys];omega
theorem XM (a b:List UInt8)(ha:a.length<=100000)(g:b.length<=100000)(w:World):(binOp .add 9 (.string ⟨a.toArray⟩) (.string ⟨b.toArray⟩)).run prog w=.ok (.string ⟨(a++b).toArray⟩) w:=by
 have e:(⟨a.toArray⟩:ByteArray)++⟨b.toArray⟩=⟨(a++b).toArray⟩:=by
  apply ByteArray.ext;simp
 have h:=run_string_add_sum (P:=prog) w ⟨a.toArray⟩ ⟨b.toArray⟩ (by simp[ByteArray.size];omega);rw[e] at h;simpa[binOp] using h
theorem K8 (w:World):(Instr.slice 9 (.string ⟨#[48,49,50,51,52,53,54,55,56,57,97,98,99,100,101,102]⟩) (some (.int .i64 ((0:Nat):Int))) (some (.int .i64 (((0:Nat):Int)+1))) none).run prog w=.ok (.string ⟨#[hexc 0]⟩) w:=K
theorem K9 (w:World):(Instr.slice 9 (.string ⟨#[48,49,50,51,52,53,54,55,56,57,97,98,99,100,101,102]⟩) (some (.int .i64 ((1:Nat):Int))) (some (.int .i64 (((1:Nat):Int)+1))) none).run prog w=.ok (.string ⟨#[hexc 1]⟩) w:=K
theorem La (w:World):(Instr.slice 9 (.string ⟨#[48,49,50,51,52,53,54,55,56,57,97,98,99,100,101,102]⟩) (some (.int .i64 ((2:Nat):Int))) (some (.int .i64 (((2:Nat):Int)+1))) none).run prog w=.ok (.string ⟨#[hexc 2]⟩) w:=K
theorem Lb (w:World):(Instr.slice 9 (.string ⟨#[48,49,50,51,52,53,54,55,56,57,97,98,99,100,101,102]⟩) (some (.int .i64 ((3:Nat):Int))) (some (.int .i64 (((3:Nat):Int)+1))) none).run prog w=.ok (.string ⟨#[hexc 3]⟩) w:=K
theorem Lc (w:World):(Instr.slice 9 (.string ⟨#[48,49,50,51,52,53,54,55,56,57,97,98,99,100,101,102]⟩) (some (.int .i64 ((4:Nat):Int))) (some (.int .i64 (((4:Nat):Int)+1))) none).run prog w=.ok (.string ⟨#[hexc 4]⟩) w:=K
theorem Ld (w:World):(Instr.slice 9 (.string ⟨#[48,49,50,51,52,53,54,55,56,57,97,98,99,100,101,102]⟩) (some (.int .i64 ((5:Nat):Int))) (some (.int .i64 (((5:Nat):Int)+1))) none).run prog w=.ok (.string ⟨#[hexc 5]⟩) w:=K
theorem Le (w:World):(Instr.slice 9 (.string ⟨#[48,49,50,51,52,53,54,55,56,57,97,98,99,100,101,102]⟩) (some (.int .i64 ((6:Nat):Int))) (some (.int .i64 (((6:Nat):Int)+1))) none).run prog w=.ok (.string ⟨#[hexc 6]⟩) w:=K
theorem Lf (w:World):(Instr.slice 9 (.string ⟨#[48,49,50,51,52,53,54,55,56,57,97,98,99,100,101,102]⟩) (some (.int .i64 ((7:Nat):Int))) (some (.int .i64 (((7:Nat):Int)+1))) none).run prog w=.ok (.string ⟨#[hexc 7]⟩) w:=K
theorem Lg (w:World):(Instr.slice 9 (.string ⟨#[48,49,50,51,52,53,54,55,56,57,97,98,99,100,101,102]⟩) (some (.int .i64 ((8:Nat):Int))) (some (.int .i64 (((8:Nat):Int)+1))) none).run prog w=.ok (.string ⟨#[hexc 8]⟩) w:=K
theorem Lh (w:World):(Instr.slice 9 (.string ⟨#[48,49,50,51,52,53,54,55,56,57,97,98,99,100,101,102]⟩) (some (.int .i64 ((9:Nat):Int))) (some (.int .i64 (((9:Nat):Int)+1))) none).run prog w=.ok (.string ⟨#[hexc 9]⟩) w:=K
theorem IM (w:World):(Instr.slice 9 (.string ⟨#[48,49,50,51,52,53,54,55,56,57,97,98,99,100,101,102]⟩) (some (.int .i64 ((10:Nat):Int))) (some (.int .i64 (((10:Nat):Int)+1))) none).run prog w=.ok (.string ⟨#[hexc 10]⟩) w:=K
theorem IN (w:World):(Instr.slice 9 (.string ⟨#[48,49,50,51,52,53,54,55,56,57,97,98,99,100,101,102]⟩) (some (.int .i64 ((11:Nat):Int))) (some (.int .i64 (((11:Nat):Int)+1))) none).run prog w=.ok (.string ⟨#[hexc 11]⟩) w:=K
theorem IP (w:World):(Instr.slice 9 (.string ⟨#[48,49,50,51,52,53,54,55,56,57,97,98,99,100,101,102]⟩) (some (.int .i64 ((12:Nat):Int))) (some (.int .i64 (((12:Nat):Int)+1))) none).run prog w=.ok (.string ⟨#[hexc 12]⟩) w:=K
theorem IQ (w:World):(Instr.slice 9 (.string ⟨#[48,49,50,51,52,53,54,55,56,57,97,98,99,100,101,102]⟩) (some (.int .i64 ((13:Nat):Int))) (some (.int .i64 (((13:Nat):Int)+1))) none).run prog w=.ok (.string ⟨#[hexc 13]⟩) w:=K
theorem IR (w:World):(Instr.slice 9 (.string ⟨#[48,49,50,51,52,53,54,55,56,57,97,98,99,100,101,102]⟩) (some (.int .i64 ((14:Nat):Int))) (some (.int .i64 (((14:Nat):Int)+1))) none).run prog w=.ok (.string ⟨#[hexc 14]⟩) w:=K
theorem IS (w:World):(Instr.slice 9 (.string ⟨#[48,49,50,51,52,53,54,55,56,57,97,98,99,100,101,102]⟩) (some (.int .i64 ((15:Nat):Int))) (some (.int .i64 (((15:Nat):Int)+1))) none).run prog w=.ok (.string ⟨#[hexc 15]⟩) w:=K
theorem BB (d:Nat)(h:d<16)(w:World):(Instr.slice 9 (.string ⟨#[48,49,50,51,52,53,54,55,56,57,97,98,99,100,101,102]⟩) (some (.int .i64 (d:Int))) (some (.int .i64 ((d:Int)+1))) none).run prog w=.ok (.string ⟨#[hexc d]⟩) w:=by
 have:d=0\/d=1\/d=2\/d=3\/d=4\/d=5\/d=6\/d=7\/d=8\/d=9\/d=10\/d=11\/d=12\/d=13\/d=14\/d=15:=O;rcases this with rfl|rfl|rfl|rfl|rfl|rfl|rfl|rfl|rfl|rfl|rfl|rfl|rfl|rfl|rfl|rfl
 ·exact K8 w
 ·exact K9 w
 ·exact La w
 ·exact Lb w
 ·exact Lc w
 ·exact Ld w
 ·exact Le w
 ·exact Lf w
 ·exact Lg w
 ·exact Lh w
 ·exact IM w
 ·exact IN w
 ·exact IP w
 ·exact IQ w
 ·exact IR w
 ·exact IS w
theorem AC {a b:ByteArray}(h:a=b):Value.string a=.string b:=by rw[h]
theorem Q5 (l r:List UInt8):(⟨l.toArray⟩:ByteArray)++⟨r.toArray⟩=⟨(l++r).toArray⟩:=by
 apply ByteArray.ext;simp
theorem Fa (k:Nat):∀(m:Int) (w:World),0<=m->m<65536->m<=k->Jf 73 #[Jk m,Jk 10] w (Jz w (.string ⟨(X1 10 m.toNat).toArray⟩)):=by
 induction k with
 |zero=>
  exact JdF
 |succ k b=>
  intro m w X j A;by_cases W:m<10
  ·obtain⟨N,rfl⟩:∃N:Nat,m=N:=⟨m.toNat,O⟩
   have g:=BB N O;clear b;exact Jep
  ·have d:=H b;have s:m.tdiv 10=m/10:=Jaw X;have B:m.tmod 10=m%10:=Jax X;have z:IntKind.i64.wrap (m/10)=m/10:=Jay _ O;have u:IntKind.i64.wrap (m%10)=m%10:=Jay _ O;have n:(X1 10 (m/10).toNat).length<=100000:=by have:=Aw 10 _ _ (Je (m/10).toNat);omega
   have y:(X1 10 (m%10).toNat).length<=100000:=by have:=Aw 10 _ _ (Je (m%10).toNat);omega
   have o:(X1 10 (m/10).toNat).length+(X1 10 (m%10).toNat).length<=9223372036854775807:=O;have t:((X1 10 (m/10).toNat).length:Int)+((X1 10 (m%10).toNat).length:Int)<=9223372036854775807:=O;have r:=XM (X1 10 (m/10).toNat) (X1 10 (m%10).toNat) (by have:=Aw 10 _ _ (Je (m/10).toNat);omega) (by have:=Aw 10 _ _ (Je (m%10).toNat);omega);clear b;go_enter func73,ntmps73
   go_wp2_with fail
   refine JM K K ?_;iterate 4 go_big_quiet_step (fail)
   go_big_quiet_step ((go_at_call 73;exact JD (d (m/10) _ O O O)))
   iterate 4 go_big_quiet_step (fail)
   go_big_quiet_step ((go_at_call 73;exact JD (d (m%10) _ O O O)))
   repeat go_big_quiet_step (fail)
   refine Jaa ?_;intro x;go_wp2_with fail
   go_ret;refine .mk (AC ?_) x.below;have l:m.toNat/10=(m/10).toNat:=O;have e:m.toNat%10=(m%10).toNat:=O;rw[X1.eq_def 10 m.toNat,dif_neg O,l,e,X1.eq_def 10 (m%10).toNat,Jan O];exact Q5 _ [_]
def MV (w:World)(a:Nat)(l:List UInt8):Ending->World->Prop:=λe d=>∃(n:Int) (ok:Bool),e=.returned (.tuple #[Jk n,ok])/\-9223372036854775808<=n/\n<=9223372036854775807/\((ok=true/\0<=n/\DJ a l=some n.toNat)\/(ok=false/\DJ a l=none))/\Ji w d
theorem Xm (w:World)(s:ByteArray):Below w.heap.size w (Lib.bytesWorld w 5 s):=by
 exact Joins.below_bytesWorld _ _ _ _ (Je _)
theorem MV.no {w d:World}{a:Nat}{l:List UInt8}{n:Int}{b:Bool}(h:DJ a l=none)(g:b=false)(j:-9223372036854775808<=n)(y:n<=9223372036854775807)(R:Ji w d):MV w a l (.returned (.tuple #[Jk n,b])) d:=
 ⟨n,b,rfl,j,y,.inr ⟨g,h⟩,R⟩
theorem OJ (l:List UInt8):-9223372036854775808<=Lib.atoiSat l/\Lib.atoiSat l<=9223372036854775807:=by
 unfold Lib.atoiSat;split<;>decide
theorem MW (G:ByteArray)(l:Nat)(F:l<=1000000)(z:G.size<=1000)(w:World)(A:Env w):Jf 172 #[.string G,Jk l] w (MV w l G.data.toList):=by
 have L:=P4 l F G.data.toList;have r:=H A;clear A;cases hv:Lib.atoiAll G.data.toList with
 |ok v=>
  rw[hv] at L;simp only at L;have d:=H (λw=>strconv_Atoi_ok G O v hv w);have b:-9223372036854775808<=v/\v<=9223372036854775807:=Lib.atoiAll_bounds hv;clear hv;by_cases X:0<=v
  ·by_cases j:v<l
   ·have a:=H L;clear L;go_enter func172,ntmps172
    go_wp2_with fail
    refine Jb (d.out w) ?_;rintro e V ⟨rfl,R⟩
    have g:Ji w V:=by
     rcases R with rfl|⟨t,rfl⟩
     ·exact Jc _ _
     ·exact Xm _ _
    clear R;go_wp2_with fail
    refine Jb (strconv_Itoa v b.1 b.2 V (r.below g).tab) ?_;rintro e w2 ⟨rfl,R⟩
    have C:Ji w w2:=by
     obtain⟨k,I,rfl⟩:=R;exact g.trans (Lib.below_grow _ _ g.size _ _)
    clear R;go_wp2_with fail
    go_ret2;refine⟨v,_,rfl,b.1,b.2,?_,C⟩;have o:=a.out;by_cases y:Lib.itoa v=G.data.toList
    ·rw[YH ⟨X,j,y⟩] at o;refine .inl ⟨?_,X,o⟩;have Y:Lib.itoa v=G.toList:=by rw[y,A1]
     simp[Y]
    ·rw[Yw (by simp[y])] at o;refine .inr ⟨?_,o⟩;have Y:¬Lib.itoa v=G.toList:=λe=>y (by rw[e,A1])
     simpa using Y
   ·exact Jde
  ·exact Jde
 |range=>
  rw[hv] at L;obtain⟨s,p,n⟩:=r.rng;have d:=H (strconv_Atoi_range G O hv _ w n (.inr ⟨s,p,rfl⟩));have a:=H L;have u:=OJ G.data.toList;clear L hv n;generalize Lib.atoiSat G.data.toList=J at*;go_enter func172,ntmps172
  go_wp2_with fail
  refine Jb d.out ?_;rintro e V ⟨E,rfl,-,-,g⟩;go_wp2_with fail
  go_ret2;exact .no a rfl u.1 u.2 g
 |_=>
  rw[hv] at L;obtain⟨s,p,n⟩:=r.syn;have d:=H (strconv_Atoi_syntax G O hv _ w n (.inr ⟨s,p,rfl⟩));have a:=H L;clear L hv n;go_enter func172,ntmps172
  go_wp2_with fail
  refine Jb d.out ?_;rintro e V ⟨E,rfl,-,-,g⟩;go_wp2_with fail
  go_ret2;exact .no a rfl D D g
open Go.RowKit
theorem Jdv{p:Prop}(h:p:=by
 have L:N=0\/N=1\/N=2\/N=3\/N=4\/N=5\/N=6\/N=7\/N=8\/N=9\/N=10\/N=11\/N=12\/N=13\/N=14\/N=15:=O;rcases L with rfl|rfl|rfl|rfl|rfl|rfl|rfl|rfl|rfl|rfl|rfl|rfl|rfl|rfl|rfl|rfl<;>rfl):p:=h
theorem Hp (l:List UInt8):strOfNums (l.map λb=>(b.toNat:Int))=⟨l.toArray⟩:=by
 have h:((λn:Int=>UInt8.ofNat n.toNat) ∘ λb:UInt8=>(b.toNat:Int))=id:=by funext b;simp
 simp[strOfNums,h]
theorem IT {b:Type}(a:List b)(J:Nat)(h:J<a.length)(v:b):(a.set J v).drop J=v::a.drop (J+1):=by
 rw[Jas (by simpa using h),List.getElem_set_self,List.drop_set_of_lt O]
theorem P7 (b a:Nat)(g:2<=b)(h:b<=a):X1 b a=X1 b (a/b)++[hexc (a%b)]:=by
 rw[X1,dif_neg O]
theorem P8 (b u:Nat)(h:u<b):X1 b u=[hexc u]:=by
 rw[X1,Jan O]
theorem UV (N:Nat)(h:N<16)(w:World):
 (Instr.index 9 (.string ⟨#[48,49,50,51,52,53,54,55,56,57,97,98,99,100,101,102,103,104,105,106,107,108,109,110,111,112,113,114,115,116,117,118,119,120,121,122]⟩) (Jo (N:Int))).run prog w=.ok (Jq ((hexc N).toNat:Int)) w:=by
 rw[run_index_string w 9 _ .u64 N underlying9,Jan (by
  have:(ByteArray.size ⟨#[48,49,50,51,52,53,54,55,56,57,97,98,99,100,101,102,103,104,105,106,107,108,109,110,111,112,113,114,115,116,117,118,119,120,121,122]⟩)=36:=rfl;omega)]
 exact Jdv
theorem P9 (N:Nat)(h:N<16)(a:N<(ByteArray.size ⟨#[48,49,50,51,52,53,54,55,56,57,97,98,99,100,101,102,103,104,105,106,107,108,109,110,111,112,113,114,115,116,117,118,119,120,121,122]⟩)):
 (⟨#[48,49,50,51,52,53,54,55,56,57,97,98,99,100,101,102,103,104,105,106,107,108,109,110,111,112,113,114,115,116,117,118,119,120,121,122]⟩:ByteArray)[N]=hexc N:=by
 exact Jdv
def IU (a w:World)(k:Nat)(l:List UInt8):Prop:=∃b,J8 w a.heap.size 1 (some ⟨a.heap.size,0,none⟩) 65 65 b/\l.length=k/\b.drop (65-k)=l.map λ(c:UInt8)=>Value.int .u8 (c.toNat:Int)
theorem IU.more {b w:World}{k:Nat}{l:List UInt8}(h:IU b w k l)(J:Nat)(g:J+1+k=65)(c:UInt8):IU b (w.setCell ⟨b.heap.size,J,none⟩ (Jq (c.toNat:Int))) (k+1) (c::l):=by
 obtain⟨d,e,M,L⟩:=h;have j:d.length=65:=by have:=e.len;omega
 refine⟨d.set J (Jq (c.toNat:Int)),?_,by rw[Yy,M],?_⟩
 ·have:=e.set J O (Jq (c.toNat:Int));rwa [WM] at this
 ·rw[show 65-(k+1)=J from O,IT d J O,show J+1=65-k from O,L];rfl
theorem IU.cell {b w:World}{k:Nat}{l:List UInt8}(h:IU b w k l)(J:Nat)(E:J<65):(∃d,Jg w b.heap.size J d)/\w.frozen? ⟨b.heap.size,J,none⟩=false:=by
 obtain⟨A,o,M,L⟩:=h;obtain⟨g,z,e,F,u,I,r⟩:=o.here O;cases e;obtain⟨j,y⟩:=r J O;rw[WM] at j y;exact⟨W7.1 j,y⟩
theorem IU.reads {j w:World}{k:Nat}{l:List UInt8}(h:IU j w k l)(A:k<=65)(u:0<k):JA w (some ⟨j.heap.size,65-k,none⟩) k k (l.map λc=>(c.toNat:Int)):=by
 obtain⟨b,d,M,L⟩:=h;have C:b.length=65:=by have:=d.len;omega
 obtain⟨r,z,e,g,o,I,B⟩:=d.here O;cases e;refine⟨by rw[Jaz,M],Je _,by unfold maxLen;omega,?_,.inr ⟨_,_,rfl,o,λJ t=>?_⟩⟩
 ·intro v n;obtain⟨c,-,rfl⟩:=Yq.1 n;have:=c.toNat_lt;omega
 ·have:=I (65-k+J) (b[65-k+J]' O) (by simp);rw[WM] at this;rw[this];have y:(b.drop (65-k))[J]? =(l.map λ(c:UInt8)=>Value.int .u8 (c.toNat:Int))[J]?:=by rw[L]
  rw[W6,W2 O,Yk,W2 O] at y;rw[Yp y,BS _ _ (by simpa[M] using t)];rw[List.getElem_map]
theorem T7:zeroCells316.toList.take 65=List.replicate 65 (.int .u8 0):=K
theorem SM:zeroCells316.size=65:=K
theorem SN (a:Nat)(y:a<65536)(w:World)(g:Jg w 7 15 (Jq 4)):
 Jf 216 #[Jbo,Jo (a:Int),Jk 16,false,false] w (Jz w (.tuple #[Jbo,.string ⟨(X1 16 a).toArray⟩])):=by
 have n:=H g;have p:Hid (Below w.heap.size w (w.alloc (.cells zeroCells316 316))):=H (Below.all (Jc _ _) _);have B:Hid (IU w (w.alloc (.cells zeroCells316 316)) 0 []):=H ⟨List.replicate 65 (.int .u8 0),J8.made _ 65 65 _ _ (Je _) (by rw[SM];decide) (Je _) D (by rw[JaA];exact T7),rfl,by simp⟩;clear g;go_enter func216,ntmps216
 go_wp2_with fail
 refine Jb (Vz _) ?_;rintro e w2 ⟨rfl,rfl⟩;go_wp2_with fail
 generalize w.alloc (.cells zeroCells316 316)=V at*;refine Jb (Vy _ ((p.cell (Jar w _ n)).trans n)) ?_;rintro e w2 ⟨rfl,rfl⟩;go_wp2_with fail
 go_loopw [1,13] (λu1 u13 wr=>∃(v i k:Nat) (l:List UInt8),u1=.int .u64 v/\u13=.int .i64 i/\i+k=65/\((k=0/\v<65536)\/(k=1/\v<4096)\/(k=2/\v<256)\/(k=3/\v<16))/\Hid (X1 16 a=X1 16 v++l)/\Hid (IU w wr k l)/\Hid (Ji w wr)) (λu1 _ _=>intOf u1 |>.toNat)
 case atStart=>exact⟨a,65,0,[],rfl,rfl,rfl,.inl ⟨rfl,y⟩,H (by simp),B,p⟩
 case round=>
  obtain⟨v,i,k,l,rfl,rfl,t,M,r,j,o⟩:=hrel;obtain⟨J,rfl⟩:∃J,i=J+1:=⟨i-1,O⟩
  obtain⟨⟨G,I⟩,N⟩:=j.cell J O;by_cases z:16<=v
  ·have L:bits BinOp.and IntKind.u64 (v:Int) 15=((v%16:Nat):Int):=by
    rw[show(15:Int)=((15:Nat):Int) from rfl,u64_and_nat v 15 O D,show 15=2^4-1 from rfl,JaB]
   have b:=H (P7 16 v D z);go_wp2_with fail
   rw[P9 _ (Yu _ D)];go_roundw
   case rel=>exact⟨v/16,J,k+1,hexc (v%16)::l,by go_num,rfl,O,O,H (by rw[r.out,b.out,Jao];rfl),H (j.more J t _),H (o.setCell (Je _) _)⟩
   case measure=>simp[intOf];omega
  ·have s:v<16:=O;have b:=H (P8 16 v s);have F:(J:Int)<=65:=O;have E:¬(65=J):=O;go_wp2_with fail
   rw[P9 _ s];have u:=(j.more J t (hexc v)).reads O O;have d:=Qm (P:=prog) 22 5 underlying22 underlying5 u 9 underlying9;rw[Hp,show 65-(k+1)=J from O,show k+1=65-J from O] at d;have A:=H (show Below w.heap.size w (wr.setCell ⟨w.heap.size,J,none⟩ (Jq ((hexc v).toNat:Int))) from o.setCell (Je _) _);have C:Hid (hexc v::l=X1 16 a):=H (by rw[r.out,b.out];rfl);rw[d];clear u d;go_wp2_with fail
   go_ret2;exact .mk (by rw[<-C.out];rfl) A
theorem T8 (a:Nat)(b:a<65536)(w:World)(g:Jg w 7 15 (Jq 4)):
 Jf 180 #[Jo (a:Int),Jk 16] w (Jz w (.string ⟨(X1 16 a).toArray⟩)):=by
 go_enter func180,ntmps180
 go_wp2_with fail
 refine Calls.later (SN a b w g) ?_;intro x;go_wp2_with fail
 go_ret;exact .mk rfl (Ww (Jc _ _))
theorem UW (a:Nat)(d:a<65536)(w:World)(g:Env w):
 Jf 130 #[Jo (a:Int),Jk 16] w (Jz w (.string ⟨(X1 16 a).toArray⟩)):=by
 have b:=g.bits;clear g;go_enter func130,ntmps130
 go_wp2_with fail
 refine Calls.later (T8 a d w b) ?_;intro x;go_wp2_with fail
 go_ret;exact .mk rfl (Ww (Jc _ _))
open Go.RowKit
theorem JdZ{p:Prop}(h:p:=by
 simp[Value.oneCell']):p:=h
theorem OK (c:UInt8)(l:List UInt8):∃a b,Ql c l=a++[b]:=
 ⟨(Ql c l).dropLast,(Ql c l).getLast (CC c l),(JaC (CC c l)).symm⟩
theorem CF (c x:UInt8):∀(l:List UInt8) (I:List (List UInt8)) (b:List UInt8),Ql c l=I++[b]->Ql c (l++[x])=if x=c then I++[b]++[[]] else I++[b++[x]]
 |[],I,b,h=>by
  have e:I=[]/\b=[]:=by
   cases I with
   |nil=>simpa[Ql] using h.symm
   |cons a t=>simp[Ql] at h
  obtain⟨rfl,rfl⟩:=e;rw[Jah,Ql];split
  ·simp[Ql]
  ·simp[Ql]
 |y::l,I,b,h=>by
  rw[Yx,Ql];rw[Ql] at h;by_cases d:y=c
  ·rw[YH d] at h|-;cases I with
   |nil=>
    simp only[Jah,JaD] at h;exact absurd h.2 (CC c l)
   |cons a t=>
    simp only[Yx,JaD] at h;rw[CF c x l t b h.2,<-h.1];split<;>rfl
  ·rw[Yw d] at h|-;cases hl:Ql c l with
   |nil=>exact absurd hl (CC c l)
   |cons L g=>
    rw[hl] at h;simp only at h;cases I with
    |nil=>
     simp only[Jah,JaD] at h;obtain⟨rfl,rfl⟩:=h;rw[CF c x l [] L hl];by_cases P:x=c<;>simp[P]
    |cons a t=>
     simp only[Yx,JaD] at h;obtain⟨rfl,rfl⟩:=h;rw[CF c x l (L::t) b (by rw[hl];rfl)];by_cases P:x=c<;>simp[P]
theorem ZK (c:UInt8):∀(l:List UInt8),∀p∈Ql c l,p.length<=l.length
 |[],p,h=>by simp[Ql] at h;simp[h]
 |x::T,p,h=>by
  rw[Ql] at h;split at h
  ·rcases YE.1 h with rfl|h
   ·simp
   ·have:=ZK c T p h;simp;omega
  ·cases hr:Ql c T with
   |nil=>rw[hr] at h;simp only[YI] at h;subst h;simp
   |cons L d=>
    rw[hr] at h;simp only at h;have b:=ZK c T;rw[hr] at b;rcases YE.1 h with rfl|h
    ·have:=b L (Yf ..);simp;omega
    ·have:=b p (Yg _ h);simp;omega
theorem Xy (c:UInt8):∀(l:List UInt8),(Ql c l).length<=l.length+1
 |[]=>by simp[Ql]
 |x::T=>by
  have b:=Xy c T;rw[Ql];split
  ·simp only[Yy];omega
  ·cases hr:Ql c T with
   |nil=>simp
   |cons L d=>rw[hr] at b;simp only[Yy] at b|-;omega
def Bv (l:List UInt8):Value:=.string ⟨l.toArray⟩
def CG (w:World)(a:List (List UInt8)):Ending->World->Prop:=λe d=>
 ∃s o,e=.returned (.slice s a.length o)/\J8 d w.heap.size 1 s a.length o (a.map Bv)/\Ji w d
theorem Ra (s:ByteArray)(k:Nat)(h:k<s.size)(w:World):(Instr.slice 9 (.string s) (some (.int .i64 (k:Int))) (some (.int .i64 ((k:Int)+1))) none).run prog w=.ok (.string ⟨[s[k]].toArray⟩) w:=by
 have e:s.extract k (k+1)=⟨[s[k]].toArray⟩:=by
  apply JaE;rw[Lib.extract_data];have:=ZC s k h;rw[show k+1-k=1 from O,this];rfl
 rw[run_slice_string w 9 s .i64 .i64 (k:Int) ((k:Int)+1) underlying9 O O O];rw[show((k:Int)+1).toNat=k+1 from O,Jak,e]
theorem DL:(prog.info? 9).map (λi=>(i.zero,i.size,i.bytes))=some (some (.string ⟨#[]⟩),1,16):=K
theorem IV (G:ByteArray)(c:UInt8)(w:World)(aD:G.size<=1000):Jf 60 #[.string G,Jq (c.toNat:Int)] w (CG w (Ql c G.data.toList)):=by
 go_enter func60,ntmps60
 go_wp2_with fail
 go_loopw [5,6] (λu5 u6 wr=>∃(k:Nat) (s:Option Addr) (n o:Nat) (j:List (List UInt8)),k<=G.size/\u6=.int .i64 k/\u5=.slice s n o/\Hid (n=j.length)/\Hid (Ql c (G.data.toList.take k)=j)/\Hid (J8 wr w.heap.size 1 s n o (j.map Bv))/\Hid (Ji w wr)) (λ_ u6 _=>(G.size:Int)-intOf u6 |>.toNat)
 case atStart=>
  exact⟨0,_,1,1,[[]],WG _,rfl,rfl,H rfl,H rfl,H (J8.made _ 1 1 _ _ (Je _) (Je 1) (Je 1) D rfl),H ((Jc _ _).alloc (Je _) _)⟩
 case round=>
  obtain⟨k,s,n,o,j,ax,rfl,rfl,y,C,l,F⟩:=hrel;by_cases N:k<G.size
  ·have U:=HW G k N;obtain⟨b,d,z⟩:=OK c (G.data.toList.take k);have R:=CF c G[k] _ b d z;rw[<-U] at R;have Q:j=b++[d]:=C.symm.trans z;have T:=H R;have J:=H Q;have B:n=b.length+1:=by rw[y.out,Q];simp
   have ap:d.length<=1000:=by
    have:=ZK c (G.data.toList.take k) d (by rw[z];simp);rw[WR] at this;omega
   have ao:n<=1001:=by
    have:=Xy c (G.data.toList.take k);rw[C.out,<-y.out,WR] at this;omega
   have an:=H B;clear R Q U z B;have aB:=CD G k N _ rfl;by_cases P:G[k]=c
   ·have Y:((G[k].toNat:Int)==(c.toNat:Int))=true:=by rw[P];simp
    go_wp2_with (at_builtin;refine JJ.of ?_)
    refine JJ.mk ?_;have g:=F.out;refine J7 _ rfl _ _ 76 rfl 9 (.string ⟨#[]⟩) 1 16 w.heap.size underlying76 DL rfl D s n o _ rfl (l.alloc _) ⟨wr.heap.size,0,none⟩ 1 1 [.string ⟨#[]⟩] rfl rfl ?_ ?_ D ?_ ?_ ?_ ?_
    ·exact X5 _ _ _
    ·exact JdZ
    ·unfold maxLen;omega
    ·omega
    ·simp only[Jai];have:=g.size;omega
    intro aa al am ae L ac;have aj:Ji w am:=Wv (g.alloc g.size _) (l.alloc _) (Je _) L (by simp only[Jai];have:=g.size;omega);have S:Hid (Ql c (G.data.toList.take (k+1))=j++[[]]):=H (by rw[T.out,YH P,J.out]);clear L ac g;go_wp2_with fail
    go_roundw
    case rel=>
     refine⟨k+1,aa,n+1,al,j++[[]],O,by go_num,by first|rfl|(congr 1),H (by rw[WV,y.out];rfl),S,H ?_,H aj⟩;rw[Jaj];exact ae
    case measure=>simp[intOf];omega
   ·obtain rfl:=an.out;obtain⟨r,u,rfl,ai,L,I,W⟩:=l.here O;have X:=I b.length (Bv d) (by rw[J.out,Jaj,WZ (by simp)];simp);have au:=(W b.length (by have:=l.le;omega)).2;have aw:=l.le;unfold Bv at X;obtain⟨t,A⟩:∃t,[G[k]]=t:=⟨_,rfl⟩
    have af:t.length=1:=by rw[<-A];rfl
    have ad:=XM d t O O;have ak:Hid (d.length+t.length<=9223372036854775807):=H O;have V:=Ra G k N;rw[A] at V;have ab:=H A;clear A af
    have Y:((G[k].toNat:Int)==(c.toNat:Int))=false:=by
     have:G[k].toNat≠c.toNat:=λe=>P (UInt8.toNat_inj.1 e)
     simp;omega
    clear I W;generalize G[k]=x at*;go_wp2_with fail
    have aA:b.length<=1000:=O;have aC:IntKind.i64.wrap (b.length:Int)=(b.length:Int):=Jay _ O;have ay:(0:Int)<=(b.length:Int):=O;have aq:(b.length:Int)<(b.length:Int)+1:=O;clear ap ao;have ar:=ak.out;go_region
    have E:(Value.string ((⟨d.toArray⟩:ByteArray)++⟨t.toArray⟩))=Bv (d++[x]):=by rw[Q5,<-ab.out];rfl
    rw[E];have av:=H E;have S:Hid (Ql c (G.data.toList.take (k+1))=b++[d++[x]]):=H (by rw[T.out,Yw P])
    have ag:Hid (J8 (wr.setCell ⟨r,u+b.length,none⟩ (Bv (d++[x]))).drew w.heap.size 1 (some ⟨r,u,none⟩) (b.length+1) o ((b++[d++[x]]).map Bv)):=H (by
     have h:=(l.set b.length O (Bv (d++[x]))).drew
     have e:(j.map Bv).set b.length (Bv (d++[x]))=(b++[d++[x]]).map Bv:=by
      rw[J.out,Jaj,Jaj,List.set_append_right _ _ (by simp)];simp
     rwa [e] at h)
    have ah:Hid (Below w.heap.size w (wr.setCell ⟨r,u+b.length,none⟩ (Bv (d++[x]))).drew):=H ((F.setCell (by simp only;exact ai) _).drew);clear E X ad V;generalize (wr.setCell ⟨r,u+b.length,none⟩ (Bv (d++[x]))).drew=az at*;go_wp2_with fail
    go_roundw
    case rel=>exact⟨k+1,some ⟨r,u,none⟩,b.length+1,o,b++[d++[x]],O,by go_num,rfl,H (by simp),S,ag,ah⟩
    case measure=>simp[intOf];omega
  ·obtain rfl:k=G.size:=O;have Z:Hid (G.data.toList.take G.size=G.data.toList):=H (Jav (by rw[WS,Jat];exact Je _));go_wp2_with fail
   go_ret;have M:=C.out;rw[Z.out] at M;obtain rfl:=y.out;rw[M];exact⟨s,o,rfl,l.out,F.out⟩
open Go.RowKit
theorem DM {e d:Type}(f:e->Option d)(l:List e)(x:e)(a:List d)(b:d)(h:l.mapM f=some a)(P:f x=some b):(l++[x]).mapM f=some (a++[b]):=by
 simp[List.mapM_append,JaF,h,P]
theorem DN {b d:Type}(f:b->Option d)(l:List b)(k:Nat)(A:k<l.length)(P:f l[k]=none):l.mapM f=none:=by
 cases h:l.mapM f with
 |none=>rfl
 |some a=>
  exfalso
  have e:l=l.take k++l[k]::l.drop (k+1):=by rw[<-Jas A,List.take_append_drop]
  rw[e,List.mapM_append,JaF,P] at h;cases h2:(l.take k).mapM f<;>simp[h2] at h
theorem DO {e d:Type}(f:e->Option d):∀(l:List e) (a:List d),l.mapM f=some a->a.length=l.length
 |[],a,h=>by simp at h;subst h;rfl
 |x::l,a,h=>by
  rw[JaF] at h;cases hx:f x with
  |none=>rw[hx] at h;simp at h
  |some b=>
   cases hl:l.mapM f with
   |none=>rw[hx,hl] at h;simp at h
   |some c=>rw[hx,hl] at h;simp at h;subst h;simp[DO f l c hl]
def OL (w:World)(C:Option (List Nat)):Ending->World->Prop:=λe d=>
 (C=none/\e=.returned (.tuple #[Jbo,false])/\Ji w d)\/
 (∃a s o,C=some a/\e=.returned (.tuple #[.slice s a.length o,true])/\J8 d w.heap.size 1 s a.length o (a.map λ(n:Nat)=>Value.int .i64 (n:Int))/\Ji w d)
theorem CH:(prog.info? 3).map (λi=>(i.zero,i.size,i.bytes))=some (some (.int .i64 0),1,8):=K
theorem OM (G:ByteArray)(w:World)(z:G.size<=1000):Jf 175 #[.string G] w (OL w (Qn G.data.toList)):=by
 by_cases A:G=⟨#[]⟩
 ·subst A;go_enter func175,ntmps175
  go_wp2_with fail
  go_ret2;exact .inr ⟨[],none,0,rfl,rfl,J8.nil _ _ _,Jc _ _⟩
 ·have T:G.data.toList≠[]:=λe=>A (by cases G;rename_i az;cases az;simp only at e;subst e;rfl)
  have S:Qn G.data.toList=(Ql 58 G.data.toList).mapM FK:=by rw[Qn,Yw T]
  have B:=H S;have ay:G.data.toList.length=G.size:=by rw[WS,Jat]
  have ap:Hid (∀p∈Ql 58 G.data.toList,p.length<=1000):=H (λp ag=>by have:=ZK 58 _ p ag;omega);have E:Hid ((Ql 58 G.data.toList).length<=1001):=H (by have:=Xy 58 G.data.toList;omega);have ar:=H (λw=>IV G 58 w z)
  have aE:G.toList.isEmpty=false:=by rw[A1];cases h:G.data.toList with
   |nil=>exact absurd h T
   |cons aB aC=>rfl
  clear A S ay z;generalize Ql 58 G.data.toList=a at*;go_enter func175,ntmps175
  go_wp2_with fail
  refine Jb (ar w) ?_;rintro e V ⟨aH,aF,rfl,y,l⟩;have aA:=E.out;generalize J:a.length=u at*;have X:=H J;clear J;have y:=H y;have l:=H l;go_wp2_with fail
  go_loopw [4,6] (λu4 u6 wr=>∃(k:Nat) (s:Option Addr) (o:Nat) (d:List Nat),k<=u/\u6=.int .i64 k/\u4=.slice s k o/\Hid (d.length=k)/\Hid ((a.take k).mapM FK=some d)/\Hid (J8 wr V.heap.size 1 s k o (d.map λ(n:Nat)=>Value.int .i64 (n:Int)))/\Hid (Ji V wr)) (λ_ u6 _=>(u:Int)-intOf u6 |>.toNat)
  case atStart=>
   exact⟨0,none,0,[],WG _,rfl,rfl,H rfl,H rfl,H (J8.nil _ _ _),H (Jc _ _)⟩
  case round=>
   obtain⟨k,s,o,d,aD,rfl,rfl,N,aa,L,g⟩:=hrel;have HOr:=y.below g;by_cases am:k<u
   ·have v:k<a.length:=by rw[X.out];exact am
    obtain⟨r,W,au,aG,F,I,ah⟩:=HOr.here O;subst au;have aj:=I k (Bv a[k]) (by simp[v]);have an:=ap.out a[k] (Yj v);have Y:a.take (k+1)=a.take k++[a[k]]:=by rw[Yt v]
    have aq:=H Y;have U:=H (λh=>DN FK a k v h);clear Y I ah;unfold Bv at aj;generalize a[k]=p at*;have av:(⟨p.toArray⟩:ByteArray).size=p.length:=by simp[ByteArray.size]
    have j:=H (λw=>EH ⟨p.toArray⟩ 16 65536 w (by rw[av];exact an) D D D);have ac:((⟨p.toArray⟩:ByteArray).data.toList)=p:=by simp
    rw[ac] at j;cases hn:Q0 16 65536 p with
    |none=>
     rw[hn] at j;have P:FK p=none:=by unfold FK;split<;>simp[hn]
     have t:=H (U P);clear hn P;go_wp2_with fail
     refine Jb (j wr) ?_;rintro e w2 ⟨rfl,b⟩;simp only[P6];go_wp2_with fail
     go_ret2;refine .inl ⟨?_,rfl,Wx l (Wx g b)⟩;rw[B.out,t.out]
    |some n=>
     rw[hn] at j;by_cases Q:p.length<=4
     ·have P:FK p=some n:=by unfold FK;rw[YH Q,hn]
      have t:Hid ((a.take (k+1)).mapM FK=some (d++[n])):=H (by rw[aq.out];exact DM _ _ _ _ _ aa P);clear hn P;go_wp2_with fail
      refine Jb (j wr) ?_;rintro e w2 ⟨rfl,b⟩;simp only[P6];have al:=b.cell (p:=⟨r,W+k,none⟩) (by first|omega|exact F);have M:=H (L.below b);have R:V.heap.size<=w2.heap.size:=WJ g.size b.size;have C:=H R;clear R;have ao:=H (Wx g b);go_wp2_with (at_builtin;refine JJ.of ?_)
      refine JJ.mk ?_;refine J7 _ rfl _ _ 275 rfl 3 (Jk 0) 1 8 V.heap.size underlying275 CH rfl D s k o _ rfl (M.alloc _) ⟨w2.heap.size,0,none⟩ 1 1 [.int .i64 n] rfl rfl ?_ ?_ D ?_ ?_ ?_ ?_
      ·exact X5 _ _ _
      ·exact JdZ
      ·have:=E.out;unfold maxLen;omega
      ·have:=E.out;omega
      ·simp only[Jai];have:=C.out;omega
      intro ax ai aw af ab ae;have Z:Ji V aw:=Wv (ao.alloc C _) (M.alloc _) (Je _) ab (by simp only[Jai];have:=C.out;omega);have ak:=H Z;clear ab ae Z;go_wp2_with fail
      go_roundw
      case rel=>
       refine⟨k+1,ax,ai,d++[n],O,by go_num,rfl,H (by rw[WV,N.out];rfl),t,H ?_,ak⟩;rw[Jaj];exact af
      case measure=>simp[intOf];omega
     ·have P:FK p=none:=by unfold FK;rw[Yw Q]
      have t:=H (U P);clear hn P;go_wp2_with fail
      refine Jb (j wr) ?_;rintro e w2 ⟨rfl,b⟩;simp only[P6];have al:=b.cell (p:=⟨r,W+k,none⟩) (by first|omega|exact F);go_wp2_with fail
      go_ret2;refine .inl ⟨?_,rfl,Wx l (Wx g b)⟩;rw[B.out,t.out]
   ·obtain rfl:k=u:=O;have ad:Hid (a.take k=a):=H (by rw[Jav (by rw[X.out];exact Je _)]);go_wp2_with fail
    go_ret2;obtain rfl:=N.out;exact .inr ⟨d,s,o,by rw[B.out,<-ad.out];exact aa,rfl,L.mono l.size,Wx l g⟩
end
end Go.Proofs.YtkgjbipfhhjlpaaGreatDoor
