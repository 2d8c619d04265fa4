import Derived.Test.YtkgjbipfhhjlpaaGreatDoorMq9
import Derived.Deep.RegionHeld3
import Derived.Deep.DrawnRows
set_option linter.unusedVariables false
set_option linter.unusedSimpArgs false
set_option maxRecDepth 100000
set_option maxHeartbeats 32000000
namespace Go.Proofs.YtkgjbipfhhjlpaaGreatDoor
open Go.Proofs.Tryz
section
open Go.RowKit
theorem LJ (p:Nat)(a:List Int)(w:World)(z:AM w p a):Jf 161 #[.pointer (some ⟨p,0,none⟩)] w (Jz w (Jl (sumOf a:Nat))):=by
 obtain⟨n,X,B,d⟩:=z.sum;have e:=H d;have l:=Cy n;have g:=H (λw=>Ob n O w);have j:Hid ((sumOf a:Nat)=65535-foldN n):=H (by unfold sumOf;rw[e.out]);clear z d;generalize foldN n=b at*;go_enter func161,ntmps161
 go_wp2_with fail
 refine Calls.later (g _) ?_;intro x;go_wp2_with fail
 go_ret;refine .mk ?_ x.below;rw[j.out];show Value.int .u16 (65535-(b:Int))=.int .u16 (((65535-b:Nat)):Int);congr 1
 omega
theorem JA.addr {w:World}{s:Option Addr}{n o:Nat}{l:List Int}(h:JA w s n o l):n=0\/∃r a,s=some ⟨r,a,none⟩/\r<w.heap.size:=by
 rcases h.at' with h|⟨r,a,e,M,-⟩
 ·exact .inl h
 ·exact .inr ⟨r,a,e,M⟩
theorem S3 (p:Nat)(a:List Int)(b:Option Addr)(c:Nat)(w:World)(z:AM w p a):Jf 160 #[.pointer (some ⟨p,0,none⟩),.slice b 0 c] w (Ki w p a):=by
 have d:=H z;clear z;go_enter func160,ntmps160
 go_wp2_with fail
 go_loopw [11] (λu11 wr=>u11=.int .i64 0/\wr=w) (λ_ _=>0)
 case atStart=>exact⟨rfl,rfl⟩
 case round=>
  obtain⟨rfl,rfl⟩:=hrel;go_wp2_with fail
  go_end0
  exact⟨rfl,d.out,Jc _ _⟩
theorem Up (p:Nat)(b:List Int)(d:Option Addr)(m c:Nat)(l:List Int)(w:World)(z:AM w p b)(u:JA w d m c l)(j:∀a,d=some a->a.block<p)(W:m<=1000000)(g:b.length<=1000000):
 Jf 160 #[.pointer (some ⟨p,0,none⟩),.slice d m c] w (Ki w p (b++l)):=by
 rcases u.addr with rfl|⟨r,e,rfl,-⟩
 ·have:l=[]:=List.length_eq_zero_iff.1 u.len;subst this;rw[Ja2];exact S3 p b d c w z
 ·exact S2 p b r e m c l w z u (j _ rfl) W g
structure XY (w:World)(p R k:Nat)(rs:List (List Int)):Prop where
 len:rs.length=k
 lt:R<p
 row:∀j (h:j<rs.length),∃A m cap,Jg w R j (.slice A m cap)/\JA w A m cap rs[j]/\m<=100000/\∀a,A=some a->a.block<p
theorem XY.below {w d:World}{p b k:Nat}{t:List (List Int)}(h:XY w p b k t)(z:Below p w d):XY d p b k t:=
 ⟨h.len,h.lt,λJ B=>by
   obtain⟨A,m,o,j,y,Y,e⟩:=h.row J B;exact⟨A,m,o,(z.cell (p:=⟨b,J,none⟩) h.lt).trans j,y.belowB z e,Y,e⟩⟩
theorem S4 (p n k c:Nat)(a:List (List Int))(w:World)(u:XY w p n k a)(z:AM w p [])(A:k<=8):
 Jf 159 #[.slice (some ⟨n,0,none⟩) k c,.func (.func 160) #[.pointer (some ⟨p,0,none⟩)] #[]] w (Ki w p a.flatten):=by
 have C:=H u;have L:=H z;have R:=u.len
 have N:Hid (∀i,i<=a.length->(a.take i).flatten.length<=100000*i):=H λi=>by
  induction i with
  |zero=>intro _;simp
  |succ i J=>
   intro F;have j:=J O;obtain⟨r,m,o,-,y,Y,-⟩:=u.row i O;have:=y.len;rw[Yt O,Ja3,WV];simp only[Ja4,List.flatten_nil,Ja2];omega
 clear u z;go_enter func159,ntmps159
 go_wp2_with fail
 go_loopw [8] (λu8 wr=>∃i:Nat,i<=k/\u8=.int .i64 i/\Hid (AM wr p (a.take i).flatten)/\Hid (Below p w wr)) (λu8 _=>(k:Int)-intOf u8 |>.toNat)
 case atStart=>exact⟨0,WG _,rfl,H (by simpa using L.out),H (Jc _ _)⟩
 case round=>
  obtain⟨i,F,rfl,d,b⟩:=hrel;by_cases Q:i<k
  ·obtain⟨r,m,o,I,t,W,v⟩:=(C.below b).row i O;have M:=H t;have G:=H v;have P:=N.out i O
   have g:Hid ((a.take (i+1)).flatten=(a.take i).flatten++a[i]):=H (by
    rw[Yt O,Ja3];simp)
   clear t v;go_wp2_with fail
   refine Jb (Up p _ r m o _ _ d M G O O) ?_;rintro e w2 ⟨rfl,l,s⟩;have B:Hid (AM w2 p (a.take (i+1)).flatten):=H (by rw[g.out];exact l);have E:=H (b.trans s);clear l s d b g I;go_wp2_with fail
   go_roundw
   case rel=>exact⟨i+1,O,by go_num,B,E⟩
   case measure=>simp[intOf];omega
  ·obtain rfl:i=k:=O;have g:Hid (AM wr p a.flatten):=H (by have:=d.out;rwa [Jav O] at this);clear d;go_wp2_with fail
   go_end0
   exact⟨rfl,g.out,b.out⟩
theorem Gy (d k c:Nat)(b:List (List Int))(w:World)(u:XY w w.heap.size d k b)(A:k<=8):Jf 113 #[.slice (some ⟨d,0,none⟩) k c] w (Jz w (Jl (sumOf b.flatten:Nat))):=by
 have n:Hid (XY (w.alloc (.cells #[Jo 0,Jk 0] 255)) w.heap.size d k b):=H (u.below (Below.all (Jc _ _) _));have o:Hid (AM (w.alloc (.cells #[Jo 0,Jk 0] 255)) w.heap.size []):=H ⟨⟨0,by go_cell,O,rfl⟩,by go_cell,λJ=>by go_cell,by simp⟩;clear u;go_enter func113,ntmps113
 go_wp2_with fail
 refine Jb (S4 w.heap.size d k c b _ n o A) ?_;rintro e w2 ⟨rfl,l,j⟩;have g:=H ((Below.all (Jc w.heap.size w) (.cells #[Jo 0,Jk 0] 255)).trans j);have p:=H l;clear l j;go_wp2_with fail
 refine Calls.later (LJ _ _ _ p) ?_;intro x;go_wp2_with fail
 go_ret;exact .mk rfl (g.trans (x.below.mono g.size))
theorem LK (l k c:Nat)(a:List (List Int))(w:World)(u:XY w w.heap.size l k a)(A:k<=8):Jf 106 #[.slice (some ⟨l,0,none⟩) k c] w (Jz w (.bool (XW a.flatten))):=by
 have g:=H (Gy l k c a w u A);have d:=H (SF a.flatten);have n:=DE a.flatten;clear u;generalize sumOf a.flatten=G at*;generalize XW a.flatten=b at*;go_enter func106,ntmps106
 go_wp2_with fail
 refine Calls.later g ?_;intro x;by_cases X:G=0
 ·subst X;have e:Hid (b=true):=H (by rw[<-d.out];rfl);clear d g;go_wp2_with fail
  go_ret;exact .mk (by rw[e.out];rfl) x.below
 ·have o:((G:Int)==0)=false:=by simp;omega
  have e:Hid (b=((G:Int)==65535)):=H (by
   rw[<-d.out];by_cases j:G=65535
   ·subst j;rfl
   ·rw[YB X,YB j,YB O];rfl)
  clear d g;go_wp2_with fail
  go_ret;exact .mk (by rw[e.out];rfl) x.below
theorem Gz:(prog.info? 124).map (λi=>(i.zero,i.size,i.bytes))=some (some (.int .u64 0),1,8):=K
def Vo (n:Nat):Value:=.int .u64 (n:Int)
theorem O0 (l:List Int)(i:Nat)(h:i<l.length):XE (l.drop i)=((l.getD i 0).toNat*256+(l.getD (i+1) 0).toNat)::XE (l.drop (i+2)):=by
 have b:l.drop i=l.getD i 0::l.drop (i+1):=by rw[Jas h,Yi,W2 h];rfl
 by_cases y:i+1<l.length
 ·have a:l.drop (i+1)=l.getD (i+1) 0::l.drop (i+2):=by rw[Jas y,Yi,W2 y];rfl
  rw[b,a,XE]
 ·have a:l.drop (i+1)=[]:=JaH O;have e:l.drop (i+2)=[]:=JaH O;have d:l.getD (i+1) 0=0:=by rw[Yi,W5 O];rfl
  rw[b,a,e,d,XE,XE];simp
def S5 (w:World)(a:List Nat):Ending->World->Prop:=λe d=>∃s o,e=.returned (.slice s a.length o)/\J8 d w.heap.size 1 s a.length o (a.map Vo)/\Ji w d
theorem RF (E:Option Addr)(m c:Nat)(l:List Int)(w:World)(u:JA w E m c l)(W:m<=1000000):Jf 196 #[.slice E m c] w (S5 w (XE l)):=by
 rcases u.addr with rfl|⟨ab,af,rfl,N⟩
 ·have:l=[]:=List.length_eq_zero_iff.1 u.len;subst this;clear u;go_enter func196,ntmps196
  go_wp2_with fail
  go_loopw [3,4] (λu3 u4 wr=>u3=.slice none 0 0/\u4=.int .i64 0/\wr=w) (λ_ _ _=>0)
  case atStart=>exact⟨rfl,rfl,rfl⟩
  case round=>
   obtain⟨rfl,rfl,rfl⟩:=hrel;go_wp2_with fail
   go_ret;exact⟨none,0,rfl,J8.nil _ _ _,Jc _ _⟩
 ·have v:=H u;have ag:=u.len;clear u;go_enter func196,ntmps196
  go_wp2_with fail
  go_loopw [3,4] (λu3 u4 wr=>∃(i:Nat) (s:Option Addr) (o:Nat) (a:List Nat),i<=m+1/\a.length<=i/\u4=.int .i64 i/\u3=.slice s a.length o/\Hid (a++XE (l.drop i)=XE l)/\Hid (J8 wr w.heap.size 1 s a.length o (a.map Vo))/\Hid (Ji w wr)) (λ_ u4 _=>(m:Int)+2-intOf u4 |>.toNat)
  case atStart=>exact⟨0,none,0,[],O,by simp,rfl,rfl,H rfl,H (J8.nil _ _ _),H (Jc _ _)⟩
  case round=>
   obtain⟨i,s,o,a,aa,Y,rfl,rfl,j,e,t⟩:=hrel;by_cases R:i<m
   ·have G:=H (v.belowB t (λae ha=>by cases ha;exact N));obtain⟨ad,Z,V,ac,I⟩:=G.here O;cases V;have F:=I i R;have P:=v.getD i;have C:=v.getD (i+1)
    have b:Hid (a++[(l.getD i 0).toNat*256+(l.getD (i+1) 0).toNat]++XE (l.drop (i+2))=XE l):=H (by
     rw[<-j.out,O0 l i O,Jao];rfl)
    have M:(i:Int)<m:=O;by_cases T:i+1<m
    ·have J:=I (i+1) T;have U:(i:Int)+1<m:=O;obtain⟨x,n⟩:∃x:Nat,l.getD i 0=x:=⟨(l.getD i 0).toNat,O⟩
     obtain⟨Q,r⟩:∃Q:Nat,l.getD (i+1) 0=Q:=⟨(l.getD (i+1) 0).toNat,O⟩
     rw[n] at F P b;rw[r] at C b J;simp only[Jak] at b;have g:=t.out;clear I n r j;go_wp2_with (at_builtin;refine JJ.of ?_)
     refine JJ.mk ?_;refine J7 _ rfl _ _ 252 rfl 124 (Jo 0) 1 8 w.heap.size underlying252 Gz rfl D s a.length o _ rfl (e.alloc _) ⟨wr.heap.size,0,none⟩ 1 1 [.int .u64 ((x:Int)*256+Q)] rfl rfl ?_ ?_ D ?_ ?_ ?_ ?_
     ·exact X5 _ _ _
     ·simp[Value.oneCell']
     ·unfold maxLen;omega
     ·omega
     ·simp only[Jai];have:=g.size;omega
     intro y B d z p L;have A:Ji w d:=Wv (g.alloc g.size _) (e.alloc _) (Je _) p (by simp only[Jai];have:=g.size;omega);clear p L g;go_wp2_with fail
     go_roundw
     case rel=>
      refine⟨i+2,y,B,a++[x*256+Q],O,by rw[WV];simp;omega,by go_num,by rw[WV];rfl,b,H ?_,H A⟩;rw[Jaj,WV];exact z
     case measure=>simp[intOf];omega
    ·have U:¬((i:Int)+1<m):=O;have X:l.getD (i+1) 0=0:=by rw[Yi,W5 O];rfl
     obtain⟨x,n⟩:∃x:Nat,l.getD i 0=x:=⟨(l.getD i 0).toNat,O⟩
     obtain⟨Q,r⟩:∃Q:Nat,l.getD (i+1) 0=Q:=⟨(l.getD (i+1) 0).toNat,O⟩
     rw[n] at F P b;rw[r] at C b X;obtain rfl:Q=0:=O;simp only[Jak] at b;have g:=t.out;clear I n r j;go_wp2_with (at_builtin;refine JJ.of ?_)
     refine JJ.mk ?_;refine J7 _ rfl _ _ 252 rfl 124 (Jo 0) 1 8 w.heap.size underlying252 Gz rfl D s a.length o _ rfl (e.alloc _) ⟨wr.heap.size,0,none⟩ 1 1 [.int .u64 ((x:Int)*256)] rfl rfl ?_ ?_ D ?_ ?_ ?_ ?_
     ·exact X5 _ _ _
     ·simp[Value.oneCell']
     ·unfold maxLen;omega
     ·omega
     ·simp only[Jai];have:=g.size;omega
     intro y B d z p L;have A:Ji w d:=Wv (g.alloc g.size _) (e.alloc _) (Je _) p (by simp only[Jai];have:=g.size;omega);clear p L g;go_wp2_with fail
     go_roundw
     case rel=>
      refine⟨i+2,y,B,a++[x*256+0],O,by rw[WV];simp;omega,by go_num,by rw[WV];rfl,b,H ?_,H A⟩;rw[Jaj,WV];exact z
     case measure=>simp[intOf];omega
   ·have S:Hid (a=XE l):=H (by
     have:=j.out;rwa [JaH O,show XE []=[] from rfl,Ja2] at this)
    have M:¬((i:Int)<m):=O;clear j;go_wp2_with fail
    go_ret;rw[<-S.out];exact⟨s,o,rfl,e.out,t.out⟩
theorem H6:∀l:List Int,(XE l).length<=l.length
 |[]=>Je _
 |[x]=>by simp[XE]
 |x::y::l=>by have:=H6 l;rw[XE];simp only[Yy];omega
theorem LL:∀l:List Int,(∀x∈l,Jm x)->∀n∈XE l,n<65536
 |[],_=>by simp[XE]
 |[x],h=>by have:=h x (by simp);simp[XE];omega
 |x::Q::l,h=>by
  have j:=h x (by simp);have y:=h Q (by simp);have Y:=LL l λa b=>h a (by simp[b])
  intro n B;rw[XE] at B;rcases YE.1 B with rfl|B
  ·omega
  ·exact Y n B
theorem D9 (L:List Nat)(i:Nat)(h:i<L.length):(L.take (i+1)).sum=(L.take i).sum+L[i]:=by
 rw[Yt h,List.sum_append];simp
theorem M8 (a:List Nat)(h:∀n∈a,n<65536)(i:Nat):(a.take i).sum<=i*65536:=by
 induction i with
 |zero=>simp
 |succ i b=>
  by_cases F:i<a.length
  ·rw[D9 a i F];have:=h a[i] (Yj F);omega
  ·have e:(a.take (i+1)).sum=(a.take i).sum:=by rw[Jav (show a.length<=i from O),Jav (show a.length<=i+1 from O)]
   omega
theorem Kj (d:Option Addr)(m c:Nat)(l:List Int)(w:World)(u:JA w d m c l)(W:m<=1000000):Jf 156 #[.slice d m c] w (Jz w (Jo (foldN (BU true l):Nat))):=by
 have z:=H (RF d m c l w u W);have B:Hid ((XE l).length<=1000000):=H (by have:=H6 l;have:=u.len;omega);have v:=H (M8 (XE l) (LL l u.byte));have y:Hid ((XE l).sum=BU true l):=H (HR l);clear u;generalize XE l=a at*;generalize BU true l=Z at*;go_enter func156,ntmps156
 go_wp2_with fail
 refine Jb z ?_;rintro e V ⟨s,o,rfl,p,g⟩;have A:=H p;have j:=H g;clear p g;have M:=B.out;go_wp2_with fail
 go_loopw [3,5] (λu3 u5 wr=>∃i:Nat,i<=a.length/\u5=.int .i64 i/\u3=.int .u64 ((a.take i).sum:Nat)/\wr=V) (λ_ u5 _=>(a.length:Int)-intOf u5 |>.toNat)
 case atStart=>exact⟨0,WG _,rfl,rfl,rfl⟩
 case round=>
  obtain⟨i,F,rfl,rfl,rfl⟩:=hrel;by_cases t:i<a.length
  ·obtain⟨r,P,L,-,N,I,-⟩:=A.here O;subst L;have J:=I i (Vo a[i]) (by simp[t]);unfold Vo at J;have n:Hid ((a.take (i+1)).sum=(a.take i).sum+a[i]):=H (D9 a i t);have b:=v.out (i+1);rw[n.out] at b;have C:(i:Int)<a.length:=O;clear I;generalize (a.take i).sum=G at*;generalize a[i]=x at*;go_wp2_with fail
   go_roundw
   case rel=>exact⟨i+1,O,by go_num,by rw[n.out];first|rfl|(congr 1;omega),by trivial⟩
   case measure=>simp[intOf];omega
  ·have E:Hid ((a.take i).sum=Z):=H (by rw[Jav O];exact y);have C:¬((i:Int)<a.length):=O;have b:=v.out i;rw[E.out] at b|-;go_wp2_with fail
   refine Calls.later (RD Z O _) ?_;intro x;go_wp2_with fail
   go_ret;exact .mk rfl (j.trans (x.below.mono j.size))
theorem RG (a:Option Addr)(m c:Nat)(l:List Int)(w:World)(u:JA w a m c l)(W:m<=1000000):Jf 100 #[.slice a m c] w (Jz w (Jl (sumOf l:Nat))):=by
 have b:=H (Kj a m c l w u W);have d:Hid ((sumOf l:Nat)=65535-foldN (BU true l)):=H rfl;have e:=Cy (BU true l);clear u;generalize foldN (BU true l)=f at*;go_enter func100,ntmps100
 go_wp2_with fail
 refine Calls.later b ?_;intro x;go_wp2_with fail
 go_ret;refine .mk ?_ x.below;rw[d.out];show Value.int .u16 (65535-(f:Int))=.int .u16 (((65535-f:Nat)):Int);congr 1
 omega
theorem O1 (a:Option Addr)(m c:Nat)(l:List Int)(w:World)(u:JA w a m c l)(W:m<=1000000):Jf 144 #[.slice a m c] w (Jz w (.bool (XW l))):=by
 have e:=H (λ(x:J2 w)=>Kj a m c l x.world (u.later x) W);have d:=H (Kj a m c l w u W);have b:Hid (XW l=(foldN (BU true l)==65535||foldN (BU true l)==0)):=H rfl;have o:=Cy (BU true l);clear u;generalize foldN (BU true l)=f at*;go_enter func144,ntmps144
 by_cases j:f=65535
 ·subst j;go_wp2_with fail
  refine Calls.later d ?_;intro x;go_wp2_with fail
  go_ret;exact .mk (by rw[b.out];rfl) x.below
 ·have n:((f:Int)==65535)=false:=by simp;omega
  have g:Hid (XW l=((f:Int)==0)):=H (by
   rw[b.out,YB j,Y3];by_cases X:f=0
   ·subst X;rfl
   ·rw[YB X,YB O])
  clear b;go_wp2_with fail
  refine Calls.later d ?_;intro x;go_wp2_with fail
  refine Wz (e x) ?_;intro Q;go_wp2_with fail
  go_ret;exact .mk (by rw[g.out];rfl) Q.below
end
end Go.Proofs.YtkgjbipfhhjlpaaGreatDoor
namespace Go.Proofs.YtkgjbipfhhjlpaaGreatDoor.Bits
open Go.RowKit
theorem elemBytes:Tryz.prog.underlying 22=some (.slice (Tryz.prog.elem 22)):=by kernel_rfl
theorem sizeBytes:(Tryz.prog.info? (Tryz.prog.elem 22)).map (·.size)=some 1:=by kernel_rfl
theorem LM (v x:Int)(d:0<=v)(j:v<72057594037927936)(P:0<=x)(g:x<256):bits .or .u64 (v*256) x=v*256+x:=by
 obtain⟨a,rfl⟩:∃a:Nat,v=a:=⟨v.toNat,by omega⟩
 obtain⟨b,rfl⟩:∃b:Nat,x=b:=⟨x.toNat,by omega⟩
 have e:((BitVec.ofInt 64 ((a:Int)*256)) ||| (BitVec.ofInt 64 (b:Int))).toNat=a*256+b:=by
  rw[BitVec.toNat_or,show((a:Int)*256)=((a*256:Nat):Int) by omega,BitVec.ofInt_natCast,BitVec.ofInt_natCast,BitVec.toNat_ofNat,BitVec.toNat_ofNat,Nat.mod_eq_of_lt (by omega),Nat.mod_eq_of_lt (by omega)];have:=Nat.two_pow_add_eq_or_of_lt (i:=8) (b:=b) (by omega) a;rw[Nat.mul_comm a 256];exact this.symm
 show IntKind.u64.wrap (((BitVec.ofInt 64 ((a:Int)*256)) ||| (BitVec.ofInt 64 (b:Int))).toNat:Int)=_;rw[e,IntWalk.u64_in _ (by omega)];omega
theorem RH (s:Option Addr)(n o:Nat)(l:List Int)(w:World)(u:JA w s n o l)(B:n<=8):Calls Tryz.prog 143 #[.slice s n o] w (Jz w (.int .u64 (Hi l))):=by
 have a:=H u;clear u;go_enter Tryz.func143,Tryz.ntmps143
 go_wp2_with fail
 go_loopw [2,7] (λu2 u7 wr=>∃k:Nat,k<=n/\u7=.int .i64 k/\u2=.int .u64 (Hi (l.take k))/\wr=w) (λ_ u7 _=>(n:Int)-intOf u7 |>.toNat)
 case atStart=>exact⟨0,Nat.zero_le _,rfl,rfl,rfl⟩
 case round=>
  obtain⟨k,A,rfl,rfl,rfl⟩:=hrel;by_cases p:k<n
  ·obtain⟨r,Q,rfl,N,I⟩:=a.here (by omega);have d:=Cx l k (by rw[a.len];exact p);have J:=I k p;have b:=a.getD k;clear I;obtain⟨x,e⟩:∃x,l.getD k 0=x:=⟨_,rfl⟩
   rw[e] at d J b;clear e;have g:=NX (l.take k) (λv y=>a.byte v (List.mem_of_mem_take y));have M:(l.take k).length=k:=by rw[List.length_take,a.len];omega
   rw[M] at g;have E:=PU k (by omega);have L:=g.1;have t:Hi (l.take k)<72057594037927936:=by omega
   have G:=b.1;have F:=b.2;have j:=LM _ x L t G F;have z:=H j;have C:=H d;clear g E M b j d;go_wp2_with fail
   go_roundw
   case rel=>exact⟨k+1,by omega,by go_num,by rw[C.out,EB,<-z.out],trivial⟩
   case measure=>simp[intOf];omega
  ·obtain rfl:k=n:=by omega
   go_wp2_with fail
   go_ret;refine .mk (Za ?_) (Jc _ _);rw[List.take_of_length_le (by rw[a.len];exact Je _)]
theorem U4 (s:Option Addr)(n c:Nat)(w:World):(binOp .eql 22 (.slice s n c) (.slice none 0 0)).run Tryz.prog w=.ok (.bool s.isNone) w:=Lib.run_eql_slice_nil w 22 5 s n c 0 0 Tryz.underlying22
theorem clone_any (s:Option Addr)(n o:Nat)(l:List Int)(w:World)(u:JA w s n o l)(B:n<=1000000):Calls Tryz.prog 105 #[.slice s n o] w (J5 w l):=by
 have a:=H u;clear u;rcases s with _|j
 ·have b:=U4 none n o;simp only[Option.isNone] at b;go_enter Tryz.func105,Tryz.ntmps105
  go_wp2_with fail
  go_ret
  have M:l=[]:=by
   rcases a.at' with X|⟨r,z,e,-⟩
   ·exact List.eq_nil_of_length_eq_zero (by rw[a.len,X])
   ·cases e
  subst M;exact⟨none,0,rfl,J8.nil _ _ _,Jc _ _⟩
 ·have b:=U4 (some j) n o;simp only[Option.isNone] at b;go_enter Tryz.func105,Tryz.ntmps105
  go_wp2_with (at_builtin;refine JJ.of ?_)
  refine JJ.mk ?_;obtain rfl:=a.len;refine JI _ rfl _ _ 22 rfl 5 w.heap.size Tryz.underlying22 infoU8 _ 0 0 [] rfl (J8.made #[] 0 0 5 [] (Je _) (Je _) (Je _) (Nat.zero_le _) rfl) (some j) l.length o l rfl (a.alloc _) (by omega) (by simp) ?_;intro y C d t v L;simp only[Nat.zero_add,List.nil_append] at t|-;have g:Below w.heap.size w d:=Below.grown ((Jc _ _).alloc (Je _) _) v (by simp) (λk A=>by simp at A;omega);clear v L;go_wp2_with fail
  go_ret;exact .mk t rfl g
structure Wr (w:World)(p:Nat)(l:List Int):Prop where
 row:∃oa cap,w.cell? ⟨p,0,none⟩=some (.slice oa l.length cap)/\J8 w (p+1) 1 oa l.length cap (l.map (.int .u8))
 free:w.frozen? ⟨p,0,none⟩=false
 lt:p<w.heap.size
 byte:∀v∈l,0<=v/\v<256
theorem Wr.below {w d:World}{p:Nat}{l:List Int}(h:Wr w p l)(b:Below w.heap.size w d):Wr d p l:=by
 obtain⟨j,o,I,e⟩:=h.row;exact⟨⟨j,o,(b.cell (p:=⟨p,0,none⟩) h.lt).trans I,e.below b⟩,(b.frozen (p:=⟨p,0,none⟩) h.lt).trans h.free,Jd h.lt b.size,h.byte⟩
theorem Wr.later {w:World}{p:Nat}{l:List Int}(h:Wr w p l)(x:J2 w):Wr x.world p l:=h.below x.below
def Oc (w:World)(p:Nat)(l:List Int):Ending->World->Prop:=λe d=>e=.returned (.int .i64 0)/\Wr d p l/\Below p w d
theorem GA (p:Nat)(l:List Int)(n:Option Addr)(m c:Nat)(b:List Int)(w:World)(R:Wr w p l)(u:JA w n m c b)(W:l.length+b.length<=1000000):
 Calls Tryz.prog 63 #[.pointer (some ⟨p,0,none⟩),.slice n m c] w (Oc w p (l++b)):=by
 obtain rfl:=u.len;obtain⟨s,o,I,r⟩:=R.row;have y:=R.free;have e:=R.lt;go_enter Tryz.func63,Tryz.ntmps63
 go_wp2_with (at_builtin;refine JJ.of ?_)
 refine JJ.mk ?_;refine JI _ rfl _ _ 22 rfl 5 (p+1) Tryz.underlying22 infoU8 s l.length o _ rfl r n b.length c b rfl u (by omega) e ?_;intro A F d j t L;rw[<-List.map_append] at j;have g:Below (p+1) w d:=Wv (Jc _ _) r (Je _) t e;have C:=(g.cell (p:=⟨p,0,none⟩) (Nat.lt_succ_self p)).trans I;have B:=(g.frozen (p:=⟨p,0,none⟩) (Nat.lt_succ_self p)).trans y;have E:p<d.heap.size:=Jd e g.size;clear t L I y e;go_wp2_with fail
 go_ret;refine⟨rfl,⟨⟨A,F,?_,?_⟩,?_,?_,?_⟩,?_⟩
 ·rw[World.cell?_setCell_same _ _ _ C,List.length_append]
 ·rw[List.length_append];exact j.other (λa ha=>by have:=(j.lt ha).1;simp only;omega) _
 ·rw[World.frozen?_setCell];exact B
 ·simpa using E
 ·intro v z;rcases List.mem_append.1 z with h|h
  ·exact R.byte v h
  ·exact u.byte v h
 ·exact(g.mono (Nat.le_succ p)).setCell (Je _) _
theorem Kk (v:Int):∀x∈be4 v,0<=x/\x<256:=by
 intro x P;simp only[be4,List.mem_cons,List.not_mem_nil,or_false] at P;omega
theorem S6 (p:Nat)(l:List Int)(v:Int)(X:0<=v)(j:v<4294967296)(w:World)(R:Wr w p l)(W:l.length<=900000):
 Calls Tryz.prog 65 #[.pointer (some ⟨p,0,none⟩),.int .u64 v,.int .i64 4] w (Oc w p (l++be4 v)):=by
 have a:=H R;clear R;go_enter Tryz.func65,Tryz.ntmps65
 go_wp2_with (go_at_call 124;refine Calls.later (A2 v 4 X (by omega) (by decide) (by decide) _) ?_;intro x)
 refine Jb (Rn v X j _) ?_;rintro e w2 ⟨s,o,rfl,n,g⟩;go_wp2_with fail
 refine Jb (GA p l s _ o (be4 v) w2 ((a.later x).below g) (n.reads (Kk v)) (by simp[be4];omega)) ?_;rintro e r ⟨rfl,d,b⟩;go_wp2_with fail
 go_ret;exact⟨rfl,d,((x.below.mono (Nat.le_of_lt a.lt)).trans (g.mono (Nat.le_of_lt (Jd a.lt x.below.size)))).trans b⟩
theorem bytes_any (p:Nat)(l:List Int)(w:World)(R:Wr w p l)(W:l.length<=1000000):
 Calls Tryz.prog 66 #[.pointer (some ⟨p,0,none⟩)] w (J5 w l):=by
 obtain⟨s,o,I,d⟩:=R.row;go_enter Tryz.func66,Tryz.ntmps66
 go_wp2_with fail
 refine Jb (clone_any s _ o l w (d.reads R.byte) W) ?_;rintro e w2 ⟨j,n,rfl,b,g⟩;go_wp2_with fail
 go_ret;exact⟨_,_,rfl,b,g⟩
end Go.Proofs.YtkgjbipfhhjlpaaGreatDoor.Bits
namespace Go.Proofs.YtkgjbipfhhjlpaaGreatDoor.Bits
open Go.RowKit
theorem join_any (r:Option Addr)(m c:Nat)(l:List Int)(p:Option Addr)(e j:Nat)(b:List Int)(w:World)(u:JA w r m c l)(t:JA w p e j b)(W:m<=1000000)(E:e<=1000000):
 Calls Tryz.prog 51 #[.slice r m c,.slice p e j] w (J5 w (l++b)):=by
 obtain rfl:=u.len;obtain rfl:=t.len;go_enter Tryz.func51,Tryz.ntmps51
 go_wp2_with (at_builtin;refine JJ.of ?_)
 refine JJ.mk ?_;refine JI _ rfl _ _ 22 rfl 5 w.heap.size Tryz.underlying22 infoU8 none 0 0 [] rfl (J8.nil _ _ _) r l.length c l rfl u (by omega) (Je _) ?_;intro y C d o a L;simp only[Nat.zero_add,List.nil_append] at o|-;have g:Below w.heap.size w d:=Below.grown (Jc _ _) a (Je _) (λk A=>by simp at A);clear a L;go_wp2_with (at_builtin;refine JJ.of ?_)
 refine JJ.mk ?_;refine JI _ rfl _ _ 22 rfl 5 w.heap.size Tryz.underlying22 infoU8 y l.length C _ rfl o p b.length j b rfl (t.below g) (by omega) g.size ?_;intro F G z v a L;rw[<-List.map_append] at v;have B:Below w.heap.size w z:=Wv g o (Je _) a g.size;clear a L;go_wp2_with fail
 go_ret;exact .mk v (by rw[List.length_append]) B
theorem MQ (a:Option Addr)(m c:Nat)(l:List Int)(w:World)(u:JA w a m c l)(W:m<=1000000):Calls Tryz.prog 10 #[.slice a m c] w (J5 w l):=by
 obtain rfl:=u.len;go_enter Tryz.func10,Tryz.ntmps10
 go_wp2_with (at_builtin;refine JJ.of ?_)
 refine JJ.mk ?_;refine JI _ rfl _ _ 22 rfl 5 w.heap.size Tryz.underlying22 infoU8 none 0 0 [] rfl (J8.nil _ _ _) a l.length c l rfl u (by omega) (Je _) ?_;intro j n d e b L;simp only[Nat.zero_add,List.nil_append] at e|-;have g:Below w.heap.size w d:=Below.grown (Jc _ _) b (Je _) (λk A=>by simp at A);clear b L;go_wp2_with fail
 go_ret;exact .mk e rfl g
def Bn (v:Int):Nat->List Int
 |0=>[]
 |n+1=>Bn (v/256) n++[v%256]
theorem O2 (v:Int)(n:Nat):(Bn v n).length=n:=by
 induction n generalizing v with
 |zero=>rfl
 |succ n a=>rw[Bn,List.length_append,a];rfl
theorem RI (v:Int):Bn v 4=be4 v:=by
 simp[Bn,be4];omega
theorem X2 (n:Nat):∀(v:Int) (w:World),n<=8->0<=v->v<18446744073709551616->Calls Tryz.prog 67 #[.int .u64 v,.int .i64 n] w (J5 w (Bn v n)):=by
 induction n with
 |zero=>
  intro v w B X j;go_enter Tryz.func67,Tryz.ntmps67
  go_wp2_with fail
  go_ret;exact⟨none,0,rfl,J8.nil _ _ _,Jc _ _⟩
 |succ n y=>
  intro v w B X j;go_enter Tryz.func67,Tryz.ntmps67
  go_wp2_with fail
  refine Jb (y (v/256) _ (by omega) (by omega) (by omega)) ?_;rintro e w2 ⟨s,o,rfl,a,g⟩;clear y;have b:=O2 (v/256) n;obtain⟨l,p⟩:∃l,Bn (v/256) n=l:=⟨_,rfl⟩
  have u:Bn v (n+1)=l++[v%256]:=by rw[Bn,p]
  have A:=H u;rw[p] at a b|-;rw[b] at a|-;have z:=H b;clear u p b;have E:=g.size;go_wp2_with (at_builtin;refine JJ.of ?_)
  refine JJ.mk ?_;refine JI _ rfl _ _ 22 rfl 5 w.heap.size Tryz.underlying22 infoU8 s n o _ rfl (a.alloc _) _ 1 1 [v%256] rfl ((J8.made (base:=0) (size:=1) #[.int .u8 (v%256)] 1 1 5 _ (Nat.zero_le _) (Je 1) (Je 1) (by decide) rfl).reads (by simp;omega)) (by omega) (by simp;omega) ?_;intro F G d r t L;rw[<-List.map_append] at r;have C:Below w.heap.size w d:=Wv (g.alloc E _) (a.alloc _) (Je _) t (by simp;omega);clear t L;go_wp2_with fail
  go_ret;rw[A.out];exact .mk r (by rw[List.length_append,z.out];rfl) C
def numAt (l:List Int)(b a:Nat):Int:=Hi ((l.drop b).take a)
theorem S7 (l:List Int)(g:∀v∈l,0<=v/\v<256)(i n:Nat)(B:i+n<=l.length):0<=numAt l i n/\numAt l i n<256^n:=by
 have h:=NX ((l.drop i).take n) λv a=>g v (List.mem_of_mem_drop (List.mem_of_mem_take a))
 rwa [List.length_take,List.length_drop,Nat.min_eq_left (by omega)] at h
theorem HG (l:List Int)(i k:Nat)(h:i+k<l.length):(l.drop i).take (k+1)=(l.drop i).take k++[l.getD (i+k) 0]:=by
 rw[Cx _ _ (by rw[List.length_drop];omega)];simp[List.getD_eq_getElem?_getD,List.getElem?_drop]
theorem numAt_snoc (l:List Int)(i k:Nat)(h:i+k<l.length):numAt l i (k+1)=numAt l i k*256+l.getD (i+k) 0:=by
 unfold numAt;rw[HG l i k h,EB]
theorem Bo (s:Option Addr)(n o:Nat)(l:List Int)(i a:Nat)(w:World)(u:JA w s n o l)(j:1<=a)(N:a<=8)(C:i+a<=n)(B:n<=1000000):
 Calls Tryz.prog 88 #[.slice s n o,.int .i64 i,.int .i64 a] w (Jz w (.tuple #[.int .u64 (numAt l i a),.int .i64 0])):=by
 have b:=H u;clear u;go_enter Tryz.func88,Tryz.ntmps88
 go_wp2_with fail
 go_loopw [8,9] (λu8 u9 wr=>∃k:Nat,k<=a/\u9=.int .i64 k/\u8=.int .u64 (numAt l i k)/\wr=w) (λ_ u9 _=>(a:Int)-intOf u9 |>.toNat)
 case atStart=>exact⟨0,Nat.zero_le _,rfl,rfl,rfl⟩
 case round=>
  obtain⟨k,A,rfl,rfl,rfl⟩:=hrel;by_cases L:k<a
  ·obtain⟨r,J,rfl,F,I⟩:=b.here (by omega);have e:=numAt_snoc l i k (by rw[b.len];omega);have y:=I (i+k) (by omega);have d:=b.getD (i+k);clear I;obtain⟨x,p⟩:∃x,l.getD (i+k) 0=x:=⟨_,rfl⟩
   rw[p] at e y d;clear p;have g:=S7 l b.byte i k (by rw[b.len];omega);have E:=PU k (by omega);have R:=g.1;have z:numAt l i k<72057594037927936:=by omega
   have Q:=d.1;have M:=d.2;have t:=H e;have S:decide ((i:Int)>n)=false:=by simp;omega
   have G:decide ((i:Int)+k>=n)=false:=by simp;omega
   clear g E d e;go_wp2_with fail
   go_roundw
   case rel=>exact⟨k+1,by omega,by go_num,by rw[t.out],trivial⟩
   case measure=>simp[intOf];omega
  ·obtain rfl:k=a:=by omega
   go_wp2_with fail
   go_ret2;exact .mk rfl (Jc _ _)
end Go.Proofs.YtkgjbipfhhjlpaaGreatDoor.Bits
namespace Go.Proofs.YtkgjbipfhhjlpaaGreatDoor.Bits
open Go.RowKit
theorem get_ok (s:Option Addr)(n o:Nat)(l:List Int)(i a:Nat)(w:World)(u:JA w s n o l)(j:1<=a)(d:a<=8)(p:i+a<=n)(B:n<=1000000):
 Calls Tryz.prog 81 #[.slice s n o,.int .i64 i,.int .i64 a] w (Jz w (.tuple #[.int .u64 (numAt l i a),.int .i64 0])):=by
 have b:=H u;clear u;have e:Qr a=true:=by simp[Qr];omega
 have g:=b.le
 have hcut:∀w,(Instr.slice 22 (.slice s n o) (some (.int .i64 (i:Int))) (some (.int .i64 ((i:Int)+a))) none).run Tryz.prog w=.ok (.slice (JQ s i o 1) a (o-i)) w:=λw=>by
  have:=QB (P:=Tryz.prog) 22 s n o 1 elemBytes sizeBytes i (i+a) i ((i:Int)+a) rfl (by omega) (by omega) (by omega) w;rwa [show i+a-i=a by omega] at this
 go_enter Tryz.func81,Tryz.ntmps81
 go_wp2_with (first
  |(go_at_call 142;refine Calls.later (Xo _ _) ?_;intro x;rw[e])
  |(go_at_call 143;refine Wz (RH (JQ s i o 1) a (o-i) ((l.drop i).take a) _ ?_ d) ?_))
 ·have:=((b.later x).cut i (by omega)).take a (by omega);exact this
 ·intro Q;go_wp2_with fail
  go_ret2;exact .mk rfl Q.below
theorem get_short (s:Option Addr)(n o:Nat)(i a:Nat)(w:World)(j:1<=a)(d:a<=8)(l:n<i+a)(B:n<=1000000)(F:i<=1000000):
 Calls Tryz.prog 81 #[.slice s n o,.int .i64 i,.int .i64 a] w (Jz w (.tuple #[.int .u64 0,.int .i64 10])):=by
 have b:Qr a=true:=by simp[Qr];omega
 by_cases g:n<i
 ·have L:decide ((i:Int)>n)=true:=by simp;omega
  go_enter Tryz.func81,Tryz.ntmps81
  go_wp2_with (go_at_call 142;refine Calls.later (Xo _ _) ?_;intro x;rw[b])
  go_ret2;exact .mk rfl x.below
 ·have L:decide ((i:Int)>n)=false:=by simp;omega
  have e:decide ((n:Int)-i<a)=true:=by simp;omega
  go_enter Tryz.func81,Tryz.ntmps81
  go_wp2_with (go_at_call 142;refine Calls.later (Xo _ _) ?_;intro x;rw[b])
  go_ret2;exact .mk rfl x.below
structure Rd (w:World)(b p:Nat)(l:List Int)(i:Nat):Prop where
 row:∃oa cap,w.cell? ⟨p,0,none⟩=some (.slice oa l.length cap)/\JA w oa l.length cap l/\∀a,oa=some a->b<=a.block/\a.block<p
 pos:w.cell? ⟨p,1,none⟩=some (.int .i64 (i:Int))
 free:∀j,w.frozen? ⟨p,j,none⟩=false
 lt:p<w.heap.size
theorem Rd.below {w d:World}{b p:Nat}{l:List Int}{i:Nat}(h:Rd w b p l i)(e:Below w.heap.size w d):Rd d b p l i:=by
 obtain⟨t,o,I,j,ha⟩:=h.row;exact⟨⟨t,o,(e.cell (p:=⟨p,0,none⟩) h.lt).trans I,j.below e,ha⟩,(e.cell (p:=⟨p,1,none⟩) h.lt).trans h.pos,λJ=>(e.frozen (p:=⟨p,J,none⟩) h.lt).trans (h.free J),Jd h.lt e.size⟩
theorem Rd.later {w:World}{b p:Nat}{l:List Int}{i:Nat}(h:Rd w b p l i)(x:J2 w):Rd x.world b p l i:=h.below x.below
theorem Rd.step {w:World}{b p:Nat}{l:List Int}{i:Nat}(h:Rd w b p l i)(k:Nat):Rd (w.setCell ⟨p,1,none⟩ (.int .i64 (k:Int))) b p l k:=by
 obtain⟨s,o,I,u,ha⟩:=h.row;refine⟨⟨s,o,?_,u.other (λa e=>by have:=(ha a e).2;simp only;omega) _,ha⟩,World.cell?_setCell_same _ _ _ h.pos,λJ=>?_,by simpa using h.lt⟩
 ·rw[World.cell?_setCell_other _ _ _ _ (by simp)];exact I
 ·rw[World.frozen?_setCell];exact h.free J
def RJ (w:World)(l:List Int):Ending->World->Prop:=λe d=>∃p,e=.returned (.pointer (some ⟨p,0,none⟩))/\w.heap.size<=p/\Rd d w.heap.size p l 0/\Below w.heap.size w d
theorem S8 (s:Option Addr)(n o:Nat)(l:List Int)(w:World)(u:JA w s n o l)(g:n<=1000000):Calls Tryz.prog 137 #[.slice s n o] w (RJ w l):=by
 have d:=u.byte;have d:=H d;go_enter Tryz.func137,Tryz.ntmps137
 go_wp2_with fail
 refine Jb (clone_any s n o l _ u g) ?_;rintro e w2 ⟨j,r,rfl,p,b⟩;go_wp2_with fail
 go_ret;have v:=b.size;have t:=(p.reads d).alloc (.cells #[.slice j l.length r,.int .i64 0] 282);refine⟨w2.heap.size,rfl,b.size,⟨⟨j,r,by go_cell,t,λa ha=>p.lt ha⟩,by go_cell,λJ=>by go_cell,by simp⟩,b.alloc b.size _⟩
end Go.Proofs.YtkgjbipfhhjlpaaGreatDoor.Bits
namespace Go.Proofs.YtkgjbipfhhjlpaaGreatDoor
open Go.Proofs.Tryz
section
open Go.RowKit
theorem JdP{p:Prop}(h:p:=by
 intro x;go_wp2_with fail
 go_ret;exact .mk rfl x.below):p:=h
theorem Qw (l:List Int)(i:Nat)(h:i+2<=l.length):Bits.numAt l i 2=w2 l i:=by
 rw[Bits.numAt_snoc l i 1 O,Bits.numAt_snoc l i 0 O];unfold w2;rw[show Bits.numAt l i 0=0 from rfl];rw[Jal];omega
theorem AE (l:List Int)(i:Nat)(h:i+4<=l.length):Bits.numAt l i 4=w4 l i:=by
 rw[Bits.numAt_snoc l i 3 O,Bits.numAt_snoc l i 2 O,Qw l i O];unfold w4 w2;rw[show i+2+1=i+3 from rfl];omega
theorem M9 (f k:Nat)(b:f<65536)(A:k<16):bits .and .u16 (f:Int) ((2^k:Nat):Int)=if f/2^k%2=1 then ((2^k:Nat):Int) else 0:=by
 have y:2^k<65536:=Jd (Nat.pow_lt_pow_right O A) D;have a:f.testBit k=decide (f/2^k%2=1):=Nat.testBit_eq_decide_div_mod_eq;rw[u16_and_nat f (2^k) b y];by_cases h:f/2^k%2=1
 ·rw[YH h];congr 1
  apply Nat.eq_of_testBit_eq;intro i;rw[Nat.testBit_and,Nat.testBit_two_pow];by_cases e:k=i
  ·subst e;rw[a,Yz h];rfl
  ·rw[YA e,Bool.and_false]
 ·rw[Yw h,show f &&& 2^k=0 from ?_]
  ·rfl
  apply Nat.eq_of_testBit_eq;intro i;rw[Nat.testBit_and,Nat.testBit_two_pow,Nat.zero_testBit];by_cases e:k=i
  ·subst e;rw[a,YA h];rfl
  ·rw[YA e,Bool.and_false]
theorem Uq (x:Nat)(h:x<256):bits .and .u8 (x:Int) 15=((x%16:Nat):Int):=by
 have:=u8_and_nat x 15 h O;rw[show(15:Nat)=2^4-1 from rfl,JaB] at this;exact this
theorem RL (x:Nat)(h:x<65536):bits .and .u16 (x:Int) 8191=((x%8192:Nat):Int):=by
 have:=u16_and_nat x 8191 h O;rw[show(8191:Nat)=2^13-1 from rfl,JaB] at this;exact this
theorem Kl (s:Option Addr)(n o:Nat)(l:List Int)(i:Nat)(w:World)(u:JA w s n o l)(b:i+2<=n)(B:n<=1000000):
 Jf 104 #[.slice s n o,Jk (i:Int)] w (Jz w (Jl (w2 l i))):=by
 have a:=H (Bits.get_ok s n o l i 2 w u O O b B);rw[Qw l i (by have:=u.len;omega)] at a;have g:=Xw u.byte i;clear u;generalize w2 l i=v at*;go_enter func104,ntmps104
 go_wp2_with fail
 refine Calls.later a ?_;exact JdP
theorem JcD{p:Prop}(h:p:=by
 repeat go_big_quiet_step (fail)
 exact Jaa rfl):p:=h
theorem Jd2{p:Prop}(h:p:=by
 go_wp2_with fail
 exact Bp w.heap.size T D rfl rfl rfl X aa):p:=h
theorem Jeg{p:Prop}(h:p:=by
 go_wp2_with fail
 exact Bp w.heap.size T D rfl rfl rfl (Jaf _ _ _ _ _ _ ah) (below_setRow aw (Je _) _)):p:=h
theorem XR {e:Program}{j:Func}{p q T:Tmp}{d:TypeId}(h:j.results=#[.cell p d,.tmp q,.tmp T])(a:Array Value)(w:World)(b n:Nat)(N:TypeDesc)(v g:Value)
 (r:e.underlying d=some N)(L:(match N with| .struct _| .array _ _=>true|_=>false)=true)(F:(e.info? d).map (·.size)=some n)
 (E:a.getD p undef=.pointer (some ⟨b,0,none⟩))(s:a.getD q undef=v)(u:a.getD T undef=g)(S:Array Value)(I:Jv w b 0 n=S)(z:S.size=n):
 (results j a).run e w=.ok (.tuple #[.agg S,v,g]) w:=by
 subst I;have t:a[p]?.getD undef=.pointer (some ⟨b,0,none⟩):=by simpa using E
 have l:a[q]?.getD undef=v:=by simpa using s
 have o:a[T]?.getD undef=g:=by simpa using u
 simp[results,h,t,l,o,asAddr,Q8 w b 0 n d N r L F z]
def ipZ:Array Value:=(Jb2 false false)
def TP (err:Int):Value:=.tuple #[.agg ipZ,Jk 0,Jk err]
theorem S9 {w d:World}{err:Int}{a:Array Value}(b:Nat)(E:a.getD 2 undef=.pointer (some ⟨b,0,none⟩))(Y:a.getD 3 undef=.int .i64 0)(e:a.getD 4 undef=.int .i64 err)(I:Jh d b ipZ 113)(g:Ji w d):
 bodyPost prog f52 (Jz w (TP err)) .ret { tmps:=a,defers:=[] } d:=
 Jag (v:=TP err) (XR rfl _ _ b 17 _ _ _ underlying113 rfl I5 E Y e ipZ (by rw[JG _ _ _ _ _ _ _ I];rfl) rfl) rfl (.mk rfl g)
theorem Km (s:Option Addr)(n o:Nat)(w:World)(h:n<20):Jf 52 #[.slice s n o] w (Jz w (TP 10)):=by
 have d:(n:Int)<20:=O;have a:=H (Below.all (Jc w.heap.size w) (.cells ipZ 113));have b:Hid (Jh (w.alloc (.cells ipZ 113)) w.heap.size ipZ 113):=H (WP w _);unfold TP;unfold ipZ at*;go_enter func52,ntmps52
 go_wp2_with fail
 exact S9 w.heap.size rfl rfl rfl b a
theorem Kn {P:Program}{o:Oper}{a:Act}{C:World->Prop}{w:World}{v:Value}(h:(execOp a.eval o).run P w=.ok (.value v) w):o.quietAt P a C w v:=by
 unfold Oper.quietAt;rw[h];exact⟨rfl,rfl⟩
theorem CO {P:Program}(t e:TypeId)(b:P.underlying t=some (.array 4 e))(a:Option Addr)(n c:Nat)(h:4<=n)(w:World):(Instr.arrayAt t (.slice a n c)).run P w=.ok (.pointer a) w:=by
 have d:¬n<4:=O;simp[Instr.arrayAt,Y0,Yn b,d,Result.andThen]
def Ko (f:Int)(k:Int):Bool:=decide (f/k%2=1)
def ipA (l:List Int)(s:Option Addr)(o:Nat):Array Value:=#[Jq (l.getD 1 0),Jl (w2 l 2),Jl (w2 l 4),.bool (Ko (w2 l 6) 16384),.bool (Ko (w2 l 6) 8192),Jl (w2 l 6%8192),Jq (l.getD 8 0),Jq (l.getD 9 0),
 .int .u8 (l.getD 12 0),Jq (l.getD 13 0),Jq (l.getD 14 0),Jq (l.getD 15 0),Jq (l.getD 16 0),Jq (l.getD 17 0),Jq (l.getD 18 0),Jq (l.getD 19 0),.slice s (ipHl l-20) o]
def GB (w:World)(l:List Int):Ending->World->Prop:=λe d=>(QJ l≠0/\e=.returned (TP (QJ l))/\Ji w d)\/
 (QJ l=0/\∃s o,e=.returned (.tuple #[.agg (ipA l s o),Jk (ipHl l:Int),Jk 0])/\J8 d w.heap.size 1 s (ipHl l-20) o (((l.drop 20).take (ipHl l-20)).map (.int .u8))/\Ji w d)
theorem GB.err {w d:World}{l:List Int}{v:Ending}{err:Int}(h:Jz w (TP err) v d)(b:QJ l=err)(X:err≠0):GB w l v d:=by
 subst b;exact .inl ⟨X,h.1,h.2⟩
theorem Bp {w d:World}{l:List Int}{err:Int}{a:Array Value}(b:Nat)(j:QJ l=err)(X:err≠0)(E:a.getD 2 undef=.pointer (some ⟨b,0,none⟩))(Y:a.getD 3 undef=.int .i64 0)(e:a.getD 4 undef=.int .i64 err)(I:Jh d b ipZ 113)(g:Ji w d):
 bodyPost prog f52 (GB w l) .ret { tmps:=a,defers:=[] } d:=
 Jag (v:=TP err) (XR rfl _ _ b 17 _ _ _ underlying113 rfl I5 E Y e ipZ (by rw[JG _ _ _ _ _ _ _ I];rfl) rfl) rfl (.err (.mk rfl g) j X)
theorem RM {w d:World}{l:List Int}{S:Array Value}{e:Int}{a:Array Value}(b:Nat)(E:a.getD 2 undef=.pointer (some ⟨b,0,none⟩))(Y:a.getD 3 undef=.int .i64 e)(g:a.getD 4 undef=.int .i64 0)(I:Jv d b 0 17=S)(z:S.size=17)
 (j:GB w l (.returned (.tuple #[.agg S,Jk e,Jk 0])) d):bodyPost prog f52 (GB w l) .ret { tmps:=a,defers:=[] } d:=
 Jag (v:=.tuple #[.agg S,Jk e,Jk 0]) (XR rfl _ _ b 17 _ _ _ underlying113 rfl I5 E Y g S I z) rfl j
attribute [local go_sem ↓] Go.wp_at_zero Go.wp_at_succ in
theorem LN (r e n o:Nat)(l:List Int)(w:World)(af:JA w (some ⟨r,e,none⟩) n o l)(cL:20<=n)(cu:n<=100000):
 Jf 52 #[.slice (some ⟨r,e,none⟩) n o] w (GB w l):=by
 have bS:=af.len;have aG:=H af;obtain⟨ck,bF,aW,bK,I⟩:=af.here O;cases aW;have bg:=I 0 O;have bM:=I 1 O;have bD:=I 8 O;have bB:=I 9 O;have b9:=af.getD 0;rw[Jal] at bg;obtain⟨S,av⟩:∃x:Nat,l.getD 0 0=x:=⟨(l.getD 0 0).toNat,O⟩
 rw[av] at bg b9;have b3:S<256:=O;have bn:=H (λ(d:World) (h:JA d (some ⟨r,e,none⟩) n o l)=>Kl (some ⟨r,e,none⟩) n o l 6 d h O O);have b1:=Uq S b3;have bs:S%16<16:=O;have a2:Hid (ipHl l=S%16*4):=H (by unfold ipHl;rw[av];omega);have bQ:Hid (l.getD 0 0=S):=H av;have aa:=H (Below.all (Jc w.heap.size w) (.cells ipZ 113));have X:Hid (Jh (w.alloc (.cells ipZ 113)) w.heap.size ipZ 113):=H (WP w _);have cB:¬((n:Int)<20):=O;clear af av I;generalize S%16=b at*;unfold ipZ at aa X;go_enter func52,ntmps52
 have aj:Hid (QJ l=if S/16≠4 then 50 else if b*4<20 then 51 else if n<b*4 then 10 else if 32768<=w2 l 6\/w2 l 2<((b*4:Nat):Int) then 51 else if XW (l.take (b*4))=false then 52 else 0):=H (by
  unfold QJ;rw[a2.out,bQ.out,bS,Yw (show¬n<20 from O)];by_cases h:S/16=4
  ·rw[Yw (show¬(S:Int)/16≠4 from O),Yw (show¬S/16≠4 from O)]
  ·rw[YH (show(S:Int)/16≠4 from O),YH h])
 by_cases bU:S/16=4
 rotate_left
 ·have b4:¬((S:Int)/16=4):=O;have cz:(((S:Int)/16)==4)=false:=by simp;omega
  have T:Hid (QJ l=50):=H (by rw[aj.out,YH bU]);clear aj;exact Jd2
 have ax:Hid (QJ l=if b*4<20 then 51 else if n<b*4 then 10 else if 32768<=w2 l 6\/w2 l 2<((b*4:Nat):Int) then 51 else if XW (l.take (b*4))=false then 52 else 0):=H (by rw[aj.out,Yw O]);clear aj;have b4:(S:Int)/16=4:=O;by_cases a4:b*4<20
 ·have bE:(b:Int)*4<20:=O;have T:Hid (QJ l=51):=H (by rw[ax.out,YH a4]);clear ax;exact Jd2
 have ay:Hid (QJ l=if n<b*4 then 10 else if 32768<=w2 l 6\/w2 l 2<((b*4:Nat):Int) then 51 else if XW (l.take (b*4))=false then 52 else 0):=H (by rw[ax.out,Yw a4]);clear ax;have bE:¬((b:Int)*4<20):=O;by_cases bb:n<b*4
 ·have cb:(n:Int)<(b:Int)*4:=O;have T:Hid (QJ l=10):=H (by rw[ay.out,YH bb]);clear ay;exact Jd2
 have aE:Hid (QJ l=if 32768<=w2 l 6\/w2 l 2<((b*4:Nat):Int) then 51 else if XW (l.take (b*4))=false then 52 else 0):=H (by rw[ay.out,Yw bb]);clear ay;have cb:¬((n:Int)<(b:Int)*4):=O;go_wp2_with fail
 have aL:=H (aG.alloc (.cells (Jb2 false false) 113));generalize w.alloc (.cells (Jb2 false false) 113)=ak at*;refine Jb (bn _ aL) ?_;rintro ad U ⟨rfl,aq⟩;have a6:=H (Wx aa aq);have ab:=H (aL.below aq);have a9:Hid (Jh U w.heap.size ipZ 113):=H ((aq.block _ (Ja X).1).trans X);clear aq aa X aL bn b1;go_wp2_with fail
 have cF:=aG.le;obtain⟨F,aQ⟩:∃Q,l.getD 1 0=Q:=⟨_,rfl⟩
 have b7:=H aQ;obtain⟨s,aS⟩:∃Q,l.getD 8 0=Q:=⟨_,rfl⟩
 have ce:=H aS;obtain⟨z,aZ⟩:∃Q,l.getD 9 0=Q:=⟨_,rfl⟩
 have bZ:=H aZ;obtain⟨B,aJ⟩:∃Q,l.getD 12 0=Q:=⟨_,rfl⟩
 have bG:=H aJ;obtain⟨v,aF⟩:∃Q,l.getD 13 0=Q:=⟨_,rfl⟩
 have bL:=H aF;obtain⟨u,aK⟩:∃Q,l.getD 14 0=Q:=⟨_,rfl⟩
 have bW:=H aK;obtain⟨A,aN⟩:∃Q,l.getD 15 0=Q:=⟨_,rfl⟩
 have bT:=H aN;obtain⟨y,a1⟩:∃Q,l.getD 16 0=Q:=⟨_,rfl⟩
 have cc:=H a1;obtain⟨t,aD⟩:∃Q,l.getD 17 0=Q:=⟨_,rfl⟩
 have bO:=H aD;obtain⟨G,aT⟩:∃Q,l.getD 18 0=Q:=⟨_,rfl⟩
 have bq:=H aT;obtain⟨E,aX⟩:∃Q,l.getD 19 0=Q:=⟨_,rfl⟩
 have bR:=H aX;obtain⟨V,au⟩:∃bA,(l.drop 20).take (b*4-20)=bA:=⟨_,rfl⟩
 have bJ:=H au;have bP:V.length=b*4-20:=by rw[<-au,WR,W4];omega
 obtain⟨p,aA⟩:∃Q,w2 l 2=Q:=⟨_,rfl⟩
 obtain⟨C,az⟩:∃Q,w2 l 4=Q:=⟨_,rfl⟩
 have ar:=H aA;have bH:=H az;have b5:=Xw aG.byte 6;obtain⟨f,Y⟩:∃f:Nat,w2 l 6=f:=⟨(w2 l 6).toNat,O⟩
 rw[Y] at b5;have al:f<65536:=O;have c3:=H Y;have bm:Hid (r<U.heap.size):=H (Jd bK a6.size)
 have ba:Hid (∀d:World,Ji U d->(λd=>(Jg d r (e+1) (Jq F)/\Jg d r (e+8) (Jq s)/\Jg d r (e+9) (Jq z)/\Jv d r (e+12) 4=(#[B,v,u,A]:Array Value)/\Jv d r (e+16) 4=(#[y,t,G,E]:Array Value))/\Ji U d) d):=H (λd ac=>by
  obtain⟨ck,bF,aW,-,I⟩:=(ab.below ac).here O;cases aW;have c:=λ(k:Nat) (Q:Int) (h:k<n) (ad:l.getD k 0=Q)=>ad▸I k h
  exact⟨⟨c 1 _ O aQ,c 8 _ O aS,c 9 _ O aZ,DS (c 12 _ O aJ) (c 13 _ O aF) (c 14 _ O aK) (c 15 _ O aN),DS (c 16 _ O a1) (c 17 _ O aD) (c 18 _ O aT) (c 19 _ O aX)⟩,ac⟩)
 have cK:=H (ba U (Jc _ _));have co:Hid (∀d:World,JA d (some ⟨r,e,none⟩) n o l->Jf 104 #[.slice (some ⟨r,e,none⟩) n o,Jk 2] d (Jz d (Jl p))):=H λd h=>by rw[<-aA];exact Kl _ n o l 2 d h O O
 have cp:Hid (∀d:World,JA d (some ⟨r,e,none⟩) n o l->Jf 104 #[.slice (some ⟨r,e,none⟩) n o,Jk 4] d (Jz d (Jl C))):=H λd h=>by rw[<-az];exact Kl _ n o l 4 d h O O
 have bw:Hid (∀d:World,JA d (some ⟨r,e,none⟩) n o l->Jf 105 #[.slice (JQ (some ⟨r,e,none⟩) 20 o 1) (b*4-20) (o-20)] d (J5 d V)):=H λd h=>by rw[<-au];exact Bits.clone_any _ _ _ _ d ((h.cut 20 O).take (b*4-20) O) O
 have cN:∀w,(Instr.slice 22 (.slice (some ⟨r,e,none⟩) n o) (some (.int .i64 12)) none none).run prog w=.ok (.slice (some ⟨r,e+12,none⟩) (n-12) (o-12)) w:=λw=>by
  have:=B4 (P:=prog) 22 (some ⟨r,e,none⟩) n o 1 Bits.elemBytes Bits.sizeBytes 12 12 rfl O w;rwa [show JQ (some ⟨r,e,none⟩) 12 o 1=some ⟨r,e+12,none⟩ by unfold JQ;rw[Yw O];rfl] at this
 have cT:∀w,(Instr.slice 22 (.slice (some ⟨r,e,none⟩) n o) (some (.int .i64 16)) none none).run prog w=.ok (.slice (some ⟨r,e+16,none⟩) (n-16) (o-16)) w:=λw=>by
  have:=B4 (P:=prog) 22 (some ⟨r,e,none⟩) n o 1 Bits.elemBytes Bits.sizeBytes 16 16 rfl O w;rwa [show JQ (some ⟨r,e,none⟩) 16 o 1=some ⟨r,e+16,none⟩ by unfold JQ;rw[Yw O];rfl] at this
 have cr:∀w,(Instr.slice 22 (.slice (some ⟨r,e,none⟩) n o) (some (.int .i64 20)) (some (.int .i64 ((b:Int)*4))) none).run prog w=.ok (.slice (JQ (some ⟨r,e,none⟩) 20 o 1) (b*4-20) (o-20)) w:=λw=>
  QB (P:=prog) 22 (some ⟨r,e,none⟩) n o 1 Bits.elemBytes Bits.sizeBytes 20 (b*4) 20 ((b:Int)*4) rfl O O O w
 have ct:=CO (P:=prog) 111 _ underlying111 (some ⟨r,e+12,none⟩) (n-12) (o-12) O;have c1:=CO (P:=prog) 111 _ underlying111 (some ⟨r,e+16,none⟩) (n-16) (o-16) O;have aY:=M9 f 14 al O;have a0:=M9 f 13 al O;have aV:=M9 f 15 al O;have cE:=RL f al;rw[show((2^14:Nat):Int)=16384 from rfl] at aY;rw[show((2^13:Nat):Int)=8192 from rfl] at a0;rw[show((2^15:Nat):Int)=32768 from rfl] at aV
 have bC:Hid (decide ((0:Int)<bits .and .u16 (f:Int) 16384)=Ko (w2 l 6) 16384):=H (by
  rw[aY,Y];unfold Ko;by_cases h:f/2^14%2=1
  ·rw[YH h,Yz O,Yz O]
  ·rw[Yw h,YA O,YA O])
 have b2:Hid (decide ((0:Int)<bits .and .u16 (f:Int) 8192)=Ko (w2 l 6) 8192):=H (by
  rw[a0,Y];unfold Ko;by_cases h:f/2^13%2=1
  ·rw[YH h,Yz O,Yz O]
  ·rw[Yw h,YA O,YA O])
 have bp:Hid (decide ((0:Int)<bits .and .u16 (f:Int) 32768)=decide (32768<=w2 l 6)):=H (by
  rw[aV,Y];by_cases h:f/2^15%2=1
  ·rw[YH h,Yz O,Yz O]
  ·rw[Yw h,YA O,YA O])
 have bX:Hid (((f%8192:Nat):Int)=w2 l 6%8192):=H (by rw[Y];omega);rw[Y];clear aY a0 aV bM bD bB au aA az aQ aS aZ aJ aF aK aN a1 aD aT aX;generalize cv:bits .and .u16 (f:Int) 16384=cU at*;generalize cx:bits .and .u16 (f:Int) 8192=cR at*;generalize b0:bits .and .u16 (f:Int) 32768=aU at*;generalize f%8192=J at*;have cP:=bC.out;have cI:=b2.out;generalize a7:Ko (w2 l 6) 16384=M at*;generalize bi:Ko (w2 l 6) 8192=L at*;have bx:=H a7;have b6:=H bi;clear a7 bi;have cC:(1:Int)<n:=O;have cO:(8:Int)<n:=O;have cW:(9:Int)<n:=O
 have cm:D3 (λb ap ae d=>∃g j,ae=.slice g V.length j/\J8 d b 1 g V.length j (V.map (.int .u8))/\∀a,g=some a->a.block<ap):=λb ap ae ak w2 h cs ac=>by
  obtain⟨g,j,ad,W,am⟩:=h;exact⟨g,j,ad,W.below ac,am⟩
 refine Kf 32 (λb ap ae d=>∃g j,ae=.slice g V.length j/\J8 d b 1 g V.length j (V.map (.int .u8))/\∀a,g=some a->a.block<ap) (.cells (Jb2 false false) 113) (λae=>.agg (Jby F (Jl p) (Jl C) M L (Jl (J:Int)) s z B v u A y t G E ae)) K K K rfl rfl rfl rfl rfl rfl D D D (by intro cl cf h;cases h) (by intro cl cf h;cases h) K K K cm ⟨λ_=>rfl,λ_ _=>K⟩ ?_;apply Exists.intro;refine⟨λai an=>?_,?_,?_,?_⟩
 ·obtain⟨⟨cJ,cQ,c0,cG,cA⟩,-⟩:=ba.out ai an;have cy:r<ai.heap.size:=Jd bm an.size;have ch:=H (λ(x:J2 ai)=>co.out x.world ((ab.below an).later x));have cg:=H (λ(x:J2 ai)=>cp.out x.world ((ab.below an).later x));simp only[Y6,Y7];repeat go_big_quiet_step (fail)
  go_big_quiet_step ((go_at_call 104;exact JD (ch _)))
  repeat go_big_quiet_step (fail)
  go_big_quiet_step ((go_at_call 104;exact JD (cg _)))
  exact JcD
 ·refine⟨rfl,λak be=>.inr ⟨105,#[.slice (JQ (some ⟨r,e,none⟩) 20 o 1) (b*4-20) (o-20)],K,(bw ak (ab.below be)).mono ?_⟩⟩;rintro ad ai ⟨g,j,rfl,W,ac⟩;exact⟨_,rfl,ac,g,j,rfl,W,λa ha=>(W.lt ha).2⟩
 ·rintro bl bv cd c4 ⟨g,j,rfl,-⟩ ak be;exact .inl ⟨rfl,λcS cM=>Kn K⟩
 ·intro bl bv cd N R aB bs cH cV cZ bN bo;obtain⟨g,j,rfl,W,am⟩:=bN;have bY:JE R N 17=true:=by rw[Jw _ _ _ _ _ bo];rfl
  rw[bP] at*;have bu:w.heap.size<U.heap.size:=(Ja a9).1;have ao:Jh (R.setRow N (Jby F (Jl p) (Jl C) M L (Jl (J:Int)) s z B v u A y t G E (.slice g (b*4-20) j))) N (Jby F (Jl p) (Jl C) M L (Jl (J:Int)) s z B v u A y t G E (.slice g (b*4-20) j)) 113:=Jaf _ _ _ _ _ _ bo;have a3:Jh (R.setRow N (Jby F (Jl p) (Jl C) M L (Jl (J:Int)) s z B v u A y t G E (.slice g (b*4-20) j))) w.heap.size ipZ 113:=(Ja5 _ N _ _ O).trans ((aB.block _ bu).trans a9);have aw:Hid (Below w.heap.size w (R.setRow N (Jby F (Jl p) (Jl C) M L (Jl (J:Int)) s z B v u A y t G E (.slice g (b*4-20) j)))):=H (below_setRow (Wx a6 aB) O _);have aH:Hid (Below U.heap.size U (R.setRow N (Jby F (Jl p) (Jl C) M L (Jl (J:Int)) s z B v u A y t G E (.slice g (b*4-20) j)))):=H (below_setRow aB O _);have bj:Hid (J8 (R.setRow N (Jby F (Jl p) (Jl C) M L (Jl (J:Int)) s z B v u A y t G E (.slice g (b*4-20) j))) bl 1 g (b*4-20) j (V.map (.int .u8))):=H (W.keep (by simp) λa ha=>Ja5 _ N _ _ (by have b8:=(W.lt ha).1;have cY:=am a ha;omega));have ca:Jg (R.setRow N (Jby F (Jl p) (Jl C) M L (Jl (J:Int)) s z B v u A y t G E (.slice g (b*4-20) j))) N 1 (Jl p):=by rw[WN _ _ _ _ _ _ ao];rfl
  have br:JE (R.setRow N (Jby F (Jl p) (Jl C) M L (Jl (J:Int)) s z B v u A y t G E (.slice g (b*4-20) j))) w.heap.size 17=true:=by rw[Jw _ _ _ _ _ a3];rfl
  have bt:Jv (R.setRow N (Jby F (Jl p) (Jl C) M L (Jl (J:Int)) s z B v u A y t G E (.slice g (b*4-20) j))) N 0 17=(Jby F (Jl p) (Jl C) M L (Jl (J:Int)) s z B v u A y t G E (.slice g (b*4-20) j):Array Value):=by rw[JG _ _ _ _ _ _ _ ao];simp
  have aM:=H ao;have ah:=H a3;have cw:Jn p:=by have:=Xw ab.byte 2;rw[ar.out] at this;exact this
  clear ao a3 W am;simp only[Y8,Y9];simp only[Act.put,XK,Ja6,Ja7,Ja8];by_cases aP:32768<=w2 l 6
  ·have a5:(0:Int)<aU:=by have:=bp.out;rw[Yz aP] at this;exact JaV this
   have T:Hid (QJ l=51):=H (by rw[aE.out,YH (.inl aP)]);exact Jeg
  ·have a5:¬(0:Int)<aU:=by have:=bp.out;rw[YA aP] at this;exact Ja9 this
   have b0:decide ((0:Int)<aU)=false:=YA a5;by_cases cq:p<(b:Int)*4
   ·have T:Hid (QJ l=51):=H (by rw[aE.out,YH (.inr (by rw[ar.out];omega))]);exact Jeg
   ·have bk:Hid (QJ l=if XW (l.take (b*4))=false then 52 else 0):=H (by rw[aE.out,Yw (by rw[ar.out];omega)])
    have bc:Hid (XY ((R.setRow N (Jby F (Jl p) (Jl C) M L (Jl (J:Int)) s z B v u A y t G E (.slice g (b*4-20) j))).alloc (.cells #[.slice (some ⟨r,e,none⟩) (b*4) o] 22)) (((R.setRow N (Jby F (Jl p) (Jl C) M L (Jl (J:Int)) s z B v u A y t G E (.slice g (b*4-20) j))).alloc (.cells #[.slice (some ⟨r,e,none⟩) (b*4) o] 22)).heap.size) R.heap.size 1 [l.take (b*4)]):=H (by
     have cj:=((ab.below aH).alloc (.cells #[.slice (some ⟨r,e,none⟩) (b*4) o] 22)).take (b*4) O;refine⟨rfl,by simp,λcn bz=>?_⟩;obtain rfl:cn=0:=by simpa using bz
     exact⟨some ⟨r,e,none⟩,b*4,o,by go_cell,cj,O,λa ha=>by cases ha;have:=bm.out;have:=aH.size;simp only[Jai];omega⟩)
    have aR:=H (LK R.heap.size 1 1 _ _ bc O);rw[show[l.take (b*4)].flatten=l.take (b*4) by simp] at aR;have bf:Hid (Below w.heap.size w ((R.setRow N (Jby F (Jl p) (Jl C) M L (Jl (J:Int)) s z B v u A y t G E (.slice g (b*4-20) j))).alloc (.cells #[.slice (some ⟨r,e,none⟩) (b*4) o] 22))):=H (Below.all aw _);have aC:Hid (Jh ((R.setRow N (Jby F (Jl p) (Jl C) M L (Jl (J:Int)) s z B v u A y t G E (.slice g (b*4-20) j))).alloc (.cells #[.slice (some ⟨r,e,none⟩) (b*4) o] 22)) N (Jby F (Jl p) (Jl C) M L (Jl (J:Int)) s z B v u A y t G E (.slice g (b*4-20) j)) 113):=H ((YU _ _ (Ja aM).1).trans aM);have aI:Hid (Jh ((R.setRow N (Jby F (Jl p) (Jl C) M L (Jl (J:Int)) s z B v u A y t G E (.slice g (b*4-20) j))).alloc (.cells #[.slice (some ⟨r,e,none⟩) (b*4) o] 22)) w.heap.size ipZ 113):=H ((YU _ _ (Ja ah).1).trans ah);have bd:=H (bj.alloc (.cells #[.slice (some ⟨r,e,none⟩) (b*4) o] 22));go_wp2_with fail
    generalize ((R.setRow N (Jby F (Jl p) (Jl C) M L (Jl (J:Int)) s z B v u A y t G E (.slice g (b*4-20) j))).alloc (.cells #[.slice (some ⟨r,e,none⟩) (b*4) o] 22))=cD at*;refine Jb aR ?_;rintro ad Z ⟨rfl,ag⟩;have a8:=H (Wx bf ag);have ci:Hid (Jh Z N (Jby F (Jl p) (Jl C) M L (Jl (J:Int)) s z B v u A y t G E (.slice g (b*4-20) j)) 113):=H ((ag.block _ (Ja aC).1).trans aC);have aO:Hid (Jh Z w.heap.size ipZ 113):=H ((ag.block _ (Ja aI).1).trans aI);have bh:=H (bd.below ag);have cX:JE Z w.heap.size 17=true:=by rw[Jw _ _ _ _ _ aO.out];rfl
    have c2:Jv Z N 0 17=(Jby F (Jl p) (Jl C) M L (Jl (J:Int)) s z B v u A y t G E (.slice g (b*4-20) j):Array Value):=by rw[JG _ _ _ _ _ _ _ ci.out];simp
    clear ag bc aR bf aC aI bd br bt ca bY aM ah aw aH bj;cases hwh:XW (l.take (b*4))
    ·have T:Hid (QJ l=52):=H (by rw[bk.out,YH hwh]);go_wp2_with fail
     exact Bp w.heap.size T D rfl rfl rfl (Jaf _ _ _ _ _ _ aO) (below_setRow a8 (Je _) _)
    ·have T:Hid (QJ l=0):=H (by rw[bk.out,Yw (by rw[hwh];decide)]);go_wp2_with fail
     have bI:Jh (Z.setRow w.heap.size (Jby F (Jl p) (Jl C) M L (Jl (J:Int)) s z B v u A y t G E (.slice g (b*4-20) j))) w.heap.size (Jby F (Jl p) (Jl C) M L (Jl (J:Int)) s z B v u A y t G E (.slice g (b*4-20) j)) 113:=Jaf _ _ _ _ _ _ aO;have bV:Jv (Z.setRow w.heap.size (Jby F (Jl p) (Jl C) M L (Jl (J:Int)) s z B v u A y t G E (.slice g (b*4-20) j))) w.heap.size 0 17=(Jby F (Jl p) (Jl C) M L (Jl (J:Int)) s z B v u A y t G E (.slice g (b*4-20) j):Array Value):=by rw[JG _ _ _ _ _ _ _ bI];rfl
     refine RM w.heap.size rfl rfl rfl bV rfl (.inr ⟨T.out,g,j,?_,?_,below_setRow a8 (Je _) _⟩)
     ·unfold ipA;rw[b7.out,ce.out,bZ.out,bG.out,bL.out,bW.out,bT.out,cc.out,bO.out,bq.out,bR.out,ar.out,bH.out,bx.out,b6.out,<-bX.out,a2.out,show((b*4:Nat):Int)=(b:Int)*4 from O]
     ·rw[a2.out,bJ.out];exact(bh.keep (by simp) λa ha=>Ja5 _ w.heap.size _ _ (by have b8:=(bh.lt ha).1;omega)).mono O
theorem Ds (s:Option Addr)(n o:Nat)(l:List Int)(w:World)(a:JA w s n o l)(g:n<=100000):Jf 52 #[.slice s n o] w (GB w l):=by
 by_cases h:n<20
 ·refine(Km s n o w h).mono ?_;intro e d E;exact .err E (by unfold QJ;rw[a.len,YH h]) D
 ·rcases a.addr with X|⟨r,b,rfl,-⟩
  ·omega
  ·exact LN r b n o l w a O g
theorem Ff {a:Program}(t:TypeId)(b d:IntKind)(s:Option Addr)(n o size:Nat)(e:a.underlying t=some (.slice (a.elem t)))(l:(a.info? (a.elem t)).map (·.size)=some size)(k m:Nat)(i J:Int)(F:i=(k:Int))(g:J=(m:Int))(A:k<=m)(W:m<=o)(w:World):
 (Instr.slice t (.slice s n o) (some (.int b i)) (some (.int d J)) none).run a w=.ok (.slice (JQ s k o size) (m-k) (o-k)) w:=by
 subst F g;obtain⟨p,j,y⟩:=Yb.1 l;rw[run_slice_lh w t s n o e b d (k:Int) (m:Int) (Yc _) (Yd.2 A) (Yd.2 W)];exact JdY
def QK (l:List Int):List Int:=if JR l=0 then AZ l else []
def JO (w:World)(l:List Int)(err:Int):Ending->World->Prop:=λe d=>∃b o,e=.returned (.tuple #[.slice b l.length o,Jk err])/\J8 d w.heap.size 1 b l.length o (l.map (.int .u8))/\Ji w d
theorem FP {l:List Int}(h:QJ l=0):20<=ipHl l/\ipHl l<=l.length/\(ipHl l:Int)<=w2 l 2:=by
 unfold QJ at h;by_cases j:l.length<20
 ·rw[YH j] at h;cases h
 rw[Yw j] at h;by_cases y:l.getD 0 0/16≠4
 ·rw[YH y] at h;cases h
 rw[Yw y] at h;by_cases Y:ipHl l<20
 ·rw[YH Y] at h;cases h
 rw[Yw Y] at h;by_cases b:l.length<ipHl l
 ·rw[YH b] at h;cases h
 rw[Yw b] at h;by_cases d:32768<=w2 l 6\/w2 l 2<ipHl l
 ·rw[YH d] at h;cases h
 omega
theorem Bq (s:Option Addr)(n o:Nat)(l:List Int)(w:World)(r:JA w s n o l)(P:n<=100000):Jf 76 #[.slice s n o] w (JO w (QK l) (JR l)):=by
 have y:=H r;have I:=r.len;have E:=H (Ds s n o l w r P);clear r;go_enter func76,ntmps76
 go_wp2_with fail
 refine Jb E ?_;rintro e V (⟨X,rfl,g⟩|⟨X,T,Y,rfl,B,g⟩)
 ·have b:Hid (JR l=QJ l):=H (by unfold JR;rw[YH X]);have d:Hid (QK l=[]):=H (by unfold QK;rw[Yw (by rw[b.out];exact X)]);have j:=H g;have R:(QJ l==0)=false:=by simpa using X
  have J:Hid (JO w (QK l) (JR l)=JO w [] (QJ l)):=H (by rw[b.out,d.out]);clear g E b d;unfold TP ipZ;go_wp2_with fail
  go_ret2;show JO w (QK l) (JR l) _ _;rw[J.out];exact⟨none,0,rfl,J8.nil _ _ _,Below.all j _⟩
 ·have A:=FP X;have U:=Xw y.byte 2;have j:=H g;have Z:=H A;have b:Hid (JR l=if (l.length:Int)<w2 l 2 then 10 else 0):=H (by unfold JR;rw[Yw (by rw[X];decide)]);have N:=H (y.below g);unfold ipA;clear g B E;obtain⟨a,v⟩:∃t:Nat,w2 l 2=t:=⟨(w2 l 2).toNat,O⟩
  obtain⟨M,C⟩:∃k:Nat,ipHl l=k:=⟨_,rfl⟩
  have Q:Hid (AZ l=(l.drop M).take (a-M)):=H (by unfold AZ;rw[C,v,Jak]);rw[v] at b;rw[v,C] at A;rw[v,C];rw[I] at b A;by_cases z:(n:Int)<a
  ·have p:Hid (JR l=10):=H (by rw[b.out,YH z]);have d:Hid (QK l=[]):=H (by unfold QK;rw[Yw (by rw[p.out];decide)]);go_wp2_with fail
   go_ret2;show JO w (QK l) (JR l) _ _;rw[p.out,d.out];exact⟨none,0,rfl,J8.nil _ _ _,Below.all j _⟩
  ·have p:Hid (JR l=0):=H (by rw[b.out,Yw z]);have d:Hid (QK l=(l.drop M).take (a-M)):=H (by unfold QK;rw[YH p.out,Q.out]);have S:=y.le;have hcut:∀w,(Instr.slice 22 (.slice s n o) (some (.int .i64 (M:Int))) (some (.int .u16 (a:Int))) none).run prog w=.ok (.slice (JQ s M o 1) (a-M) (o-M)) w:=λw=>Ff _ .i64 .u16 s n o 1 rfl rfl M a _ _ rfl rfl O O w
   go_wp2_with fail
   refine Jb (Bits.clone_any _ _ _ _ _ (((N.alloc _).cut M O).take (a-M) O) O) ?_;rintro e W ⟨G,F,rfl,B,L⟩;go_wp2_with fail
   go_ret2;show JO w (QK l) (JR l) _ _;rw[p.out,d.out];refine⟨G,F,?_,?_,?_⟩
   ·show Ending.returned (.tuple #[.slice G (min (a-M) (n-M)) F,Jk 0])=_;rw[WR,W4,I]
   ·exact B.mono (Below.all j _).size
   ·exact Wx (Below.all j _) L
theorem Jc0{p:Prop}(h:p:=by
 clear a;go_enter func107,ntmps107
 go_wp2_with fail
 refine JM K K ?_;repeat go_big_quiet_step (fail)
 refine Jaa ?_;intro x;go_wp2_with fail
 go_ret;refine .mk (J6 b.symm) (Ww (Below.all (Jc _ _) _))):p:=h
theorem JdV{p:Prop}(h:p:=by
 go_wp2_with fail
 go_ret;exact .mk (Za rfl) (Jc _ _)):p:=h
def ipV (h:IpH)(s:Option Addr)(o:Nat):Array Value:=#[Jq h.tos,Jl h.total,Jl h.id,.bool h.df,.bool h.mf,Jl h.frag,Jq h.ttl,Jq h.proto,
 .int .u8 (h.src.getD 0 0),Jq (h.src.getD 1 0),Jq (h.src.getD 2 0),Jq (h.src.getD 3 0),Jq (h.dst.getD 0 0),Jq (h.dst.getD 1 0),Jq (h.dst.getD 2 0),Jq (h.dst.getD 3 0),.slice s h.opt.length o]
theorem Fg (h:IpH)(s:Option Addr)(o:Nat)(w:World)(B:h.opt.length<=100000):Jf 109 #[.agg (ipV h s o)] w (Jz w (Jk (20+(h.opt.length:Int)))):=by
 unfold ipV;generalize h.opt.length=n at*;go_enter func109,ntmps109
 go_wp2_with fail
 go_ret;refine .mk (Za ?_) ?_
 ·rfl
 ·repeat' (first|assumption|exact Jc _ _|apply Below.all)
theorem H7 (b:Bool)(v:Int)(w:World):Jf 110 #[b,Jo v] w (Jz w (Jo (if b then v else 0))):=by
 cases b
 ·go_enter func110,ntmps110
  exact JdV
 ·go_enter func110,ntmps110
  exact JdV
theorem Na (h:IpH)(s:Option Addr)(o:Nat)(w:World)(B:h.opt.length<=100000)(v:Jn h.total):Jf 107 #[.agg (ipV h s o)] w (Jz w (.bool (QF h))):=by
 have l:∀w,Jf 109 #[.agg (ipV h s o)] w (Jz w (Jk (20+(h.opt.length:Int)))):=λw=>Fg h s o w B
 have a:Hid (QF h=(decide (h.frag<=8191)&&(decide (h.opt.length%4=0)&&(decide (h.opt.length<=40)&&decide (20+(h.opt.length:Int)<=h.total))))):=H rfl;generalize QF h=d at*;unfold ipV at l|-;generalize h.opt.length=n at*;generalize h.frag=p at*;generalize h.total=t at*;by_cases j:p<=8191
 ·by_cases y:n%4=0
  ·have W:Int.tmod (n:Int) 4=0:=by rw[Jax O];omega
   by_cases Y:n<=40
   ·have g:(n:Int)<=40:=O;have b:Hid (d=decide (20+(n:Int)<=t)):=H (by rw[a.out,Yz j,Yz y,Yz Y];rfl);clear a;go_enter func107,ntmps107
    go_wp2_with fail
    refine JM K K ?_;repeat go_big_quiet_step ((go_at_call 109;exact JD (l _)))
    refine Jaa ?_;intro x;go_wp2_with fail
    go_ret;refine .mk (J6 b.symm) (Ww (Below.all (Jc _ _) _))
   ·have g:¬(n:Int)<=40:=O;have r:=YA g;have e:=Yz j;have b:Hid (d=false):=H (by rw[a.out,Yz j,Yz y,YA Y];rfl);exact Jc0
  ·have W:¬Int.tmod (n:Int) 4=0:=by rw[Jax O];omega
   have b:Hid (d=false):=H (by rw[a.out,Yz j,YA y];rfl);have u:(Int.tmod (n:Int) 4==0)=false:=by simpa using W
   have r:((n:Int)%4==0)=false:=by simp;omega
   have e:=Yz j;exact Jc0
 ·have b:Hid (d=false):=H (by rw[a.out,YA j];rfl);have e:=YA j;exact Jc0
end
end Go.Proofs.YtkgjbipfhhjlpaaGreatDoor
