import Derived.Test.YtkgjbipfhhjlpaaGreatDoorMq2
import Derived.Lib.BytesEntry
set_option linter.unusedVariables false
set_option linter.unusedSimpArgs false
set_option maxRecDepth 100000
set_option maxHeartbeats 32000000
namespace Go.Proofs.YtkgjbipfhhjlpaaGreatDoor
open Go.Proofs.Tryz
section
open Go.RowKit
theorem MP:(prog.info? 5).map (λi=>(i.zero,i.size,i.bytes))=some (some (.int .u8 0),1,1):=K
theorem IG:(prog.info? 27).map (·.size)=some 17:=K
theorem MQ (a:Option Addr)(m c:Nat)(l:List Int)(w:World)(u:JA w a m c l)(W:m<=1000000):Jf 10 #[.slice a m c] w (J5 w l):=by
 obtain rfl:=u.len;go_enter func10,ntmps10
 go_wp2_with (at_builtin;refine JJ.of ?_)
 refine JJ.mk ?_;refine JI _ rfl _ _ 22 rfl 5 w.heap.size underlying22 MP none 0 0 [] rfl (J8.nil _ _ _) a l.length c l rfl u O (Je _) ?_;intro j n d e b L;simp only[WM,Jah] at e|-;have g:Ji w d:=Yr (Jc _ _) b (Je _) (λk A=>by simp at A);clear b L;go_wp2_with fail
 go_ret;exact .mk e rfl g
theorem IH (e:Option Addr)(m c:Nat)(d:Option Addr)(b:Nat)(l:List Int)(w:World)(u:JA w e m c l)(p:JA w d m b l)(W:m<=1000000):Jf 14 #[.slice e m c,.slice d m b] w (Jz w (.bool true)):=by
 have t:=H u;have v:=H p;clear u p;go_enter func14,ntmps14
 go_wp2_with fail
 go_loopg [5] m (λr u5 wr=>∃k:Nat,k+r=m/\u5=.int .i64 k/\Hid (JA wr e m c l)/\Hid (JA wr d m b l)/\Hid (Ji w wr))
 case atStart=>exact⟨0,O,rfl,t,v,H (Jc _ _)⟩
 case round=>
  obtain⟨k,A,rfl,g,a,j⟩:=hrel;by_cases n:k<m
  ·obtain⟨B,E,rfl,C,o⟩:=g.here O;obtain⟨J,y,rfl,G,s⟩:=a.here O;have F:=o k n;have L:=s k n;have z:=g.le;have I:=a.le;clear o s;generalize l.getD k 0=x at*;go_wp2_with fail
   go_region
   go_wp2_with fail
   go_roundg (m-(k+1))
   case measure=>omega
   case rel=>exact⟨k+1,O,by go_num,H g.drew,H a.drew,H j.drew⟩
  ·go_wp2_with fail
   go_ret;exact .mk rfl j
def P2 (w:World)(s:Option Addr):Ending->World->Prop:=λe d=>e=.returned (.tuple #[])/\w.grownBy d (s.map Addr.block)/\d.heap.size=w.heap.size
theorem K1 (s:Option Addr)(n o u:Nat)(t:List Value)(w:World)(b:J8 w u 1 s n o t)(B:n<=1000000):Jf 18 #[.slice s n o] w (P2 w s):=by
 have z:=H b;clear b;go_enter func18,ntmps18
 go_wp2_with fail
 go_loopw [2] (λu2 wr=>∃k:Nat,k<=n/\u2=.int .i64 k/\Hid (∃e,J8 wr u 1 s n o e)/\Hid (w.grownBy wr (s.map Addr.block))/\Hid (wr.heap.size=w.heap.size)) (λu2 _=>(n:Int)-intOf u2 |>.toNat)
 case atStart=>exact⟨0,WG _,rfl,H ⟨t,z.out⟩,H (WB _ _),H rfl⟩
 case round=>
  obtain⟨k,A,rfl,l,d,v⟩:=hrel;by_cases N:k<n
  ·obtain⟨e,a⟩:=l.out;obtain⟨r,E,rfl,g,M,I,p⟩:=a.here O;have L:=a.le;obtain⟨j,y⟩:=p k O;obtain⟨G,J⟩:=W7.1 j;have F:=H (a.set k O (Jq 165));have C:=H (World.grownBy.trans d (WC wr ⟨r,E+k,none⟩ (Jq 165)));clear I p j a l;go_wp2_with fail
   go_roundw
   case rel=>exact⟨k+1,O,by go_num,H ⟨_,F.out⟩,C,H (by simpa using v.out)⟩
   case measure=>simp[intOf];omega
  ·go_wp2_with fail
   go_end0
   exact⟨rfl,d.out,v.out⟩
def Jt (b:Bool)(U:Nat->Int):List Int:=(List.range (Ga b).toNat).map U
theorem JB (b:Bool)(U:Nat->Int):(Jt b U).length=(Ga b).toNat:=by simp[Jt]
theorem Dl (a:Bool)(U:Nat->Int)(i:Nat)(h:i<(Ga a).toNat):(Jt a U).getD i 0=U i:=by simp[Jt,Yi,h]
theorem UT (b:Bool):∃a:Nat,Ga b=a/\4<=a/\a<=16/\(Ga b).toNat=a:=by
 cases b
 ·exact⟨4,rfl,O,O,rfl⟩
 ·exact⟨16,rfl,O,O,rfl⟩
theorem QV (b:Bool)(U:Nat->Int)(w:World):Jf 45 #[adV b U] w (J5 w (Jt b U)):=by
 have d:Hid (Qa (w.alloc (.cells (Jbr b U) 36)) w.heap.size 36 b U):=H (Qa.made w _ b U);have g:Hid (Below w.heap.size w (w.alloc (.cells (Jbr b U) 36))):=H (Below.all (Jc w.heap.size w) _);have C:=H (λw=>PY b w);have v:=H (JB b U);obtain⟨l,F,Z,W,t⟩:=UT b;have Q:Hid (Jt b U=(List.range l).map U):=H (by unfold Jt;rw[t]);rw[F] at C;rw[t] at v;clear F t;unfold adV;go_enter func45,ntmps45
 go_wp2_with fail
 have M:w.heap.size+1<=(w.alloc (.cells (Jbr b U) 36)).heap.size:=by simp
 generalize w.alloc (.cells (Jbr b U) 36)=V at*;go_loopw [3,4] (λu3 u4 wr=>∃(k:Nat) (p:Option Addr) (o:Nat),k<=l/\u4=.int .i64 k/\u3=.slice p k o/\Hid (J8 wr (w.heap.size+1) 1 p k o (((List.range k).map U).map (.int .u8)))/\Hid (Qa wr w.heap.size 36 b U)/\Hid (Ji w wr)/\w.heap.size+1<=wr.heap.size) (λ_ u4 _=>(l:Int)-intOf u4 |>.toNat)
 case atStart=>exact⟨0,none,0,O,rfl,rfl,H (J8.nil _ _ _),d,g,M⟩
 case round=>
  obtain⟨k,p,o,A,rfl,rfl,j,d,g,G⟩:=hrel;have N:=d.six;go_wp2_with fail
  refine Jb (C _) ?_;rintro e w2 ⟨rfl,rfl⟩;by_cases Y:k<l
  ·have R:=d.cell k O;have J:Hid (List.range (k+1)=List.range k++[k]):=H List.range_succ;have E:=H (λa (ha:p=some a)=>(j.lt ha).1);go_wp2_with (at_builtin;refine JJ.of ?_)
   refine JJ.mk ?_;refine J7 _ rfl _ _ 22 rfl 5 (Jq 0) 1 1 (w.heap.size+1) underlying22 MP rfl D p k o _ rfl (j.alloc _) ⟨wr.heap.size,0,none⟩ 1 1 [.int .u8 (U k)] rfl rfl ?_ ?_ D ?_ ?_ ?_ ?_
   ·exact X5 _ _ _
   ·simp[Value.oneCell']
   ·unfold maxLen;omega
   ·omega
   ·simp only[Jai];omega
   intro y B u z r L
   have P:=H ((d.alloc (.cells #[Jq (U k)] 5)).keep (r.block _ (by simp only[Jai];omega) (λe=>by
    obtain⟨a,ha,X⟩:=Yb.1 e.symm;have:=E.out a ha;omega)))
   have T:Hid (Ji w u):=H (Wv (Below.all g _) (j.alloc _) O r (by simp only[Jai];omega));have I:w.heap.size+1<=u.heap.size:=by have:=r.size;simp only[Jai] at this;omega
   have S:Hid (J8 u (w.heap.size+1) 1 y (k+1) B (((List.range (k+1)).map U).map (.int .u8))):=H (by
    rw[J.out,Jaj,Jaj];exact z)
   clear r L z d g j G E R N;go_wp2_with fail
   go_roundw
   case rel=>exact⟨k+1,y,B,O,by go_num,rfl,S,P,T,I⟩
   case measure=>simp[intOf];omega
  ·obtain rfl:k=l:=O;go_wp2_with fail
   go_ret;exact .mk (by rw[Q.out];exact j.mono O) v.symm g
theorem bytes_any (b:Bool)(U:Nat->Int)(w:World):Jf 64 #[adV b U] w (J5 w (Jt b U)):=by
 have p:Hid (Qa (w.alloc (.cells (Jbr b U) 27)) w.heap.size 27 b U):=H (Qa.made w _ b U);have n:Hid (Below w.heap.size w (w.alloc (.cells (Jbr b U) 27))):=H (Below.all (Jc w.heap.size w) _);have A:=H (λw=>Cz b U w);have d:=H (JB b U);have z:=H (λi h=>Dl b U i h);obtain⟨t,B,N,I,u⟩:=UT b;rw[B] at A;rw[u] at d z;clear B u;generalize Jt b U=l at*;unfold adV at*;go_enter func64,ntmps64
 go_wp2_with fail
 generalize w.alloc (.cells (Jbr b U) 27)=V at*;refine Jb (A _) ?_;rintro e w2 ⟨rfl,g⟩;have C:=H (p.below g);have j:=H (Wx n g);have M:(t:Int)<=16:=O;have L:¬(16=0):=O;clear g p n;go_wp2_with fail
 refine Jb (bytes_Clone_at ⟨w.heap.size,1,none⟩ t 16 l w2 d O (λi F=>by
  rw[W3,z.out i F];exact C.cell i O)) ?_
 rintro e P ⟨J,rfl,v,-,r⟩;obtain⟨s,o,rfl,y⟩:=J8.of_row v;have E:=H (y.mono j.size);have G:=H (Wx j r);clear v y r;go_wp2_with fail
 go_ret;exact .mk E d.symm G
def Qj (l:List Int)(i:Nat):Int:=l.getD i 0
def Fv (l:List Int):Value:=if l.length=16 then .tuple #[adV true (Qj l),Jk 0] else if l.length=4 then .tuple #[adV false (Qj l),Jk 0] else .tuple #[adV false λ_=>0,Jk 2]
theorem FI {l:List Int}{n:Nat}(h:l.length=n)(i:Nat)(F:n<=i):Qj l i=0:=by
 unfold Qj;rw[Yi,W5 O];rfl
theorem DH {l:List Int}(h:l.length=16):Fv l=.tuple #[adV true (Qj l),Jk 0]:=by unfold Fv;rw[YH h]
theorem Gc {l:List Int}(h:l.length=4):Fv l=.tuple #[adV false (Qj l),Jk 0]:=by unfold Fv;rw[Yw O,YH h]
theorem NY {l:List Int}(h:l.length≠16)(a:l.length≠4):Fv l=.tuple #[adV false λ_=>0,Jk 2]:=by unfold Fv;rw[Yw h,Yw a]
theorem P3 (n:Nat){d:Program}{j:Array Oper}{e:Exit->Act->World->Prop}{o:Op}{l:TypeId}{b:String}{g:Array Edge}{r:Option (Nat×Bool)}{rest:List Oper}{a:Act}{w:World}
 (h:JJ (wpList d j e (⟨some n,o,l,b,g,r⟩::rest) a w)):wpList d j e (⟨some n,o,l,b,g,r⟩::rest) a w:=h
theorem T1 (t:Option Addr)(c:Nat)(l:List Int)(w:World)(u:JA w t 16 c l):Jf 140 #[.slice t 16 c] w (Jz w (Fv l)):=by
 rw[DH u.len];have R:=H (λi h=>FI u.len i h);have b:=H (λw=>Cz true (λ_=>0) w);rw[show Ga true=16 from rfl] at b;obtain⟨r,o,rfl,G,I⟩:=u.here O;have M:Hid (∀J,J<16->Jg w r (o+J) (Jq (Qj l J))):=H I;have s:=H (show Below w.heap.size w ((w.alloc (.cells (Jbu false) 27)).alloc (.cells (Jbu true) 27)) from Below.all (Below.all (Jc _ _) _) _);clear u I;unfold adV at b;go_enter func140,ntmps140
 go_wp2_with fail
 refine Jb (b _) ?_;rintro e w2 ⟨rfl,a⟩;have y:=(a.block _ (by simp;omega)).trans (Jab w (.cells (Jbu false) 27) (.cells (Jbu true) 27));have C:=(a.block _ (by simp)).trans (Jac w (.cells (Jbu false) 27) (.cells (Jbu true) 27));have j:=H (Wx s a);have F:w.heap.size+1<w2.heap.size:=by have:=a.size;simp at this;omega
 clear a s b;go_wp2_with (with_reducible refine P3 18 ?_)
 refine JJ.mk ?_
 refine wpList_copy_splice rfl (.tmp 16) (.tmp 17) 22 22 rfl 5 underlying22 K (some ⟨w.heap.size+1,1,none⟩) (some ⟨r,o,none⟩) 16 16 16 c rfl rfl (w.heap.size+1) 1
  (.bool true::List.replicate 16 (.int .u8 0)) 27 C (DF 16 (Qj l)) (ZB _ _) (λ_=>⟨rfl,_,rfl,λJ v E=>?_⟩) (by rw[ZB];decide) (CB _ _) (w.heap.size+1) w2 (Jc _ _) (Je _) ?_
 ·obtain⟨N,rfl⟩:=CA _ _ _ _ E;rw[W3];exact(j.cell (p:=⟨r,o+J,none⟩) G).trans (M J N)
 intro d A g;have n:=(g.block w.heap.size O).trans y;have z:Jh d (w.heap.size+1) (Jby true (Jq (Qj l 0)) (Jq (Qj l 1)) (Jq (Qj l 2)) (Jq (Qj l 3)) (Jq (Qj l 4)) (Jq (Qj l 5)) (Jq (Qj l 6)) (Jq (Qj l 7)) (Jq (Qj l 8)) (Jq (Qj l 9)) (Jq (Qj l 10)) (Jq (Qj l 11)) (Jq (Qj l 12)) (Jq (Qj l 13)) (Jq (Qj l 14)) (Jq (Qj l 15))) 27:=A.out;have S:Jv d (w.heap.size+1) 0 17=(Jby true (Jq (Qj l 0)) (Jq (Qj l 1)) (Jq (Qj l 2)) (Jq (Qj l 3)) (Jq (Qj l 4)) (Jq (Qj l 5)) (Jq (Qj l 6)) (Jq (Qj l 7)) (Jq (Qj l 8)) (Jq (Qj l 9)) (Jq (Qj l 10)) (Jq (Qj l 11)) (Jq (Qj l 12)) (Jq (Qj l 13)) (Jq (Qj l 14)) (Jq (Qj l 15)):Array Value):=by rw[JG _ _ _ _ _ _ _ z];simp
 have Q:=(Qa.mk (six:=false) (B:=λ_=>(0:Int)) n).row;have L:=H n;have P:Hid (Ji w d):=H (j.trans (g.mono O));clear y C A g n z F j;go_wp2_with fail
 refine Jag (v:=.tuple #[adV true (Qj l),Jk 0]) ?_ rfl (.mk rfl (below_setRow P (Je _) _));refine JY _ _ underlying27 IG rfl _ _ w.heap.size (Jk 0) rfl rfl ?_;exact Xx L
theorem UU (y:Option Addr)(c:Nat)(l:List Int)(w:World)(u:JA w y 4 c l):Jf 140 #[.slice y 4 c] w (Jz w (Fv l)):=by
 rw[Gc u.len];have a:=H (λi h=>FI u.len i h);have j:=H (λw=>Cz false (λ_=>0) w);rw[show Ga false=4 from rfl] at j;obtain⟨r,s,rfl,L,I⟩:=u.here O;have N:Hid (∀J,J<4->Jg w r (s+J) (Jq (Qj l J))):=H I;have t:=H (show Below w.heap.size w ((w.alloc (.cells (Jbu false) 27)).alloc (.cells (Jbu false) 27)) from Below.all (Below.all (Jc _ _) _) _);clear u I;unfold adV at j;go_enter func140,ntmps140
 go_wp2_with fail
 refine Jb (j _) ?_;rintro e w2 ⟨rfl,b⟩;have z:=(b.block _ (by simp;omega)).trans (Jab w (.cells (Jbu false) 27) (.cells (Jbu false) 27));have E:=(b.block _ (by simp)).trans (Jac w (.cells (Jbu false) 27) (.cells (Jbu false) 27));have n:=H (Wx t b);have G:w.heap.size+1<w2.heap.size:=by have:=b.size;simp at this;omega
 clear b t j;go_wp2_with (with_reducible refine P3 18 ?_)
 refine JJ.mk ?_
 refine wpList_copy_splice rfl (.tmp 16) (.tmp 17) 22 22 rfl 5 underlying22 K (some ⟨w.heap.size+1,1,none⟩) (some ⟨r,s,none⟩) 16 16 4 c rfl rfl (w.heap.size+1) 1
  (.bool false::List.replicate 16 (.int .u8 0)) 27 E (DF 4 (Qj l)) (ZB _ _) (λ_=>⟨rfl,_,rfl,λJ v F=>?_⟩) (by rw[ZB];decide) (CB _ _) (w.heap.size+1) w2 (Jc _ _) (Je _) ?_
 ·obtain⟨P,rfl⟩:=CA _ _ _ _ F;rw[W3];exact(n.cell (p:=⟨r,s+J,none⟩) L).trans (N J P)
 intro d C g;have o:=(g.block w.heap.size O).trans z;have A:Jh d (w.heap.size+1) (Jcl false (Jq (Qj l 0)) (Jq (Qj l 1)) (Jq (Qj l 2)) (Jq (Qj l 3))) 27:=C.out;have S:Jv d (w.heap.size+1) 0 17=(Jcl false (Jq (Qj l 0)) (Jq (Qj l 1)) (Jq (Qj l 2)) (Jq (Qj l 3)):Array Value):=by rw[JG _ _ _ _ _ _ _ A];simp
 have R:=(Qa.mk (six:=false) (B:=λ_=>(0:Int)) o).row;have M:=H o;have Q:Hid (Ji w d):=H (n.trans (g.mono O));clear z E C g o A G n;go_wp2_with fail
 refine Jag (v:=.tuple #[adV false (Qj l),Jk 0]) ?_ rfl (.mk rfl (below_setRow Q (Je _) _));refine JY _ _ underlying27 IG rfl _ _ w.heap.size (Jk 0) rfl rfl ?_;rw[Xx M.out];rw[a.out 4 O,a.out 5 O,a.out 6 O,a.out 7 O,a.out 8 O,a.out 9 O,a.out 10 O,a.out 11 O,a.out 12 O,a.out 13 O,a.out 14 O,a.out 15 O]
theorem T2 (j:Option Addr)(n c:Nat)(l:List Int)(w:World)(u:JA w j n c l)(W:n<=1000000)(r:n≠16)(p:n≠4):Jf 140 #[.slice j n c] w (Jz w (Fv l)):=by
 rw[NY (by rw[u.len];exact r) (by rw[u.len];exact p)];have a:=H (λw=>Cz false (λ_=>0) w);rw[show Ga false=4 from rfl] at a;have g:=H (show Below w.heap.size w ((w.alloc (.cells (Jbu false) 27)).alloc (.cells (Jbu false) 27)) from Below.all (Below.all (Jc _ _) _) _);have z:((n:Int)==16)=false:=by simp;omega
 have y:¬((n:Int)=4):=O;clear u;unfold adV at a;go_enter func140,ntmps140
 go_wp2_with fail
 refine Jb (a _) ?_;rintro e w2 ⟨rfl,d⟩;have b:=(d.block _ (by simp;omega)).trans (Jab w (.cells (Jbu false) 27) (.cells (Jbu false) 27));have t:=(Qa.mk (six:=false) (B:=λ_=>(0:Int)) b).row;have s:=H b;have o:=H (Wx g d);clear d g a b;go_wp2_with fail
 exact Jag (v:=.tuple #[adV false λ_=>0,Jk 2]) (JY _ _ underlying27 IG rfl _ _ w.heap.size (Jk 2) rfl rfl (Xx s)) rfl (.mk rfl (below_setRow o (Je _) _))
theorem FJ (a:Option Addr)(n c:Nat)(l:List Int)(w:World)(b:JA w a n c l)(W:n<=1000000):Jf 140 #[.slice a n c] w (Jz w (Fv l)):=by
 by_cases e:n=16
 ·subst e;exact T1 a c l w b
 ·by_cases d:n=4
  ·subst d;exact UU a c l w b
  ·exact T2 a n c l w b W e d
theorem JcP{p:Prop}(h:p:=by
 obtain⟨B,t,s,R,I⟩:=g.here O;obtain⟨rfl,rfl⟩:r=B/\o=t:=by simpa using s
 have U:=I k E;have Q:=g.le;have W:=b.cell k O;have T:=b.free (1+k);have L:Hid (l.getD k 0=Qj l k):=H rfl;clear I s;generalize l.getD k 0=x at*;go_wp2_with fail
 go_roundw
 case rel=>
  refine⟨k+1,O,by go_num,H (d.other _ _ (by simp only;omega)),H ((b.set k O x).congr λi F=>?_),H (g.other (λa ha=>by cases ha;simp only;omega) _),H (n.setCell (by simp only;omega) _)⟩;by_cases e:i=k
  ·subst e;simp[L.out]
  ·simp only[Yw e];by_cases h:i<k
   ·rw[YH h,YH O]
   ·rw[Yw h,Yw O]
 case measure=>simp[intOf];omega):p:=h
theorem SJ (p:Option Addr)(c:Nat)(l:List Int)(w:World)(u:JA w p 16 c l):Jf 145 #[.slice p 16 c] w (Jz w (.tuple #[adV true (Qj l),Jk 0])):=by
 have M:=H (λi (F:16<=i)=>FI u.len i F);obtain⟨r,o,rfl,S,-⟩:=u.here O;have y:=H (show Below w.heap.size w ((w.alloc (.cells (Jbu false) 36)).alloc (.cells (Jbu true) 36)) from Below.all (Below.all (Jc _ _) _) _);have d:Hid (Qa ((w.alloc (.cells (Jbu false) 36)).alloc (.cells (Jbu true) 36)) w.heap.size 36 false λ_=>0):=H ⟨Jab w (.cells (Jbu false) 36) (.cells (Jbu true) 36)⟩;have b:Hid (Qa ((w.alloc (.cells (Jbu false) 36)).alloc (.cells (Jbu true) 36)) (w.heap.size+1) 36 true λ_=>0):=H ⟨Jac w (.cells (Jbu false) 36) (.cells (Jbu true) 36)⟩;have z:=H ((u.alloc (.cells (Jbu false) 36)).alloc (.cells (Jbu true) 36));clear u;go_enter func145,ntmps145
 go_wp2_with fail
 generalize (w.alloc (.cells (Jbu false) 36)).alloc (.cells (Jbu true) 36)=V at*;go_loopw [5] (λu5 wr=>∃k:Nat,k<=16/\u5=.int .i64 k/\Hid (Qa wr w.heap.size 36 false λ_=>0)/\Hid (Qa wr (w.heap.size+1) 36 true (λJ=>if J<k then Qj l J else 0))/\Hid (JA wr (some ⟨r,o,none⟩) 16 c l)/\Hid (Ji w wr)) (λu5 _=>(16:Int)-intOf u5 |>.toNat)
 case atStart=>exact⟨0,O,rfl,d,H (b.congr λi _=>by simp),z,y⟩
 case round=>
  obtain⟨k,A,rfl,d,b,g,n⟩:=hrel;by_cases E:k<16
  ·exact JcP
  ·obtain rfl:k=16:=O
   have j:=b.congr (C:=Qj l) λi F=>by
    by_cases h:i<16
    ·rw[YH h]
    ·rw[Yw h,M.out i O]
   have P:=j.part;have N:=d.row;have G:=H d.heap;clear j;go_wp2_with fail
   exact Jag (v:=.tuple #[adV true (Qj l),Jk 0]) (JY _ _ underlying36 DG rfl _ _ w.heap.size (Jk 0) rfl rfl (Xx G)) rfl (.mk rfl (below_setRow n (Je _) _))
theorem T3 (p:Option Addr)(c:Nat)(l:List Int)(w:World)(u:JA w p 4 c l):Jf 145 #[.slice p 4 c] w (Jz w (.tuple #[adV false (Qj l),Jk 0])):=by
 have M:=H (λi (F:4<=i)=>FI u.len i F);obtain⟨r,o,rfl,S,-⟩:=u.here O;have y:=H (show Below w.heap.size w ((w.alloc (.cells (Jbu false) 36)).alloc (.cells (Jbu false) 36)) from Below.all (Below.all (Jc _ _) _) _);have d:Hid (Qa ((w.alloc (.cells (Jbu false) 36)).alloc (.cells (Jbu false) 36)) w.heap.size 36 false λ_=>0):=H ⟨Jab w (.cells (Jbu false) 36) (.cells (Jbu false) 36)⟩;have b:Hid (Qa ((w.alloc (.cells (Jbu false) 36)).alloc (.cells (Jbu false) 36)) (w.heap.size+1) 36 false λ_=>0):=H ⟨Jac w (.cells (Jbu false) 36) (.cells (Jbu false) 36)⟩;have z:=H ((u.alloc (.cells (Jbu false) 36)).alloc (.cells (Jbu false) 36));clear u;go_enter func145,ntmps145
 go_wp2_with fail
 generalize (w.alloc (.cells (Jbu false) 36)).alloc (.cells (Jbu false) 36)=V at*;go_loopw [5] (λu5 wr=>∃k:Nat,k<=4/\u5=.int .i64 k/\Hid (Qa wr w.heap.size 36 false λ_=>0)/\Hid (Qa wr (w.heap.size+1) 36 false (λJ=>if J<k then Qj l J else 0))/\Hid (JA wr (some ⟨r,o,none⟩) 4 c l)/\Hid (Ji w wr)) (λu5 _=>(4:Int)-intOf u5 |>.toNat)
 case atStart=>exact⟨0,O,rfl,d,H (b.congr λi _=>by simp),z,y⟩
 case round=>
  obtain⟨k,A,rfl,d,b,g,n⟩:=hrel;by_cases E:k<4
  ·exact JcP
  ·obtain rfl:k=4:=O
   have j:=b.congr (C:=Qj l) λi F=>by
    by_cases h:i<4
    ·rw[YH h]
    ·rw[Yw h,M.out i O]
   have P:=j.part;have N:=d.row;have G:=H d.heap;clear j;go_wp2_with fail
   exact Jag (v:=.tuple #[adV false (Qj l),Jk 0]) (JY _ _ underlying36 DG rfl _ _ w.heap.size (Jk 0) rfl rfl (Xx G)) rfl (.mk rfl (below_setRow n (Je _) _))
theorem SK (b:Option Addr)(n c:Nat)(l:List Int)(w:World)(u:JA w b n c l)(W:n<=1000000)(g:n≠16)(d:n≠4):Jf 145 #[.slice b n c] w (Jz w (Fv l)):=by
 rw[NY (by rw[u.len];exact g) (by rw[u.len];exact d)];have e:=H (show Below w.heap.size w ((w.alloc (.cells (Jbu false) 36)).alloc (.cells (Jbu false) 36)) from Below.all (Below.all (Jc _ _) _) _);have a:Qa ((w.alloc (.cells (Jbu false) 36)).alloc (.cells (Jbu false) 36)) w.heap.size 36 false λ_=>0:=⟨Jab w (.cells (Jbu false) 36) (.cells (Jbu false) 36)⟩
 have a:=H a;have j:((n:Int)==16)=false:=by simp;omega
 have o:¬((n:Int)=4):=O;have s:¬((n:Int)=16):=O;have p:((n:Int) != 16)=true:=by simp;omega
 have r:((n:Int) != 4)=true:=by simp;omega
 clear u;go_enter func145,ntmps145
 go_wp2_with fail
 exact Jag (v:=.tuple #[adV false λ_=>0,Jk 2]) (JY _ _ underlying36 DG rfl _ _ w.heap.size (Jk 2) rfl rfl a.part) rfl (.mk rfl e)
theorem K2 (a:Option Addr)(n c:Nat)(l:List Int)(w:World)(u:JA w a n c l)(W:n<=1000000):Jf 145 #[.slice a n c] w (Jz w (Fv l)):=by
 by_cases d:n=16
 ·rw[DH (by rw[u.len];exact d)];subst d;exact SJ a c l w u
 ·by_cases b:n=4
  ·rw[Gc (by rw[u.len];exact b)];subst b;exact T3 a c l w u
  ·exact SK a n c l w u W d b
end
end Go.Proofs.YtkgjbipfhhjlpaaGreatDoor
