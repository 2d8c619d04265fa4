import Derived.Test.YtkgjbipfhhjlpaaGreatDoorMq29a
set_option linter.unusedVariables false
set_option linter.unusedSimpArgs false
set_option maxRecDepth 100000
set_option maxHeartbeats 32000000
namespace Go.Proofs.YtkgjbipfhhjlpaaGreatDoor
open Go.Proofs.Tryz
section
open Go.RowKit
theorem F2 (n:Nat)(ay:n<100000)(w:World):
 Jf 33 #[Jk (n:Int)] w (Jz w (.agg (knC n))):=by
 obtain⟨p,ap,aj⟩:∃p:Int,((JbZ (6:Int) (17:Int) (1:Int) (58:Int) (47:Int) (44:Int)):Array Value)[n%7]? =some (.int .u8 p)/\knP n=p:=by
  have X:n%7<7:=Yu _ D;unfold knP;generalize n%7=i at*;rcases(by omega:i=0\/i=1\/i=2\/i=3\/i=4\/i=5\/i=6) with rfl|rfl|rfl|rfl|rfl|rfl|rfl;all_goals exact⟨_,rfl,rfl⟩
 have aq:Int.tmod (n:Int) 7=((n%7:Nat):Int):=by rw[Jax O];omega
 have W:Hid (∀x a b,x=knX n->(a=if (p != 6&&p != 17)&&decide (0<n%11) then 0 else ((n*3%5:Nat):Int))->(b=if ((p != 6&&p != 17)&&decide (0<n%11))&&(p != 1&&p != 58) then 0 else ((n*77%1000:Nat):Int))->∀l:Int,(l=if x then ((n%256:Nat):Int) else 0)->
  knC n=#[.bool x,.int .u8 10,.int .u8 0,.int .u8 0,.int .u8 ((n%3:Nat):Int),.int .u8 0,.int .u8 0,.int .u8 0,.int .u8 0,.int .u8 0,.int .u8 0,.int .u8 0,.int .u8 0,.int .u8 0,.int .u8 0,.int .u8 0,.int .u8 0,.bool x,.int .u8 10,.int .u8 0,.int .u8 ((n%4:Nat):Int),.int .u8 1,.int .u8 0,.int .u8 0,.int .u8 0,.int .u8 0,.int .u8 0,.int .u8 0,.int .u8 0,.int .u8 0,.int .u8 0,.int .u8 0,.int .u8 0,.int .u8 l,.int .u8 p,.int .u16 a,.int .u16 b]):=H (by
  rintro x a b rfl rfl rfl l rfl;unfold knC knA knB knL knZ;rw[aj])
 obtain⟨N,ai⟩:∃c:Int,((n%3:Nat):Int)=c:=⟨_,rfl⟩
 obtain⟨R,af⟩:∃c:Int,((n%4:Nat):Int)=c:=⟨_,rfl⟩
 obtain⟨C,ab⟩:∃c:Int,((n*3%5:Nat):Int)=c:=⟨_,rfl⟩
 obtain⟨s,X⟩:∃c:Int,((n*77%1000:Nat):Int)=c:=⟨_,rfl⟩
 rw[ai,af,ab,X] at W;have aE:(n:Int)%3=N:=O;have az:(n:Int)%4=R:=O;have ar:(n:Int)*3%5=C:=O;have aD:(n:Int)*77%1000=s:=O;go_enter func33,ntmps33
 go_wp2_with fail
 have M:=H (OBx.start ((w.alloc (.cells (JbJ false false) 30)).alloc (.cells (JbZ (6:Int) (17:Int) (1:Int) (58:Int) (47:Int) (44:Int)) 5)) (Jci false false p (Jl C) (Jl s)) 30);have al:Hid (Below w.heap.size w (((w.alloc (.cells (JbJ false false) 30)).alloc (.cells (JbZ (6:Int) (17:Int) (1:Int) (58:Int) (47:Int) (44:Int)) 5)).alloc (.cells (Jci false false p (Jl C) (Jl s)) 30))):=H (Below.all (Below.all (Below.all (Jc _ _) _) _) _);have ac:Hid (Jh (((w.alloc (.cells (JbJ false false) 30)).alloc (.cells (JbZ (6:Int) (17:Int) (1:Int) (58:Int) (47:Int) (44:Int)) 5)).alloc (.cells (Jci false false p (Jl C) (Jl s)) 30)) w.heap.size (JbJ false false) 30):=H ((YU _ _ (by simp;omega)).trans ((YU _ _ (by simp)).trans (WP w _)));rw[show((w.alloc (.cells (JbJ false false) 30)).alloc (.cells (JbZ (6:Int) (17:Int) (1:Int) (58:Int) (47:Int) (44:Int)) 5)).heap.size=w.heap.size+1+1 by simp] at M;obtain⟨b,hb⟩:∃b,b=w.heap.size+1+1:=⟨_,rfl⟩
 rw[<-hb] at M|-;have ad:=H hb;clear hb;generalize ((w.alloc _).alloc _).alloc _=y at*;rw[MA y b 1 (Jcw (10:Int) N) (M.there 1 16 (by show 1+16<=37;decide)) rfl K];have Y:Hid (OBx y b #[.bool false,.int .u8 10,.int .u8 0,.int .u8 0,.int .u8 N,.int .u8 0,.int .u8 0,.int .u8 0,.int .u8 0,.int .u8 0,.int .u8 0,.int .u8 0,.int .u8 0,.int .u8 0,.int .u8 0,.int .u8 0,.int .u8 0,.bool false,.int .u8 0,.int .u8 0,.int .u8 0,.int .u8 0,.int .u8 0,.int .u8 0,.int .u8 0,.int .u8 0,.int .u8 0,.int .u8 0,.int .u8 0,.int .u8 0,.int .u8 0,.int .u8 0,.int .u8 0,.int .u8 0,.int .u8 p,.int .u16 C,.int .u16 s] 30 (y.setCells b 1 ((Jcw (10:Int) N):Array Value).toList)):=H (M.to K);generalize y.setCells b 1 _=Z at*;go_wp2_with fail
 rw[MA Z b 18 (Jcx (10:Int) R (1:Int)) (Y.there 18 16 (by show 18+16<=37;decide)) rfl K];have u:Hid (OBx y b #[.bool false,.int .u8 10,.int .u8 0,.int .u8 0,.int .u8 N,.int .u8 0,.int .u8 0,.int .u8 0,.int .u8 0,.int .u8 0,.int .u8 0,.int .u8 0,.int .u8 0,.int .u8 0,.int .u8 0,.int .u8 0,.int .u8 0,.bool false,.int .u8 10,.int .u8 0,.int .u8 R,.int .u8 1,.int .u8 0,.int .u8 0,.int .u8 0,.int .u8 0,.int .u8 0,.int .u8 0,.int .u8 0,.int .u8 0,.int .u8 0,.int .u8 0,.int .u8 0,.int .u8 0,.int .u8 p,.int .u16 C,.int .u16 s] 30 (Z.setCells b 18 ((Jcx (10:Int) R (1:Int)):Array Value).toList)):=H (Y.to K);generalize Z.setCells b 18 _=aA at*;have av:=WF 0 u.1;have aw:=WF 17 u.1;have ao:=WF 33 u.1;have aG:=WF 34 u.1;have aH:=WF 35 u.1;have aF:=Jad _ _ 0 _ _ u.1;have au:=Jad _ _ 17 _ _ u.1;have aC:=Jad _ _ 33 _ _ u.1;have ax:=Jad _ _ 35 _ _ u.1;obtain⟨F,ag⟩:∃c:Int,((n%256:Nat):Int)=c:=⟨_,rfl⟩
 rw[ag] at W;have aB:(n:Int)%256=F:=O;have o:=H W;clear W ai af ab X ag M Y
 have P:(((n:Int)/7%2==1)=true/\true=knX n)\/(((n:Int)/7%2==1)=false/\false=knX n):=by
  unfold knX;by_cases h:n/7%2=1
  ·exact .inl ⟨by simp;omega,(Yz h).symm⟩
  ·exact .inr ⟨by simp;omega,(YA h).symm⟩
 have ah:((p != 6)=false/\p=6)\/((p != 6)=true/\(p != 17)=false/\p=17)\/((p != 6)=true/\(p != 17)=true/\decide ((0:Int)<(n:Int)%11)=false/\decide (0<n%11)=false)\/
  ((p != 6)=true/\(p != 17)=true/\decide ((0:Int)<(n:Int)%11)=true/\decide (0<n%11)=true/\(p != 1)=false/\p=1)\/
  ((p != 6)=true/\(p != 17)=true/\decide ((0:Int)<(n:Int)%11)=true/\decide (0<n%11)=true/\(p != 1)=true/\(p != 58)=false/\p=58)\/
  ((p != 6)=true/\(p != 17)=true/\decide ((0:Int)<(n:Int)%11)=true/\decide (0<n%11)=true/\(p != 1)=true/\(p != 58)=true):=by
  by_cases S:p=6
  ·exact .inl ⟨by simpa using S,S⟩
  have L:(p != 6)=true:=by simpa using S
  by_cases V:p=17
  ·exact .inr (.inl ⟨L,by simpa using V,V⟩)
  have Q:(p != 17)=true:=by simpa using V
  by_cases U:0<n%11
  rotate_left
  ·exact .inr (.inr (.inl ⟨L,Q,by simp;omega,by simp;omega⟩))
  have T:decide ((0:Int)<(n:Int)%11)=true:=by simp;omega
  by_cases h1:p=1
  ·exact .inr (.inr (.inr (.inl ⟨L,Q,T,Yz U,by simpa using h1,h1⟩)))
  have ae:(p != 1)=true:=by simpa using h1
  by_cases aa:p=58
  ·exact .inr (.inr (.inr (.inr (.inl ⟨L,Q,T,Yz U,ae,by simpa using aa,aa⟩))))
  ·exact .inr (.inr (.inr (.inr (.inr ⟨L,Q,T,Yz U,ae,by simpa using aa⟩))))
 rcases P with ⟨P,j⟩|⟨P,j⟩
 case' inl=>
  rcases ah with ⟨d,v⟩|⟨d,g,v⟩|⟨d,g,G,r⟩|⟨d,g,G,r,E,v⟩|⟨d,g,G,r,E,I,v⟩|⟨d,g,G,r,E,I⟩
  case' inl.inl=>
   have B:=H (o true C s j (by rw[d];rfl) (by rw[d];rfl) F rfl);clear j o v
  case' inl.inr.inl=>
   have B:=H (o true C s j (by rw[d,g];rfl) (by rw[d,g];rfl) F rfl);clear j o v
  case' inl.inr.inr.inl=>
   have B:=H (o true C s j (by rw[d,g,r];rfl) (by rw[d,g,r];rfl) F rfl);clear j o
  case' inl.inr.inr.inr.inl=>
   have B:=H (o true 0 s j (by rw[d,g,r];rfl) (by rw[d,g,r];try rw[E];rfl) F rfl);have A:=H ((((u.set 0 (.bool true)).set 17 (.bool true)).set 33 (Jq F)).set 35 (Jl 0));have J:World.cell? _ ⟨b,34,none⟩=some (.int .u8 p):=(WF 34 A.1).trans K;clear j o v
  case' inl.inr.inr.inr.inr.inl=>
   have B:=H (o true 0 s j (by rw[d,g,r];rfl) (by rw[d,g,r];try rw[E,I];rfl) F rfl);have A:=H ((((u.set 0 (.bool true)).set 17 (.bool true)).set 33 (Jq F)).set 35 (Jl 0));have J:World.cell? _ ⟨b,34,none⟩=some (.int .u8 p):=(WF 34 A.1).trans K;clear j o v
  case' inl.inr.inr.inr.inr.inr=>
   have B:=H (o true 0 0 j (by rw[d,g,r];rfl) (by rw[d,g,r];try rw[E,I];rfl) F rfl);have A:=H ((((u.set 0 (.bool true)).set 17 (.bool true)).set 33 (Jq F)).set 35 (Jl 0));have J:World.cell? _ ⟨b,34,none⟩=some (.int .u8 p):=(WF 34 A.1).trans K;have ak:World.cell? _ ⟨b,36,none⟩=some (.int .u16 s):=(WF 36 A.1).trans K;have am:=Jad _ _ 36 _ _ A.1;clear j o
 case' inr=>
  rcases ah with ⟨d,v⟩|⟨d,g,v⟩|⟨d,g,G,r⟩|⟨d,g,G,r,E,v⟩|⟨d,g,G,r,E,I,v⟩|⟨d,g,G,r,E,I⟩
  case' inr.inl=>
   have B:=H (o false C s j (by rw[d];rfl) (by rw[d];rfl) 0 rfl);clear j o v
  case' inr.inr.inl=>
   have B:=H (o false C s j (by rw[d,g];rfl) (by rw[d,g];rfl) 0 rfl);clear j o v
  case' inr.inr.inr.inl=>
   have B:=H (o false C s j (by rw[d,g,r];rfl) (by rw[d,g,r];rfl) 0 rfl);clear j o
  case' inr.inr.inr.inr.inl=>
   have B:=H (o false 0 s j (by rw[d,g,r];rfl) (by rw[d,g,r];try rw[E];rfl) 0 rfl);have A:=H (u.set 35 (Jl 0));have J:World.cell? _ ⟨b,34,none⟩=some (.int .u8 p):=(WF 34 A.1).trans K;clear j o v
  case' inr.inr.inr.inr.inr.inl=>
   have B:=H (o false 0 s j (by rw[d,g,r];rfl) (by rw[d,g,r];try rw[E,I];rfl) 0 rfl);have A:=H (u.set 35 (Jl 0));have J:World.cell? _ ⟨b,34,none⟩=some (.int .u8 p):=(WF 34 A.1).trans K;clear j o v
  case' inr.inr.inr.inr.inr.inr=>
   have B:=H (o false 0 0 j (by rw[d,g,r];rfl) (by rw[d,g,r];try rw[E,I];rfl) 0 rfl);have A:=H (u.set 35 (Jl 0));have J:World.cell? _ ⟨b,34,none⟩=some (.int .u8 p):=(WF 34 A.1).trans K;have ak:World.cell? _ ⟨b,36,none⟩=some (.int .u16 s):=(WF 36 A.1).trans K;have am:=Jad _ _ 36 _ _ A.1;clear j o
 all_goals
  repeat (first|go_values|go_skip|go_guarded|go_step|go_upon)
  rw[TF (z:=y) (cs':=knC n) (t:=30) (hs:=rfl) (h:=by repeat (first|exact u|apply OBx.set)) (e:=by rw[B.out]<;>kernel_rfl)];have an:Hid (AX (knC n).toList=true):=H (by rw[B.out];rfl);repeat (first|go_values|go_skip|go_guarded|go_step|go_upon)
  rw[St (y:=y) (b:=b) (t:=30) (hy:=ac.out) (hc:=rfl) (hW:=by have:=ad.out;omega) (hk:=rfl) (h1:=an.out) (h:=by repeat (first|exact u|apply OBx.set))];repeat (first|go_values|go_skip|go_guarded|go_step|go_upon)
  exact TG (y:=y) (b:=b) (t:=30) (hy:=ac.out) (hW:=by have:=ad.out;omega) (hk:=rfl) (hb:=al.out) (ht:=rfl) (h:=by repeat (first|exact u|apply OBx.set))
end
end Go.Proofs.YtkgjbipfhhjlpaaGreatDoor
