import Derived.Test.YtkgjbipfhhjlpaaGreatDoorMc27
import Derived.Test.YtkgjbipfhhjlpaaGreatDoorTie
import Derived.LaidMore
import Derived.Lay
import Derived.SevenTiedAt
import Derived.Stop.LaidErr
import Derived.HandedShaped
set_option linter.unusedVariables false
set_option linter.unusedSimpArgs false
set_option maxRecDepth 100000
set_option maxHeartbeats 32000000
namespace Go.Proofs.YtkgjbipfhhjlpaaGreatDoor
section
open Go.RowKit
theorem Jdg (w:World)(dd:Nat)(s:Bool)(S:Nat→Int)(t:Bool)(T:Nat→Int)(p a b:Int)(s2:Bool)(S2:Nat→Int)(t2:Bool)(T2:Nat→Int)(p2 a2 b2:Int):
 (Op.equalIn (dd+6) 30 (.agg (Jo3 s t p (.int .u16 a) (.int .u16 b) S T)) (.agg (Jo9 s2 (.int .u8 (S2 0)) (.int .u8 (S2 1)) (.int .u8 (S2 2)) (.int .u8 (S2 3)) (.int .u8 (S2 4)) (.int .u8 (S2 5)) (.int .u8 (S2 6)) (.int .u8 (S2 7)) (.int .u8 (S2 8)) (.int .u8 (S2 9)) (.int .u8 (S2 10)) (.int .u8 (S2 11)) (.int .u8 (S2 12)) (.int .u8 (S2 13)) (.int .u8 (S2 14)) (.int .u8 (S2 15)) t2 (.int .u8 (T2 0)) (.int .u8 (T2 1)) (.int .u8 (T2 2)) (.int .u8 (T2 3)) (.int .u8 (T2 4)) (.int .u8 (T2 5)) (.int .u8 (T2 6)) (.int .u8 (T2 7)) (.int .u8 (T2 8)) (.int .u8 (T2 9)) (.int .u8 (T2 10)) (.int .u8 (T2 11)) (.int .u8 (T2 12)) (.int .u8 (T2 13)) (.int .u8 (T2 14)) (.int .u8 (T2 15)) p2 (.int .u16 a2) (.int .u16 b2)))).run Tryz.prog w=.ok (JlD ⟨s,S,t,T,p,a,b⟩ ⟨s2,S2,t2,T2,p2,a2,b2⟩) w:=by
 simp[go_sem,JlD,Jnz]
 rw[show b16 S=[S 0,S 1,S 2,S 3,S 4,S 5,S 6,S 7,S 8,S 9,S 10,S 11,S 12,S 13,S 14,S 15] from rfl,show b16 S2=[S2 0,S2 1,S2 2,S2 3,S2 4,S2 5,S2 6,S2 7,S2 8,S2 9,S2 10,S2 11,S2 12,S2 13,S2 14,S2 15] from rfl,show b16 T=[T 0,T 1,T 2,T 3,T 4,T 5,T 6,T 7,T 8,T 9,T 10,T 11,T 12,T 13,T 14,T 15] from rfl,show b16 T2=[T2 0,T2 1,T2 2,T2 3,T2 4,T2 5,T2 6,T2 7,T2 8,T2 9,T2 10,T2 11,T2 12,T2 13,T2 14,T2 15] from rfl]
 generalize eqL [S 0,S 1,S 2,S 3,S 4,S 5,S 6,S 7,S 8,S 9,S 10,S 11,S 12,S 13,S 14,S 15] [S2 0,S2 1,S2 2,S2 3,S2 4,S2 5,S2 6,S2 7,S2 8,S2 9,S2 10,S2 11,S2 12,S2 13,S2 14,S2 15]=E1
 generalize eqL [T 0,T 1,T 2,T 3,T 4,T 5,T 6,T 7,T 8,T 9,T 10,T 11,T 12,T 13,T 14,T 15] [T2 0,T2 1,T2 2,T2 3,T2 4,T2 5,T2 6,T2 7,T2 8,T2 9,T2 10,T2 11,T2 12,T2 13,T2 14,T2 15]=E2
 by_cases h1:s=s2
 ·by_cases h2:t=t2
  ·by_cases h3:p=p2
   ·by_cases h4:a=a2
    ·by_cases h5:b=b2<;>cases E1<;>cases E2<;>simp[h1,h2,h3,h4,h5]
    ·cases E1<;>cases E2<;>simp[h1,h2,h3,h4]
   ·cases E1<;>cases E2<;>simp[h1,h2,h3]
  ·cases E1<;>cases E2<;>simp[h1,h2]
 ·cases E1<;>cases E2<;>simp[h1]
theorem Jeu (w:World)(dd:Nat)(s:Bool)(S:Nat→Int)(t:Bool)(T:Nat→Int)(p a b n f:Int)(r:Bool):
 (Op.equalIn (dd+7) 32 (.agg (JoY s t p (.int .u16 a) (.int .u16 b) (.int .i64 n) f r S T)) (.agg (JoY s t p (.int .u16 a) (.int .u16 b) (.int .i64 n) f r S T))).run Tryz.prog w=.ok true w:=by
 simp[go_sem,Ji1]
attribute [go_sem 5000] Jeu
theorem Bx.drop {W w:World}{f:Nat×Obj}{fs:List (Nat×Obj)}(h:Bx W w (f::fs)):Bx W w fs:=⟨fun b o hm=>h.all b o (List.mem_cons_of_mem _ hm),h.out⟩
theorem Bx.sub {W w:World}{fs gs:List (Nat×Obj)}(h:Bx W w fs)(hs:∀p,p∈gs→p∈fs):Bx W w gs:=⟨fun b o hm=>h.all b o (hs _ hm),h.out⟩
theorem JiD (u:Nat):(Lib.decDigits u).length≤(Lib.decDigits (u/10)).length+1:=by
 have h:=Lib.decDigits.eq_1 u
 rw[h]
 split
 ·simp
 ·simp
theorem Jnm (u:Nat)(h:u<65536):(Lib.decDigits u).length≤6:=by
 have h1:=JiD u
 have h2:=JiD (u/10)
 have h3:=JiD (u/10/10)
 have h4:=Joa ⟨u/10/10/10,by omega⟩
 simp only at h4
 omega
theorem JiE (k:Ky)(hk:Jex k):(Qw k).length≤1000:=by
 have hp:=hk.p
 have ha:=hk.a
 have hb:=hk.b
 have h1:=Jnm k.p.toNat (by omega)
 have h2:=Jnm k.a.toNat (by omega)
 have h3:=Jnm k.b.toNat (by omega)
 have h4:=Jbi k.s k.S hk.S
 have h5:=Jbi k.t k.T hk.T
 unfold Qw
 split
 ·simp[Qz]
  omega
 ·simp
theorem Jly (sp:Sp)(m:Ky)(oa:Option Addr)(n cap:Nat)(l:List Int)(ho:Jey sp)(hm:Jex m)(w:World)(hr:Jg w oa n cap l)(henv:Env w):Calls Tryz.prog 7 #[.agg (spV sp),.agg (kyV m),.slice oa n cap] w (Jj w (.bool true)):=by
 have HE:=JoL henv
 have HRL:=JoL hr
 have hln:=hr.len
 have HU:=JoL (Jdt ho)
 have HPUT:=JoL (fun w=>Jcq sp ho w)
 have HCH:Hid (QI sp=0→∀w' o n' c,Jg w' o n' c (spL sp)→Calls Tryz.prog 32 #[.agg (spV sp),.slice o n' c] w' (Jj w' (.bool true))):=JoL fun he w' o n' c g=>JhE sp ho he o n' c w' g
 have HEM:Hid (QI sp≠0→spL sp=[]):=JoL fun h=>by unfold spL;rw[if_neg h]
 have HLE:Hid (QI sp=0→(spL sp).length≤2048):=JoL fun he=>by have h:=(XD he).len;rw[(XD he).is];exact h
 have HLP:Hid (QI sp=0→0<(spL sp).length):=JoL fun he=>by rw[(XD he).is,List.length_append,Xs];split<;>omega
 have HPK:Hid (QI sp=0→∀t,(spL sp++t).length≤2048→pkR (spL sp++t)=.tuple #[.agg (JaO ⟨sp.k.s,sp.k.S,sp.k.T,sp.k.p,sp.k.a,sp.k.b,(spL sp).length,sp.f,false⟩),.int .i64 0]):=JoL fun he t ht=>by
  obtain⟨e1,e2⟩:=JnK ho he t ht
  unfold pkR
  rw[e1,e2]
 have HST:Hid (QI sp=0→sp.k.s=sp.k.t):=JoL fun he=>(XD he).st
 obtain⟨⟨s,S,t,T,p,a,b⟩,f,d⟩:=sp
 obtain⟨s2,S2,t2,T2,p2,a2,b2⟩:=m
 have hk:=ho.k
 have HPA1:Hid (QI ⟨⟨s,S,t,T,p,a,b⟩,f,d⟩=0→∀w' o c,Jg w' o (spL ⟨⟨s,S,t,T,p,a,b⟩,f,d⟩).length c (spL ⟨⟨s,S,t,T,p,a,b⟩,f,d⟩)→Calls Tryz.prog 11 #[.slice o (spL ⟨⟨s,S,t,T,p,a,b⟩,f,d⟩).length c] w' (Jj w' (.tuple #[.agg #[.bool s,.int .u8 (S 0),.int .u8 (S 1),.int .u8 (S 2),.int .u8 (S 3),.int .u8 (S 4),.int .u8 (S 5),.int .u8 (S 6),.int .u8 (S 7),.int .u8 (S 8),.int .u8 (S 9),.int .u8 (S 10),.int .u8 (S 11),.int .u8 (S 12),.int .u8 (S 13),.int .u8 (S 14),.int .u8 (S 15),.bool t,.int .u8 (T 0),.int .u8 (T 1),.int .u8 (T 2),.int .u8 (T 3),.int .u8 (T 4),.int .u8 (T 5),.int .u8 (T 6),.int .u8 (T 7),.int .u8 (T 8),.int .u8 (T 9),.int .u8 (T 10),.int .u8 (T 11),.int .u8 (T 12),.int .u8 (T 13),.int .u8 (T 14),.int .u8 (T 15),.int .u8 p,.int .u16 a,.int .u16 b,.int .i64 ((spL ⟨⟨s,S,t,T,p,a,b⟩,f,d⟩).length:Int),.int .u8 f,.bool false],.int .i64 0]))):=JoL fun he w' o c g=>by
  have h:=JcY o _ c _ w' g
  have e:=HPK.out he [] (by rw[List.append_nil];exact HLE.out he)
  rw[List.append_nil] at e
  have est:s=t:=HST.out he
  rw[e] at h
  subst est
  exact h
 have HPA2:Hid (QI ⟨⟨s,S,t,T,p,a,b⟩,f,d⟩=0→(spL ⟨⟨s,S,t,T,p,a,b⟩,f,d⟩).length+n≤2048→∀w' o c,Jg w' o ((spL ⟨⟨s,S,t,T,p,a,b⟩,f,d⟩).length+n) c (spL ⟨⟨s,S,t,T,p,a,b⟩,f,d⟩++l)→Calls Tryz.prog 11 #[.slice o ((spL ⟨⟨s,S,t,T,p,a,b⟩,f,d⟩).length+n) c] w' (Jj w' (.tuple #[.agg #[.bool s,.int .u8 (S 0),.int .u8 (S 1),.int .u8 (S 2),.int .u8 (S 3),.int .u8 (S 4),.int .u8 (S 5),.int .u8 (S 6),.int .u8 (S 7),.int .u8 (S 8),.int .u8 (S 9),.int .u8 (S 10),.int .u8 (S 11),.int .u8 (S 12),.int .u8 (S 13),.int .u8 (S 14),.int .u8 (S 15),.bool t,.int .u8 (T 0),.int .u8 (T 1),.int .u8 (T 2),.int .u8 (T 3),.int .u8 (T 4),.int .u8 (T 5),.int .u8 (T 6),.int .u8 (T 7),.int .u8 (T 8),.int .u8 (T 9),.int .u8 (T 10),.int .u8 (T 11),.int .u8 (T 12),.int .u8 (T 13),.int .u8 (T 14),.int .u8 (T 15),.int .u8 p,.int .u16 a,.int .u16 b,.int .i64 ((spL ⟨⟨s,S,t,T,p,a,b⟩,f,d⟩).length:Int),.int .u8 f,.bool false],.int .i64 0]))):=JoL fun he hle w' o c g=>by
  have h:=JcY o _ c _ w' g
  have e:=HPK.out he l (by rw[List.length_append,hln];exact hle)
  have est:s=t:=HST.out he
  rw[e] at h
  subst est
  exact h
 have HPA3:Hid (2048<(spL ⟨⟨s,S,t,T,p,a,b⟩,f,d⟩).length+n→∀w' o c,Jg w' o ((spL ⟨⟨s,S,t,T,p,a,b⟩,f,d⟩).length+n) c (spL ⟨⟨s,S,t,T,p,a,b⟩,f,d⟩++l)→Calls Tryz.prog 11 #[.slice o ((spL ⟨⟨s,S,t,T,p,a,b⟩,f,d⟩).length+n) c] w' (Jj w' (.tuple #[.agg #[.bool false,.int .u8 0,.int .u8 0,.int .u8 0,.int .u8 0,.int .u8 0,.int .u8 0,.int .u8 0,.int .u8 0,.int .u8 0,.int .u8 0,.int .u8 0,.int .u8 0,.int .u8 0,.int .u8 0,.int .u8 0,.int .u8 0,.bool false,.int .u8 0,.int .u8 0,.int .u8 0,.int .u8 0,.int .u8 0,.int .u8 0,.int .u8 0,.int .u8 0,.int .u8 0,.int .u8 0,.int .u8 0,.int .u8 0,.int .u8 0,.int .u8 0,.int .u8 0,.int .u8 0,.int .u8 0,.int .u16 0,.int .u16 0,.int .i64 0,.int .u8 0,.bool false],.int .i64 3]))):=JoL fun hle w' o c g=>by
  have h:=JcY o _ c _ w' g
  have e:Qq (spL ⟨⟨s,S,t,T,p,a,b⟩,f,d⟩++l)=3:=by unfold Qq;rw[if_pos (by rw[List.length_append,hln];exact hle)]
  unfold pkR Jkd at h
  rw[e] at h
  exact h
 have HOW:Hid (∀w' o c,Jg w' o (spL ⟨⟨s,S,t,T,p,a,b⟩,f,d⟩).length c (spL ⟨⟨s,S,t,T,p,a,b⟩,f,d⟩)→(spL ⟨⟨s,S,t,T,p,a,b⟩,f,d⟩).length≤2048→Calls Tryz.prog 10 #[.slice o (spL ⟨⟨s,S,t,T,p,a,b⟩,f,d⟩).length c] w' (JT w' (spL ⟨⟨s,S,t,T,p,a,b⟩,f,d⟩))):=JoL fun w' o c g h=>Jkk o _ c _ w' g (by omega)
 have HR1:Hid (∀w,Calls Tryz.prog 26 #[.agg #[.bool s,.int .u8 (S 0),.int .u8 (S 1),.int .u8 (S 2),.int .u8 (S 3),.int .u8 (S 4),.int .u8 (S 5),.int .u8 (S 6),.int .u8 (S 7),.int .u8 (S 8),.int .u8 (S 9),.int .u8 (S 10),.int .u8 (S 11),.int .u8 (S 12),.int .u8 (S 13),.int .u8 (S 14),.int .u8 (S 15),.bool t,.int .u8 (T 0),.int .u8 (T 1),.int .u8 (T 2),.int .u8 (T 3),.int .u8 (T 4),.int .u8 (T 5),.int .u8 (T 6),.int .u8 (T 7),.int .u8 (T 8),.int .u8 (T 9),.int .u8 (T 10),.int .u8 (T 11),.int .u8 (T 12),.int .u8 (T 13),.int .u8 (T 14),.int .u8 (T 15),.int .u8 p,.int .u16 a,.int .u16 b]] w (Jj w (.bool (Jv ⟨s,S,t,T,p,a,b⟩)))):=JoL fun w=>Q6 _ _ _ _ _ _ _ w
 have HR2:Hid (∀w,Calls Tryz.prog 26 #[.agg #[.bool s2,.int .u8 (S2 0),.int .u8 (S2 1),.int .u8 (S2 2),.int .u8 (S2 3),.int .u8 (S2 4),.int .u8 (S2 5),.int .u8 (S2 6),.int .u8 (S2 7),.int .u8 (S2 8),.int .u8 (S2 9),.int .u8 (S2 10),.int .u8 (S2 11),.int .u8 (S2 12),.int .u8 (S2 13),.int .u8 (S2 14),.int .u8 (S2 15),.bool t2,.int .u8 (T2 0),.int .u8 (T2 1),.int .u8 (T2 2),.int .u8 (T2 3),.int .u8 (T2 4),.int .u8 (T2 5),.int .u8 (T2 6),.int .u8 (T2 7),.int .u8 (T2 8),.int .u8 (T2 9),.int .u8 (T2 10),.int .u8 (T2 11),.int .u8 (T2 12),.int .u8 (T2 13),.int .u8 (T2 14),.int .u8 (T2 15),.int .u8 p2,.int .u16 a2,.int .u16 b2]] w (Jj w (.bool (Jv ⟨s2,S2,t2,T2,p2,a2,b2⟩)))):=JoL fun w=>Q6 _ _ _ _ _ _ _ w
 have HT1:Hid (∀w,Env w→Calls Tryz.prog 28 #[.agg #[.bool s,.int .u8 (S 0),.int .u8 (S 1),.int .u8 (S 2),.int .u8 (S 3),.int .u8 (S 4),.int .u8 (S 5),.int .u8 (S 6),.int .u8 (S 7),.int .u8 (S 8),.int .u8 (S 9),.int .u8 (S 10),.int .u8 (S 11),.int .u8 (S 12),.int .u8 (S 13),.int .u8 (S 14),.int .u8 (S 15),.bool t,.int .u8 (T 0),.int .u8 (T 1),.int .u8 (T 2),.int .u8 (T 3),.int .u8 (T 4),.int .u8 (T 5),.int .u8 (T 6),.int .u8 (T 7),.int .u8 (T 8),.int .u8 (T 9),.int .u8 (T 10),.int .u8 (T 11),.int .u8 (T 12),.int .u8 (T 13),.int .u8 (T 14),.int .u8 (T 15),.int .u8 p,.int .u16 a,.int .u16 b]] w (Jj w (.string ⟨(Qw ⟨s,S,t,T,p,a,b⟩).toArray⟩))):=JoL fun w h=>Jei _ hk w h
 have HT2:Hid (∀w,Env w→Calls Tryz.prog 28 #[.agg #[.bool s2,.int .u8 (S2 0),.int .u8 (S2 1),.int .u8 (S2 2),.int .u8 (S2 3),.int .u8 (S2 4),.int .u8 (S2 5),.int .u8 (S2 6),.int .u8 (S2 7),.int .u8 (S2 8),.int .u8 (S2 9),.int .u8 (S2 10),.int .u8 (S2 11),.int .u8 (S2 12),.int .u8 (S2 13),.int .u8 (S2 14),.int .u8 (S2 15),.bool t2,.int .u8 (T2 0),.int .u8 (T2 1),.int .u8 (T2 2),.int .u8 (T2 3),.int .u8 (T2 4),.int .u8 (T2 5),.int .u8 (T2 6),.int .u8 (T2 7),.int .u8 (T2 8),.int .u8 (T2 9),.int .u8 (T2 10),.int .u8 (T2 11),.int .u8 (T2 12),.int .u8 (T2 13),.int .u8 (T2 14),.int .u8 (T2 15),.int .u8 p2,.int .u16 a2,.int .u16 b2]] w (Jj w (.string ⟨(Qw ⟨s2,S2,t2,T2,p2,a2,b2⟩).toArray⟩))):=JoL fun w h=>Jei _ hm w h
 have HB1:Hid (∀w,Calls Tryz.prog 24 #[.agg #[.bool s,.int .u8 (S 0),.int .u8 (S 1),.int .u8 (S 2),.int .u8 (S 3),.int .u8 (S 4),.int .u8 (S 5),.int .u8 (S 6),.int .u8 (S 7),.int .u8 (S 8),.int .u8 (S 9),.int .u8 (S 10),.int .u8 (S 11),.int .u8 (S 12),.int .u8 (S 13),.int .u8 (S 14),.int .u8 (S 15),.bool t,.int .u8 (T 0),.int .u8 (T 1),.int .u8 (T 2),.int .u8 (T 3),.int .u8 (T 4),.int .u8 (T 5),.int .u8 (T 6),.int .u8 (T 7),.int .u8 (T 8),.int .u8 (T 9),.int .u8 (T 10),.int .u8 (T 11),.int .u8 (T 12),.int .u8 (T 13),.int .u8 (T 14),.int .u8 (T 15),.int .u8 p,.int .u16 a,.int .u16 b]] w (Jht w (JK ⟨s,S,t,T,p,a,b⟩).length (JK ⟨s,S,t,T,p,a,b⟩))):=JoL fun w=>(Jbs _ hk w).mono fun _ _ h=>h.n rfl (XE _ hk)
 have HB2:Hid (∀w,Calls Tryz.prog 24 #[.agg #[.bool s2,.int .u8 (S2 0),.int .u8 (S2 1),.int .u8 (S2 2),.int .u8 (S2 3),.int .u8 (S2 4),.int .u8 (S2 5),.int .u8 (S2 6),.int .u8 (S2 7),.int .u8 (S2 8),.int .u8 (S2 9),.int .u8 (S2 10),.int .u8 (S2 11),.int .u8 (S2 12),.int .u8 (S2 13),.int .u8 (S2 14),.int .u8 (S2 15),.bool t2,.int .u8 (T2 0),.int .u8 (T2 1),.int .u8 (T2 2),.int .u8 (T2 3),.int .u8 (T2 4),.int .u8 (T2 5),.int .u8 (T2 6),.int .u8 (T2 7),.int .u8 (T2 8),.int .u8 (T2 9),.int .u8 (T2 10),.int .u8 (T2 11),.int .u8 (T2 12),.int .u8 (T2 13),.int .u8 (T2 14),.int .u8 (T2 15),.int .u8 p2,.int .u16 a2,.int .u16 b2]] w (Jht w (JK ⟨s2,S2,t2,T2,p2,a2,b2⟩).length (JK ⟨s2,S2,t2,T2,p2,a2,b2⟩))):=JoL fun w=>(Jbs _ hm w).mono fun _ _ h=>h.n rfl (XE _ hm)
 have HBL:Hid ((JK ⟨s,S,t,T,p,a,b⟩).length≤1000000∧(JK ⟨s2,S2,t2,T2,p2,a2,b2⟩).length≤1000000):=JoL (by have h1:=Jep ⟨s,S,t,T,p,a,b⟩;have h2:=Jep ⟨s2,S2,t2,T2,p2,a2,b2⟩;omega)
 have HC:Hid (∀w,Calls Tryz.prog 30 #[.agg #[.bool s,.int .u8 (S 0),.int .u8 (S 1),.int .u8 (S 2),.int .u8 (S 3),.int .u8 (S 4),.int .u8 (S 5),.int .u8 (S 6),.int .u8 (S 7),.int .u8 (S 8),.int .u8 (S 9),.int .u8 (S 10),.int .u8 (S 11),.int .u8 (S 12),.int .u8 (S 13),.int .u8 (S 14),.int .u8 (S 15),.bool t,.int .u8 (T 0),.int .u8 (T 1),.int .u8 (T 2),.int .u8 (T 3),.int .u8 (T 4),.int .u8 (T 5),.int .u8 (T 6),.int .u8 (T 7),.int .u8 (T 8),.int .u8 (T 9),.int .u8 (T 10),.int .u8 (T 11),.int .u8 (T 12),.int .u8 (T 13),.int .u8 (T 14),.int .u8 (T 15),.int .u8 p,.int .u16 a,.int .u16 b],.agg #[.bool s2,.int .u8 (S2 0),.int .u8 (S2 1),.int .u8 (S2 2),.int .u8 (S2 3),.int .u8 (S2 4),.int .u8 (S2 5),.int .u8 (S2 6),.int .u8 (S2 7),.int .u8 (S2 8),.int .u8 (S2 9),.int .u8 (S2 10),.int .u8 (S2 11),.int .u8 (S2 12),.int .u8 (S2 13),.int .u8 (S2 14),.int .u8 (S2 15),.bool t2,.int .u8 (T2 0),.int .u8 (T2 1),.int .u8 (T2 2),.int .u8 (T2 3),.int .u8 (T2 4),.int .u8 (T2 5),.int .u8 (T2 6),.int .u8 (T2 7),.int .u8 (T2 8),.int .u8 (T2 9),.int .u8 (T2 10),.int .u8 (T2 11),.int .u8 (T2 12),.int .u8 (T2 13),.int .u8 (T2 14),.int .u8 (T2 15),.int .u8 p2,.int .u16 a2,.int .u16 b2]] w (Jj w (.int .i64 (JgZ ⟨s,S,t,T,p,a,b⟩ ⟨s2,S2,t2,T2,p2,a2,b2⟩)))):=JoL fun w=>Jmu _ _ hk hm w
 have HRD:Hid (Jv ⟨s,S,t,T,p,a,b⟩=true→∀w,Env w→Calls Tryz.prog 22 #[.string ⟨(Qw ⟨s,S,t,T,p,a,b⟩).toArray⟩] w (Jj w (.tuple #[.agg #[.bool s,.int .u8 (S 0),.int .u8 (S 1),.int .u8 (S 2),.int .u8 (S 3),.int .u8 (S 4),.int .u8 (S 5),.int .u8 (S 6),.int .u8 (S 7),.int .u8 (S 8),.int .u8 (S 9),.int .u8 (S 10),.int .u8 (S 11),.int .u8 (S 12),.int .u8 (S 13),.int .u8 (S 14),.int .u8 (S 15),.bool t,.int .u8 (T 0),.int .u8 (T 1),.int .u8 (T 2),.int .u8 (T 3),.int .u8 (T 4),.int .u8 (T 5),.int .u8 (T 6),.int .u8 (T 7),.int .u8 (T 8),.int .u8 (T 9),.int .u8 (T 10),.int .u8 (T 11),.int .u8 (T 12),.int .u8 (T 13),.int .u8 (T 14),.int .u8 (T 15),.int .u8 p,.int .u16 a,.int .u16 b],.int .i64 0]))):=JoL fun h w he=>by
  obtain⟨k',e1,e2⟩:=JbO hk h
  have hx:=Z4 (Qw ⟨s,S,t,T,p,a,b⟩) w (JiE _ hk) he
  rw[e1] at hx
  unfold Ja3 at hx
  simp only[e2] at hx
  exact hx
 have HEQ:Hid (Jv ⟨s,S,t,T,p,a,b⟩=true→Jv ⟨s2,S2,t2,T2,p2,a2,b2⟩=true→JlD ⟨s,S,t,T,p,a,b⟩ ⟨s2,S2,t2,T2,p2,a2,b2⟩=eqL (JK ⟨s,S,t,T,p,a,b⟩) (JK ⟨s2,S2,t2,T2,p2,a2,b2⟩)∧(Qw ⟨s,S,t,T,p,a,b⟩==Qw ⟨s2,S2,t2,T2,p2,a2,b2⟩)=eqL (JK ⟨s,S,t,T,p,a,b⟩) (JK ⟨s2,S2,t2,T2,p2,a2,b2⟩)∧(JgZ ⟨s,S,t,T,p,a,b⟩ ⟨s2,S2,t2,T2,p2,a2,b2⟩==0)=eqL (JK ⟨s,S,t,T,p,a,b⟩) (JK ⟨s2,S2,t2,T2,p2,a2,b2⟩)):=JoL fun h1 h2=>by
  have e:=Jfh hk hm h1 h2
  exact⟨e.symm,(Jls hk hm h1 h2).trans e.symm,(Jmt hk hm h1 h2).trans e.symm⟩
 have HKM:Hid (∀(w:World) (dd:Nat),(Op.equalIn (dd+6) 30 (.agg (Jo3 s t p (.int .u16 a) (.int .u16 b) S T)) (.agg (Jo9 s2 (.int .u8 (S2 0)) (.int .u8 (S2 1)) (.int .u8 (S2 2)) (.int .u8 (S2 3)) (.int .u8 (S2 4)) (.int .u8 (S2 5)) (.int .u8 (S2 6)) (.int .u8 (S2 7)) (.int .u8 (S2 8)) (.int .u8 (S2 9)) (.int .u8 (S2 10)) (.int .u8 (S2 11)) (.int .u8 (S2 12)) (.int .u8 (S2 13)) (.int .u8 (S2 14)) (.int .u8 (S2 15)) t2 (.int .u8 (T2 0)) (.int .u8 (T2 1)) (.int .u8 (T2 2)) (.int .u8 (T2 3)) (.int .u8 (T2 4)) (.int .u8 (T2 5)) (.int .u8 (T2 6)) (.int .u8 (T2 7)) (.int .u8 (T2 8)) (.int .u8 (T2 9)) (.int .u8 (T2 10)) (.int .u8 (T2 11)) (.int .u8 (T2 12)) (.int .u8 (T2 13)) (.int .u8 (T2 14)) (.int .u8 (T2 15)) p2 (.int .u16 a2) (.int .u16 b2)))).run Tryz.prog w=.ok (JlD ⟨s,S,t,T,p,a,b⟩ ⟨s2,S2,t2,T2,p2,a2,b2⟩) w):=JoL fun w dd=>Jdg w dd s S t T p a b s2 S2 t2 T2 p2 a2 b2
 have BX0:Hid (Bx w ((w.alloc (.cells (Jo0 s t p (.int .u16 a) (.int .u16 b) f (.int .i64 d) S T) 47)).alloc (.cells (Jo9 s2 (.int .u8 (S2 0)) (.int .u8 (S2 1)) (.int .u8 (S2 2)) (.int .u8 (S2 3)) (.int .u8 (S2 4)) (.int .u8 (S2 5)) (.int .u8 (S2 6)) (.int .u8 (S2 7)) (.int .u8 (S2 8)) (.int .u8 (S2 9)) (.int .u8 (S2 10)) (.int .u8 (S2 11)) (.int .u8 (S2 12)) (.int .u8 (S2 13)) (.int .u8 (S2 14)) (.int .u8 (S2 15)) t2 (.int .u8 (T2 0)) (.int .u8 (T2 1)) (.int .u8 (T2 2)) (.int .u8 (T2 3)) (.int .u8 (T2 4)) (.int .u8 (T2 5)) (.int .u8 (T2 6)) (.int .u8 (T2 7)) (.int .u8 (T2 8)) (.int .u8 (T2 9)) (.int .u8 (T2 10)) (.int .u8 (T2 11)) (.int .u8 (T2 12)) (.int .u8 (T2 13)) (.int .u8 (T2 14)) (.int .u8 (T2 15)) p2 (.int .u16 a2) (.int .u16 b2)) 30)) [(w.heap.size+1,.cells (Jo9 s2 (.int .u8 (S2 0)) (.int .u8 (S2 1)) (.int .u8 (S2 2)) (.int .u8 (S2 3)) (.int .u8 (S2 4)) (.int .u8 (S2 5)) (.int .u8 (S2 6)) (.int .u8 (S2 7)) (.int .u8 (S2 8)) (.int .u8 (S2 9)) (.int .u8 (S2 10)) (.int .u8 (S2 11)) (.int .u8 (S2 12)) (.int .u8 (S2 13)) (.int .u8 (S2 14)) (.int .u8 (S2 15)) t2 (.int .u8 (T2 0)) (.int .u8 (T2 1)) (.int .u8 (T2 2)) (.int .u8 (T2 3)) (.int .u8 (T2 4)) (.int .u8 (T2 5)) (.int .u8 (T2 6)) (.int .u8 (T2 7)) (.int .u8 (T2 8)) (.int .u8 (T2 9)) (.int .u8 (T2 10)) (.int .u8 (T2 11)) (.int .u8 (T2 12)) (.int .u8 (T2 13)) (.int .u8 (T2 14)) (.int .u8 (T2 15)) p2 (.int .u16 a2) (.int .u16 b2)) 30 (0,0)),(w.heap.size,.cells (Jo0 s t p (.int .u16 a) (.int .u16 b) f (.int .i64 d) S T) 47 (0,0))]):=JoL (by
  have hbx:=((Bx.start w).box (Jo0 s t p (.int .u16 a) (.int .u16 b) f (.int .i64 d) S T) 47).box (Jo9 s2 (.int .u8 (S2 0)) (.int .u8 (S2 1)) (.int .u8 (S2 2)) (.int .u8 (S2 3)) (.int .u8 (S2 4)) (.int .u8 (S2 5)) (.int .u8 (S2 6)) (.int .u8 (S2 7)) (.int .u8 (S2 8)) (.int .u8 (S2 9)) (.int .u8 (S2 10)) (.int .u8 (S2 11)) (.int .u8 (S2 12)) (.int .u8 (S2 13)) (.int .u8 (S2 14)) (.int .u8 (S2 15)) t2 (.int .u8 (T2 0)) (.int .u8 (T2 1)) (.int .u8 (T2 2)) (.int .u8 (T2 3)) (.int .u8 (T2 4)) (.int .u8 (T2 5)) (.int .u8 (T2 6)) (.int .u8 (T2 7)) (.int .u8 (T2 8)) (.int .u8 (T2 9)) (.int .u8 (T2 10)) (.int .u8 (T2 11)) (.int .u8 (T2 12)) (.int .u8 (T2 13)) (.int .u8 (T2 14)) (.int .u8 (T2 15)) p2 (.int .u16 a2) (.int .u16 b2)) 30
  rw[show(w.alloc (.cells (Jo0 s t p (.int .u16 a) (.int .u16 b) f (.int .i64 d) S T) 47)).heap.size=w.heap.size+1 by simp] at hbx
  exact hbx)
 clear hk ho hm hr henv HPK HST
 generalize QI ⟨⟨s,S,t,T,p,a,b⟩,f,d⟩=er at*
 generalize spL ⟨⟨s,S,t,T,p,a,b⟩,f,d⟩=L at*
 generalize Jv ⟨s,S,t,T,p,a,b⟩=r1 at*
 generalize Jv ⟨s2,S2,t2,T2,p2,a2,b2⟩=r2 at*
 generalize Qw ⟨s,S,t,T,p,a,b⟩=X1 at*
 generalize Qw ⟨s2,S2,t2,T2,p2,a2,b2⟩=X2 at*
 generalize JK ⟨s,S,t,T,p,a,b⟩=Y1 at*
 generalize JK ⟨s2,S2,t2,T2,p2,a2,b2⟩=Y2 at*
 generalize JgZ ⟨s,S,t,T,p,a,b⟩ ⟨s2,S2,t2,T2,p2,a2,b2⟩=cm at*
 generalize JlD ⟨s,S,t,T,p,a,b⟩ ⟨s2,S2,t2,T2,p2,a2,b2⟩=ke at*
 unfold spV kyV kyC at*
 simp only at HPUT HCH⊢
 go_enter Tryz.func7,Tryz.ntmps7
 by_cases hn:n≤40
 rotate_left
 ·have hn2:(n:Int)>40:=by omega
  go_wp2_with fail
  refine JoN (Jbq _ (HE.out.below BX0.out.out)) ?_
  rintro e w2 ⟨rfl,hb⟩
  have HB:=JoL (JoE BX0.out.out hb)
  clear hb
  go_wp2_with fail
  go_ret
  exact .mk rfl HB.out
 have hn2:¬((n:Int)>40):=by omega
 have pK:Jb ((w.alloc (.cells (Jo0 s t p (.int .u16 a) (.int .u16 b) f (.int .i64 d) S T) 47)).alloc (.cells (Jo9 s2 (.int .u8 (S2 0)) (.int .u8 (S2 1)) (.int .u8 (S2 2)) (.int .u8 (S2 3)) (.int .u8 (S2 4)) (.int .u8 (S2 5)) (.int .u8 (S2 6)) (.int .u8 (S2 7)) (.int .u8 (S2 8)) (.int .u8 (S2 9)) (.int .u8 (S2 10)) (.int .u8 (S2 11)) (.int .u8 (S2 12)) (.int .u8 (S2 13)) (.int .u8 (S2 14)) (.int .u8 (S2 15)) t2 (.int .u8 (T2 0)) (.int .u8 (T2 1)) (.int .u8 (T2 2)) (.int .u8 (T2 3)) (.int .u8 (T2 4)) (.int .u8 (T2 5)) (.int .u8 (T2 6)) (.int .u8 (T2 7)) (.int .u8 (T2 8)) (.int .u8 (T2 9)) (.int .u8 (T2 10)) (.int .u8 (T2 11)) (.int .u8 (T2 12)) (.int .u8 (T2 13)) (.int .u8 (T2 14)) (.int .u8 (T2 15)) p2 (.int .u16 a2) (.int .u16 b2)) 30)) w.heap.size 0 37=(Jo3 s t p (.int .u16 a) (.int .u16 b) S T:Array Value):=by rw[Jl _ _ _ _ _ _ _ (BX0.out.at 1 rfl)];simp
 go_wp2_with fail
 have BX3:Hid (Bx w (((w.alloc (.cells (Jo0 s t p (.int .u16 a) (.int .u16 b) f (.int .i64 d) S T) 47)).alloc (.cells (Jo9 s2 (.int .u8 (S2 0)) (.int .u8 (S2 1)) (.int .u8 (S2 2)) (.int .u8 (S2 3)) (.int .u8 (S2 4)) (.int .u8 (S2 5)) (.int .u8 (S2 6)) (.int .u8 (S2 7)) (.int .u8 (S2 8)) (.int .u8 (S2 9)) (.int .u8 (S2 10)) (.int .u8 (S2 11)) (.int .u8 (S2 12)) (.int .u8 (S2 13)) (.int .u8 (S2 14)) (.int .u8 (S2 15)) t2 (.int .u8 (T2 0)) (.int .u8 (T2 1)) (.int .u8 (T2 2)) (.int .u8 (T2 3)) (.int .u8 (T2 4)) (.int .u8 (T2 5)) (.int .u8 (T2 6)) (.int .u8 (T2 7)) (.int .u8 (T2 8)) (.int .u8 (T2 9)) (.int .u8 (T2 10)) (.int .u8 (T2 11)) (.int .u8 (T2 12)) (.int .u8 (T2 13)) (.int .u8 (T2 14)) (.int .u8 (T2 15)) p2 (.int .u16 a2) (.int .u16 b2)) 30)).alloc (.cells (Jo3 s t p (.int .u16 a) (.int .u16 b) S T) 30)) [(w.heap.size+1+1,.cells (Jo3 s t p (.int .u16 a) (.int .u16 b) S T) 30 (0,0)),(w.heap.size+1,.cells (Jo9 s2 (.int .u8 (S2 0)) (.int .u8 (S2 1)) (.int .u8 (S2 2)) (.int .u8 (S2 3)) (.int .u8 (S2 4)) (.int .u8 (S2 5)) (.int .u8 (S2 6)) (.int .u8 (S2 7)) (.int .u8 (S2 8)) (.int .u8 (S2 9)) (.int .u8 (S2 10)) (.int .u8 (S2 11)) (.int .u8 (S2 12)) (.int .u8 (S2 13)) (.int .u8 (S2 14)) (.int .u8 (S2 15)) t2 (.int .u8 (T2 0)) (.int .u8 (T2 1)) (.int .u8 (T2 2)) (.int .u8 (T2 3)) (.int .u8 (T2 4)) (.int .u8 (T2 5)) (.int .u8 (T2 6)) (.int .u8 (T2 7)) (.int .u8 (T2 8)) (.int .u8 (T2 9)) (.int .u8 (T2 10)) (.int .u8 (T2 11)) (.int .u8 (T2 12)) (.int .u8 (T2 13)) (.int .u8 (T2 14)) (.int .u8 (T2 15)) p2 (.int .u16 a2) (.int .u16 b2)) 30 (0,0)),(w.heap.size,.cells (Jo0 s t p (.int .u16 a) (.int .u16 b) f (.int .i64 d) S T) 47 (0,0))]):=JoL (by
  have h:=BX0.out.box (Jo3 s t p (.int .u16 a) (.int .u16 b) S T) 30
  rw[show((w.alloc (.cells (Jo0 s t p (.int .u16 a) (.int .u16 b) f (.int .i64 d) S T) 47)).alloc (.cells (Jo9 s2 (.int .u8 (S2 0)) (.int .u8 (S2 1)) (.int .u8 (S2 2)) (.int .u8 (S2 3)) (.int .u8 (S2 4)) (.int .u8 (S2 5)) (.int .u8 (S2 6)) (.int .u8 (S2 7)) (.int .u8 (S2 8)) (.int .u8 (S2 9)) (.int .u8 (S2 10)) (.int .u8 (S2 11)) (.int .u8 (S2 12)) (.int .u8 (S2 13)) (.int .u8 (S2 14)) (.int .u8 (S2 15)) t2 (.int .u8 (T2 0)) (.int .u8 (T2 1)) (.int .u8 (T2 2)) (.int .u8 (T2 3)) (.int .u8 (T2 4)) (.int .u8 (T2 5)) (.int .u8 (T2 6)) (.int .u8 (T2 7)) (.int .u8 (T2 8)) (.int .u8 (T2 9)) (.int .u8 (T2 10)) (.int .u8 (T2 11)) (.int .u8 (T2 12)) (.int .u8 (T2 13)) (.int .u8 (T2 14)) (.int .u8 (T2 15)) p2 (.int .u16 a2) (.int .u16 b2)) 30)).heap.size=w.heap.size+1+1 by simp] at h
  exact h)
 clear pK BX0
 generalize ((w.alloc _).alloc _).alloc _=z0 at*
 obtain⟨b7,hb7⟩:∃b,b=w.heap.size+1+1:=⟨_,rfl⟩
 rw[←hb7] at BX3⊢
 clear hb7
 refine BX3.out.ret (HR1.out _) ?_
 intro z1 hb1 BX4
 clear hb1 BX3
 have hrr:(r1=true∧r2=true)∨r1=false∨(r1=true∧r2=false):=by cases r1<;>cases r2<;>simp
 rcases hrr with ⟨rfl,rfl⟩|rfl|⟨rfl,rfl⟩
 case' inl=>
  have HRD1:=JoL (HRD.out rfl)
  have HQ:=JoL (HEQ.out rfl rfl)
  have pM:Jb z1 (w.heap.size+1) 0 37=_:=BX4.out.part 1 rfl rfl
  have lM:=BX4.out.lt 1 rfl
  go_wp2_with fail
  refine BX4.out.ret (HR2.out _) ?_
  intro z2 hb2 BX5
  clear hb2 BX4 pM lM
  have pk:Jb z2 b7 0 37=_:=BX5.out.part 0 rfl rfl
  have lk:=BX5.out.lt 0 rfl
  go_wp2_with fail
  refine BX5.out.ret (HT1.out _ (HE.out.below BX5.out.out)) ?_
  intro z3 hb3 BX6
  clear hb3 BX5 pk lk
  go_wp2_with fail
  refine BX6.out.ret (HRD1.out _ (HE.out.below BX6.out.out)) ?_
  intro z4 hb4 BU4
  have BX7:=JoL (BU4.out.box (Jo3 s t p (.int .u16 a) (.int .u16 b) S T) 30)
  clear hb4 BU4 BX6
  obtain⟨b8,hb8⟩:∃b,b=z4.heap.size:=⟨_,rfl⟩
  go_wp2_with fail
  rw[←hb8] at BX7⊢
  clear hb8
  generalize z4.alloc _=z5 at*
  have hl1:w.heap.size+1<z5.heap.size:=BX7.out.lt 2 rfl
  have q1:Jb z5 (w.heap.size+1) 0 37=(Jo9 s2 (.int .u8 (S2 0)) (.int .u8 (S2 1)) (.int .u8 (S2 2)) (.int .u8 (S2 3)) (.int .u8 (S2 4)) (.int .u8 (S2 5)) (.int .u8 (S2 6)) (.int .u8 (S2 7)) (.int .u8 (S2 8)) (.int .u8 (S2 9)) (.int .u8 (S2 10)) (.int .u8 (S2 11)) (.int .u8 (S2 12)) (.int .u8 (S2 13)) (.int .u8 (S2 14)) (.int .u8 (S2 15)) t2 (.int .u8 (T2 0)) (.int .u8 (T2 1)) (.int .u8 (T2 2)) (.int .u8 (T2 3)) (.int .u8 (T2 4)) (.int .u8 (T2 5)) (.int .u8 (T2 6)) (.int .u8 (T2 7)) (.int .u8 (T2 8)) (.int .u8 (T2 9)) (.int .u8 (T2 10)) (.int .u8 (T2 11)) (.int .u8 (T2 12)) (.int .u8 (T2 13)) (.int .u8 (T2 14)) (.int .u8 (T2 15)) p2 (.int .u16 a2) (.int .u16 b2):Array Value):=BX7.out.part 2 rfl rfl
  have hsm:eqL Y1 Y2=ke:=HQ.out.1.symm
  have HSM:Hid (∀w' o1 c1 o2 c2,Jg w' o1 Y1.length c1 Y1→Jg w' o2 Y2.length c2 Y2→Calls Tryz.prog 14 #[.slice o1 Y1.length c1,.slice o2 Y2.length c2] w' (Jj w' (.bool ke))):=JoL fun w' o1 c1 o2 c2 g1 g2=>by
   have h:=Jlt o1 _ c1 o2 _ c2 Y1 Y2 w' g1 g2 HBL.out.1 HBL.out.2
   rw[hsm] at h
   exact h
  clear hsm
  refine ZJ [.h,.w,.h] [(2,1,0)] (fun _ w'=>Jb w' (w.heap.size+1) 0 37=(Jo9 s2 (.int .u8 (S2 0)) (.int .u8 (S2 1)) (.int .u8 (S2 2)) (.int .u8 (S2 3)) (.int .u8 (S2 4)) (.int .u8 (S2 5)) (.int .u8 (S2 6)) (.int .u8 (S2 7)) (.int .u8 (S2 8)) (.int .u8 (S2 9)) (.int .u8 (S2 10)) (.int .u8 (S2 11)) (.int .u8 (S2 12)) (.int .u8 (S2 13)) (.int .u8 (S2 14)) (.int .u8 (S2 15)) t2 (.int .u8 (T2 0)) (.int .u8 (T2 1)) (.int .u8 (T2 2)) (.int .u8 (T2 3)) (.int .u8 (T2 4)) (.int .u8 (T2 5)) (.int .u8 (T2 6)) (.int .u8 (T2 7)) (.int .u8 (T2 8)) (.int .u8 (T2 9)) (.int .u8 (T2 10)) (.int .u8 (T2 11)) (.int .u8 (T2 12)) (.int .u8 (T2 13)) (.int .u8 (T2 14)) (.int .u8 (T2 15)) p2 (.int .u16 a2) (.int .u16 b2):Array Value)) [1] [(.w,1),(.w,3),(.w,4),(.q,5)] (by kernel_rfl) (by kernel_rfl) (by kernel_rfl) (by kernel_rfl) ?_
  apply Exists.intro
  refine⟨fun wx hbx=>?_,?_,?_⟩
  ·have BXx:=JoL (BX7.out.go hbx)
   have l7:=BXx.out.lt 1 rfl
   have l1:=BXx.out.lt 2 rfl
   have p7:Jb wx b7 0 37=_:=BXx.out.part 1 rfl rfl
   have p1:Jb wx (w.heap.size+1) 0 37=_:=BXx.out.part 2 rfl rfl
   clear hbx
   simp only[Jx]
   repeat go_big_quiet_step (fail)
   exact wpQuiet_nil rfl
  ·intro q hq oi hoi
   simp only[List.mem_cons,List.not_mem_nil,or_false] at hq
   rcases hq with rfl
   cases hoi;exact⟨_,rfl,rfl,fun w2 hw=>Jd8 _ w2 _ (Jo9 s2 (.int .u8 (S2 0)) (.int .u8 (S2 1)) (.int .u8 (S2 2)) (.int .u8 (S2 3)) (.int .u8 (S2 4)) (.int .u8 (S2 5)) (.int .u8 (S2 6)) (.int .u8 (S2 7)) (.int .u8 (S2 8)) (.int .u8 (S2 9)) (.int .u8 (S2 10)) (.int .u8 (S2 11)) (.int .u8 (S2 12)) (.int .u8 (S2 13)) (.int .u8 (S2 14)) (.int .u8 (S2 15)) t2 (.int .u8 (T2 0)) (.int .u8 (T2 1)) (.int .u8 (T2 2)) (.int .u8 (T2 3)) (.int .u8 (T2 4)) (.int .u8 (T2 5)) (.int .u8 (T2 6)) (.int .u8 (T2 7)) (.int .u8 (T2 8)) (.int .u8 (T2 9)) (.int .u8 (T2 10)) (.int .u8 (T2 11)) (.int .u8 (T2 12)) (.int .u8 (T2 13)) (.int .u8 (T2 14)) (.int .u8 (T2 15)) p2 (.int .u16 a2) (.int .u16 b2)) (by kernel_rfl) hw rfl⟩
  simp only[J2,List.getElem?_cons_succ,List.getElem?_cons_zero]
  refine⟨fun v fl w2=>∃o1 c1,v=.slice o1 Y1.length c1∧Jg w2 o1 Y1.length c1 Y1∧Below z5.heap.size z5 w2,?_,?_,?_⟩
  ·refine⟨rfl,fun w' hw'=>.inr ⟨24,#[.agg #[.bool s,.int .u8 (S 0),.int .u8 (S 1),.int .u8 (S 2),.int .u8 (S 3),.int .u8 (S 4),.int .u8 (S 5),.int .u8 (S 6),.int .u8 (S 7),.int .u8 (S 8),.int .u8 (S 9),.int .u8 (S 10),.int .u8 (S 11),.int .u8 (S 12),.int .u8 (S 13),.int .u8 (S 14),.int .u8 (S 15),.bool t,.int .u8 (T 0),.int .u8 (T 1),.int .u8 (T 2),.int .u8 (T 3),.int .u8 (T 4),.int .u8 (T 5),.int .u8 (T 6),.int .u8 (T 7),.int .u8 (T 8),.int .u8 (T 9),.int .u8 (T 10),.int .u8 (T 11),.int .u8 (T 12),.int .u8 (T 13),.int .u8 (T 14),.int .u8 (T 15),.int .u8 p,.int .u16 a,.int .u16 b]],by kernel_rfl,?_⟩⟩
   obtain⟨⟨x,rfl⟩,-⟩:=hw'
   refine(HB1.out x.world).mono ?_
   rintro e w2 ⟨o1,c1,rfl,h1,hb⟩
   exact⟨_,rfl,o1,c1,rfl,h1,JoE x.below hb⟩
  ·rintro v fl g-w2 ⟨o1,c1,-,-,hb⟩
   exact(JL hb _ 0 37 hl1).trans q1
  rintro v ⟨w30,o1,c1,rfl,-⟩
  refine⟨fun v fl w2=>∃o2 c2,v=.slice o2 Y2.length c2∧Jg w2 o1 Y1.length c1 Y1∧Jg w2 o2 Y2.length c2 Y2∧Below z5.heap.size z5 w2,?_,fun _ _=>Jz rfl,?_⟩
  ·refine⟨rfl,fun w' hw'=>.inr ⟨24,#[.agg #[.bool s2,.int .u8 (S2 0),.int .u8 (S2 1),.int .u8 (S2 2),.int .u8 (S2 3),.int .u8 (S2 4),.int .u8 (S2 5),.int .u8 (S2 6),.int .u8 (S2 7),.int .u8 (S2 8),.int .u8 (S2 9),.int .u8 (S2 10),.int .u8 (S2 11),.int .u8 (S2 12),.int .u8 (S2 13),.int .u8 (S2 14),.int .u8 (S2 15),.bool t2,.int .u8 (T2 0),.int .u8 (T2 1),.int .u8 (T2 2),.int .u8 (T2 3),.int .u8 (T2 4),.int .u8 (T2 5),.int .u8 (T2 6),.int .u8 (T2 7),.int .u8 (T2 8),.int .u8 (T2 9),.int .u8 (T2 10),.int .u8 (T2 11),.int .u8 (T2 12),.int .u8 (T2 13),.int .u8 (T2 14),.int .u8 (T2 15),.int .u8 p2,.int .u16 a2,.int .u16 b2]],by kernel_rfl,?_⟩⟩
   obtain⟨o1',c1',he,h1,hb1⟩:=hw'
   obtain⟨rfl,rfl⟩:o1=o1'∧c1=c1':=by simpa using he
   refine(HB2.out w').mono ?_
   rintro e w2 ⟨o2,c2,rfl,h2,hb⟩
   exact⟨_,rfl,o2,c2,rfl,h1.below hb,h2,JoE hb1 hb⟩
  rintro v ⟨w31,o2,c2,rfl,-⟩
  refine⟨fun v fl w2=>v=.bool ke∧Below z5.heap.size z5 w2,?_,fun _ _=>Jz rfl,?_⟩
  ·refine⟨rfl,fun w' hw'=>.inr ⟨14,#[.slice o1 Y1.length c1,.slice o2 Y2.length c2],by kernel_rfl,?_⟩⟩
   obtain⟨o2',c2',he,h1,h2,hb1⟩:=hw'
   obtain⟨rfl,rfl⟩:o2=o2'∧c2=c2':=by simpa using he
   refine(HSM.out w' o1 c1 o2 c2 h1 h2).mono ?_
   rintro e w2 ⟨rfl,hb⟩
   exact⟨_,rfl,rfl,JoE hb1 hb⟩
  rintro v ⟨w32,rfl,-⟩
  refine⟨.bool ke,⟨rfl,fun _=>by kernel_rfl⟩,?_⟩
  rintro z6 ⟨-,hb6⟩
  have BX8:=JoL (BX7.out.go hb6)
  clear hb6 BX7 HSM hl1 q1 w30 w31 w32
  simp only[Act.put,List.setIfInBounds_toArray,List.set_cons_succ,List.set_cons_zero]
  have p8:Jb z6 b8 0 37=_:=BX8.out.part 0 rfl rfl
  have l8:=BX8.out.lt 0 rfl
  have p7:Jb z6 b7 0 37=_:=BX8.out.part 1 rfl rfl
  have l7:=BX8.out.lt 1 rfl
  have p1:Jb z6 (w.heap.size+1) 0 37=_:=BX8.out.part 2 rfl rfl
  have l1:=BX8.out.lt 2 rfl
  have HX1:=JoL (fun(x:JG z6)=>HT1.out x.world ((HE.out.below BX8.out.out).later x))
  have HX2:=JoL (fun(x:JG z6)=>HT2.out x.world ((HE.out.below BX8.out.out).later x))
  have hne:(ke != ke)=false:=by simp
  have e2:(X1==X2)=ke:=HQ.out.2.1.trans HQ.out.1.symm
  have e3:(cm==0)=ke:=HQ.out.2.2.trans HQ.out.1.symm
  have hKM:=HKM.out
  go_wp2_with fail
  refine Jt (by kernel_rfl) (by kernel_rfl) ?_
  repeat go_big_quiet_step (first
   |(go_at_call 28;first|(with_reducible exact JH (HX1.out _))|(with_reducible exact JH (HX2.out _)))
   |(go_at_call 30;(with_reducible exact JH (HC.out _))))
  refine wpQuiet_nil ?_
  intro x
  have BXF:=JoL ((BX8.out.go x.below).drop)
  clear BX8 p8 l8 p7 l7 p1 l1 hne e2 e3 hKM HX1 HX2
  generalize x.world=zf at*
  have pS:Jb zf w.heap.size 0 39=_:=BXF.out.part 2 rfl rfl
  have lS:=BXF.out.lt 2 rfl
  go_wp2_with fail
 case' inr.inl=>
  obtain⟨zf,hzf⟩:∃zf,zf=z1:=⟨_,rfl⟩
  subst hzf
  have BXF:=JoL BX4.out
  have pS:Jb zf w.heap.size 0 39=_:=BXF.out.part 2 rfl rfl
  have lS:=BXF.out.lt 2 rfl
  clear BX4
  go_wp2_with fail
 case' inr.inr=>
  have pM:Jb z1 (w.heap.size+1) 0 37=_:=BX4.out.part 1 rfl rfl
  have lM:=BX4.out.lt 1 rfl
  go_wp2_with fail
  refine BX4.out.ret (HR2.out _) ?_
  intro zf hb2 BXF
  clear hb2 BX4 pM lM
  have pS:Jb zf w.heap.size 0 39=_:=BXF.out.part 2 rfl rfl
  have lS:=BXF.out.lt 2 rfl
  go_wp2_with fail
 all_goals
  refine JoN (HPUT.out _) ?_
  rintro e y1 ⟨oB,cB,rfl,hoB,hb⟩
  have BY1:=JoL (BXF.out.go hb)
  have HRB1:=JoL (hoB.reads HU.out)
  clear hoB hb BXF pS lS
  by_cases he:er=0
  rotate_left
  ·have he1:(er != 0)=true:=by simpa using he
   obtain rfl:L=[]:=HEM.out he
   clear he
   go_wp2_with fail
   refine JoN (Jbq _ (HE.out.below BY1.out.out)) ?_
   rintro e y2 ⟨rfl,hb⟩
   have HB:=JoL (JoE BY1.out.out hb)
   clear hb
   go_wp2_with fail
   go_ret
   exact .mk rfl HB.out
  subst he
  have HLE1:=JoL (HLE.out rfl)
  have HLP1:=JoL (HLP.out rfl)
  have HP1:=JoL (HPA1.out rfl)
  have HP2:=JoL (HPA2.out rfl)
  have HC1:=JoL (HCH.out rfl)
  go_wp2_with fail
  refine BY1.out.ret (HP1.out _ oB cB HRB1.out) ?_
  intro y2 hb2 BU2
  have HRB3:=JoL (((HRB1.out.below hb2).alloc (.cells (JoY s t p (.int .u16 a) (.int .u16 b) (.int .i64 (L.length:Int)) f false S T) 32)).alloc (.cells (JoY s t p (.int .u16 a) (.int .u16 b) (.int .i64 (L.length:Int)) f false S T) 32))
  have BY3:Hid (Bx w ((y2.alloc (.cells (JoY s t p (.int .u16 a) (.int .u16 b) (.int .i64 (L.length:Int)) f false S T) 32)).alloc (.cells (JoY s t p (.int .u16 a) (.int .u16 b) (.int .i64 (L.length:Int)) f false S T) 32)) [(y2.heap.size,.cells (JoY s t p (.int .u16 a) (.int .u16 b) (.int .i64 (L.length:Int)) f false S T) 32 (0,0)),(y2.heap.size+1,.cells (JoY s t p (.int .u16 a) (.int .u16 b) (.int .i64 (L.length:Int)) f false S T) 32 (0,0)),(b7,.cells (Jo3 s t p (.int .u16 a) (.int .u16 b) S T) 30 (0,0)),(w.heap.size+1,.cells (Jo9 s2 (.int .u8 (S2 0)) (.int .u8 (S2 1)) (.int .u8 (S2 2)) (.int .u8 (S2 3)) (.int .u8 (S2 4)) (.int .u8 (S2 5)) (.int .u8 (S2 6)) (.int .u8 (S2 7)) (.int .u8 (S2 8)) (.int .u8 (S2 9)) (.int .u8 (S2 10)) (.int .u8 (S2 11)) (.int .u8 (S2 12)) (.int .u8 (S2 13)) (.int .u8 (S2 14)) (.int .u8 (S2 15)) t2 (.int .u8 (T2 0)) (.int .u8 (T2 1)) (.int .u8 (T2 2)) (.int .u8 (T2 3)) (.int .u8 (T2 4)) (.int .u8 (T2 5)) (.int .u8 (T2 6)) (.int .u8 (T2 7)) (.int .u8 (T2 8)) (.int .u8 (T2 9)) (.int .u8 (T2 10)) (.int .u8 (T2 11)) (.int .u8 (T2 12)) (.int .u8 (T2 13)) (.int .u8 (T2 14)) (.int .u8 (T2 15)) p2 (.int .u16 a2) (.int .u16 b2)) 30 (0,0)),(w.heap.size,.cells (Jo0 s t p (.int .u16 a) (.int .u16 b) f (.int .i64 d) S T) 47 (0,0))]):=JoL (by
   have h:=(BU2.out.box (JoY s t p (.int .u16 a) (.int .u16 b) (.int .i64 (L.length:Int)) f false S T) 32).box (JoY s t p (.int .u16 a) (.int .u16 b) (.int .i64 (L.length:Int)) f false S T) 32
   rw[show(y2.alloc (.cells (JoY s t p (.int .u16 a) (.int .u16 b) (.int .i64 (L.length:Int)) f false S T) 32)).heap.size=y2.heap.size+1 by simp] at h
   exact h.sub (fun p hp=>by simp only[List.mem_cons,List.not_mem_nil,or_false] at hp⊢;rcases hp with h|h|h|h|h<;>simp[h]))
  have HMB:Hid (∀a,oB=some a→a.block<y2.heap.size):=JoL ((HRB1.out.below hb2).lt HLP1.out)
  have pk:Jb y2 b7 0 37=_:=BU2.out.part 0 rfl rfl
  have lk:=BU2.out.lt 0 rfl
  have c37:y2.cell? ⟨w.heap.size,37,none⟩=some (.int .u8 f):=BU2.out.cell 2 37 rfl rfl
  have lw:=BU2.out.lt 2 rfl
  have lo:=BU2.out.lt 1 rfl
  clear hb2 BU2 BY1 HRB1
  go_wp2_with fail
  generalize (y2.alloc _).alloc _=y3 at*
  obtain⟨b13,hb13⟩:∃b,b=y2.heap.size:=⟨_,rfl⟩
  rw[←hb13] at BY3 lk lw lo HMB⊢
  clear hb13 pk c37
  refine JoN (HOW.out _ oB cB HRB3.out HLE1.out) ?_
  rintro e y4 ⟨oN,cN,rfl,hoN,hb4⟩
  have BY4:=JoL (BY3.out.go hb4)
  have HON:=JoL hoN
  have hsz4:=JoL hb4.size
  have HRB4:=JoL (HRB3.out.below hb4)
  have HRL4:=JoL (HRL.out.below BY4.out.out)
  have HLB:Hid (∀a,oB=some a→a.block<y3.heap.size):=JoL (HRB3.out.lt HLP1.out)
  clear hoN hb4 HRB3
  go_wp2_with (at_builtin;refine JC.of ?_)
  refine JC.mk ?_
  refine JD _ rfl _ _ 22 rfl 5 y3.heap.size Tryz.underlying22 Bits.infoU8 _ _ _ _ rfl HON.out _ n _ l rfl HRL4.out (by have:=HLE1.out;omega) hsz4.out ?_
  intro oM cM y5 ho5 hg5 hd5
  rw[←List.map_append] at ho5
  have BY5:=JoL (BY4.out.grown BY3.out hg5 (fun a ha=>(HON.out.lt ha).1))
  have HRM:=JoL (ho5.reads (Jh HU.out HRL.out.byte))
  have HRB5:=JoL (HRB4.out.keep hg5.size (fun a ha hlt=>hg5.block a.block hlt (fun e=>by
   obtain⟨a',ha',hab⟩:=Option.map_eq_some_iff.1 e.symm
   have h1:=(HON.out.lt ha').1
   have h2:=HLB.out a ha
   omega)))
  clear ho5 hg5 hd5 BY3 BY4 HON HRB4 HRL4 hsz4
  go_wp2_with fail
  by_cases hlong:2048<L.length+n
  ·refine BY5.out.ret (HPA3.out hlong _ oM cM HRM.out) ?_
   intro y6 hb6 BY6
   have hf:Jk y6 b13 40=true:=BY6.out.row 0 rfl rfl
   have hl13:b13<y6.heap.size:=BY6.out.lt 0 rfl
   have BY7:=JoL (BY6.out.set (Jpc false false (.int .i64 0) false) (by omega) (by intro p hp;simp only[List.mem_cons,List.not_mem_nil,or_false] at hp;rcases hp with rfl|rfl|rfl|rfl<;>simp only<;>omega))
   have h4:decide (((L.length+n:Nat):Int)>2048)=true:=by simp;omega
   clear hb6 BY6 BY5 HRM
   have p13:Jb (y6.setRow b13 (Jpc false false (.int .i64 0) false)) b13 0 40=_:=BY7.out.part 0 rfl rfl
   go_wp2_with fail
   refine JoN (Jbq _ (HE.out.below BY7.out.out)) ?_
   rintro e y8 ⟨rfl,hb⟩
   have HB:=JoL (JoE BY7.out.out hb)
   clear hb
   go_wp2_with fail
   go_ret
   exact .mk rfl HB.out
  ·refine BY5.out.ret (HP2.out (by omega) _ oM cM HRM.out) ?_
   intro y6 hb6 BY6
   have hf:Jk y6 b13 40=true:=BY6.out.row 0 rfl rfl
   have hl13:b13<y6.heap.size:=BY6.out.lt 0 rfl
   have BY7:=JoL (BY6.out.set (JoY s t p (.int .u16 a) (.int .u16 b) (.int .i64 (L.length:Int)) f false S T) (by omega) (by intro p hp;simp only[List.mem_cons,List.not_mem_nil,or_false] at hp;rcases hp with rfl|rfl|rfl|rfl<;>simp only<;>omega))
   have HRB7:Hid (Jg (y6.setRow b13 (JoY s t p (.int .u16 a) (.int .u16 b) (.int .i64 (L.length:Int)) f false S T)) oB L.length cB L):=JoL ((HRB5.out.below hb6).keep (by simp) (fun a ha hlt=>setRow_other _ _ _ _ (Nat.ne_of_lt (HMB.out a ha))))
   have h4:decide (((L.length+n:Nat):Int)>2048)=false:=by simp;omega
   have p13:Jb (y6.setRow b13 (JoY s t p (.int .u16 a) (.int .u16 b) (.int .i64 (L.length:Int)) f false S T)) b13 0 40=_:=BY7.out.part 0 rfl rfl
   have p15:Jb (y6.setRow b13 (JoY s t p (.int .u16 a) (.int .u16 b) (.int .i64 (L.length:Int)) f false S T)) (b13+1) 0 40=_:=BY7.out.part 1 rfl rfl
   have l15:b13+1<y6.heap.size:=BY6.out.lt 1 rfl
   have pS:Jb (y6.setRow b13 (JoY s t p (.int .u16 a) (.int .u16 b) (.int .i64 (L.length:Int)) f false S T)) w.heap.size 0 39=_:=BY7.out.part 4 rfl rfl
   have lS:w.heap.size<y6.heap.size:=BY6.out.lt 4 rfl
   clear hb6 BY6 BY5 HRM
   go_wp2_with fail
   generalize y6.setRow b13 _=y7 at*
   refine BY7.out.ret (HC1.out _ oB _ cB HRB7.out) ?_
   intro y8 hb8 BY8
   clear hb8 BY7 p13 p15 pS
   go_wp2_with fail
   refine JoN (Jbq _ (HE.out.below BY8.out.out)) ?_
   rintro e y9 ⟨rfl,hb⟩
   have HB:=JoL (JoE BY8.out.out hb)
   clear hb
   go_wp2_with fail
   go_ret
   exact .mk rfl HB.out
open Go.ChangeShapes Go.WideShapes Go.ChangeAt Go.RowKit
def Jap:List (String×DataW Unit):=[("math/bits.deBruijn32tab",Rows.laid_math_bits_deBruijn32tab),("math/bits.deBruijn64tab",Rows.laid_math_bits_deBruijn64tab),("internal/strconv.uint64pow10",Rows.laid_internal_strconv_uint64pow10),("unicode/utf8.acceptRanges",Rows.laid_unicode_utf8_acceptRanges),("strconv.ErrRange",Rows.laid_strconv_ErrRange),("strconv.ErrSyntax",Rows.laid_strconv_ErrSyntax),("unicode/utf8.first",Rows.laid_unicode_utf8_first)]
def JnN:List Int:=[0,1,56,2,57,49,28,3,61,58,42,50,38,29,17,4,62,47,59,36,45,43,51,22,53,39,33,30,24,18,12,5,63,55,48,27,60,41,37,16,46,35,44,21,52,32,23,11,54,26,40,15,34,20,31,10,25,14,19,9,13,8,7,6]
theorem Jlz:(Rows.laid_math_bits_deBruijn64tab:DataW Unit)=Lib.tabData .u8 JnN:=by kernel_rfl
theorem Jmw:(Rows.laid_internal_strconv_uint64pow10:DataW Unit)=Lib.tabData .u64 Lib.pow10Tab:=by kernel_rfl
theorem JlA: "*"++ "errors.errorString"= "*errors.errorString":=by decide
theorem JlB (u:TypeId)(h:Tryz.prog.typeName? 3 u=some "*errors.errorString"):u=311:=
 typeName_ptr_named (nm:= "errors.errorString") (by rw[JlA];kernel_rfl) (by kernel_rfl) (by decide) u (by rw[JlA];exact h)
theorem JiF {W:World}(h:laidMetH Tryz.prog Jap W)(hs:W.ShapedOpen Tryz.prog):Env W:=by
 rw[MakeChecks.laidMetH_plain _ _ _ (by kernel_rfl)] at h
 have h1:=h.tail
 have h2:=h1.tail
 have h4:=h2.tail.tail
 have h5:=h4.tail
 obtain⟨a4,s4,hv4,-⟩:=laid_sentinel h4 (g:=2) (ti:=126) (tp:=311) (te:=313) (ts:=9) (by kernel_rfl) (by kernel_rfl) Tryz.underlying126 JlB Tryz.underlying311 Tryz.underlying313 rfl rfl Tryz.underlying9 (by kernel_rfl) (by kernel_rfl)
 obtain⟨a5,s5,hv5,-⟩:=laid_sentinel h5 (g:=1) (ti:=126) (tp:=311) (te:=313) (ts:=9) (by kernel_rfl) (by kernel_rfl) Tryz.underlying126 JlB Tryz.underlying311 Tryz.underlying313 rfl rfl Tryz.underlying9 (by kernel_rfl) (by kernel_rfl)
 rw[Jlz] at h1
 rw[Jmw] at h2
 have ht1:=Lib.tabIs_of_head (g:=7) (t:=329) (e:=5) (n:=64) (by kernel_rfl) (by kernel_rfl) Tryz.underlying329 Tryz.underlying5 (by kernel_rfl) (by kernel_rfl) h1
 have ht2:=Lib.tabIs_of_head (g:=3) (t:=315) (e:=124) (n:=20) (by kernel_rfl) (by kernel_rfl) Tryz.underlying315 Tryz.underlying124 (by kernel_rfl) (by kernel_rfl) h2
 refine⟨cell_of_shapedOpen_int (zero:=#[.int .i64 0]) (t:=3) hs (of_decide_eq_true (by kernel_rfl)) (by kernel_rfl) rfl (by kernel_rfl) (by kernel_rfl) Tryz.underlying3,⟨311,.pointer (some a5),?_⟩,⟨311,.pointer (some a4),?_⟩,ht2,?_⟩
 ·simpa using World.var?_cell (g:=1) (by kernel_rfl) hv5 0
 ·simpa using World.var?_cell (g:=2) (by kernel_rfl) hv4 0
 ·exact Lib.TabIs.cell ht1 (by kernel_rfl) 15 (by decide)
theorem Jgj {H:Type}{enc:TypeId×Value→H}{a:Assume}{C:Checked}{os:Os}{f:FuncId}{fn:Func}{s:ChangeSpec}{conds:List PathCond}{apart fresh handsOn again:Bool}{X:World→Array Value→Prop}
 (hX:∀(w w':World) (args:Array Value),w.heap=w'.heap→X w args→X w' args)
 (own:ownKnob C.prog.godebug=none)(started:os.Started)(noInit:C.prog.inits.idxOf? f=none)(hfn:C.prog.funcs[f]? =some fn)
 (witness:∃(w:World) (tape:Tape) (i:Input),w.os=os∧(w.forCall tape i).Shaped C.prog∧i.vars=[]∧Input.okWide C.prog (w.forCall tape i) .any w.heap.size f i∧
   ((s.pre enc C.prog fn conds apart (w.forCall tape i).memory i.args∧X (w.forCall tape i).memory i.args)∧sizedMet enc C.prog fn (OpenSpec.ofChange s) apart (w.forCall tape i).memory i.args)∧a.holds C.prog (lone (Frame.enter C.prog f i.args .normal) [] (w.forCall tape i)))
 (contract:∀(W:World) (base:Nat) (args:Array Value) (ds gs:List (DataW H)) (before:List MemPlace),
   (∀(j:Nat) t v,fn.params[j]? =some t→args[j]? =some v→Value.okWide C.prog W .any base t v)→
   DataW.Whole enc C.prog fn.params.toList s.vars apart W args.toList ds gs before→X W args→W.ShapedOpen C.prog→
   Calls C.prog f args W fun e W'=>∃v,e=.returned v∧s.post enc C.prog fn apart fresh handsOn again W args v W'):
 ReturnsInHanded a C os f .any (fun w args=>(s.pre enc C.prog fn conds apart w args∧X w args)∧sizedMet enc C.prog fn (OpenSpec.ofChange s) apart w args) (s.post enc C.prog fn apart fresh handsOn again):=by
 refine returnsInHanded_of_calls own started noInit witness ?_
 intro w tape i _ hsh _ hok hpre hholds
 obtain⟨_,_,_,fn',hfn',_,_,_,_,hval⟩:=hok
 have e:fn'=fn:=Option.some.inj (hfn'.symm.trans hfn)
 subst e
 obtain⟨⟨⟨ds,gs,before,hw,hc⟩,hx⟩,hz⟩:=hpre
 have hw':=DataW.Whole.of_heap (w':=w.forCall tape i) (by rfl) hw
 refine(contract (w.forCall tape i) w.heap.size i.args ds gs before hval hw' (hX _ _ _ (by rfl) hx) hsh).mono fun e W' ⟨v,he,hp⟩=>?_
 subst he
 exact ChangeSpec.post_blind hp
theorem own:ownKnob Tryz.prog.godebug=none:=by kernel_rfl
theorem Jnn:laidOutB Tryz.prog=true:=by kernel_rfl
theorem Jmx (os:Os)(args:Array Value):laidMetH Tryz.prog Jap ((World.laidAll Tryz.prog os Jap).forCall (fun _ _=>0) ⟨#[],args,[]⟩).memory:=by
 rw[MakeChecks.laidMetH_plain _ _ _ (by kernel_rfl)]
 exact laidMet_laidAll _ (by kernel_rfl) (by kernel_rfl)
open Go.ChangeShapes Go.WideShapes Go.ChangeAt Go.RowKit
theorem Jcu {w:World}{r:Reach}{base:Nat}{v:Value}(h:Cell.okWide Tryz.prog w r base 4 v):∃b,v=.bool b:=by
 simp only[Cell.okWide,Tryz.underlying4] at h
 cases v<;>simp_all [Cell.ok,Tryz.underlying4]
theorem Jr {w:World}{r:Reach}{base:Nat}{v:Value}(h:Cell.okWide Tryz.prog w r base 5 v):∃n,v=.int .u8 n∧0≤n∧n<256:=by
 simp only[Cell.okWide,Tryz.underlying5] at h
 cases v<;>simp_all [Cell.ok,Tryz.underlying5]
 obtain⟨h1,h2⟩:=h
 have e0:IntKind.u8.min=0:=by decide
 have e1:IntKind.u8.max=255:=by decide
 simp only[IntKind.has,e0,e1] at h2
 omega
open Go.ChangeShapes Go.WideShapes Go.ChangeAt Go.RowKit
theorem Jdx {w:World}{r:Reach}{base:Nat}{v:Value}(h:Cell.okWide Tryz.prog w r base 28 v):∃n,v=.int .u16 n∧0≤n∧n<65536:=by
 simp only[Cell.okWide,Tryz.underlying28] at h
 cases v<;>simp_all [Cell.ok,Tryz.underlying28]
 obtain⟨h1,h2⟩:=h
 have e0:IntKind.u16.min=0:=by decide
 have e1:IntKind.u16.max=65535:=by decide
 simp only[IntKind.has,e0,e1] at h2
 omega
theorem Jmy {w:World}{r:Reach}{base:Nat}{v:Value}(h:Cell.okWide Tryz.prog w r base 3 v):∃n,v=.int .i64 n∧-9223372036854775808≤n∧n≤9223372036854775807:=by
 simp only[Cell.okWide,Tryz.underlying3] at h
 cases v<;>simp_all [Cell.ok,Tryz.underlying3]
 obtain⟨h1,h2⟩:=h
 have e0:IntKind.i64.min=-9223372036854775808:=by decide
 have e1:IntKind.i64.max=9223372036854775807:=by decide
 simp only[IntKind.has,e0,e1] at h2
 omega
theorem Jn {o:Option TypeId}{P:TypeId→Prop}{t:TypeId}(h:∃u,o=some u∧P u)(e:o=some t):P t:=by
 obtain⟨u,hu,hp⟩:=h
 rw[e] at hu
 cases hu
 exact hp
def Joh:List Int→Prop
 |[]=>True
 |v::l=>(0≤v∧v<256)∧Joh l
theorem Jev:{l:List Int}→Joh l→U8 fun i=>l.getD i 0
 |[],_=>fun i=>⟨by simp,by simp⟩
 |v::l,h=>fun i=>by
  cases i with
  |zero=>exact h.1
  |succ i=>exact Jev h.2 i
theorem Jn8 {α:Type}(l:List α)(h:l.length=37):∃c0 c1 c2 c3 c4 c5 c6 c7 c8 c9 c10 c11 c12 c13 c14 c15 c16 c17 c18 c19 c20 c21 c22 c23 c24 c25 c26 c27 c28 c29 c30 c31 c32 c33 c34 c35 c36,l=[c0,c1,c2,c3,c4,c5,c6,c7,c8,c9,c10,c11,c12,c13,c14,c15,c16,c17,c18,c19,c20,c21,c22,c23,c24,c25,c26,c27,c28,c29,c30,c31,c32,c33,c34,c35,c36]:=by
 match l,h with
 |c0::c1::c2::c3::c4::c5::c6::c7::c8::c9::c10::c11::c12::c13::c14::c15::c16::c17::c18::c19::c20::c21::c22::c23::c24::c25::c26::c27::c28::c29::c30::c31::c32::c33::c34::c35::c36::[],_=>exact⟨c0,c1,c2,c3,c4,c5,c6,c7,c8,c9,c10,c11,c12,c13,c14,c15,c16,c17,c18,c19,c20,c21,c22,c23,c24,c25,c26,c27,c28,c29,c30,c31,c32,c33,c34,c35,c36,rfl⟩
theorem Jmz {w:World}{r:Reach}{base:Nat}{v:Value}(h:Value.okWide Tryz.prog w r base 30 v):∃k:Ky,v=.agg (kyV k)∧Jex k:=by
 simp only[Value.okWide,Tryz.underlying30] at h
 obtain⟨cs,rfl,hs,ts,ht,-,hc⟩:=h
 have hts:Tryz.prog.cellTypes Tryz.prog.depth 30=some [4,5,5,5,5,5,5,5,5,5,5,5,5,5,5,5,5,4,5,5,5,5,5,5,5,5,5,5,5,5,5,5,5,5,5,28,28]:=by kernel_rfl
 rw[hts] at ht
 obtain rfl:=Option.some.inj ht
 have hs0:cs.size=37:=hs.trans (by kernel_rfl)
 obtain⟨l⟩:=cs
 obtain⟨c0,c1,c2,c3,c4,c5,c6,c7,c8,c9,c10,c11,c12,c13,c14,c15,c16,c17,c18,c19,c20,c21,c22,c23,c24,c25,c26,c27,c28,c29,c30,c31,c32,c33,c34,c35,c36,rfl⟩:=Jn8 l hs0
 obtain⟨n0,rfl⟩:=Jcu (Jn (hc 0 _ rfl) rfl)
 obtain⟨n1,rfl,h1⟩:=Jr (Jn (hc 1 _ rfl) rfl)
 obtain⟨n2,rfl,h2⟩:=Jr (Jn (hc 2 _ rfl) rfl)
 obtain⟨n3,rfl,h3⟩:=Jr (Jn (hc 3 _ rfl) rfl)
 obtain⟨n4,rfl,h4⟩:=Jr (Jn (hc 4 _ rfl) rfl)
 obtain⟨n5,rfl,h5⟩:=Jr (Jn (hc 5 _ rfl) rfl)
 obtain⟨n6,rfl,h6⟩:=Jr (Jn (hc 6 _ rfl) rfl)
 obtain⟨n7,rfl,h7⟩:=Jr (Jn (hc 7 _ rfl) rfl)
 obtain⟨n8,rfl,h8⟩:=Jr (Jn (hc 8 _ rfl) rfl)
 obtain⟨n9,rfl,h9⟩:=Jr (Jn (hc 9 _ rfl) rfl)
 obtain⟨n10,rfl,h10⟩:=Jr (Jn (hc 10 _ rfl) rfl)
 obtain⟨n11,rfl,h11⟩:=Jr (Jn (hc 11 _ rfl) rfl)
 obtain⟨n12,rfl,h12⟩:=Jr (Jn (hc 12 _ rfl) rfl)
 obtain⟨n13,rfl,h13⟩:=Jr (Jn (hc 13 _ rfl) rfl)
 obtain⟨n14,rfl,h14⟩:=Jr (Jn (hc 14 _ rfl) rfl)
 obtain⟨n15,rfl,h15⟩:=Jr (Jn (hc 15 _ rfl) rfl)
 obtain⟨n16,rfl,h16⟩:=Jr (Jn (hc 16 _ rfl) rfl)
 obtain⟨n17,rfl⟩:=Jcu (Jn (hc 17 _ rfl) rfl)
 obtain⟨n18,rfl,h18⟩:=Jr (Jn (hc 18 _ rfl) rfl)
 obtain⟨n19,rfl,h19⟩:=Jr (Jn (hc 19 _ rfl) rfl)
 obtain⟨n20,rfl,h20⟩:=Jr (Jn (hc 20 _ rfl) rfl)
 obtain⟨n21,rfl,h21⟩:=Jr (Jn (hc 21 _ rfl) rfl)
 obtain⟨n22,rfl,h22⟩:=Jr (Jn (hc 22 _ rfl) rfl)
 obtain⟨n23,rfl,h23⟩:=Jr (Jn (hc 23 _ rfl) rfl)
 obtain⟨n24,rfl,h24⟩:=Jr (Jn (hc 24 _ rfl) rfl)
 obtain⟨n25,rfl,h25⟩:=Jr (Jn (hc 25 _ rfl) rfl)
 obtain⟨n26,rfl,h26⟩:=Jr (Jn (hc 26 _ rfl) rfl)
 obtain⟨n27,rfl,h27⟩:=Jr (Jn (hc 27 _ rfl) rfl)
 obtain⟨n28,rfl,h28⟩:=Jr (Jn (hc 28 _ rfl) rfl)
 obtain⟨n29,rfl,h29⟩:=Jr (Jn (hc 29 _ rfl) rfl)
 obtain⟨n30,rfl,h30⟩:=Jr (Jn (hc 30 _ rfl) rfl)
 obtain⟨n31,rfl,h31⟩:=Jr (Jn (hc 31 _ rfl) rfl)
 obtain⟨n32,rfl,h32⟩:=Jr (Jn (hc 32 _ rfl) rfl)
 obtain⟨n33,rfl,h33⟩:=Jr (Jn (hc 33 _ rfl) rfl)
 obtain⟨n34,rfl,h34⟩:=Jr (Jn (hc 34 _ rfl) rfl)
 obtain⟨n35,rfl,h35⟩:=Jdx (Jn (hc 35 _ rfl) rfl)
 obtain⟨n36,rfl,h36⟩:=Jdx (Jn (hc 36 _ rfl) rfl)
 exact⟨⟨n0,fun i=>([n1,n2,n3,n4,n5,n6,n7,n8,n9,n10,n11,n12,n13,n14,n15,n16]:List Int).getD i 0,n17,fun i=>([n18,n19,n20,n21,n22,n23,n24,n25,n26,n27,n28,n29,n30,n31,n32,n33]:List Int).getD i 0,n34,n35,n36⟩,rfl,⟨Jev ⟨h1,h2,h3,h4,h5,h6,h7,h8,h9,h10,h11,h12,h13,h14,h15,h16,trivial⟩,Jev ⟨h18,h19,h20,h21,h22,h23,h24,h25,h26,h27,h28,h29,h30,h31,h32,h33,trivial⟩,h34,h35,h36⟩⟩
theorem Jn9 {α:Type}(l:List α)(h:l.length=39):∃c0 c1 c2 c3 c4 c5 c6 c7 c8 c9 c10 c11 c12 c13 c14 c15 c16 c17 c18 c19 c20 c21 c22 c23 c24 c25 c26 c27 c28 c29 c30 c31 c32 c33 c34 c35 c36 c37 c38,l=[c0,c1,c2,c3,c4,c5,c6,c7,c8,c9,c10,c11,c12,c13,c14,c15,c16,c17,c18,c19,c20,c21,c22,c23,c24,c25,c26,c27,c28,c29,c30,c31,c32,c33,c34,c35,c36,c37,c38]:=by
 match l,h with
 |c0::c1::c2::c3::c4::c5::c6::c7::c8::c9::c10::c11::c12::c13::c14::c15::c16::c17::c18::c19::c20::c21::c22::c23::c24::c25::c26::c27::c28::c29::c30::c31::c32::c33::c34::c35::c36::c37::c38::[],_=>exact⟨c0,c1,c2,c3,c4,c5,c6,c7,c8,c9,c10,c11,c12,c13,c14,c15,c16,c17,c18,c19,c20,c21,c22,c23,c24,c25,c26,c27,c28,c29,c30,c31,c32,c33,c34,c35,c36,c37,c38,rfl⟩
theorem JlC {w:World}{r:Reach}{base:Nat}{v:Value}(h:Value.okWide Tryz.prog w r base 47 v):∃k:Sp,v=.agg (spV k)∧Jey k:=by
 simp only[Value.okWide,Tryz.underlying47] at h
 obtain⟨cs,rfl,hs,ts,ht,-,hc⟩:=h
 have hts:Tryz.prog.cellTypes Tryz.prog.depth 47=some [4,5,5,5,5,5,5,5,5,5,5,5,5,5,5,5,5,4,5,5,5,5,5,5,5,5,5,5,5,5,5,5,5,5,5,28,28,5,3]:=by kernel_rfl
 rw[hts] at ht
 obtain rfl:=Option.some.inj ht
 have hs0:cs.size=39:=hs.trans (by kernel_rfl)
 obtain⟨l⟩:=cs
 obtain⟨c0,c1,c2,c3,c4,c5,c6,c7,c8,c9,c10,c11,c12,c13,c14,c15,c16,c17,c18,c19,c20,c21,c22,c23,c24,c25,c26,c27,c28,c29,c30,c31,c32,c33,c34,c35,c36,c37,c38,rfl⟩:=Jn9 l hs0
 obtain⟨n0,rfl⟩:=Jcu (Jn (hc 0 _ rfl) rfl)
 obtain⟨n1,rfl,h1⟩:=Jr (Jn (hc 1 _ rfl) rfl)
 obtain⟨n2,rfl,h2⟩:=Jr (Jn (hc 2 _ rfl) rfl)
 obtain⟨n3,rfl,h3⟩:=Jr (Jn (hc 3 _ rfl) rfl)
 obtain⟨n4,rfl,h4⟩:=Jr (Jn (hc 4 _ rfl) rfl)
 obtain⟨n5,rfl,h5⟩:=Jr (Jn (hc 5 _ rfl) rfl)
 obtain⟨n6,rfl,h6⟩:=Jr (Jn (hc 6 _ rfl) rfl)
 obtain⟨n7,rfl,h7⟩:=Jr (Jn (hc 7 _ rfl) rfl)
 obtain⟨n8,rfl,h8⟩:=Jr (Jn (hc 8 _ rfl) rfl)
 obtain⟨n9,rfl,h9⟩:=Jr (Jn (hc 9 _ rfl) rfl)
 obtain⟨n10,rfl,h10⟩:=Jr (Jn (hc 10 _ rfl) rfl)
 obtain⟨n11,rfl,h11⟩:=Jr (Jn (hc 11 _ rfl) rfl)
 obtain⟨n12,rfl,h12⟩:=Jr (Jn (hc 12 _ rfl) rfl)
 obtain⟨n13,rfl,h13⟩:=Jr (Jn (hc 13 _ rfl) rfl)
 obtain⟨n14,rfl,h14⟩:=Jr (Jn (hc 14 _ rfl) rfl)
 obtain⟨n15,rfl,h15⟩:=Jr (Jn (hc 15 _ rfl) rfl)
 obtain⟨n16,rfl,h16⟩:=Jr (Jn (hc 16 _ rfl) rfl)
 obtain⟨n17,rfl⟩:=Jcu (Jn (hc 17 _ rfl) rfl)
 obtain⟨n18,rfl,h18⟩:=Jr (Jn (hc 18 _ rfl) rfl)
 obtain⟨n19,rfl,h19⟩:=Jr (Jn (hc 19 _ rfl) rfl)
 obtain⟨n20,rfl,h20⟩:=Jr (Jn (hc 20 _ rfl) rfl)
 obtain⟨n21,rfl,h21⟩:=Jr (Jn (hc 21 _ rfl) rfl)
 obtain⟨n22,rfl,h22⟩:=Jr (Jn (hc 22 _ rfl) rfl)
 obtain⟨n23,rfl,h23⟩:=Jr (Jn (hc 23 _ rfl) rfl)
 obtain⟨n24,rfl,h24⟩:=Jr (Jn (hc 24 _ rfl) rfl)
 obtain⟨n25,rfl,h25⟩:=Jr (Jn (hc 25 _ rfl) rfl)
 obtain⟨n26,rfl,h26⟩:=Jr (Jn (hc 26 _ rfl) rfl)
 obtain⟨n27,rfl,h27⟩:=Jr (Jn (hc 27 _ rfl) rfl)
 obtain⟨n28,rfl,h28⟩:=Jr (Jn (hc 28 _ rfl) rfl)
 obtain⟨n29,rfl,h29⟩:=Jr (Jn (hc 29 _ rfl) rfl)
 obtain⟨n30,rfl,h30⟩:=Jr (Jn (hc 30 _ rfl) rfl)
 obtain⟨n31,rfl,h31⟩:=Jr (Jn (hc 31 _ rfl) rfl)
 obtain⟨n32,rfl,h32⟩:=Jr (Jn (hc 32 _ rfl) rfl)
 obtain⟨n33,rfl,h33⟩:=Jr (Jn (hc 33 _ rfl) rfl)
 obtain⟨n34,rfl,h34⟩:=Jr (Jn (hc 34 _ rfl) rfl)
 obtain⟨n35,rfl,h35⟩:=Jdx (Jn (hc 35 _ rfl) rfl)
 obtain⟨n36,rfl,h36⟩:=Jdx (Jn (hc 36 _ rfl) rfl)
 obtain⟨n37,rfl,h37⟩:=Jr (Jn (hc 37 _ rfl) rfl)
 obtain⟨n38,rfl,h38⟩:=Jmy (Jn (hc 38 _ rfl) rfl)
 exact⟨⟨⟨n0,fun i=>([n1,n2,n3,n4,n5,n6,n7,n8,n9,n10,n11,n12,n13,n14,n15,n16]:List Int).getD i 0,n17,fun i=>([n18,n19,n20,n21,n22,n23,n24,n25,n26,n27,n28,n29,n30,n31,n32,n33]:List Int).getD i 0,n34,n35,n36⟩,n37,n38⟩,rfl,⟨⟨Jev ⟨h1,h2,h3,h4,h5,h6,h7,h8,h9,h10,h11,h12,h13,h14,h15,h16,trivial⟩,Jev ⟨h18,h19,h20,h21,h22,h23,h24,h25,h26,h27,h28,h29,h30,h31,h32,h33,trivial⟩,h34,h35,h36⟩,h37,h38⟩⟩
end
end Go.Proofs.YtkgjbipfhhjlpaaGreatDoor
