import Derived.Test.YtkgjbipfhhjlpaaGreatDoorMb23
set_option linter.unusedVariables false
set_option linter.unusedSimpArgs false
set_option maxRecDepth 100000
set_option maxHeartbeats 32000000
namespace Go.Proofs.YtkgjbipfhhjlpaaGreatDoor
section
open Go.RowKit
theorem Jm1 (s:Bool)(S:Nat→Int)(t:Bool)(T:Nat→Int)(p a b:Int)(hr:J9 ⟨s,S,t,T,p,a,b⟩=false)(w:World):
 Calls Tryz.prog 28 #[.agg (kyC s S t T p a b)] w (Jh w (.string ⟨#[]⟩)):=by
 have HR:=fun w=>Ja9 s S t T p a b w
 rw[hr] at HR
 clear hr
 unfold kyC at*
 go_enter Tryz.func28,Tryz.ntmps28
 go_wp2_with fail
 refine Calls.later (HR _) ?_
 intro x
 go_wp2_with fail
 go_ret
 exact .mk rfl (Jo2 (Below.all (Jpd _ _) _))
open Go.Lib
theorem JlT (d:Nat)(h:d<16):hexc d≠32:=by
 have:d=0∨d=1∨d=2∨d=3∨d=4∨d=5∨d=6∨d=7∨d=8∨d=9∨d=10∨d=11∨d=12∨d=13∨d=14∨d=15:=by omega
 rcases this with rfl|rfl|rfl|rfl|rfl|rfl|rfl|rfl|rfl|rfl|rfl|rfl|rfl|rfl|rfl|rfl<;>decide
theorem JnM (u:Nat):(32:UInt8)∉X6 16 u:=fun h=>by
 obtain⟨d,hd,e⟩:=Jcx 16 (by omega) (by omega) u u (Jpf _) _ h
 exact JlT d hd e.symm
theorem JjC (u:Nat):(32:UInt8)∉decDigits u:=fun h=>by
 obtain⟨d,hd,e⟩:=JdN u _ h
 exact JlT d hd e.symm
theorem JhV (s:Bool)(B:Nat→Int):(32:UInt8)∉Q8 s B:=by
 intro h
 have hj:∀(c:UInt8) (L:List (List UInt8)),c≠32→(∀p∈L,(32:UInt8)∉p)→(32:UInt8)∉Xn c L:=fun c L hc hL h=>by
  rcases Jhl _ _ _ h with h|⟨p,hp,hx⟩
  ·exact hc h.symm
  ·exact hL p hp hx
 have hm:∀p∈(List.range 8).map fun i=>X6 16 (grpN B i),(32:UInt8)∉p:=fun p hp=>by
  obtain⟨i,-,rfl⟩:=List.mem_map.1 hp
  exact JnM _
 unfold Q8 at h
 split at h
 ·split at h
  ·rw[JfW] at h
   split at h
   ·exact hj 58 _ (by decide) hm h
   ·rcases List.mem_append.1 h with h|h
    ·rcases List.mem_append.1 h with h|h
     ·exact hj 58 _ (by decide) (fun p hp=>hm p (List.mem_of_mem_take hp)) h
     ·simp at h
    ·exact hj 58 _ (by decide) (fun p hp=>hm p (List.mem_of_mem_drop hp)) h
  ·refine hj 46 _ (by decide) (fun p hp=>?_) h
   obtain⟨i,-,rfl⟩:=List.mem_map.1 hp
   exact JjC _
 ·simp at h
theorem Jfo (c:UInt8):∀l:List UInt8,Xn c (Qd c l)=l
 |[]=>rfl
 |x::r=>by
  have ih:=Jfo c r
  unfold Qd
  cases hc:Qd c r with
  |nil=>exact absurd hc (Jmp c r)
  |cons h t=>
   rw[hc] at ih
   by_cases hx:x=c
   ·rw[if_pos hx,Xw,ih,hx];rfl
   ·rw[if_neg hx]
    cases t with
    |nil=>simp only[Xn] at ih⊢;rw[ih]
    |cons q t=>rw[Xw] at ih⊢;rw[List.cons_append,ih]
def JbH (k:Ky):List (List UInt8):=[decDigits k.p.toNat,Q8 k.s k.S,decDigits k.a.toNat,Q8 k.t k.T,decDigits k.b.toNat]
theorem JcP {k:Ky}(h:J9 k=true):Jbg k=Xn 32 (JbH k):=by unfold Jbg;rw[if_pos h];rfl
theorem JhW {k:Ky}(h:J9 k=false):Jbg k=[]:=by unfold Jbg;rw[if_neg (by rw[h];decide)]
theorem Ji3 {k:Ky}(h:J9 k=true):Qd 32 (Jbg k)=JbH k:=by
 rw[JcP h]
 refine Je5 32 _ (by simp[JbH]) (fun p hp=>?_)
 simp only[JbH,List.mem_cons,List.not_mem_nil,or_false] at hp
 rcases hp with rfl|rfl|rfl|rfl|rfl
 ·exact JjC _
 ·exact JhV _ _
 ·exact JjC _
 ·exact JhV _ _
 ·exact JjC _
def XS (s:List UInt8):Option Ky:=match Qd 32 s with
 |[x0,x1,x2,x3,x4]=>match JeE 256 x0,XB x1,JeE 65536 x2,XB x3,JeE 65536 x4 with
  |some p,some (s1,S),some a,some (t1,T),some b=>if J9 ⟨s1,S,t1,T,p,a,b⟩=true∧Q8 s1 S=x1∧Q8 t1 T=x3 then some ⟨s1,S,t1,T,p,a,b⟩ else none
  |_,_,_,_,_=>none
 |_=>none
def JbI (o:Option Ky):Value:=match o with
 |some k=>.tuple #[.agg (kyV k),.int .i64 0]
 |none=>.tuple #[.agg (kyV kyZ),.int .i64 40]
theorem Jks {s:List UInt8}(h:(Qd 32 s).length≠5):XS s=none:=by
 unfold XS
 split
 ·rename_i e;rw[e] at h;exact absurd rfl h
 ·rfl
theorem Jkt {s x0 x1 x2 x3 x4:List UInt8}(hc:Qd 32 s=[x0,x1,x2,x3,x4])(h:XB x1=none):XS s=none:=by
 unfold XS
 rw[hc]
 simp only[h]
 split<;>first|rfl|contradiction
theorem Jku {s x0 x1 x2 x3 x4:List UInt8}(hc:Qd 32 s=[x0,x1,x2,x3,x4])(h:XB x3=none):XS s=none:=by
 unfold XS
 rw[hc]
 simp only[h]
 split<;>first|rfl|contradiction
theorem JlU {s x0 x1 x2 x3 x4:List UInt8}(hc:Qd 32 s=[x0,x1,x2,x3,x4]){s1 t1:Bool}{S T:Nat→Int}(h1:XB x1=some (s1,S))(h3:XB x3=some (t1,T))(u0 u2 u4:Nat)(b0:u0<256)(b2:u2<65536)(b4:u4<65536)
 (w0:∀n,n<256→x0=decDigits n→u0=n)(w2:∀n,n<65536→x2=decDigits n→u2=n)(w4:∀n,n<65536→x4=decDigits n→u4=n):
 XS s=if Jbg ⟨s1,S,t1,T,u0,u2,u4⟩=s then some ⟨s1,S,t1,T,u0,u2,u4⟩ else none:=by
 by_cases ht:Jbg ⟨s1,S,t1,T,u0,u2,u4⟩=s
 ·rw[if_pos ht]
  cases hr:J9 ⟨s1,S,t1,T,u0,u2,u4⟩ with
  |false=>
   rw[JhW hr] at ht
   subst ht
   cases hc
  |true=>
   have hp:=Ji3 hr
   rw[ht,hc] at hp
   simp only[JbH,Int.toNat_natCast,List.cons.injEq,and_true] at hp
   obtain⟨e0,e1,e2,e3,e4⟩:=hp
   unfold XS
   rw[hc]
   simp only[Xm.2 ⟨b0,e0⟩,Xm.2 ⟨b2,e2⟩,Xm.2 ⟨b4,e4⟩,h1,h3]
   rw[if_pos ⟨hr,e1.symm,e3.symm⟩]
 ·rw[if_neg ht]
  unfold XS
  rw[hc]
  simp only[h1,h3]
  split
  ·rename_i p s1' S' a t1' T' b h0 e1 h2 e3 h4
   cases e1
   cases e3
   obtain⟨l0,e0⟩:=Xm.1 h0
   obtain⟨l2,e2⟩:=Xm.1 h2
   obtain⟨l4,e4⟩:=Xm.1 h4
   obtain rfl:=w0 p l0 e0
   obtain rfl:=w2 a l2 e2
   obtain rfl:=w4 b l4 e4
   by_cases hR:J9 ⟨s1,S,t1,T,u0,u2,u4⟩=true∧Q8 s1 S=x1∧Q8 t1 T=x3
   ·refine absurd ?_ ht
    rw[JcP hR.1,←Jfo 32 s,hc]
    simp only[JbH,Int.toNat_natCast]
    rw[hR.2.1,hR.2.2,←e0,←e2,←e4]
   ·rw[if_neg hR]
  ·rfl
theorem Jcn (M:Nat):∀(l:List UInt8) (acc:Nat) (r:List UInt8) (m:Nat),Lib.parseUintM M acc l=.ok m→Lib.parseUintM M acc (l++r)=Lib.parseUintM M m r
 |[],acc,r,m,h=>by simp only[Lib.parseUintM,Lib.NumEnd.ok.injEq] at h;subst h;rfl
 |c::l,acc,r,m,h=>by
  rw[List.cons_append,Lib.parseUintM]
  rw[Lib.parseUintM] at h
  split
  ·rename_i hc
   rw[if_pos hc] at h
   split
   ·rename_i h2;rw[if_pos h2] at h;cases h
   ·rename_i h2
    rw[if_neg h2] at h
    split
    ·rename_i h3;rw[if_pos h3] at h;cases h
    ·rename_i h3;rw[if_neg h3] at h;exact Jcn M l _ r m h
  ·rename_i hc;rw[if_neg hc] at h;cases h
theorem Jfp (M:Nat)(hM:M≤65535):∀(k u:Nat),u≤k→u≤M→Lib.parseUintM M 0 (Lib.decDigits u)=.ok u
 |0,u,hk,hm=>by
  obtain rfl:u=0:=by omega
  rw[Lib.decDigits,dif_pos (by omega),Lib.parseUintM,ZR 0 (by omega),if_pos (by omega),if_neg (by omega),if_neg (by omega),Lib.parseUintM]
 |k+1,u,hk,hm=>by
  rw[Lib.decDigits]
  by_cases h:u<10
  ·rw[dif_pos h,Lib.parseUintM,ZR u h,if_pos (by omega),if_neg (by omega),if_neg (by omega),Lib.parseUintM]
   congr 1;omega
  ·rw[dif_neg h,Jcn M _ _ _ _ (Jfp M hM k (u/10) (by omega) (by omega)),Lib.parseUintM,ZR _ (by omega),if_pos (by omega),if_neg (by omega),if_neg (by omega),Lib.parseUintM]
   congr 1;omega
def JhX (w:World)(M:Nat)(l:List UInt8):Ending→World→Prop:=fun e w'=>∃(u:Nat) (er:Value),e=.returned (.tuple #[.int .u64 u,er])∧u<M∧(∀n,n<M→l=Lib.decDigits n→u=n)∧Below w.heap.size w w'
theorem Jnh (B:Nat)(hB:2^B-1≤65535)(l:List UInt8)(n:Nat)(hn:n<2^B)(h:l=Lib.decDigits n):Lib.parseUintB B l=.ok n:=by
 subst h
 unfold Lib.parseUintB
 rw[if_neg (JcV n)]
 exact Jfp _ hB n n (Jpf _) (by omega)
theorem JnN (t:ByteArray)(hmax:t.size≤1000)(w:World)(henv:Env w):
 Calls Tryz.prog 58 #[.string t,.int .i64 10,.int .i64 8] w (JhX w 256 t.data.toList):=by
 have hd:∀n,n<256→t.data.toList=Lib.decDigits n→Lib.parseUintB 8 t.data.toList=.ok n:=fun n hn h=>Jnh 8 (by decide) _ n (by omega) h
 obtain⟨t1,p1,h1⟩:=henv.syn
 obtain⟨t2,p2,h2⟩:=henv.rng
 rcases hR:Lib.parseUintB 8 t.data.toList with u|_|_
 ·refine(Tryz.strconv_ParseUint_10_at8_ok t (by omega) u hR w).mono ?_
  rintro e w' ⟨rfl,hw⟩
  refine⟨u,_,rfl,?_,fun n hn h=>?_,?_⟩
  ·have:=Lib.parseUintB_le hR;omega
  ·have:=hd n hn h;rw[hR] at this;exact Lib.NumEnd.ok.inj this
  ·rcases hw with rfl|rfl
   ·exact Jpd _ _
   ·exact QA _ _
 ·first
  |(refine(Tryz.strconv_ParseUint_10_at8_syntax t (by omega) (hR.trans rfl) _ w h1 (.inr ⟨_,_,rfl⟩)).mono ?_
    rintro e w' ⟨N,rfl,-,-,hb⟩
    exact⟨0,_,rfl,by omega,(fun n hn h=>by have:=hd n hn h;rw[hR] at this;cases this),hb⟩)
  |(refine(Tryz.strconv_ParseUint_10_at8_range t (by omega) hR _ w h2 (.inr ⟨_,_,rfl⟩)).mono ?_
    rintro e w' ⟨N,rfl,-,-,hb⟩
    exact⟨255,_,rfl,by omega,(fun n hn h=>by have:=hd n hn h;rw[hR] at this;cases this),hb⟩)
 ·first
  |(refine(Tryz.strconv_ParseUint_10_at8_range t (by omega) hR _ w h2 (.inr ⟨_,_,rfl⟩)).mono ?_
    rintro e w' ⟨N,rfl,-,-,hb⟩
    exact⟨255,_,rfl,by omega,(fun n hn h=>by have:=hd n hn h;rw[hR] at this;cases this),hb⟩)
  |(refine(Tryz.strconv_ParseUint_10_at8_syntax t (by omega) (hR.trans rfl) _ w h1 (.inr ⟨_,_,rfl⟩)).mono ?_
    rintro e w' ⟨N,rfl,-,-,hb⟩
    exact⟨0,_,rfl,by omega,(fun n hn h=>by have:=hd n hn h;rw[hR] at this;cases this),hb⟩)
theorem JjD (t:ByteArray)(hmax:t.size≤1000)(w:World)(henv:Env w):
 Calls Tryz.prog 58 #[.string t,.int .i64 10,.int .i64 16] w (JhX w 65536 t.data.toList):=by
 have hd:∀n,n<65536→t.data.toList=Lib.decDigits n→Lib.parseUintB 16 t.data.toList=.ok n:=fun n hn h=>Jnh 16 (by decide) _ n (by omega) h
 obtain⟨t1,p1,h1⟩:=henv.syn
 obtain⟨t2,p2,h2⟩:=henv.rng
 rcases hR:Lib.parseUintB 16 t.data.toList with u|_|_
 ·refine(Tryz.strconv_ParseUint_10_at16_ok t (by omega) u hR w).mono ?_
  rintro e w' ⟨rfl,hw⟩
  refine⟨u,_,rfl,?_,fun n hn h=>?_,?_⟩
  ·have:=Lib.parseUintB_le hR;omega
  ·have:=hd n hn h;rw[hR] at this;exact Lib.NumEnd.ok.inj this
  ·rcases hw with rfl|rfl
   ·exact Jpd _ _
   ·exact QA _ _
 ·first
  |(refine(Tryz.strconv_ParseUint_10_at16_syntax t (by omega) (hR.trans rfl) _ w h1 (.inr ⟨_,_,rfl⟩)).mono ?_
    rintro e w' ⟨N,rfl,-,-,hb⟩
    exact⟨0,_,rfl,by omega,(fun n hn h=>by have:=hd n hn h;rw[hR] at this;cases this),hb⟩)
  |(refine(Tryz.strconv_ParseUint_10_at16_range t (by omega) hR _ w h2 (.inr ⟨_,_,rfl⟩)).mono ?_
    rintro e w' ⟨N,rfl,-,-,hb⟩
    exact⟨65535,_,rfl,by omega,(fun n hn h=>by have:=hd n hn h;rw[hR] at this;cases this),hb⟩)
 ·first
  |(refine(Tryz.strconv_ParseUint_10_at16_range t (by omega) hR _ w h2 (.inr ⟨_,_,rfl⟩)).mono ?_
    rintro e w' ⟨N,rfl,-,-,hb⟩
    exact⟨65535,_,rfl,by omega,(fun n hn h=>by have:=hd n hn h;rw[hR] at this;cases this),hb⟩)
  |(refine(Tryz.strconv_ParseUint_10_at16_syntax t (by omega) (hR.trans rfl) _ w h1 (.inr ⟨_,_,rfl⟩)).mono ?_
    rintro e w' ⟨N,rfl,-,-,hb⟩
    exact⟨0,_,rfl,by omega,(fun n hn h=>by have:=hd n hn h;rw[hR] at this;cases this),hb⟩)
theorem JjE {w:World}{b:Nat}{vs:List Value}{t:TypeId}(h:w.heap[b]? =some (.cells vs.toArray t (0,0)))(hm:vs.length≤maxLen):JF w b 1 (some ⟨b,0,none⟩) vs.length vs.length vs:=by
 refine⟨by simp,Jpf _,hm,.inr ⟨b,0,rfl,Jpf _,(Jpb h).1,fun j u hu=>?_,fun j hj=>⟨?_,?_⟩⟩⟩
 ·rw[Nat.zero_add,cell_of_row _ _ _ _ _ _ h];simpa using hu
 ·rw[Nat.zero_add,cell_of_row _ _ _ _ _ _ h];simp;omega
 ·exact frozen_of_row _ _ _ _ _ h
def JnW (w:World)(m:Nat)(l:List Int):Ending→World→Prop:=fun e w'=>∃oa cap,e=.returned (.slice oa m cap)∧Ji w' oa m cap l∧Below w.heap.size w w'
theorem J4.n {w:World}{m:Nat}{l:List Int}(hm:l.length=m)(hl:∀v∈l,0≤v∧v<256){e:Ending}{w':World}(h:J4 w l e w'):JnW w m l e w':=by
 subst hm
 obtain⟨oa,cap,h1,h2,h3⟩:=h
 exact⟨oa,cap,h1,h2.reads hl,h3⟩
theorem Qr {B:Nat→Int}(hB:U8 B)(s:Bool):Jl (Jn s B):=by
 intro v hv
 unfold Jn at hv
 obtain⟨i,-,rfl⟩:=List.mem_map.1 hv
 exact hB i
def spC (s:Bool)(S:Nat→Int)(t:Bool)(T:Nat→Int)(p a b f d:Int):Array Value:=(JpI s t p (.int .u16 a) (.int .u16 b) f (.int .i64 d) S T)
theorem Jkv (S T:Nat→Int)(p tot:Int)(hS:U8 S)(hT:U8 T)(hp:0≤p∧p<256)(ht:20≤tot∧tot<65536)(w:World):
 Calls Tryz.prog 53 #[.agg #[.int .u8 0,.int .u16 tot,.int .u16 0,.bool false,.bool false,.int .u16 0,.int .u8 64,.int .u8 p,.int .u8 (S 0),.int .u8 (S 1),.int .u8 (S 2),.int .u8 (S 3),.int .u8 (T 0),.int .u8 (T 1),.int .u8 (T 2),.int .u8 (T 3),.slice none 0 0]] w (Jw w (Jdc ⟨0,tot,0,false,false,0,64,p,Jn false S,Jn false T,[]⟩) 0):=by
 have hx:Zp ⟨0,tot,0,false,false,0,64,p,Jn false S,Jn false T,[]⟩=true:=by
  unfold Zp
  simp
  omega
 have h:=JlL ⟨0,tot,0,false,false,0,64,p,Jn false S,Jn false T,[]⟩ none 0 w ⟨(show(0:Int)≤0∧(0:Int)<256 by decide),⟨by show 0≤tot;omega,ht.2⟩,(show(0:Int)≤0∧(0:Int)<65536 by decide),(show(0:Int)≤0∧(0:Int)<65536 by decide),(show(0:Int)≤64∧(64:Int)<256 by decide),hp,⟨J5 _ _,Qr hS _⟩,⟨J5 _ _,Qr hT _⟩,fun v hv=>by cases hv⟩ ⟨rfl,Jpf _,Nat.zero_le _,(fun v hv=>by cases hv),.inl rfl⟩ (fun a h=>by cases h) hx
 unfold JhH Jb6 at h
 rw[hx] at h
 exact h
theorem Jkw (S T:Nat→Int)(p n:Int)(hS:U8 S)(hT:U8 T)(hp:0≤p∧p<256)(hn:0≤n∧n<65536)(w:World):
 Calls Tryz.prog 55 #[.agg #[.int .u8 0,.int .u32 0,.int .u16 n,.int .u8 p,.int .u8 64,.int .u8 (S 0),.int .u8 (S 1),.int .u8 (S 2),.int .u8 (S 3),.int .u8 (S 4),.int .u8 (S 5),.int .u8 (S 6),.int .u8 (S 7),.int .u8 (S 8),.int .u8 (S 9),.int .u8 (S 10),.int .u8 (S 11),.int .u8 (S 12),.int .u8 (S 13),.int .u8 (S 14),.int .u8 (S 15),.int .u8 (T 0),.int .u8 (T 1),.int .u8 (T 2),.int .u8 (T 3),.int .u8 (T 4),.int .u8 (T 5),.int .u8 (T 6),.int .u8 (T 7),.int .u8 (T 8),.int .u8 (T 9),.int .u8 (T 10),.int .u8 (T 11),.int .u8 (T 12),.int .u8 (T 13),.int .u8 (T 14),.int .u8 (T 15)]] w (Jw w (Bits.be4 1610612736++be2 n++[p,64]++Jn true S++Jn true T) 0):=
 JlN ⟨0,0,n,p,64,Jn true S,Jn true T⟩ w ⟨(show(0:Int)≤0∧(0:Int)<256 by decide),(show(0:Int)≤0∧(0:Int)<4294967296 by decide),hn,hp,(show(0:Int)≤64∧(64:Int)<256 by decide),⟨J5 _ _,Qr hS _⟩,⟨J5 _ _,Qr hT _⟩⟩
theorem Jkx (S:Nat→Int)(t:Bool)(T:Nat→Int)(p a b f d:Int)(n:Nat)(hn:n≤60000)(hS:U8 S)(hT:U8 T)(hp:0≤p∧p<256)(w:World):
 Calls Tryz.prog 44 #[.agg (spC true S t T p a b f d),.int .i64 n] w (Jw w (Bits.be4 1610612736++be2 (n:Int)++[p,64]++Jn true S++Jn true T) 0):=by
 have HP:=Jpa (Jkw S T p n hS hT hp (by omega))
 have hw:IntKind.u16.wrap (n:Int)=n:=by rw[IntKind.wrap_u16];omega
 generalize Bits.be4 1610612736++be2 (n:Int)++[p,64]++Jn true S++Jn true T=L at*
 clear hS hT hp hn
 unfold spC
 go_enter Tryz.func44,Tryz.ntmps44
 go_wp2_with fail
 refine Jpc (HP.out _) ?_
 rintro e w2 ⟨oa,cap,rfl,ho,hb⟩
 go_wp2_with fail
 go_ret2
 exact⟨oa,cap,rfl,ho.mono (by simp),Jo3 (Below.all (Jpd _ _) _) hb⟩
theorem Ji4 (S:Nat→Int)(t:Bool)(T:Nat→Int)(p a b f d:Int)(n:Nat)(hn:n≤60000)(hS:U8 S)(hT:U8 T)(hp:0≤p∧p<256)(w:World):
 Calls Tryz.prog 44 #[.agg (spC false S t T p a b f d),.int .i64 n] w (Jw w (Jdc ⟨0,20+(n:Int),0,false,false,0,64,p,Jn false S,Jn false T,[]⟩) 0):=by
 have HP:=Jpa (Jkv S T p (20+(n:Int)) hS hT hp (by omega))
 have hw:IntKind.u16.wrap (20+(n:Int))=20+(n:Int):=by rw[IntKind.wrap_u16];omega
 have hw2:IntKind.i64.wrap (20+(n:Int))=20+(n:Int):=by rw[IntKind.wrap_i64];omega
 have hn2:(n:Int)≤60000:=by omega
 generalize Jdc ⟨0,20+(n:Int),0,false,false,0,64,p,Jn false S,Jn false T,[]⟩=L at*
 clear hS hT hp hn
 have hX:(w.alloc (.cells (spC false S t T p a b f d) 47)).heap[w.heap.size]? =some (.cells (spC false S t T p a b f d) 47 (0,0)):=heap_alloc_new w _
 have HB:Hid (Below w.heap.size w (w.alloc (.cells (spC false S t T p a b f d) 47))):=Jpa (Below.all (Jpd _ _) _)
 have HX:=Jpa hX
 clear hX
 unfold spC at HB⊢
 go_enter Tryz.func44,Tryz.ntmps44
 go_wp2_with fail
 have HX':=HX.out
 unfold spC at HX'
 obtain⟨b0,hb0⟩:∃b,b=w.heap.size:=⟨_,rfl⟩
 rw[←hb0] at HX'⊢
 have HB0:=Jpa hb0
 clear hb0
 generalize w.alloc _=y at*
 have hlt:b0<y.heap.size:=(Jpb HX').1
 have HY:=Jpa HX'
 clear HX' HX
 refine JV [.h,.h,.h,.h,.h,.h,.h,.h,.h,.h,.h,.h,.h,.h,.h,.h,.h,.h,.h] [] (fun _ _=>True) [] [(.w,19),(.q,20),(.q,21),(.q,22),(.q,23)] (by kernel_rfl) (by kernel_rfl) (by kernel_rfl) (by kernel_rfl) ?_
 apply Exists.intro
 refine⟨fun wx hbx=>?_,by simp,?_⟩
 ·have hxx:=(hbx.block b0 hlt).trans HY.out
  have hbx2:b0<wx.heap.size:=Jpe hlt hbx.size
  have c34:wx.cell? ⟨b0,34,none⟩=some (.int .u8 p):=cell_of_row _ _ 34 _ _ (0,0) hxx
  have harr1:=Ja3 (P:=Tryz.prog) 111 _ Tryz.underlying111 (some ⟨b0,1,none⟩) 4 16 (by omega)
  have harr2:=Ja3 (P:=Tryz.prog) 111 _ Tryz.underlying111 (some ⟨b0,18,none⟩) 4 16 (by omega)
  have p1:Jf wx b0 1 4=(#[S 0,S 1,S 2,S 3]:Array Value):=by rw[Jq _ _ _ _ _ _ _ hxx];simp
  have p2:Jf wx b0 18 4=(#[T 0,T 1,T 2,T 3]:Array Value):=by rw[Jq _ _ _ _ _ _ _ hxx];simp
  clear hxx hbx
  simp only[JB]
  repeat go_big_quiet_step (fail)
  exact wpQuiet_nil rfl
 simp only[Qa,List.getElem?_cons_succ,List.getElem?_cons_zero]
 refine⟨fun v fl w2=>∃oP cP,v=.tuple #[.slice oP L.length cP,.int .i64 0]∧JF w2 y.heap.size 1 oP L.length cP (L.map (.int .u8))∧Below y.heap.size y w2,?_,fun _ _=>Xs,(fun h=>by cases h),?_⟩
 ·rintro fl rfl
  refine⟨rfl,fun w' hw'=>.inr ⟨53,#[.agg #[.int .u8 0,.int .u16 (20+(n:Int)),.int .u16 0,.bool false,.bool false,.int .u16 0,.int .u8 64,.int .u8 p,.int .u8 (S 0),.int .u8 (S 1),.int .u8 (S 2),.int .u8 (S 3),.int .u8 (T 0),.int .u8 (T 1),.int .u8 (T 2),.int .u8 (T 3),.slice none 0 0]],by kernel_rfl,?_⟩⟩
  obtain⟨⟨x,rfl⟩,-⟩:=hw'
  refine(HP.out x.world).mono ?_
  rintro e w2 ⟨oP,cP,rfl,ho,hb⟩
  exact⟨_,rfl,oP,cP,rfl,ho.mono x.below.size,Jo3 x.below hb⟩
 rintro v ⟨fl3,w23,oP,cP,rfl,-⟩
 refine⟨.slice oP L.length cP,⟨rfl,fun _=>by kernel_rfl⟩,?_⟩
 refine⟨.int .i64 0,⟨rfl,fun _=>by kernel_rfl⟩,?_⟩
 refine⟨.slice oP L.length cP,⟨rfl,fun _=>by kernel_rfl⟩,?_⟩
 refine⟨.int .i64 0,⟨rfl,fun _=>by kernel_rfl⟩,?_⟩
 rintro y3 ⟨oP',cP',he,hoP,hb3⟩
 obtain⟨rfl,rfl⟩:oP=oP'∧cP=cP':=by simpa using he
 clear he w23 fl3
 go_wp2_with fail
 go_ret2
 exact⟨_,_,rfl,hoP.mono HB.out.size,HB.out.trans (hb3.mono HB.out.size)⟩
theorem ZC (u:Nat)(h:u<65536):(Lib.decDigits u).length≤65536:=by
 rw[←Jdm u u (Jpf _)]
 have:=Z4 10 u u (Jpf _)
 omega
theorem JnO {ops:Array Oper}{w:World}{o:Oper}{a:Act}{gs:List ZQ}(vs:List (List UInt8))(len:Nat)(parts:Array (Nat×Operand))(ho:o.op=.buildSlice 76 len parts)(hw:Region.wanted o (yielded ops a.tmps)=true)
 (hl:0<len∧len≤100)(hf:Instr.fill (fun i=>some (i*1,1)) ((Array.range (len*1)).map ((Value.string ⟨#[]⟩).cells[·%(Value.string ⟨#[]⟩).cells.size]!)) (parts.map fun(i,x)=>(i,a.eval x)).toList=some (vs.map Jey).toArray):
 Jbw Tryz.prog ops w gs o (JhG (.cells (vs.map Jey).toArray 9) len) a:=by
 obtain⟨ie,hie,hz,h4,h5⟩:=info_parts JfR
 refine JgL.f (JcH 76 9 len parts ho hw _ ie (.string ⟨#[]⟩) (by kernel_rfl) hie hz ?_ ?_ ?_) gs
 ·rw[h4];omega
 ·rw[h4];omega
 ·rw[h4];exact hf
theorem JlV (s:Bool)(S:Nat→Int)(t:Bool)(T:Nat→Int)(p a b:Nat)(hr:J9 ⟨s,S,t,T,p,a,b⟩=true)(hS:U8 S)(hT:U8 T)(hp:p<256)(ha:a<65536)(hb:b<65536)(w:World)(henv:Env w):
 Calls Tryz.prog 28 #[.agg (kyC s S t T p a b)] w (Jh w (.string ⟨(Xn 32 [Lib.decDigits p,Q8 s S,Lib.decDigits a,Q8 t T,Lib.decDigits b]).toArray⟩)):=by
 have HR:=fun w=>Ja9 s S t T p a b w
 rw[hr] at HR
 have HE:=Jpa henv
 have HI0:=Jpa (fun w h=>Jdn p (by omega) w h)
 have HI2:=Jpa (fun w h=>Jdn a (by omega) w h)
 have HI4:=Jpa (fun w h=>Jdn b (by omega) w h)
 have HA1:=Jpa (fun w h=>Jjm s S hS w h)
 have HA3:=Jpa (fun w h=>Jjm t T hT w h)
 have hj:(Xn 32 [Lib.decDigits p,Q8 s S,Lib.decDigits a,Q8 t T,Lib.decDigits b]).length≤140737488355328:=by
  refine Nat.le_trans (Xo 32 100000 _ fun q hq=>?_) (by simp)
  simp only[List.mem_cons,List.not_mem_nil,or_false] at hq
  rcases hq with rfl|rfl|rfl|rfl|rfl
  ·have:=ZC p (by omega);omega
  ·have:=Je9 s S hS;omega
  ·have:=ZC a (by omega);omega
  ·have:=Je9 t T hT;omega
  ·have:=ZC b (by omega);omega
 have HJ:=Jpa (fun bk w ho=>Ja1 (some ⟨bk,0,none⟩) 5 5 bk [Lib.decDigits p,Q8 s S,Lib.decDigits a,Q8 t T,Lib.decDigits b] 32 w ho hj (by decide))
 clear hr henv hS hT hj
 generalize Xn 32 [Lib.decDigits p,Q8 s S,Lib.decDigits a,Q8 t T,Lib.decDigits b]=J at*
 generalize Lib.decDigits p=d0 at*
 generalize Q8 s S=d1 at*
 generalize Lib.decDigits a=d2 at*
 generalize Q8 t T=d3 at*
 generalize Lib.decDigits b=d4 at*
 unfold kyC adV at*
 go_enter Tryz.func28,Tryz.ntmps28
 go_wp2_with fail
 refine Calls.later (HR _) ?_
 intro x
 have h1:x.world.heap[w.heap.size]? =some (.cells (kyC s S t T p a b) 30 (0,0)):=(x.below.block _ (by simp)).trans (heap_alloc_new w (.cells (kyC s S t T p a b) 30))
 have HB:Hid (Below w.heap.size w x.world):=Jpa (Jo2 (Below.all (Jpd _ _) _))
 go_wp2_with fail
 generalize x.world=y at*
 have H1:=Jpa h1
 clear h1
 refine Xp 18 [true] (by kernel_rfl) (by kernel_rfl) (by kernel_rfl) ?_
 apply Exists.intro
 refine⟨fun wx hbx=>?_,?_⟩
 ·have hr:wx.heap[w.heap.size]? =some (.cells (kyC s S t T p a b) 30 (0,0)):=(hbx.block _ (Jpb H1.out).1).trans H1.out
  have hlt:w.heap.size<wx.heap.size:=(Jpb hr).1
  have HEx:=Jpa ((HE.out.below HB.out).below hbx)
  have p1:Jf wx w.heap.size 0 17=(Jpm s S:Array Value):=by rw[Jq _ _ _ _ _ _ _ hr];simp[kyC]
  have p2:Jf wx w.heap.size 17 17=(Jpm t T:Array Value):=by rw[Jq _ _ _ _ _ _ _ hr];simp[kyC]
  have c34:wx.cell? ⟨w.heap.size,34,none⟩=some (.int .u8 (p:Int)):=cell_of_row _ _ 34 _ _ (0,0) hr
  have c35:wx.cell? ⟨w.heap.size,35,none⟩=some (.int .u16 (a:Int)):=cell_of_row _ _ 35 _ _ (0,0) hr
  have c36:wx.cell? ⟨w.heap.size,36,none⟩=some (.int .u16 (b:Int)):=cell_of_row _ _ 36 _ _ (0,0) hr
  clear hr hbx
  simp only[List.take_succ_cons,List.take_zero]
  repeat go_big_quiet_step (fail)
  go_big_quiet_step ((go_at_call 71;exact Jp (HI0.out _ (HEx.out.below (Jz.below _)))))
  repeat go_big_quiet_step (fail)
  go_big_quiet_step ((go_at_call 72;exact Jp (HA1.out _ (HEx.out.below (Jz.below _)))))
  repeat go_big_quiet_step (fail)
  go_big_quiet_step ((go_at_call 71;exact Jp (HI2.out _ (HEx.out.below (Jz.below _)))))
  repeat go_big_quiet_step (fail)
  go_big_quiet_step ((go_at_call 72;exact Jp (HA3.out _ (HEx.out.below (Jz.below _)))))
  repeat go_big_quiet_step (fail)
  go_big_quiet_step ((go_at_call 71;exact Jp (HI4.out _ (HEx.out.below (Jz.below _)))))
  exact wpQuiet_nil rfl
 ·simp only[List.drop_succ_cons,List.drop_zero,List.zip_cons_cons,List.zip_nil_left,List.length_cons,List.length_nil]
  refine Xx _ (JnO [d0,d1,d2,d3,d4] 5 _ rfl rfl (by decide) (by simp[Instr.fill,Value.cells,go_sem,Jey])) (XN _ _) ?_
  rintro lo hi v hlo hhi-⟨w0,rfl,-⟩
  refine ZS ?_
  intro w' hb hal
  have hh:=((hal _ (List.mem_cons_self ..)).2 w' (Jpd _ _)).2.2
  clear hal
  have HO:=Jpa (JjE hh (by simp[maxLen]))
  clear hh
  go_wp2_with fail
  refine Jpc (HJ.out _ w' HO.out) ?_
  rintro e w5 ⟨rfl,hb5⟩
  go_wp2_with fail
  go_ret
  exact .mk rfl ((HB.out.trans (hb.mono HB.out.size)).trans (hb5.mono (Nat.le_trans HB.out.size hb.size)))
theorem JlW (k:Ky)(hk:JnT k)(w:World)(henv:Env w):
 Calls Tryz.prog 28 #[.agg (kyV k)] w (Jh w (.string ⟨(Jbg k).toArray⟩)):=by
 obtain⟨s,S,t,T,p,a,b⟩:=k
 obtain⟨hS,hT,hp,ha,hb⟩:=hk
 simp only at hS hT hp ha hb
 cases hr:J9 ⟨s,S,t,T,p,a,b⟩ with
 |false=>rw[JhW hr];exact Jm1 s S t T p a b hr w
 |true=>
  obtain⟨p,rfl⟩:=Int.eq_ofNat_of_zero_le hp.1
  obtain⟨a,rfl⟩:=Int.eq_ofNat_of_zero_le ha.1
  obtain⟨b,rfl⟩:=Int.eq_ofNat_of_zero_le hb.1
  rw[JcP hr]
  simp only[JbH,Int.toNat_natCast]
  exact JlV s S t T p a b hr hS hT (by omega) (by omega) (by omega) w henv
structure Bx (W w:World)(fs:List (Nat×Obj)):Prop where
 all:∀b o,(b,o)∈fs→w.heap[b]? =some o
 out:Below W.heap.size W w
theorem Bx.start (W:World):Bx W W []:=⟨fun _ _ h=>absurd h List.not_mem_nil,Jpd _ _⟩
theorem Bx.go {W w w':World}{fs:List (Nat×Obj)}(h:Bx W w fs)(hb:Below w.heap.size w w'):Bx W w' fs:=
 ⟨fun b o hm=>(hb.block b (Jpb (h.all b o hm)).1).trans (h.all b o hm),Jo3 h.out hb⟩
theorem Bx.box {W w:World}{fs:List (Nat×Obj)}(h:Bx W w fs)(cs:Array Value)(t:TypeId):Bx W (w.alloc (.cells cs t)) ((w.heap.size,.cells cs t (0,0))::fs):=by
 have h':=h.go (Below.all (Jpd _ _) (.cells cs t))
 refine⟨fun b o hm=>?_,h'.out⟩
 rcases List.mem_cons.1 hm with e|hm
 ·cases e;exact heap_alloc_new w _
 ·exact h'.all b o hm
theorem Bx.at {W w:World}{fs:List (Nat×Obj)}(h:Bx W w fs)(i:Nat){b:Nat}{o:Obj}(hi:fs[i]? =some (b,o)):w.heap[b]? =some o:=h.all b o (List.mem_of_getElem? hi)
theorem Bx.lt {W w:World}{fs:List (Nat×Obj)}(h:Bx W w fs)(i:Nat){b:Nat}{o:Obj}(hi:fs[i]? =some (b,o)):b<w.heap.size:=(Jpb (h.at i hi)).1
theorem Bx.part {W w:World}{fs:List (Nat×Obj)}(h:Bx W w fs)(i:Nat){b n:Nat}{cs:Array Value}{t:TypeId}(hi:fs[i]? =some (b,.cells cs t (0,0)))(hs:cs.size=n):Jf w b 0 n=cs:=Ja (h.at i hi) hs
theorem Bx.cell {W w:World}{fs:List (Nat×Obj)}(h:Bx W w fs)(i j:Nat){b:Nat}{cs:Array Value}{t:TypeId}{v:Value}(hi:fs[i]? =some (b,.cells cs t (0,0)))(hj:cs[j]? =some v):w.cell? ⟨b,j,none⟩=some v:=by rw[cell_of_row _ _ _ _ _ _ (h.at i hi)];exact hj
theorem Bx.ret {P:Program}{f:FuncId}{args:Array Value}{W w:World}{fs:List (Nat×Obj)}{v:Value}{R:Ending→World→Prop}(h:Bx W w fs)(hc:Calls P f args w (Jh w v))(k:∀w',Below w.heap.size w w'→Hid (Bx W w' fs)→R (.returned v) w'):Calls P f args w R:=
 hc.mono fun e w' ⟨he,hb⟩=>by subst he;exact k w' hb (Jpa (h.go hb))
def OBx (z:World)(b:Nat)(cs:Array Value)(t:TypeId)(w:World):Prop:=w.heap[b]? =some (.cells cs t (0,0))∧Below b z w∧∀i,i≠b→i<z.heap.size→w.heap[i]? =z.heap[i]?
theorem OBx.set {z w:World}{b:Nat}{cs:Array Value}{t:TypeId}(h:OBx z b cs t w)(k:Nat)(v:Value):OBx z b (cs.setIfInBounds k v) t (w.setCell ⟨b,k,none⟩ v):=
 ⟨heap_setCell_same _ b k cs t v h.1,h.2.1.setCell (Jpf _) _,fun i hi hl=>(Below.heap_setCell _ _ _ _ hi).trans (h.2.2 i hi hl)⟩
theorem OBx.later {z w w':World}{b:Nat}{cs:Array Value}{t:TypeId}(h:OBx z b cs t w)(hb:Below w.heap.size w w'):OBx z b cs t w':=by
 have hl:b<w.heap.size:=(Jpb h.1).1
 exact⟨(hb.block b hl).trans h.1,h.2.1.trans (hb.mono (Nat.le_of_lt hl)),fun i hi hz=>(hb.block i (Jpe hz h.2.1.size)).trans (h.2.2 i hi hz)⟩
structure Z1 (w0:World)(t:TypeId)(g off:Nat)(L:List (List UInt8))(w:World):Prop where
 box:w.heap[w0.heap.size]? =some (.cells (kyV kyZ) t (0,0))
 row:∀j x,L[j]? =some x→w.cell? ⟨g,off+j,none⟩=some (Jey x)
 bel:Below w0.heap.size w0 w
theorem Z1.go {w0 w w':World}{t:TypeId}{g off:Nat}{L:List (List UInt8)}(h:Z1 w0 t g off L w)(hb:Below w.heap.size w w'):Z1 w0 t g off L w':=
 ⟨(hb.block _ (Jpb h.box).1).trans h.box,fun j x hj=>(hb.cell (World.block_lt_of_cell? w _ (h.row j x hj))).trans (h.row j x hj),h.bel.trans (hb.mono h.bel.size)⟩
theorem Z1.at {w0 w:World}{t:TypeId}{g off:Nat}{L:List (List UInt8)}(h:Z1 w0 t g off L w)(j:Nat){x:List UInt8}(hj:L[j]? =some x):w.cell? ⟨g,off+j,none⟩=some (.string ⟨x.toArray⟩):=h.row j x hj
theorem Z1.lt {w0 w:World}{t:TypeId}{g off:Nat}{L:List (List UInt8)}(h:Z1 w0 t g off L w):w0.heap.size<w.heap.size:=(Jpb h.box).1
theorem Z1.free {w0 w:World}{t:TypeId}{g off:Nat}{L:List (List UInt8)}(h:Z1 w0 t g off L w):Jg w w0.heap.size 37=true:=by rw[Jc _ _ _ _ _ h.box];rfl
theorem Z1.alloc {w0 w:World}{t:TypeId}{g off:Nat}{L:List (List UInt8)}(h:Z1 w0 t g off L w)(o:Obj):Z1 w0 t g off L (w.alloc o):=h.go (Below.all (Jpd _ _) o)
theorem Jfq (x:List UInt8):∃(s:Bool) (B:Nat→Int) (e:Int),Je8 (XB x)=.tuple #[adV s B,.int .i64 e]∧((e=0∧XB x=some (s,B)∧U8 B)∨(e=40∧XB x=none)):=by
 rcases Jhk x with ⟨s,B,h1,-,h3,h4⟩|⟨h1,h4⟩
 ·exact⟨s,B,0,h4,.inl ⟨rfl,h1,h3⟩⟩
 ·exact⟨false,fun _=>0,40,h4,.inr ⟨rfl,h1⟩⟩
theorem Jni {w:World}{b:Nat}{cs old:Array Value}{t:TypeId}(A K:Obj)(h:w.heap[b]? =some (.cells old t (0,0))):(((w.setRow b cs).alloc A).alloc K).heap[b]? =some (.cells cs t (0,0)):=by
 have h1:=Jd (cs:=cs) h
 have l1:=(Jpb h1).1
 have h2:=(heap_alloc_old _ A l1).trans h1
 exact(heap_alloc_old _ K (Jpb h2).1).trans h2
theorem JoK {α:Type}{l:List α}(h:l.length=5):∃a b c d e,l=[a,b,c,d,e]:=by
 match l,h with
 |[a,b,c,d,e],_=>exact⟨a,b,c,d,e,rfl⟩
theorem Z2 {w w':World}{tmps:Array Value}{k:Ky}{err:Int}(R:Value)(hp:tmps.getD 2 undef=.pointer (some ⟨w.heap.size,0,none⟩))(h3:tmps.getD 3 undef=.int .i64 err)(hc:Jf w' w.heap.size 0 37=kyV k)(hv:R=.tuple #[.agg (kyV k),.int .i64 err])(hb:Below w.heap.size w w'):
 bodyPost Tryz.prog Tryz.f22 (Jh w R) .ret { tmps:=tmps,defers:=[] } w':=
 bodyPost_ret (v:=.tuple #[.agg (kyV k),.int .i64 err]) (Qi rfl _ _ w.heap.size 37 _ _ Tryz.underlying30 rfl JmA hp h3 (kyV k) hc rfl) rfl (.mk hv.symm hb)
theorem JaS (l:List UInt8)(w:World)(hs:l.length≤1000)(henv:Env w):Calls Tryz.prog 22 #[.string ⟨l.toArray⟩] w (Jh w (JbI (XS l))):=by
 have HE:=Jpa henv
 have HSP:Hid (∀w,Env w→Calls Tryz.prog 57 #[.string ⟨l.toArray⟩,.string ⟨#[32]⟩] w (Je6 w (Qd 32 l))):=Jpa (fun w h=>JdM ⟨l.toArray⟩ 32 w h (by simpa[ByteArray.size] using hs))
 have HPC:Hid ((Qd 32 l).length≤1001):=Jpa (by have:=Zr 32 l;omega)
 have HPL:Hid (∀p∈Qd 32 l,p.length≤1000):=Jpa (fun p hp=>by have:=Jay 32 _ p hp;omega)
 have hX0:(w.alloc (.cells (kyV kyZ) 30)).heap[w.heap.size]? =some (.cells (kyV kyZ) 30 (0,0)):=heap_alloc_new w _
 have hB0:Below w.heap.size w (w.alloc (.cells (kyV kyZ) 30)):=Below.all (Jpd _ _) _
 have HX0:=Jpa hX0
 have HB0:=Jpa hB0
 clear hX0 hB0
 unfold kyV kyZ kyC at HX0 HB0
 simp only at HX0 HB0
 obtain⟨P,hP⟩:∃P,Qd 32 l=P:=⟨_,rfl⟩
 rw[hP] at HSP HPC HPL
 have HP:=Jpa hP
 clear hP hs henv
 obtain⟨R,hR⟩:∃R,JbI (XS l)=R:=⟨_,rfl⟩
 rw[hR]
 have HR:=Jpa hR
 clear hR
 go_enter Tryz.func22,Tryz.ntmps22
 go_wp2_with fail
 generalize w.alloc _=w1 at*
 refine Jpc (HSP.out _ (HE.out.below HB0.out)) ?_
 rintro e w2 ⟨op,capp,rfl,HO,HB⟩
 have HOO:=Jpa HO
 have HB2:=Jpa (HB0.out.trans (HB.mono HB0.out.size))
 have HX2:=Jpa ((HB.block _ (Jpb HX0.out).1).trans HX0.out)
 clear HO HB HX0 HB0
 by_cases h5:P.length=5
 rotate_left
 ·have hn:¬((P.length:Int)=5):=by omega
  have HN:Hid (XS l=none):=Jpa (Jks (by rw[HP.out];exact h5))
  have hrf:Jg w2 w.heap.size 37=true:=by rw[Jc _ _ _ _ _ HX2.out];rfl
  clear h5
  go_wp2_with fail
  exact Z2 (k:=kyZ) _ rfl rfl (Xa HX2.out) (by rw[←HR.out,HN.out];rfl) (below_setRow HB2.out (Jpf _) _)
 obtain⟨x0,x1,x2,x3,x4,rfl⟩:=JoK h5
 clear h5
 have hl0:=HPL.out x0 (by simp)
 have hl1:=HPL.out x1 (by simp)
 have hl2:=HPL.out x2 (by simp)
 have hl3:=HPL.out x3 (by simp)
 have hl4:=HPL.out x4 (by simp)
 have HU0:Hid (∀w',Env w'→Calls Tryz.prog 58 #[.string ⟨x0.toArray⟩,.int .i64 10,.int .i64 8] w' (JhX w' 256 x0)):=Jpa fun w' h=>JnN ⟨x0.toArray⟩ (by simp[ByteArray.size];omega) w' h
 have HU2:Hid (∀w',Env w'→Calls Tryz.prog 58 #[.string ⟨x2.toArray⟩,.int .i64 10,.int .i64 16] w' (JhX w' 65536 x2)):=Jpa fun w' h=>JjD ⟨x2.toArray⟩ (by simp[ByteArray.size];omega) w' h
 have HU4:Hid (∀w',Env w'→Calls Tryz.prog 58 #[.string ⟨x4.toArray⟩,.int .i64 10,.int .i64 16] w' (JhX w' 65536 x4)):=Jpa fun w' h=>JjD ⟨x4.toArray⟩ (by simp[ByteArray.size];omega) w' h
 have HPA:Hid (∀w',Env w'→Calls Tryz.prog 59 #[.string ⟨x1.toArray⟩] w' (Jh w' (Je8 (XB x1)))):=Jpa fun w' h=>Jhj ⟨x1.toArray⟩ w' (by simp[ByteArray.size];omega) h
 have HPB:Hid (∀w',Env w'→Calls Tryz.prog 59 #[.string ⟨x3.toArray⟩] w' (Jh w' (Je8 (XB x3)))):=Jpa fun w' h=>Jhj ⟨x3.toArray⟩ w' (by simp[ByteArray.size];omega) h
 obtain⟨s1,S,e1,hv1,hc1⟩:=Jfq x1
 obtain⟨t1,T,e3,hv3,hc3⟩:=Jfq x3
 rw[hv1] at HPA
 rw[hv3] at HPB
 have HC1:=Jpa hc1
 have HC3:=Jpa hc3
 clear hl0 hl1 hl2 hl3 hl4 hv1 hv3 hc1 hc3 HPL HPC HSP
 obtain⟨g,off,hop,hbg,hg,hcc,-⟩:=HOO.out.here (by simp)
 subst hop
 have ST2:Hid (Z1 w 30 g off [x0,x1,x2,x3,x4] w2):=Jpa ⟨HX2.out,fun j x hj=>hcc j (Jey x) (by simp only[List.getElem?_map,hj];rfl),HB2.out⟩
 clear hcc HOO HX2 HB2 hbg hg
 have c0:=ST2.out.at 0 (x:=x0) rfl
 rw[Nat.add_zero] at c0
 simp only[List.length_cons,List.length_nil]
 go_wp2_with fail
 refine Jpc (HU0.out _ (HE.out.below ST2.out.bel)) ?_
 rintro e w3 ⟨u0,er0,rfl,b0,hw0,hb3⟩
 have HW0:=Jpa (And.intro b0 hw0)
 clear b0 hw0
 have ST3:=Jpa (ST2.out.go hb3)
 clear hb3 c0 ST2
 have c2:=ST3.out.at 2 (x:=x2) rfl
 go_wp2_with fail
 refine Jpc (HU2.out _ (HE.out.below ST3.out.bel)) ?_
 rintro e w4 ⟨u2,er2,rfl,b2,hw2,hb4⟩
 have HW2:=Jpa (And.intro b2 hw2)
 clear b2 hw2
 have ST4:=Jpa (ST3.out.go hb4)
 clear hb4 c2 ST3
 have c4:=ST4.out.at 4 (x:=x4) rfl
 go_wp2_with fail
 refine Jpc (HU4.out _ (HE.out.below ST4.out.bel)) ?_
 rintro e w5 ⟨u4,er4,rfl,b4,hw4,hb5⟩
 have HW4:=Jpa (And.intro b4 hw4)
 clear b4 hw4
 have ST5:=Jpa (ST4.out.go hb5)
 clear hb5 c4 ST4
 have c1:=ST5.out.at 1 (x:=x1) rfl
 go_wp2_with fail
 refine Jpc (HPA.out _ (HE.out.below ST5.out.bel)) ?_
 rintro e w6 ⟨rfl,hb6⟩
 have ST6:=Jpa ((ST5.out.go hb6).alloc (.cells (Jpm s1 S) 27))
 have HA6:=Jpa (heap_alloc_new w6 (.cells (Jpm s1 S) 27))
 clear hb6 c1 ST5
 unfold adV at HPB⊢
 have c3:=ST6.out.at 3 (x:=x3) rfl
 go_wp2_with fail
 obtain⟨b6,hb6⟩:∃b,b=w6.heap.size:=⟨_,rfl⟩
 rw[←hb6] at HA6⊢
 clear hb6 c3
 generalize w6.alloc _=y6 at*
 refine Jpc (HPB.out _ (HE.out.below ST6.out.bel)) ?_
 rintro e w7 ⟨rfl,hb7⟩
 have ST7:=Jpa ((ST6.out.go hb7).alloc (.cells (Jpm t1 T) 27))
 have HA7:=Jpa ((heap_alloc_old _ (.cells (Jpm t1 T) 27) (Jpe (Jpb HA6.out).1 hb7.size)).trans ((hb7.block b6 (Jpb HA6.out).1).trans HA6.out))
 have HT7:=Jpa (heap_alloc_new w7 (.cells (Jpm t1 T) 27))
 have l6:b6<(w7.alloc (.cells (Jpm t1 T) 27)).heap.size:=(Jpb HA7.out).1
 have p6:Jf (w7.alloc (.cells (Jpm t1 T) 27)) b6 0 17=(Jpm s1 S:Array Value):=Ja HA7.out rfl
 have ST7':=Jpa (ST6.out.go hb7)
 have hl7:w.heap.size<w7.heap.size:=ST7'.out.lt
 have hrf7:Jg w7 w.heap.size 37=true:=ST7'.out.free
 have hm0:(u0:Int)%256=u0:=by have:=HW0.out.1;omega
 have hm2:IntKind.u16.wrap (u2:Int)=u2:=by rw[IntKind.wrap_u16];have:=HW2.out.1;omega
 have hm4:IntKind.u16.wrap (u4:Int)=u4:=by rw[IntKind.wrap_u16];have:=HW4.out.1;omega
 have hrf9:Jg ((w7.alloc (.cells (Jpm t1 T) 27)).alloc (.cells (JpD s1 t1 (.int .u8 u0) (.int .u16 u2) (.int .u16 u4) S T) 30)) w.heap.size 37=true:=(ST7'.out.alloc _ |>.alloc _).free
 clear hb7 ST6 HA6
 rcases HC1.out with ⟨rfl,hp1,hU1⟩|⟨rfl,hp1⟩
 rotate_left
 ·have HN:Hid (XS l=none):=Jpa (Jkt HP.out hp1)
  clear hp1
  go_wp2_with fail
  exact Z2 (k:=kyZ) _ rfl rfl (Ja (Jni _ _ ST7'.out.box) rfl) (by rw[←HR.out,HN.out];rfl) (Below.all (Below.all (below_setRow ST7'.out.bel (Jpf _) _) _) _)
 rcases HC3.out with ⟨rfl,hp3,hU3⟩|⟨rfl,hp3⟩
 rotate_left
 ·have HN:Hid (XS l=none):=Jpa (Jku HP.out hp3)
  have HU1:=Jpa hU1
  clear hp1 hp3 hU1
  go_wp2_with fail
  exact Z2 (k:=kyZ) _ rfl rfl (Ja (Jni _ _ ST7'.out.box) rfl) (by rw[←HR.out,HN.out];rfl) (Below.all (Below.all (below_setRow ST7'.out.bel (Jpf _) _) _) _)
 have HIS:=Jpa (JlU HP.out hp1 hp3 u0 u2 u4 HW0.out.1 HW2.out.1 HW4.out.1 HW0.out.2 HW2.out.2 HW4.out.2)
 have HKO:Hid (JnT ⟨s1,S,t1,T,u0,u2,u4⟩):=Jpa ⟨hU1,hU3,(by show(0:Int)≤u0∧(u0:Int)<256;have:=HW0.out.1;omega),(by show(0:Int)≤u2∧(u2:Int)<65536;have:=HW2.out.1;omega),(by show(0:Int)≤u4∧(u4:Int)<65536;have:=HW4.out.1;omega)⟩
 have HTX:Hid (∀w',Env w'→Calls Tryz.prog 28 #[.agg #[.bool s1,.int .u8 (S 0),.int .u8 (S 1),.int .u8 (S 2),.int .u8 (S 3),.int .u8 (S 4),.int .u8 (S 5),.int .u8 (S 6),.int .u8 (S 7),.int .u8 (S 8),.int .u8 (S 9),.int .u8 (S 10),.int .u8 (S 11),.int .u8 (S 12),.int .u8 (S 13),.int .u8 (S 14),.int .u8 (S 15),.bool t1,.int .u8 (T 0),.int .u8 (T 1),.int .u8 (T 2),.int .u8 (T 3),.int .u8 (T 4),.int .u8 (T 5),.int .u8 (T 6),.int .u8 (T 7),.int .u8 (T 8),.int .u8 (T 9),.int .u8 (T 10),.int .u8 (T 11),.int .u8 (T 12),.int .u8 (T 13),.int .u8 (T 14),.int .u8 (T 15),.int .u8 u0,.int .u16 u2,.int .u16 u4]] w' (Jh w' (.string ⟨(Jbg ⟨s1,S,t1,T,u0,u2,u4⟩).toArray⟩))):=Jpa fun w' h=>JlW _ HKO.out w' h
 clear hp1 hp3 hU1 hU3
 generalize Jbg ⟨s1,S,t1,T,u0,u2,u4⟩=TX at*
 have ST9:=Jpa ((ST7'.out.alloc (.cells (Jpm t1 T) 27)).alloc (.cells (JpD s1 t1 (.int .u8 u0) (.int .u16 u2) (.int .u16 u4) S T) 30))
 have hK9:=heap_alloc_new (w7.alloc (.cells (Jpm t1 T) 27)) (.cells (JpD s1 t1 (.int .u8 u0) (.int .u16 u2) (.int .u16 u4) S T) 30)
 rw[show(w7.alloc (.cells (Jpm t1 T) 27)).heap.size=w7.heap.size+1 by simp] at hK9
 have HK9:=Jpa hK9
 clear hK9
 go_wp2_with fail
 generalize (w7.alloc _).alloc _=y9 at*
 obtain⟨b9,hb9⟩:∃b,b=w7.heap.size+1:=⟨_,rfl⟩
 rw[←hb9] at HK9⊢
 have HN9:Hid (w.heap.size≠b9):=Jpa (by omega)
 clear hb9 hrf9 hrf7 hl7 p6 l6
 refine Jpc (HTX.out _ (HE.out.below ST9.out.bel)) ?_
 rintro e w10 ⟨rfl,hb10⟩
 have ST10:=Jpa (ST9.out.go hb10)
 have HK10:=Jpa ((hb10.block b9 (Jpb HK9.out).1).trans HK9.out)
 clear hb10 ST9 HK9
 have p9:Jf w10 b9 0 37=(JpD s1 t1 (.int .u8 u0) (.int .u16 u2) (.int .u16 u4) S T:Array Value):=Ja HK10.out rfl
 have hrf:Jg w10 w.heap.size 37=true:=ST10.out.free
 by_cases ht:TX=l
 ·have h2:=HIS.out
  rw[if_pos ht] at h2
  have HN:=Jpa h2
  have hq:(TX==l)=true:=by simpa using ht
  clear h2 ht HIS
  go_wp2_with fail
  exact Z2 (k:=⟨s1,S,t1,T,u0,u2,u4⟩) _ rfl rfl (Ja (Jd ST10.out.box) rfl) (by rw[←HR.out,HN.out];rfl) (below_setRow ST10.out.bel (Jpf _) _)
 ·have h2:=HIS.out
  rw[if_neg ht] at h2
  have HN:=Jpa h2
  have hq:(TX==l)=false:=by simpa using ht
  clear h2 ht HIS
  go_wp2_with fail
  exact Z2 (k:=kyZ) _ rfl rfl (Ja (Jd ST10.out.box) rfl) (by rw[←HR.out,HN.out];rfl) (below_setRow ST10.out.bel (Jpf _) _)
theorem Jky (n:Nat):madeCells #[Value.int .u8 0] n=((Qt n).map (.int .u8)).toArray:=by
 apply Array.ext
 ·simp[madeCells,Qt]
 ·intro i h1 h2
  simp[madeCells,Qt,Nat.mod_one]
theorem Jen (w:World)(n:Nat)(hn:n≤2048):(Instr.makeSlice 22 (.int .i64 n) (.int .i64 n)).run Tryz.prog w=.ok (.slice (some ⟨w.heap.size,0,none⟩) n n) (w.alloc (.cells ((Qt n).map (.int .u8)).toArray 5)):=by
 obtain⟨ie,hie,hz,h4,h5⟩:=info_parts Bits.infoU8
 have h:=run_makeSlice (P:=Tryz.prog) (w:=w) 22 5 ie (.int .u8 0) Tryz.underlying22 hie hz .i64 .i64 (n:Int) (n:Int) (by omega) (Int.le_refl _) (by rw[h4];simp;omega) (by rw[h5];omega) (by omega)
 rw[h4,Nat.mul_one,Int.toNat_natCast] at h
 rw[h,←Jky]
 rfl
theorem Jeo (ev:Operand→Value)(w:World){dst:Option Tmp}{ty:TypeId}{pos:String}{after:Array Edge}{g:Option (Nat×Bool)}{t:TypeId}{x y:Operand}{vx vy v:Value}{w2:World}(hx:ev x=vx)(hy:ev y=vy)
 (hr:(Instr.makeSlice t vx vy).run Tryz.prog w=.ok v w2):(execOp ev ⟨dst,.makeSlice t x y,ty,pos,after,g⟩).run Tryz.prog w=.ok (.value v) w2:=by
 simp[execOp,hx,hy,hr,Result.andThen]
theorem Jep {w:World}{b n:Nat}{t:TypeId}(h:w.heap[b]? =some (.cells ((Qt n).map (.int .u8)).toArray t (0,0)))(hn:n≤2048):Ji w (some ⟨b,0,none⟩) n n (Qt n):=by
 refine⟨by simp[Qt],Jpf _,by unfold maxLen;omega,fun v hv=>?_,.inr ⟨b,0,rfl,(Jpb h).1,fun j hj=>?_⟩⟩
 ·rw[(List.mem_replicate.1 hv).2];decide
 ·rw[Nat.zero_add,cell_of_row _ _ _ _ _ _ h];simp[Qt,hj]
theorem Jkz (s:Bool)(S T:Nat→Int)(p a b f:Int)(d:Nat)(hd:d≤2048)(hip:JO p=false)(hii:JS p=false)(w:World):
 Calls Tryz.prog 43 #[.agg (spC s S s T p a b f d)] w (Jw w (Qt d) 0):=by
 have HP:Hid (∀w',Calls Tryz.prog 35 #[p] w' (Jh w' (.bool (JO p)))):=Jpa (fun w'=>Xt p w')
 have HI:Hid (∀w',Calls Tryz.prog 36 #[p] w' (Jh w' (.bool (JS p)))):=Jpa (fun w'=>QZ p w')
 rw[hip] at HP
 rw[hii] at HI
 have HD:=Jpa hd
 have hX:(w.alloc (.cells (spC s S s T p a b f d) 47)).heap[w.heap.size]? =some (.cells (spC s S s T p a b f d) 47 (0,0)):=heap_alloc_new w _
 have HB:Hid (Below w.heap.size w (w.alloc (.cells (spC s S s T p a b f d) 47))):=Jpa (Below.all (Jpd _ _) _)
 clear hd hip hii
 unfold spC at HB hX⊢
 go_enter Tryz.func43,Tryz.ntmps43
 go_wp2_with fail
 obtain⟨b0,hb0⟩:∃b,b=w.heap.size:=⟨_,rfl⟩
 have HB0:=Jpa hb0
 rw[←hb0] at hX⊢
 clear hb0
 generalize w.alloc _=y at*
 have hlt:b0<y.heap.size:=(Jpb hX).1
 have HY:=Jpa hX
 clear hX
 have hc0:y.cell? ⟨b0,34,none⟩=some (.int .u8 p):=cell_of_row _ _ 34 _ _ (0,0) HY.out
 refine JQ [.h,.h,.h,.h,.h] [(0,1,0),(1,1,0),(2,1,0)] (fun _ w'=>w'.cell? ⟨b0,34,none⟩=some (.int .u8 p)) [1] [(.w,5),(.q,6)] [(.w,8)] 7 (.cells Qx 149) (by kernel_rfl) (by kernel_rfl) rfl rfl ⟨fun _=>rfl,fun _ _=>by kernel_rfl⟩ (by kernel_rfl) (by kernel_rfl) ?_
 apply Exists.intro
 refine⟨fun wx hbx=>?_,?_,?_⟩
 ·have hxx:=(hbx.block b0 hlt).trans HY.out
  have hbx2:b0<wx.heap.size:=Jpe hlt hbx.size
  have c34:wx.cell? ⟨b0,34,none⟩=some (.int .u8 p):=cell_of_row _ _ 34 _ _ (0,0) hxx
  have c38:wx.cell? ⟨b0,38,none⟩=some (.int .i64 d):=cell_of_row _ _ 38 _ _ (0,0) hxx
  clear hxx hbx
  simp only[JB]
  repeat go_big_quiet_step (fail)
  exact wpQuiet_nil rfl
 ·intro q hq oi hoi
  simp only[List.mem_cons,List.not_mem_nil,or_false] at hq
  rcases hq with rfl|rfl|rfl
  ·cases hoi;exact⟨_,rfl,rfl,fun w2 hw=>by kernel_rfl⟩
  ·cases hoi;exact⟨_,rfl,rfl,fun w2 hw=>by kernel_rfl⟩
  ·cases hoi;exact⟨_,rfl,rfl,fun w2 hw=>by simp[execOp,go_sem,hw]⟩
 simp only[Qa,List.getElem?_cons_succ,List.getElem?_cons_zero]
 refine⟨fun v fl w2=>∃r,v=.slice (some ⟨r,0,none⟩) d d∧y.heap.size≤r∧Below y.heap.size y w2∧w2.heap[r]? =some (.cells ((Qt d).map (.int .u8)).toArray 5 (0,0))∧∀b',fl=some b'→y.heap.size≤b'∧b'≠r∧w2.heap[b']? =some (.cells Qx 149 (0,0)),?_,?_,?_,?_⟩
 ·rintro fl-
  refine Jv.made rfl ?_
  rintro w' ⟨⟨x,rfl⟩,hfb⟩
  refine⟨_,_,Jeo _ _ (vx:=.int .i64 d) (vy:=.int .i64 d) (by kernel_rfl) (by kernel_rfl) (Jen x.world d HD.out),x.world.heap.size,rfl,x.below.size,Below.all x.below _,heap_alloc_new _ _,fun b' hb'=>?_⟩
  have h1:=(hfb b' hb')
  have h2:=(Jpb h1.2).1
  exact⟨h1.1,by omega,(heap_alloc_old _ _ h2).trans h1.2⟩
 ·rintro v fl g-w2 ⟨r,-,-,h3,-⟩
  exact(Je h3 hlt _ rfl).trans hc0
 ·rintro-v w2 ⟨r,h1,h2,h3,h4,-⟩
  have hr:=(Jpb h4).1
  exact⟨r,h1,h2,Below.all h3 _,(heap_alloc_old _ _ hr).trans h4,fun b' hb'=>by cases hb';exact⟨h3.size,by omega,heap_alloc_new _ _⟩⟩
 rintro v ⟨fl0,w20,r,rfl,-⟩
 refine⟨.agg (QL p 0 0 0 0 0 (some ⟨r,0,none⟩) d d),⟨rfl,fun _=>by kernel_rfl⟩,?_⟩
 intro bs
 refine⟨fun v fl w2=>v=undef∧(y.heap.size≤bs∧y.heap.size≤r∧bs≠r∧Below y.heap.size y w2∧w2.heap[r]? =some (.cells ((Qt d).map (.int .u8)).toArray 5 (0,0))∧w2.heap[bs]? =some (.cells (QL p 0 0 0 0 0 (some ⟨r,0,none⟩) d d) 149 (0,0))),?_,fun _ _=>JC rfl,(fun h=>by cases h),?_⟩
 ·rintro fl rfl
  refine Jv.skip rfl ?_
  rintro w' ⟨r',hr',h2,h3,h4,hfb⟩
  obtain rfl:r=r':=by simpa using hr'
  obtain⟨hbge,hne,hbx⟩:=hfb bs rfl
  exact⟨_,Xe _ w' bs (QL p 0 0 0 0 0 (some ⟨r,0,none⟩) d d) (by kernel_rfl) (by kernel_rfl) (by rw[Jc _ _ _ _ _ hbx];rfl) rfl rfl,hbge,h2,hne,h3.trans (Jb _ hbge),(setRow_other _ bs _ _ (fun h=>hne h.symm)).trans h4,Jd hbx⟩
 rintro v ⟨fl2,w22,rfl,-⟩
 rintro zz ⟨-,hbs,hr0,hne,hzz,hzr,hsz⟩
 have HZ:=Jpa hzz
 have HS:=Jpa hsz
 have HR:=Jpa hzr
 have HX:=Jpa ((hzz.block b0 hlt).trans HY.out)
 have hbz:b0<zz.heap.size:=Jpe hlt hzz.size
 have hsz':bs<zz.heap.size:=(Jpb hsz).1
 have hrz:r<zz.heap.size:=(Jpb hzr).1
 have hne0:bs≠b0:=by omega
 have c34:zz.cell? ⟨b0,34,none⟩=some (.int .u8 p):=cell_of_row _ _ 34 _ _ (0,0) HX.out
 clear hzz hsz hzr fl0 fl2 w20 w22 HY hc0
 unfold Q6
 simp only[Act.put,List.setIfInBounds_toArray,List.set_cons_succ,List.set_cons_zero]
 go_wp2_with fail
 refine Jpc (HP.out zz) ?_
 rintro e z2 ⟨rfl,hb2⟩
 have HZ2:=Jpa (Jo3 HZ.out hb2)
 have HX2:=Jpa ((hb2.block b0 hbz).trans HX.out)
 have HS2:=Jpa ((hb2.block bs hsz').trans HS.out)
 have HR2:=Jpa ((hb2.block r hrz).trans HR.out)
 have d34:z2.cell? ⟨b0,34,none⟩=some (.int .u8 p):=cell_of_row _ _ 34 _ _ (0,0) HX2.out
 clear hb2 c34
 go_wp2_with fail
 refine Jpc (HI.out z2) ?_
 rintro e z3 ⟨rfl,hb3⟩
 have HZ3:=Jpa (Jo3 HZ2.out hb3)
 have HS3:=Jpa ((hb3.block bs (Jpb HS2.out).1).trans HS2.out)
 have HR3:=Jpa ((hb3.block r (Jpb HR2.out).1).trans HR2.out)
 have e11:z3.cell? ⟨bs,11,none⟩=some (.slice (some ⟨r,0,none⟩) d d):=cell_of_row _ _ 11 _ _ (0,0) HS3.out
 clear hb3 d34
 go_wp2_with fail
 go_ret2
 have hl:((Qt d).map (.int .u8:Int→Value)).length=d:=by simp[Qt]
 have hz:(Qt d).length=d:=by simp[Qt]
 have hO:=JjE HR3.out (by rw[hl];have:=HD.out;unfold maxLen;omega)
 rw[hl] at hO
 exact⟨some ⟨r,0,none⟩,d,by rw[hz];rfl,by rw[hz];exact hO.mono (Nat.le_trans HB.out.size hr0),HB.out.trans (HZ3.out.mono HB.out.size)⟩
theorem Jeq (s:Bool)(S T:Nat→Int)(p a b f:Int)(d:Nat)(hd:d≤2048)(hS:U8 S)(hT:U8 T)(hip:JO p=true)(R:List Int→List Int)(hput:∀(oD:Option Addr) (n cD:Nat) (l:List Int) (o1 o2:Option Addr) (k c1 c2:Nat) (w:World),Ji w oD n cD l→Ji w o1 k c1 (Jn s S)→Ji w o2 k c2 (Jn s T)→(k=4∨k=16)→n≤60000→Calls Tryz.prog 94 #[.agg (QL p a b f 0 0 oD n cD),.slice o1 k c1,.slice o2 k c2] w (Jw w (R l) 0))(w:World):
 Calls Tryz.prog 43 #[.agg (spC s S s T p a b f d)] w (Jw w (R (Qt d)) 0):=by
 have HP:Hid (∀w',Calls Tryz.prog 35 #[p] w' (Jh w' (.bool (JO p)))):=Jpa (fun w'=>Xt p w')
 have HI:Hid (∀w',Calls Tryz.prog 36 #[p] w' (Jh w' (.bool (JS p)))):=Jpa (fun w'=>QZ p w')
 rw[hip] at HP
 obtain⟨L,hL⟩:∃L,R (Qt d)=L:=⟨_,rfl⟩
 have HPU:Hid (∀(oD:Option Addr) (n cD:Nat) (o1 o2:Option Addr) (k c1 c2:Nat) (w:World),Ji w oD n cD (Qt d)→Ji w o1 k c1 (Jn s S)→Ji w o2 k c2 (Jn s T)→(k=4∨k=16)→n≤60000→Calls Tryz.prog 94 #[.agg (QL p a b f 0 0 oD n cD),.slice o1 k c1,.slice o2 k c2] w (Jw w L 0)):=Jpa (fun oD n cD o1 o2 k c1 c2 w h0 h1 h2 h3 h4=>by rw[←hL];exact hput oD n cD _ o1 o2 k c1 c2 w h0 h1 h2 h3 h4)
 rw[hL]
 have HD:=Jpa hd
 have hX:(w.alloc (.cells (spC s S s T p a b f d) 47)).heap[w.heap.size]? =some (.cells (spC s S s T p a b f d) 47 (0,0)):=heap_alloc_new w _
 have HB:Hid (Below w.heap.size w (w.alloc (.cells (spC s S s T p a b f d) 47))):=Jpa (Below.all (Jpd _ _) _)
 clear hd hip hput hL
 unfold spC at HB hX⊢
 go_enter Tryz.func43,Tryz.ntmps43
 go_wp2_with fail
 obtain⟨b0,hb0⟩:∃b,b=w.heap.size:=⟨_,rfl⟩
 have HB0:=Jpa hb0
 rw[←hb0] at hX⊢
 clear hb0
 generalize w.alloc _=y at*
 have hlt:b0<y.heap.size:=(Jpb hX).1
 have HY:=Jpa hX
 clear hX
 have hc0:y.cell? ⟨b0,34,none⟩=some (.int .u8 p):=cell_of_row _ _ 34 _ _ (0,0) HY.out
 refine JQ [.h,.h,.h,.h,.h] [(0,1,0),(1,1,0),(2,1,0)] (fun _ w'=>w'.cell? ⟨b0,34,none⟩=some (.int .u8 p)) [1] [(.w,5),(.q,6)] [(.w,8)] 7 (.cells Qx 149) (by kernel_rfl) (by kernel_rfl) rfl rfl ⟨fun _=>rfl,fun _ _=>by kernel_rfl⟩ (by kernel_rfl) (by kernel_rfl) ?_
 apply Exists.intro
 refine⟨fun wx hbx=>?_,?_,?_⟩
 ·have hxx:=(hbx.block b0 hlt).trans HY.out
  have hbx2:b0<wx.heap.size:=Jpe hlt hbx.size
  have c34:wx.cell? ⟨b0,34,none⟩=some (.int .u8 p):=cell_of_row _ _ 34 _ _ (0,0) hxx
  have c38:wx.cell? ⟨b0,38,none⟩=some (.int .i64 d):=cell_of_row _ _ 38 _ _ (0,0) hxx
  clear hxx hbx
  simp only[JB]
  repeat go_big_quiet_step (fail)
  exact wpQuiet_nil rfl
 ·intro q hq oi hoi
  simp only[List.mem_cons,List.not_mem_nil,or_false] at hq
  rcases hq with rfl|rfl|rfl
  ·cases hoi;exact⟨_,rfl,rfl,fun w2 hw=>by kernel_rfl⟩
  ·cases hoi;exact⟨_,rfl,rfl,fun w2 hw=>by kernel_rfl⟩
  ·cases hoi;exact⟨_,rfl,rfl,fun w2 hw=>by simp[execOp,go_sem,hw]⟩
 simp only[Qa,List.getElem?_cons_succ,List.getElem?_cons_zero]
 refine⟨fun v fl w2=>∃r,v=.slice (some ⟨r,0,none⟩) d d∧y.heap.size≤r∧Below y.heap.size y w2∧w2.heap[r]? =some (.cells ((Qt d).map (.int .u8)).toArray 5 (0,0))∧∀b',fl=some b'→y.heap.size≤b'∧b'≠r∧w2.heap[b']? =some (.cells Qx 149 (0,0)),?_,?_,?_,?_⟩
 ·rintro fl-
  refine Jv.made rfl ?_
  rintro w' ⟨⟨x,rfl⟩,hfb⟩
  refine⟨_,_,Jeo _ _ (vx:=.int .i64 d) (vy:=.int .i64 d) (by kernel_rfl) (by kernel_rfl) (Jen x.world d HD.out),x.world.heap.size,rfl,x.below.size,Below.all x.below _,heap_alloc_new _ _,fun b' hb'=>?_⟩
  have h1:=(hfb b' hb')
  have h2:=(Jpb h1.2).1
  exact⟨h1.1,by omega,(heap_alloc_old _ _ h2).trans h1.2⟩
 ·rintro v fl g-w2 ⟨r,-,-,h3,-⟩
  exact(Je h3 hlt _ rfl).trans hc0
 ·rintro-v w2 ⟨r,h1,h2,h3,h4,-⟩
  have hr:=(Jpb h4).1
  exact⟨r,h1,h2,Below.all h3 _,(heap_alloc_old _ _ hr).trans h4,fun b' hb'=>by cases hb';exact⟨h3.size,by omega,heap_alloc_new _ _⟩⟩
 rintro v ⟨fl0,w20,r,rfl,-⟩
 refine⟨.agg (QL p 0 0 0 0 0 (some ⟨r,0,none⟩) d d),⟨rfl,fun _=>by kernel_rfl⟩,?_⟩
 intro bs
 refine⟨fun v fl w2=>v=undef∧(y.heap.size≤bs∧y.heap.size≤r∧bs≠r∧Below y.heap.size y w2∧w2.heap[r]? =some (.cells ((Qt d).map (.int .u8)).toArray 5 (0,0))∧w2.heap[bs]? =some (.cells (QL p 0 0 0 0 0 (some ⟨r,0,none⟩) d d) 149 (0,0))),?_,fun _ _=>JC rfl,(fun h=>by cases h),?_⟩
 ·rintro fl rfl
  refine Jv.skip rfl ?_
  rintro w' ⟨r',hr',h2,h3,h4,hfb⟩
  obtain rfl:r=r':=by simpa using hr'
  obtain⟨hbge,hne,hbx⟩:=hfb bs rfl
  exact⟨_,Xe _ w' bs (QL p 0 0 0 0 0 (some ⟨r,0,none⟩) d d) (by kernel_rfl) (by kernel_rfl) (by rw[Jc _ _ _ _ _ hbx];rfl) rfl rfl,hbge,h2,hne,h3.trans (Jb _ hbge),(setRow_other _ bs _ _ (fun h=>hne h.symm)).trans h4,Jd hbx⟩
 rintro v ⟨fl2,w22,rfl,-⟩
 rintro zz ⟨-,hbs,hr0,hne,hzz,hzr,hsz⟩
 have HZ:=Jpa hzz
 have HS:=Jpa hsz
 have HR:=Jpa hzr
 have HX:=Jpa ((hzz.block b0 hlt).trans HY.out)
 have hbz:b0<zz.heap.size:=Jpe hlt hzz.size
 have hsz':bs<zz.heap.size:=(Jpb hsz).1
 have hrz:r<zz.heap.size:=(Jpb hzr).1
 have hne0:bs≠b0:=by omega
 have c34:zz.cell? ⟨b0,34,none⟩=some (.int .u8 p):=cell_of_row _ _ 34 _ _ (0,0) HX.out
 clear hzz hsz hzr fl0 fl2 w20 w22 HY hc0
 unfold Q6
 simp only[Act.put,List.setIfInBounds_toArray,List.set_cons_succ,List.set_cons_zero]
 go_wp2_with fail
 refine Jpc (HP.out zz) ?_
 rintro e z2 ⟨rfl,hb2⟩
 have HZ2:=Jpa (Jo3 HZ.out hb2)
 have HX2:=Jpa ((hb2.block b0 hbz).trans HX.out)
 have HS2:=Jpa ((hb2.block bs hsz').trans HS.out)
 have HR2:=Jpa ((hb2.block r hrz).trans HR.out)
 clear hb2 c34 HX HS HR HZ
 go_wp2_with fail
 have hb02:b0<z2.heap.size:=(Jpb HX2.out).1
 have hbs2:bs<z2.heap.size:=(Jpb HS2.out).1
 have hr2:r<z2.heap.size:=(Jpb HR2.out).1
 refine JV [.h,.h,.h,.h,.h,.h,.h,.h,.h] [(3,1,0),(4,1,0),(5,1,0),(6,2,0),(7,2,0)] (fun _ w'=>w'.cell? ⟨b0,36,none⟩=some (.int .u16 b)∧w'.cell? ⟨b0,37,none⟩=some (.int .u8 f)) [2] [(.w,9),(.q,10),(.w,11),(.q,12),(.w,13)] (by kernel_rfl) (by kernel_rfl) (by kernel_rfl) (by kernel_rfl) ?_
 apply Exists.intro
 refine⟨fun wx hbx=>?_,?_,?_⟩
 ·have hxx:=(hbx.block b0 hb02).trans HX2.out
  have e35:wx.cell? ⟨b0,35,none⟩=some (.int .u16 a):=cell_of_row _ _ 35 _ _ (0,0) hxx
  have e36:wx.cell? ⟨b0,36,none⟩=some (.int .u16 b):=cell_of_row _ _ 36 _ _ (0,0) hxx
  have e37:wx.cell? ⟨b0,37,none⟩=some (.int .u8 f):=cell_of_row _ _ 37 _ _ (0,0) hxx
  have hbx2:b0<wx.heap.size:=Jpe hb02 hbx.size
  clear hxx hbx
  simp only[JB]
  repeat go_big_quiet_step (fail)
  exact wpQuiet_nil rfl
 ·intro q hq oi hoi
  simp only[List.mem_cons,List.not_mem_nil,or_false] at hq
  rcases hq with rfl|rfl|rfl|rfl|rfl
  ·cases hoi;exact⟨_,rfl,rfl,fun w2 hw=>by kernel_rfl⟩
  ·cases hoi;exact⟨_,rfl,rfl,fun w2 hw=>by kernel_rfl⟩
  ·cases hoi;exact⟨_,rfl,rfl,fun w2 hw=>by simp[execOp,go_sem,hw.1]⟩
  ·cases hoi;exact⟨_,rfl,rfl,fun w2 hw=>by kernel_rfl⟩
  ·cases hoi;exact⟨_,rfl,rfl,fun w2 hw=>by simp[execOp,go_sem,hw.2]⟩
 have d36:z2.cell? ⟨b0,36,none⟩=some (.int .u16 b):=cell_of_row _ _ 36 _ _ (0,0) HX2.out
 have d37:z2.cell? ⟨b0,37,none⟩=some (.int .u8 f):=cell_of_row _ _ 37 _ _ (0,0) HX2.out
 simp only[Qa,List.getElem?_cons_succ,List.getElem?_cons_zero]
 refine⟨fun v fq w2=>v=undef∧OBx z2 bs (QL p a 0 0 0 0 (some ⟨r,0,none⟩) d d) 149 w2,?_,?_,(fun h=>by cases h),?_⟩
 ·rintro fl rfl
  refine Jv.skip rfl ?_
  rintro w' ⟨⟨x,rfl⟩,-⟩
  have hob:OBx z2 bs (QL p 0 0 0 0 0 (some ⟨r,0,none⟩) d d) 149 x.world:=OBx.later ⟨HS2.out,Jpd _ _,fun _ _ _=>rfl⟩ x.below
  have g1:x.world.cell? ⟨bs,1,none⟩=some (.int .u16 0):=cell_of_row _ _ 1 _ _ (0,0) hob.1
  have g2:=frozen_of_row _ _ 1 _ _ hob.1
  refine⟨_,?_,hob.set 1 (.int .u16 a)⟩
  simp[execOp,go_sem,g1,g2]
 ·rintro v fq g-w2 ⟨-,hob⟩
  have:=(hob.2.2 b0 (fun h=>hne0 h.symm) hb02)
  exact⟨(World.cell?_of_block (a:=⟨b0,36,none⟩) this).trans d36,(World.cell?_of_block (a:=⟨b0,37,none⟩) this).trans d37⟩
 rintro v ⟨gl0,w30,rfl,-⟩
 refine⟨.pointer (some ⟨bs,2,none⟩),⟨rfl,fun _=>by kernel_rfl⟩,?_⟩
 refine⟨fun v fq w2=>v=undef∧OBx z2 bs (QL p a b 0 0 0 (some ⟨r,0,none⟩) d d) 149 w2,?_,?_,(fun h=>by cases h),?_⟩
 ·rintro fl rfl
  refine Jv.skip rfl ?_
  rintro w' ⟨-,hob⟩
  have g1:w'.cell? ⟨bs,2,none⟩=some (.int .u16 0):=cell_of_row _ _ 2 _ _ (0,0) hob.1
  have g2:=frozen_of_row _ _ 2 _ _ hob.1
  refine⟨_,?_,hob.set 2 (.int .u16 b)⟩
  simp[execOp,go_sem,g1,g2]
 ·rintro v fq g-w2 ⟨-,hob⟩
  have:=(hob.2.2 b0 (fun h=>hne0 h.symm) hb02)
  exact⟨(World.cell?_of_block (a:=⟨b0,36,none⟩) this).trans d36,(World.cell?_of_block (a:=⟨b0,37,none⟩) this).trans d37⟩
 rintro v ⟨gl1,w31,rfl,-⟩
 refine⟨.pointer (some ⟨bs,5,none⟩),⟨rfl,fun _=>by kernel_rfl⟩,?_⟩
 refine⟨fun v fq w2=>v=undef∧OBx z2 bs (QL p a b f 0 0 (some ⟨r,0,none⟩) d d) 149 w2,?_,fun _ _=>JC rfl,(fun h=>by cases h),?_⟩
 ·rintro fl rfl
  refine Jv.skip rfl ?_
  rintro w' ⟨-,hob⟩
  have g1:w'.cell? ⟨bs,5,none⟩=some (.int .u8 0):=cell_of_row _ _ 5 _ _ (0,0) hob.1
  have g2:=frozen_of_row _ _ 5 _ _ hob.1
  refine⟨_,?_,hob.set 5 (.int .u8 f)⟩
  simp[execOp,go_sem,g1,g2]
 rintro v ⟨gl2,w32,rfl,-⟩
 rintro z4 ⟨-,hob⟩
 have HS4:=Jpa hob.1
 have HX4:=Jpa ((hob.2.2 b0 (fun h=>hne0 h.symm) hb02).trans HX2.out)
 have HR4:=Jpa ((hob.2.2 r (fun h=>hne h.symm) hr2).trans HR2.out)
 have HZ4:Hid (Below y.heap.size y z4):=Jpa (HZ2.out.trans (hob.2.1.mono hbs))
 clear hob d36 d37 gl0 gl1 gl2 w30 w31 w32 HS2 HX2 HR2 HZ2 hb02 hbs2 hr2
 have HSZ:Hid ((QL p a b f 0 0 (some ⟨r,0,none⟩) d d).size=12):=Jpa rfl
 simp only[Act.put,List.setIfInBounds_toArray,List.set_cons_succ,List.set_cons_zero]
 go_wp2_with fail
 have hb04:b0<z4.heap.size:=(Jpb HX4.out).1
 have hbs4:bs<z4.heap.size:=(Jpb HS4.out).1
 obtain⟨k1,hk1⟩:∃m,(Jn s S).length=m:=⟨_,rfl⟩
 have hk2:(Jn s T).length=k1:=by rw[J5,←hk1,J5]
 have HK:Hid (k1=4∨k1=16):=Jpa (by rw[←hk1,J5];cases s;exact .inl rfl;exact .inr rfl)
 have HA1:Hid (∀w',Calls Tryz.prog 64 #[adV s S] w' (JnW w' k1 (Jn s S))):=Jpa fun w'=>(bytes_any s S w').mono fun _ _ h=>h.n hk1 (Qr hS s)
 have HA2:Hid (∀w',Calls Tryz.prog 64 #[adV s T] w' (JnW w' k1 (Jn s T))):=Jpa fun w'=>(bytes_any s T w').mono fun _ _ h=>h.n hk2 (Qr hT s)
 have HRZ:=Jpa (Jep HR4.out HD.out)
 refine JV [.h,.h,.h,.h,.w,.h,.h,.h] [(0,2,0),(5,1,0),(6,1,0),(7,1,0)] (fun _ w'=>Jf w' bs 0 12=QL p a b f 0 0 (some ⟨r,0,none⟩) d d∧Jf w' b0 17 17=(Jpm s T:Array Value)) [2] [(.w,4),(.w,8),(.w,9),(.q,10),(.q,11),(.q,12),(.q,13)] (by kernel_rfl) (by kernel_rfl) (by kernel_rfl) (by kernel_rfl) ?_
 apply Exists.intro
 refine⟨fun wx hbx=>?_,?_,?_⟩
 ·have hxx:=(hbx.block b0 hb04).trans HX4.out
  have hss:=(hbx.block bs hbs4).trans HS4.out
  have hbx2:b0<wx.heap.size:=Jpe hb04 hbx.size
  have hbx3:bs<wx.heap.size:=Jpe hbs4 hbx.size
  have p0:Jf wx bs 0 12=QL p a b f 0 0 (some ⟨r,0,none⟩) d d:=Ja hss rfl
  have hld:∀x:Jz wx,Qz Tryz.prog 149 x.world (.pointer (some ⟨bs,0,none⟩))=.ok (.value (.agg (QL p a b f 0 0 (some ⟨r,0,none⟩) d d))) x.world:=fun x=>by
   have e:Jf x.world bs 0 12=_:=(Jz.part x bs 0 12 hbx3).trans p0
   rw[Xc x.world bs 0 (by rw[e];rfl),e]
  have p1:Jf wx b0 0 17=(Jpm s S:Array Value):=by rw[Jq _ _ _ _ _ _ _ hxx];simp
  have p2:Jf wx b0 17 17=(Jpm s T:Array Value):=by rw[Jq _ _ _ _ _ _ _ hxx];simp
  clear hxx hss hbx
  simp only[JB]
  repeat go_big_quiet_step (fail)
  exact wpQuiet_nil rfl
 ·intro q hq oi hoi
  simp only[List.mem_cons,List.not_mem_nil,or_false] at hq
  rcases hq with rfl|rfl|rfl|rfl
  ·cases hoi;exact⟨_,rfl,rfl,fun w2 hw=>Jeb _ w2 bs _ (by kernel_rfl) hw.1 rfl⟩
  ·cases hoi;exact⟨_,rfl,rfl,fun w2 hw=>by kernel_rfl⟩
  ·cases hoi;exact⟨_,rfl,rfl,fun w2 hw=>by kernel_rfl⟩
  ·cases hoi;exact⟨_,rfl,rfl,fun w2 hw=>by simp[execOp,go_sem,hw.2]⟩
 have q0:Jf z4 bs 0 12=QL p a b f 0 0 (some ⟨r,0,none⟩) d d:=Ja HS4.out rfl
 have q2:Jf z4 b0 17 17=(Jpm s T:Array Value):=by rw[Jq _ _ _ _ _ _ _ HX4.out];simp
 simp only[Qa,List.getElem?_cons_succ,List.getElem?_cons_zero]
 refine⟨fun v fl w2=>∃o1 c1,v=.slice o1 k1 c1∧Ji w2 o1 k1 c1 (Jn s S)∧Below z4.heap.size z4 w2,?_,?_,(fun h=>by cases h),?_⟩
 ·rintro fl rfl
  refine⟨rfl,fun w' hw'=>.inr ⟨64,#[adV s S],by kernel_rfl,?_⟩⟩
  obtain⟨⟨x,rfl⟩,-⟩:=hw'
  refine(HA1.out x.world).mono ?_
  rintro e w2 ⟨o1,c1,rfl,h1,hb⟩
  exact⟨_,rfl,o1,c1,rfl,h1,Jo3 x.below hb⟩
 ·rintro v fq g-w2 ⟨o1,c1,-,-,hb⟩
  exact⟨(QD hb bs 0 12 hbs4).trans q0,(QD hb b0 17 17 hb04).trans q2⟩
 rintro v ⟨gl0,w30,o1,c1,rfl,-⟩
 refine⟨fun v fl w2=>∃o2 c2,v=.slice o2 k1 c2∧Ji w2 o1 k1 c1 (Jn s S)∧Ji w2 o2 k1 c2 (Jn s T)∧Below z4.heap.size z4 w2,?_,?_,(fun h=>by cases h),?_⟩
 ·rintro fl rfl
  refine⟨rfl,fun w' hw'=>.inr ⟨64,#[adV s T],by kernel_rfl,?_⟩⟩
  obtain⟨o1',c1',he,h1,hb1⟩:=hw'
  obtain⟨rfl,rfl⟩:o1=o1'∧c1=c1':=by simpa using he
  refine(HA2.out w').mono ?_
  rintro e w2 ⟨o2,c2,rfl,h2,hb⟩
  exact⟨_,rfl,o2,c2,rfl,h1.below hb,h2,Jo3 hb1 hb⟩
 ·rintro v fq g-w2 ⟨o2,c2,-,-,-,hb⟩
  exact⟨(QD hb bs 0 12 hbs4).trans q0,(QD hb b0 17 17 hb04).trans q2⟩
 rintro v ⟨gl1,w31,o2,c2,rfl,-⟩
 refine⟨fun v fl w2=>∃oP cP,v=.tuple #[.slice oP L.length cP,.int .i64 0]∧JF w2 z4.heap.size 1 oP L.length cP (L.map (.int .u8))∧Below z4.heap.size z4 w2,?_,fun _ _=>JC rfl,(fun h=>by cases h),?_⟩
 ·rintro fl rfl
  refine⟨rfl,fun w' hw'=>.inr ⟨94,#[.agg (QL p a b f 0 0 (some ⟨r,0,none⟩) d d),.slice o1 k1 c1,.slice o2 k1 c2],by kernel_rfl,?_⟩⟩
  obtain⟨o2',c2',he,h1,h2,hb1⟩:=hw'
  obtain⟨rfl,rfl⟩:o2=o2'∧c2=c2':=by simpa using he
  refine(HPU.out _ d d o1 o2 k1 c1 c2 w' (HRZ.out.below hb1) h1 h2 HK.out (by have:=HD.out;omega)).mono ?_
  rintro e w2 ⟨oP,cP,rfl,ho,hb⟩
  exact⟨_,rfl,oP,cP,rfl,ho.mono hb1.size,Jo3 hb1 hb⟩
 rintro v ⟨gl2,w32,oP,cP,rfl,-⟩
 refine⟨.slice oP L.length cP,⟨rfl,fun _=>by kernel_rfl⟩,?_⟩
 refine⟨.int .i64 0,⟨rfl,fun _=>by kernel_rfl⟩,?_⟩
 refine⟨.slice oP L.length cP,⟨rfl,fun _=>by kernel_rfl⟩,?_⟩
 refine⟨.int .i64 0,⟨rfl,fun _=>by kernel_rfl⟩,?_⟩
 rintro y3 ⟨oP',cP',he,hoP,hb3⟩
 obtain⟨rfl,rfl⟩:oP=oP'∧cP=cP':=by simpa using he
 have HOP:=Jpa hoP
 have HB3:=Jpa hb3
 clear he gl0 gl1 gl2 w30 w31 w32 q0 q2 hk1 hk2 hoP hb3 hb04 hbs4 hbz hsz' hrz hlt hne hne0 hbs hr0 hS hT
 simp only[Act.put,List.setIfInBounds_toArray,List.set_cons_succ,List.set_cons_zero]
 go_wp2_with fail
 go_ret2
 exact⟨_,_,rfl,HOP.out.mono (Nat.le_trans HB.out.size HZ4.out.size),HB.out.trans ((HZ4.out.trans (HB3.out.mono HZ4.out.size)).mono HB.out.size)⟩
end
end Go.Proofs.YtkgjbipfhhjlpaaGreatDoor
