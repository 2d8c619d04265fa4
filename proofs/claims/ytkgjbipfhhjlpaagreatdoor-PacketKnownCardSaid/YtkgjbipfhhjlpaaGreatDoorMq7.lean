import Derived.Test.YtkgjbipfhhjlpaaGreatDoorMq6
set_option linter.unusedVariables false
set_option linter.unusedSimpArgs false
set_option maxRecDepth 100000
set_option maxHeartbeats 32000000
namespace Go.Proofs.YtkgjbipfhhjlpaaGreatDoor
open Go.Proofs.Tryz
section
def tHead (p:Int):Nat:=if p=6 then 20 else if p=17 then 8 else if p=1\/p=58 then 4 else 0
def H1 (l:List Int):Nat:=(l.getD 12 0/16).toNat*4
def Ab (p:Int)(l:List Int):Int:=
 if tHead p=0 then 70 else if l.length<tHead p then 10 else if 65535<l.length then 51
 else if p=6 then (if H1 l<20 then 51 else if l.length<H1 l then 10 else 0)
 else if p=17 then (if w2 l 4<8 then 51 else if (l.length:Int)<w2 l 4 then 10 else 0) else 0
structure Seg where
 proto:Int
 src:Int
 dst:Int
 seq:Int
 ack:Int
 flags:Int
 win:Int
 urg:Int
 opt:List Int
 type:Int
 code:Int
 data:List Int
def UQ:Seg:=⟨0,0,0,0,0,0,0,0,[],0,0,[]⟩
def Fy (p:Int)(l:List Int):Seg:=
 if p=6 then ⟨6,w2 l 0,w2 l 2,w4 l 4,w4 l 8,l.getD 13 0,w2 l 14,w2 l 18,(l.take (H1 l)).drop 20,0,0,l.drop (H1 l)⟩
 else if p=17 then ⟨17,w2 l 0,w2 l 2,0,0,0,0,0,[],0,0,(l.take (w2 l 4).toNat).drop 8⟩
 else ⟨p,0,0,0,0,0,0,0,[],l.getD 0 0,l.getD 1 0,l.drop 4⟩
def Qo (p:Int)(l:List Int):Seg:=if Ab p l=0 then Fy p l else UQ
def JU (p a b f n c:Int)(d:List Int):List Int:=
 if p=6 then be2 a++be2 b++[0,0,0,0,0,0,0,0,80,f,0,0]++be2 c++[0,0]++d
 else if p=17 then be2 a++be2 b++be2 n++be2 c++d
 else [a,b]++be2 c++d
def Qh (p:Int)(n:Int)(b d:List Int):List Int:=
 if p=1 then [] else if b.length=4 then b++d++[0,p]++be2 n else b++d++[0,0]++be2 n++[0,0,0,p]
def U0 (p a b f n:Int)(d e g:List Int):Int:=
 let c:Int:=sumOf (Qh p n e g++JU p a b f n 0 d)
 if c=0/\p=17 then 65535 else c
def DR (p a b f:Int)(d e g:List Int):List Int:=
 let n:Int:=(tHead p+d.length:Nat)
 JU p a b f n (U0 p a b f n d e g) d
structure Hr where
 six:Bool
 src:Nat->Int
 dst:Nat->Int
 proto:Int
 len:Int
 frag:Bool
 more:Bool
 body:List Int
def XP (l:List Int):PW:=By 17 [] (l.getD 6 0) 0 ((l.drop 40).take (w2 l 4).toNat)
def JT (l:List Int):Int:=if Zm l≠0 then Zm l else if (l.length:Int)<40+w2 l 4 then 10 else match XP l with
 | .err e=>e
 | .done _ _ _=>0
def Xb (l:List Int):AB:=match XP l with
 | .err _=>[]
 | .done xs _ _=>xs
def Xh (l:List Int):Int:=match XP l with
 | .err _=>0
 | .done _ p _=>p
def U1 (l:List Int):Nat:=match XP l with
 | .err _=>0
 | .done _ _ i=>i
def Xk (l:List Int):List Int:=((l.drop 40).take (w2 l 4).toNat).drop (U1 l)
def QP (l:List Int):Hr:=⟨false,Qj ((l.drop 12).take 4),Qj ((l.drop 16).take 4),l.getD 9 0,w2 l 2,decide (0<w2 l 6%8192),(w2 l 6/8192%2==1),AZ l⟩
def Xi (l:List Int):Hr:=⟨true,Qj ((l.drop 8).take 16),Qj ((l.drop 24).take 16),Xh l,40+w2 l 4,decide (0<A8 (Xb l)),Aa (Xb l),Xk l⟩
def J1 (p:Int):Bool:=p==6||p==17
def Qb (p:Int):Bool:=p==1||p==58
structure M5 where
 err:Int
 src:Int
 dst:Int
 flags:Int
def JV (p:Int)(l:List Int):M5:=let s:=Qo p l;⟨Ab p l,s.src,if Qb p then s.type*256+s.code else s.dst,s.flags⟩
def J3 (p:Int)(l:List Int):M5:=
 if Qb p then (if l.length<2 then ⟨10,0,0,0⟩ else ⟨0,0,w2 l 0,0⟩)
 else (if l.length<4 then ⟨10,0,0,0⟩ else ⟨0,w2 l 0,w2 l 2,if p=6/\14<=l.length then l.getD 13 0 else 0⟩)
def BW (o:Hr):M5:=if (J1 o.proto||Qb o.proto)&&!o.frag then (if o.more then J3 o.proto o.body else JV o.proto o.body) else ⟨0,0,0,0⟩
structure Pk where
 six:Bool
 src:Nat->Int
 dst:Nat->Int
 proto:Int
 sp:Int
 dp:Int
 len:Int
 flags:Int
 frag:Bool
def pkZ:Pk:=⟨false,λ_=>0,λ_=>0,0,0,0,0,0,false⟩
def OW (o:Hr)(u:M5):Pk:=⟨o.six,o.src,o.dst,o.proto,u.src,u.dst,o.len,u.flags,o.frag⟩
def Q1 (l:List Int):Int:=
 if 2048<l.length then 3 else if l.length=0 then 10
 else if l.getD 0 0/16=4 then (if JR l≠0 then JR l else (BW (QP l)).err)
 else if l.getD 0 0/16=6 then (if JT l≠0 then JT l else (BW (Xi l)).err) else 50
def Hg (l:List Int):Pk:=
 if Q1 l≠0 then pkZ else if l.getD 0 0/16=4 then OW (QP l) (BW (QP l)) else OW (Xi l) (BW (Xi l))
def Xl (k:Pk):Array Value:=#[.bool k.six,.int .u8 (k.src 0),.int .u8 (k.src 1),.int .u8 (k.src 2),.int .u8 (k.src 3),.int .u8 (k.src 4),.int .u8 (k.src 5),.int .u8 (k.src 6),.int .u8 (k.src 7),.int .u8 (k.src 8),.int .u8 (k.src 9),.int .u8 (k.src 10),.int .u8 (k.src 11),.int .u8 (k.src 12),.int .u8 (k.src 13),.int .u8 (k.src 14),.int .u8 (k.src 15),.bool k.six,.int .u8 (k.dst 0),.int .u8 (k.dst 1),.int .u8 (k.dst 2),.int .u8 (k.dst 3),.int .u8 (k.dst 4),.int .u8 (k.dst 5),.int .u8 (k.dst 6),.int .u8 (k.dst 7),.int .u8 (k.dst 8),.int .u8 (k.dst 9),.int .u8 (k.dst 10),.int .u8 (k.dst 11),.int .u8 (k.dst 12),.int .u8 (k.dst 13),.int .u8 (k.dst 14),.int .u8 (k.dst 15),.int .u8 k.proto,.int .u16 k.sp,.int .u16 k.dp,.int .i64 k.len,.int .u8 k.flags,.bool k.frag]
def pkR (l:List Int):Value:=.tuple #[.agg (Xl (Hg l)),Jk (Q1 l)]
end
end Go.Proofs.YtkgjbipfhhjlpaaGreatDoor
namespace Go.Proofs.YtkgjbipfhhjlpaaGreatDoor.Bits
open Go.RowKit
theorem Um {p:Prop}[Decidable p]{b:Bool}(h:b=true↔p):b=decide p:=by rw[Bool.eq_iff_iff,h];simp
def Qr (n:Int):Bool:=decide (1<=n/\n<=8)
theorem Xo (n:Int)(w:World):Calls Tryz.prog 142 #[.int .i64 n] w (Jz w (.bool (Qr n))):=by
 go_enter Tryz.func142,Tryz.ntmps142
 go_wp2
 all_goals go_ret
 all_goals refine .mk (J6 (Um ?_)) (by go_grown)
 all_goals simp
 all_goals omega
theorem Rl (v:Int)(n:Nat)(X:0<=v)(j:v<256^n)(u:1<=n)(B:n<=8)(w:World):
 Calls Tryz.prog 176 #[.int .u64 v] w (λe d=>∃k:Int,e=.returned (.int .i64 k)/\1<=k/\k<=n/\Below w.heap.size w d):=by
 go_enter Tryz.func176,Tryz.ntmps176
 go_wp2_with fail
 have a:v/256<256^(n-1):=by
  obtain⟨m,rfl⟩:∃m,n=m+1:=⟨n-1,by omega⟩
  rw[Int.pow_succ] at j;simp only[Nat.add_sub_cancel];generalize (256:Int)^m=p at*;omega
 have s:=H a;clear a j;go_loopw [0,3] (λu0 u3 wr=>∃(x k:Int) (m:Nat),u0=.int .u64 x/\u3=.int .i64 k/\0<=x/\Hid (x<256^m)/\1<=k/\k+m=n/\Below w.heap.size w wr) (λu0 _ _=>(intOf u0).toNat)
 case atStart=>exact⟨v/256,1,n-1,rfl,rfl,by omega,s,by omega,by omega,Jc _ _⟩
 case round=>
  obtain⟨x,k,m,rfl,rfl,P,b,A,y,g⟩:=hrel;by_cases t:0<x
  ·obtain⟨m,rfl⟩:∃r,m=r+1:=by
    refine⟨m-1,?_⟩;have:=b.out;rcases Nat.eq_zero_or_pos m with e|e
    ·subst e;simp at this;omega
    ·omega
   have l:x/256<256^m:=by
    have:=b.out;rw[Int.pow_succ] at this;generalize (256:Int)^m=p at*;omega
   have o:=H l;clear l;go_wp2_with fail
   go_roundw
   case rel=>exact⟨x/256,k+1,m,by go_num,by go_num,by omega,o,by omega,by omega,g⟩
   case measure=>simp[intOf];omega
  ·go_wp2_with fail
   go_ret;exact⟨k,rfl,A,by omega,g⟩
theorem A2 (v:Int)(n:Nat)(X:0<=v)(j:v<256^n)(a:1<=n)(B:n<=8)(w:World):
 Calls Tryz.prog 124 #[.int .u64 v,.int .i64 n] w (Jz w (.bool true)):=by
 have u:Qr n=true:=by simp[Qr];omega
 go_enter Tryz.func124,Tryz.ntmps124
 go_wp2_with (go_at_call 142;refine Calls.later (Xo _ _) ?_;intro x;rw[u])
 refine Jb (Rl v n X j a B _) ?_;rintro e d ⟨k,rfl,b,l,g⟩;go_wp2_with fail
 go_ret;refine .mk (J6 ?_) (x.below.trans (g.mono x.below.size));first|(simp;done)|(simp;omega)
def be4 (v:Int):List Int:=[v/16777216%256,v/65536%256,v/256%256,v%256]
theorem infoU8:(Tryz.prog.info? 5).map (λi=>(i.zero,i.size,i.bytes))=some (some (.int .u8 0),1,1):=by kernel_rfl
theorem VB (w:World):(Instr.makeSlice 22 (.int .i64 1) (.int .i64 1)).run Tryz.prog w=.ok (.slice (some ⟨w.heap.size,0,none⟩) 1 1) (w.alloc (.cells #[.int .u8 0] 5)):=
 (run_make_row' 22 5 (.int .u8 0) 1 Tryz.underlying22 infoU8 rfl .i64 .i64 1 (by decide) (by decide) w).trans (by rw[show madeCells #[Value.int .u8 0] 1=#[.int .u8 0] from by kernel_rfl])
theorem VC (w:World):(Instr.makeSlice 22 (.int .i64 4) (.int .i64 4)).run Tryz.prog w=.ok (.slice (some ⟨w.heap.size,0,none⟩) 4 4) (w.alloc (.cells #[.int .u8 0,.int .u8 0,.int .u8 0,.int .u8 0] 5)):=
 (run_make_row' 22 5 (.int .u8 0) 1 Tryz.underlying22 infoU8 rfl .i64 .i64 4 (by decide) (by decide) w).trans (by rw[show madeCells #[Value.int .u8 0] 4=#[.int .u8 0,.int .u8 0,.int .u8 0,.int .u8 0] from by kernel_rfl])
theorem Rm (v:Int)(X:0<=v)(j:v<256)(w:World):Calls Tryz.prog 125 #[.int .u64 v,.int .i64 1] w (J5 w ([v])):=by
 have W:=VB;go_enter Tryz.func125,Tryz.ntmps125
 go_wp2_with fail
 refine wp_loop_rounds 2 ?_;rw[rounds_succ];go_wp2_with fail
 rw[rounds_succ];go_wp2_with fail
 go_ret;refine⟨_,_,rfl,?_,?_⟩
 ·refine J8.made _ 1 1 5 _ (Je _) (Je 1) (Je 1) (by decide) ?_;simp[List.take];all_goals omega
 ·exact(Jc _ _).alloc (Je _) _
theorem Rn (v:Int)(X:0<=v)(j:v<4294967296)(w:World):Calls Tryz.prog 125 #[.int .u64 v,.int .i64 4] w (J5 w (be4 v)):=by
 have W:=VC;go_enter Tryz.func125,Tryz.ntmps125
 go_wp2_with fail
 refine wp_loop_rounds 5 ?_;rw[rounds_succ];go_wp2_with fail
 rw[rounds_succ];go_wp2_with fail
 rw[rounds_succ];go_wp2_with fail
 rw[rounds_succ];go_wp2_with fail
 rw[rounds_succ];go_wp2_with fail
 go_ret;refine⟨_,_,rfl,?_,?_⟩
 ·refine J8.made _ 4 4 5 _ (Je _) (Je 4) (Je 4) (by decide) ?_;simp[be4];all_goals omega
 ·exact(Jc _ _).alloc (Je _) _
end Go.Proofs.YtkgjbipfhhjlpaaGreatDoor.Bits
namespace Go.Proofs.YtkgjbipfhhjlpaaGreatDoor
open Go.Proofs.Tryz
section
open Bits
structure Ky where
 s:Bool
 S:Nat->Int
 t:Bool
 T:Nat->Int
 p:Int
 a:Int
 b:Int
structure Fz (k:Ky):Prop where
 S:U8 k.S
 T:U8 k.T
 p:Jm k.p
 a:Jn k.a
 b:Jn k.b
def kyC (s:Bool)(S:Nat->Int)(t:Bool)(T:Nat->Int)(p a b:Int):Array Value:=(Jbs s t p (Jl a) (Jl b) S T)
def kyV (k:Ky):Array Value:=kyC k.s k.S k.t k.T k.p k.a k.b
def kyZ:Ky:=⟨false,λ_=>0,false,λ_=>0,0,0,0⟩
def Cc (p a b:Int):Bool:=J1 p||(a==0&&(Qb p||b==0))
def JS (k:Ky):Bool:=Qr k.s k.S&&(Qr k.t k.T&&(k.s==k.t&&Cc k.p k.a k.b))
def JZ (k:Ky):List Int:=if JS k then [if k.s then 6 else 4]++Jt k.s k.S++Jt k.t k.T++[k.p]++be2 k.a++be2 k.b else []
def QY (k:Ky):List UInt8:=if JS k then XX 32 [Lib.decDigits k.p.toNat,QX k.s k.S,Lib.decDigits k.a.toNat,QX k.t k.T,Lib.decDigits k.b.toNat] else []
def Do (k m:Ky):Int:=Lib.compareBytes (Lib.bytesOf (JZ k)) (Lib.bytesOf (JZ m))
structure Sp where
 k:Ky
 f:Int
 n:Int
structure EA (s:Sp):Prop where
 k:Fz s.k
 f:Jm s.f
 n:-9223372036854775808<=s.n/\s.n<=9223372036854775807
def spV (s:Sp):Array Value:=#[.bool s.k.s,.int .u8 (s.k.S 0),.int .u8 (s.k.S 1),.int .u8 (s.k.S 2),.int .u8 (s.k.S 3),.int .u8 (s.k.S 4),.int .u8 (s.k.S 5),.int .u8 (s.k.S 6),.int .u8 (s.k.S 7),.int .u8 (s.k.S 8),.int .u8 (s.k.S 9),.int .u8 (s.k.S 10),.int .u8 (s.k.S 11),.int .u8 (s.k.S 12),.int .u8 (s.k.S 13),.int .u8 (s.k.S 14),.int .u8 (s.k.S 15),.bool s.k.t,.int .u8 (s.k.T 0),.int .u8 (s.k.T 1),.int .u8 (s.k.T 2),.int .u8 (s.k.T 3),.int .u8 (s.k.T 4),.int .u8 (s.k.T 5),.int .u8 (s.k.T 6),.int .u8 (s.k.T 7),.int .u8 (s.k.T 8),.int .u8 (s.k.T 9),.int .u8 (s.k.T 10),.int .u8 (s.k.T 11),.int .u8 (s.k.T 12),.int .u8 (s.k.T 13),.int .u8 (s.k.T 14),.int .u8 (s.k.T 15),.int .u8 s.k.p,.int .u16 s.k.a,.int .u16 s.k.b,.int .u8 s.f,.int .i64 s.n]
def JP (n:Nat):List Int:=List.replicate n 0
def X9 (s:Sp):Bool:=!(JS s.k)||((s.k.s&&Qe s.k.p)||((s.f != 0&&s.k.p != 6)||decide (s.n<0)))
def JH (s:Sp):List Int:=
 let N:=JP s.n.toNat
 let b:=Jt s.k.s s.k.S
 let a:=Jt s.k.t s.k.T
 if J1 s.k.p then DR s.k.p s.k.a s.k.b s.f N b a
 else if Qb s.k.p then DR s.k.p (s.k.b/256) (s.k.b%256) 0 N b a else N
def TN (s:Sp)(n:Nat):IpH:=⟨0,20+(n:Int),0,false,false,0,64,s.k.p,Jt false s.k.S,Jt false s.k.T,[]⟩
def U2 (s:Sp)(n:Nat):List Int:=be4 1610612736++be2 (n:Int)++[s.k.p,64]++Jt true s.k.S++Jt true s.k.T
def Qk (s:Sp):List Int:=if s.k.s then U2 s (JH s).length else Q7 (TN s (JH s).length)
def Qy (s:Sp):Int:=if X9 s then 2 else if 2048<s.n then 3 else if 2048<(Qk s++JH s).length then 3 else 0
def spL (s:Sp):List Int:=if Qy s=0 then Qk s++JH s else []
open Go.RowKit
theorem OX (a:Option Addr)(n c:Nat)(r:List Value):AX (.slice a n c::r)=AX r:=by rw[AX];rfl
theorem Ro (f:Fn)(a b:Array Value)(r:List Value):AX (.func f a b::r)=AX r:=by rw[AX];rfl
attribute [go_sem] OX Ro
theorem DS {w:World}{b a:Nat}{g l e d:Value}(X:Jg w b a g)(j:Jg w b (a+1) l)(y:Jg w b (a+2) e)(Y:Jg w b (a+3) d):Jv w b a 4=#[g,l,e,d]:=by
 unfold World.cell? at X j y Y;unfold Jv;cases hh:w.heap[b]? with
 |none=>rw[hh] at X;simp at X
 |some r=>
  rw[hh] at X j y Y;cases r with
  |cells S t u=>
   simp only at X j y Y|-;have p:S[a]? =some g:=by simpa using X
   have o:S[a+1]? =some l:=by simpa using j
   have s:S[a+2]? =some e:=by simpa using y
   have n:S[a+3]? =some d:=by simpa using Y
   have z:a+3<S.size:=(Ja n).1;apply YY;intro J;rw[Array.getElem?_extract];rcases J with _|_|_|_|J
   ·simp[p];omega
   ·simp[o];omega
   ·simp[s];omega
   ·simp[n];omega
   ·simp;omega
  |_=>simp at X
theorem I2 (a:Operand->Value)(w:World)(e:Option Tmp)(t:TypeId)(b:String)(d:Array Edge)(r:Option (Nat×Bool))(x:Operand):(execOp a ⟨e,.load 111 x,t,b,d,r⟩).run prog w=Xj prog 111 w (a x):=Q2 _ a w e t b d r x _
theorem Lv (w:World)(b a:Nat)(z:(Jv w b a 4).size=4):Xj prog 111 w (.pointer (some ⟨b,a,none⟩))=.ok (.value (.agg (Jv w b a 4))) w:=
 Qf _ w none 0 "" #[] none _ _ 4 _ underlying111 rfl K D z
theorem I3 (a:Operand->Value)(w:World)(e:Option Tmp)(t:TypeId)(b:String)(d:Array Edge)(r:Option (Nat×Bool))(x:Operand):(execOp a ⟨e,.load 113 x,t,b,d,r⟩).run prog w=Xj prog 113 w (a x):=Q2 _ a w e t b d r x _
theorem Fb (w:World)(b a:Nat)(z:(Jv w b a 17).size=17):Xj prog 113 w (.pointer (some ⟨b,a,none⟩))=.ok (.value (.agg (Jv w b a 17))) w:=
 Qf _ w none 0 "" #[] none _ _ 17 _ underlying113 rfl K D z
theorem Hs (a:Operand->Value)(w:World)(e:Option Tmp)(t:TypeId)(b:String)(d:Array Edge)(r:Option (Nat×Bool))(x Q:Operand):(execOp a ⟨e,.store 113 x Q,t,b,d,r⟩).run prog w=XC prog 113 w (a x) (a Q):=Qz _ a w e t b d r x Q _
theorem I4 (w:World)(b:Nat)(S:Array Value)(P:JE w b 17=true)(z:S.size=17)(j:AX S.toList=true):XC prog 113 w (Jj b) (.agg S)=.ok .skip (w.setRow b S):=
 J9 _ w none 0 "" #[] none _ _ _ 17 K P (by show A9 _ (.agg S)=true;rw[QR,<-Y1,Xd _ j,z];simp)
theorem I5:(prog.info? 113).map (·.size)=some 17:=K
theorem Ht (a:Operand->Value)(w:World)(e:Option Tmp)(t:TypeId)(b:String)(d:Array Edge)(r:Option (Nat×Bool))(x:Operand):(execOp a ⟨e,.load 106 x,t,b,d,r⟩).run prog w=Xj prog 106 w (a x):=Q2 _ a w e t b d r x _
theorem DT (w:World)(b a:Nat)(z:(Jv w b a 11).size=11):Xj prog 106 w (.pointer (some ⟨b,a,none⟩))=.ok (.value (.agg (Jv w b a 11))) w:=
 Qf _ w none 0 "" #[] none _ _ 11 _ underlying106 rfl K D z
theorem Cd (a:Operand->Value)(w:World)(e:Option Tmp)(t:TypeId)(b:String)(d:Array Edge)(r:Option (Nat×Bool))(x Q:Operand):(execOp a ⟨e,.store 106 x Q,t,b,d,r⟩).run prog w=XC prog 106 w (a x) (a Q):=Qz _ a w e t b d r x Q _
theorem C7 (w:World)(b:Nat)(S:Array Value)(a:JE w b 11=true)(z:S.size=11)(j:AX S.toList=true):XC prog 106 w (Jj b) (.agg S)=.ok .skip (w.setRow b S):=
 J9 _ w none 0 "" #[] none _ _ _ 11 K a (by show A9 _ (.agg S)=true;rw[QR,<-Y1,Xd _ j,z];simp)
theorem Lw:(prog.info? 106).map (·.size)=some 11:=K
theorem DU (a:Operand->Value)(w:World)(e:Option Tmp)(t:TypeId)(b:String)(d:Array Edge)(r:Option (Nat×Bool))(x:Operand):(execOp a ⟨e,.load 118 x,t,b,d,r⟩).run prog w=Xj prog 118 w (a x):=Q2 _ a w e t b d r x _
theorem Fc (w:World)(b a:Nat)(z:(Jv w b a 37).size=37):Xj prog 118 w (.pointer (some ⟨b,a,none⟩))=.ok (.value (.agg (Jv w b a 37))) w:=
 Qf _ w none 0 "" #[] none _ _ 37 _ underlying118 rfl K D z
theorem C8 (a:Operand->Value)(w:World)(e:Option Tmp)(t:TypeId)(b:String)(d:Array Edge)(r:Option (Nat×Bool))(x Q:Operand):(execOp a ⟨e,.store 118 x Q,t,b,d,r⟩).run prog w=XC prog 118 w (a x) (a Q):=Qz _ a w e t b d r x Q _
theorem DV (w:World)(b:Nat)(S:Array Value)(P:JE w b 37=true)(z:S.size=37)(j:AX S.toList=true):XC prog 118 w (Jj b) (.agg S)=.ok .skip (w.setRow b S):=
 J9 _ w none 0 "" #[] none _ _ _ 37 K P (by show A9 _ (.agg S)=true;rw[QR,<-Y1,Xd _ j,z];simp)
theorem N4:(prog.info? 118).map (·.size)=some 37:=K
theorem Hu (a:Operand->Value)(w:World)(e:Option Tmp)(t:TypeId)(b:String)(d:Array Edge)(r:Option (Nat×Bool))(x:Operand):(execOp a ⟨e,.load 109 x,t,b,d,r⟩).run prog w=Xj prog 109 w (a x):=Q2 _ a w e t b d r x _
theorem I6 (w:World)(b a:Nat)(z:(Jv w b a 7).size=7):Xj prog 109 w (.pointer (some ⟨b,a,none⟩))=.ok (.value (.agg (Jv w b a 7))) w:=
 Qf _ w none 0 "" #[] none _ _ 7 _ underlying109 rfl K D z
theorem Ce (a:Operand->Value)(w:World)(e:Option Tmp)(t:TypeId)(b:String)(d:Array Edge)(r:Option (Nat×Bool))(x Q:Operand):(execOp a ⟨e,.store 109 x Q,t,b,d,r⟩).run prog w=XC prog 109 w (a x) (a Q):=Qz _ a w e t b d r x Q _
theorem C9 (w:World)(b:Nat)(S:Array Value)(P:JE w b 7=true)(z:S.size=7)(j:AX S.toList=true):XC prog 109 w (Jj b) (.agg S)=.ok .skip (w.setRow b S):=
 J9 _ w none 0 "" #[] none _ _ _ 7 K P (by show A9 _ (.agg S)=true;rw[QR,<-Y1,Xd _ j,z];simp)
theorem Lx:(prog.info? 109).map (·.size)=some 7:=K
theorem DW (a:Operand->Value)(w:World)(e:Option Tmp)(t:TypeId)(b:String)(d:Array Edge)(r:Option (Nat×Bool))(x:Operand):(execOp a ⟨e,.load 149 x,t,b,d,r⟩).run prog w=Xj prog 149 w (a x):=Q2 _ a w e t b d r x _
theorem Af (w:World)(b d:Nat)(z:(Jv w b d 12).size=12):Xj prog 149 w (.pointer (some ⟨b,d,none⟩))=.ok (.value (.agg (Jv w b d 12))) w:=
 Qf _ w none 0 "" #[] none _ _ 12 _ underlying149 rfl K D z
theorem Da (a:Operand->Value)(w:World)(e:Option Tmp)(t:TypeId)(b:String)(d:Array Edge)(r:Option (Nat×Bool))(x Q:Operand):(execOp a ⟨e,.store 149 x Q,t,b,d,r⟩).run prog w=XC prog 149 w (a x) (a Q):=Qz _ a w e t b d r x Q _
theorem DX (w:World)(b:Nat)(S:Array Value)(P:JE w b 12=true)(z:S.size=12)(j:AX S.toList=true):XC prog 149 w (Jj b) (.agg S)=.ok .skip (w.setRow b S):=
 J9 _ w none 0 "" #[] none _ _ _ 12 K P (by show A9 _ (.agg S)=true;rw[QR,<-Y1,Xd _ j,z];simp)
theorem N5:(prog.info? 149).map (·.size)=some 12:=K
theorem Hv (a:Operand->Value)(w:World)(e:Option Tmp)(t:TypeId)(b:String)(d:Array Edge)(r:Option (Nat×Bool))(x:Operand):(execOp a ⟨e,.load 102 x,t,b,d,r⟩).run prog w=Xj prog 102 w (a x):=Q2 _ a w e t b d r x _
theorem I7 (w:World)(b a:Nat)(z:(Jv w b a 12).size=12):Xj prog 102 w (.pointer (some ⟨b,a,none⟩))=.ok (.value (.agg (Jv w b a 12))) w:=
 Qf _ w none 0 "" #[] none _ _ 12 _ underlying102 rfl K D z
theorem Gk (a:Operand->Value)(w:World)(e:Option Tmp)(t:TypeId)(b:String)(d:Array Edge)(r:Option (Nat×Bool))(x Q:Operand):(execOp a ⟨e,.store 102 x Q,t,b,d,r⟩).run prog w=XC prog 102 w (a x) (a Q):=Qz _ a w e t b d r x Q _
theorem Hw (w:World)(b:Nat)(S:Array Value)(P:JE w b 12=true)(z:S.size=12)(j:AX S.toList=true):XC prog 102 w (Jj b) (.agg S)=.ok .skip (w.setRow b S):=
 J9 _ w none 0 "" #[] none _ _ _ 12 K P (by show A9 _ (.agg S)=true;rw[QR,<-Y1,Xd _ j,z];simp)
theorem Rp:(prog.info? 102).map (·.size)=some 12:=K
theorem DY (a:Operand->Value)(w:World)(e:Option Tmp)(t:TypeId)(b:String)(d:Array Edge)(r:Option (Nat×Bool))(x:Operand):(execOp a ⟨e,.load 30 x,t,b,d,r⟩).run prog w=Xj prog 30 w (a x):=Q2 _ a w e t b d r x _
theorem Cf (w:World)(b a:Nat)(z:(Jv w b a 37).size=37):Xj prog 30 w (.pointer (some ⟨b,a,none⟩))=.ok (.value (.agg (Jv w b a 37))) w:=
 Qf _ w none 0 "" #[] none _ _ 37 _ underlying30 rfl K D z
theorem Hx (a:Operand->Value)(w:World)(e:Option Tmp)(t:TypeId)(b:String)(d:Array Edge)(r:Option (Nat×Bool))(x Q:Operand):(execOp a ⟨e,.store 30 x Q,t,b,d,r⟩).run prog w=XC prog 30 w (a x) (a Q):=Qz _ a w e t b d r x Q _
theorem DZ (w:World)(b:Nat)(S:Array Value)(P:JE w b 37=true)(z:S.size=37)(j:AX S.toList=true):XC prog 30 w (Jj b) (.agg S)=.ok .skip (w.setRow b S):=
 J9 _ w none 0 "" #[] none _ _ _ 37 K P (by show A9 _ (.agg S)=true;rw[QR,<-Y1,Xd _ j,z];simp)
theorem N6:(prog.info? 30).map (·.size)=some 37:=K
theorem Db (a:Operand->Value)(w:World)(e:Option Tmp)(t:TypeId)(b:String)(d:Array Edge)(r:Option (Nat×Bool))(x:Operand):(execOp a ⟨e,.load 38 x,t,b,d,r⟩).run prog w=Xj prog 38 w (a x):=Q2 _ a w e t b d r x _
theorem D0 (w:World)(b a:Nat)(z:(Jv w b a 37).size=37):Xj prog 38 w (.pointer (some ⟨b,a,none⟩))=.ok (.value (.agg (Jv w b a 37))) w:=
 Qf _ w none 0 "" #[] none _ _ 37 _ underlying38 rfl K D z
theorem Gl (a:Operand->Value)(w:World)(e:Option Tmp)(t:TypeId)(b:String)(d:Array Edge)(r:Option (Nat×Bool))(x Q:Operand):(execOp a ⟨e,.store 38 x Q,t,b,d,r⟩).run prog w=XC prog 38 w (a x) (a Q):=Qz _ a w e t b d r x Q _
theorem Hy (w:World)(b:Nat)(S:Array Value)(P:JE w b 37=true)(z:S.size=37)(j:AX S.toList=true):XC prog 38 w (Jj b) (.agg S)=.ok .skip (w.setRow b S):=
 J9 _ w none 0 "" #[] none _ _ _ 37 K P (by show A9 _ (.agg S)=true;rw[QR,<-Y1,Xd _ j,z];simp)
theorem Ly:(prog.info? 38).map (·.size)=some 37:=K
theorem I8 (a:Operand->Value)(w:World)(e:Option Tmp)(t:TypeId)(b:String)(d:Array Edge)(r:Option (Nat×Bool))(x:Operand):(execOp a ⟨e,.load 32 x,t,b,d,r⟩).run prog w=Xj prog 32 w (a x):=Q2 _ a w e t b d r x _
theorem Lz (w:World)(b a:Nat)(z:(Jv w b a 40).size=40):Xj prog 32 w (.pointer (some ⟨b,a,none⟩))=.ok (.value (.agg (Jv w b a 40))) w:=
 Qf _ w none 0 "" #[] none _ _ 40 _ underlying32 rfl K D z
theorem Hz (a:Operand->Value)(w:World)(e:Option Tmp)(t:TypeId)(b:String)(d:Array Edge)(r:Option (Nat×Bool))(x Q:Operand):(execOp a ⟨e,.store 32 x Q,t,b,d,r⟩).run prog w=XC prog 32 w (a x) (a Q):=Qz _ a w e t b d r x Q _
theorem I9 (w:World)(b:Nat)(S:Array Value)(P:JE w b 40=true)(z:S.size=40)(j:AX S.toList=true):XC prog 32 w (Jj b) (.agg S)=.ok .skip (w.setRow b S):=
 J9 _ w none 0 "" #[] none _ _ _ 40 K P (by show A9 _ (.agg S)=true;rw[QR,<-Y1,Xd _ j,z];simp)
theorem SZ:(prog.info? 32).map (·.size)=some 40:=K
theorem HA (a:Operand->Value)(w:World)(e:Option Tmp)(t:TypeId)(b:String)(d:Array Edge)(r:Option (Nat×Bool))(x:Operand):(execOp a ⟨e,.load 40 x,t,b,d,r⟩).run prog w=Xj prog 40 w (a x):=Q2 _ a w e t b d r x _
theorem Ka (w:World)(b a:Nat)(z:(Jv w b a 40).size=40):Xj prog 40 w (.pointer (some ⟨b,a,none⟩))=.ok (.value (.agg (Jv w b a 40))) w:=
 Qf _ w none 0 "" #[] none _ _ 40 _ underlying40 rfl K D z
theorem Cg (a:Operand->Value)(w:World)(e:Option Tmp)(t:TypeId)(b:String)(d:Array Edge)(r:Option (Nat×Bool))(x Q:Operand):(execOp a ⟨e,.store 40 x Q,t,b,d,r⟩).run prog w=XC prog 40 w (a x) (a Q):=Qz _ a w e t b d r x Q _
theorem Dc (w:World)(b:Nat)(S:Array Value)(P:JE w b 40=true)(z:S.size=40)(j:AX S.toList=true):XC prog 40 w (Jj b) (.agg S)=.ok .skip (w.setRow b S):=
 J9 _ w none 0 "" #[] none _ _ _ 40 K P (by show A9 _ (.agg S)=true;rw[QR,<-Y1,Xd _ j,z];simp)
theorem D1:(prog.info? 40).map (·.size)=some 40:=K
theorem D2 (a:Operand->Value)(w:World)(e:Option Tmp)(t:TypeId)(b:String)(d:Array Edge)(r:Option (Nat×Bool))(x:Operand):(execOp a ⟨e,.load 47 x,t,b,d,r⟩).run prog w=Xj prog 47 w (a x):=Q2 _ a w e t b d r x _
theorem Fe (w:World)(b a:Nat)(z:(Jv w b a 39).size=39):Xj prog 47 w (.pointer (some ⟨b,a,none⟩))=.ok (.value (.agg (Jv w b a 39))) w:=
 Qf _ w none 0 "" #[] none _ _ 39 _ underlying47 rfl K D z
theorem HB (a:Operand->Value)(w:World)(e:Option Tmp)(t:TypeId)(b:String)(d:Array Edge)(r:Option (Nat×Bool))(x Q:Operand):(execOp a ⟨e,.store 47 x Q,t,b,d,r⟩).run prog w=XC prog 47 w (a x) (a Q):=Qz _ a w e t b d r x Q _
theorem Kb (w:World)(b:Nat)(S:Array Value)(P:JE w b 39=true)(z:S.size=39)(j:AX S.toList=true):XC prog 47 w (Jj b) (.agg S)=.ok .skip (w.setRow b S):=
 J9 _ w none 0 "" #[] none _ _ _ 39 K P (by show A9 _ (.agg S)=true;rw[QR,<-Y1,Xd _ j,z];simp)
theorem Gm (a:Operand->Value)(w:World)(e:Option Tmp)(t:TypeId)(b:String)(d:Array Edge)(r:Option (Nat×Bool))(x Q:Operand):(execOp a ⟨e,.store 52 x Q,t,b,d,r⟩).run prog w=XC prog 52 w (a x) (a Q):=Qz _ a w e t b d r x Q _
theorem HC (w:World)(b:Nat)(S:Array Value)(P:JE w b 39=true)(z:S.size=39)(j:AX S.toList=true):XC prog 52 w (Jj b) (.agg S)=.ok .skip (w.setRow b S):=
 J9 _ w none 0 "" #[] none _ _ _ 39 K P (by show A9 _ (.agg S)=true;rw[QR,<-Y1,Xd _ j,z];simp)
theorem Rq:(prog.info? 52).map (·.size)=some 39:=K
theorem HD (a:Operand->Value)(w:World)(e:Option Tmp)(t:TypeId)(b:String)(d:Array Edge)(r:Option (Nat×Bool))(x Q:Operand):(execOp a ⟨e,.store 85 x Q,t,b,d,r⟩).run prog w=XC prog 85 w (a x) (a Q):=Qz _ a w e t b d r x Q _
theorem Kc (w:World)(b:Nat)(S:Array Value)(P:JE w b 42=true)(z:S.size=42)(j:AX S.toList=true):XC prog 85 w (Jj b) (.agg S)=.ok .skip (w.setRow b S):=
 J9 _ w none 0 "" #[] none _ _ _ 42 K P (by show A9 _ (.agg S)=true;rw[QR,<-Y1,Xd _ j,z];simp)
theorem N7:(prog.info? 85).map (·.size)=some 42:=K
attribute [go_sem ↓] I2 I3 Hs Ht Cd DU C8 Hu Ce DW Da Hv Gk DY Hx Db Gl I8 Hz HA Cg D2 HB Gm HD
attribute [go_sem] Lv Fb I4 DT C7 Fc DV I6 C9 Af DX I7 Hw Cf DZ D0 Hy Lz I9 Ka Dc Fe Kb HC Kc
end
section
open Go.RowKit
theorem Jeo{p:Prop}(h:p:=by
 subst p;obtain rfl:l=d:=Yp (F.symm.trans y);exact⟨λ_=>⟨v,N,z⟩,λR h=>by rw[X] at h;cases h⟩):p:=h
section
variable {P:Program} {ops:Array Oper} {md:Region.Mode}
def Ag (w:World):World->Prop:=λd=>∃x:J2 w,d=x.world
def Xc (P:Program)(ops:Array Oper)(w:World)(C:Oper)(v:Value)(a:Act):Prop:=∀V,Ji w V->YieldsIn P ops (Ag V) C v a
def TO (d:World)(a:List (Nat×Obj)):Prop:=∀g∈a,d.heap[g.1]? =some g.2
def XK (g:Nat):Value:=.pointer (some ⟨g,0,none⟩)
structure EL (P:Program)(ops:Array Oper)(o:Oper)(ob:Obj):Prop where
 wanted:∀a:Act,Region.wanted o (yielded ops a.tmps)=true
 run:∀(a:Act) (w':World),(execOp a.eval o).run P w'=.ok (.value (XK w'.heap.size)) (w'.alloc ob)
def Bc (P:Program)(md:Region.Mode)(ops:Array Oper)(w:World)(n:Nat)(al:Nat->Option Obj)(L:Array Bool->Act->List (Nat×Obj)->Prop):Nat->Array Bool->Act->List (Nat×Obj)->Prop
 |0,listed,a,b=>L listed a b
 |f+1,listed,a,b=>Region.ready md ops listed≠[]/\∀i∈Region.ready md ops listed,i<n/\∀d,ops[i]? =some d->
  ((al i=none->∃v,Xc P ops w d v a/\Bc P md ops w n al L f (listed.setIfInBounds i true) (a.put d.dst v) b)/\
   (∀e,al i=some e->EL P ops d e/\∀g,w.heap.size<=g->(∀p∈b,p.1<g)->Bc P md ops w n al L f (listed.setIfInBounds i true) (a.put d.dst (XK g)) ((g,e)::b)))
theorem TO.lt {d:World}{b:List (Nat×Obj)}(h:TO d b):∀p∈b,p.1<d.heap.size:=λp E=>(Ja (h p E)).1
theorem TO.below {d b:World}{e:List (Nat×Obj)}(h:TO d e)(j:Ji d b):TO b e:=λp E=>(j.block _ (h.lt p E)).trans (h p E)
theorem Bd {w:World}{n g:Nat}{al:Nat->Option Obj}{L:Array Bool->Act->List (Nat×Obj)->Prop}{Q':Exit->Act->World->Prop}
 (l:∀listed a b d,Ji w d->TO d b->L listed a b->wpAny P md ops Q' g listed a d):
 ∀(f:Nat) (listed:Array Bool) (a:Act) (b:List (Nat×Obj)) (d:World),Ji w d->TO d b->Bc P md ops w n al L f listed a b->wpAny P md ops Q' (f+g) listed a d
 |0,listed,a,b,d,R,M,h=>by rw[WM];exact l _ _ _ _ R M h
 |f+1,listed,a,b,d,R,M,h=>by
  rw[show f+1+g=(f+g)+1 from O];refine⟨λX=>absurd X h.1,λi F=>?_⟩;obtain⟨_,t,o,_⟩:=YK.1 F;obtain⟨j,y⟩:=(h.2 i F).2 t o;cases hal:al i with
  |none=>
   obtain⟨v,B,A⟩:=j hal;refine YJ (C:=Ag d) (K:=λs=>s=a.put t.dst v) ⟨⟨d,Jc _ _⟩,rfl⟩ (λs I z ha=>?_) ((B d R).qOp o rfl);obtain⟨x,rfl⟩:=z;subst ha;exact Bd l f _ _ b _ (Wx R x.below) (M.below x.below) A
  |some e=>
   obtain⟨W,A⟩:=y e hal;unfold wpOp;simp only[o,W.wanted a,YW];refine .inl ?_;unfold Oper.wp;rw[W.run];have G:(d.alloc e).heap[d.heap.size]? =some e:=WP d e;have u:Below d.heap.size d (d.alloc e):=Below.all (Jc _ _) e;refine Bd l f _ _ _ _ (Wx R u) ?_ (A _ R.size M.lt);intro p E;rcases YE.1 E with rfl|E
   ·exact G
   ·exact M.below u p E
theorem Xc.of_put {w:World}{d e:Oper}{v l:Value}{a:Act}(o:∀S b,d.op≠ .select S b)(h:Xc P ops w d v a)(n:∀N,e.dst=some N->N∉d.looksAt ops):Xc P ops w d v (a.put e.dst l):=
 λV g=>(h V g).of_same (JaN d o a e.dst l n) (JaO d a e.dst l n)
theorem Xc.of_unput {w:World}{d e:Oper}{v j:Value}{a:Act}(n:∀S b,d.op≠ .select S b)(h:Xc P ops w d v (a.put e.dst j))(l:∀N,e.dst=some N->N∉d.looksAt ops):Xc P ops w d v a:=
 λV g=>(h V g).of_same (JaN d n a e.dst j l).symm (JaO d a e.dst j l).symm
theorem Ke {w:World}{n i:Nat}{l:Oper}{v:Value}{G:Nat->Option Obj}{E:Array Bool->Act->List (Nat×Obj)->Prop}(F:ops[i]? =some l)(X:G i=none)(T:∀(J:Nat) (C:Oper) S b,ops[J]? =some C->C.op≠ .select S b)
 (aa:Region.sinkB md ops n=true)(I:Region.chainB md ops n=true)(B:n<ops.size)(W:i<n)
 (aA:∀g a r,E g a r->∀J∈Region.ready md ops g,n<=J):
 ∀(f:Nat) (g:Array Bool) (a:Act) (r:List (Nat×Obj)),HeadInv md ops n g->
  (∀J d,ops[J]? =some d->J≠i->g.getD J true=false->(∀e∈d.after,Region.binds md e=true->e.on≠i)->l.apart ops d=true)->
  i∈Region.ready md ops g->Xc P ops w l v a->
  Bc P md ops w n G E f (g.setIfInBounds i true) (a.put l.dst v) r->Bc P md ops w n G E (f+1) g a r:=by
 intro f;induction f with
 |zero=>
  intro g a r L _ u N z;have s:=(YK.1 u).1;refine⟨λh=>(by rw[h] at u;cases u),λJ t=>?_⟩
  have M:J<n:=by
   rcases Yh J n with h|h
   ·exact h
   ·exact absurd t (tail_waits aa I B L _ i rfl W s J h)
  refine⟨M,λd y=>?_⟩;by_cases p:J=i
  ·exact Jeo
  ·have:=aA _ _ _ z J (YL t p);omega
 |succ f au=>
  intro g a r L V u N z;have s:=(YK.1 u).1;refine⟨λh=>(by rw[h] at u;cases u),λJ t=>?_⟩
  have M:J<n:=by
   rcases Yh J n with h|h
   ·exact h
   ·exact absurd t (tail_waits aa I B L _ i rfl W s J h)
  refine⟨M,λd y=>?_⟩;by_cases p:J=i
  ·exact Jeo
  ·obtain⟨ae,ao⟩:=(z.2 J (YL t p)).2 d y;obtain⟨Y,ap,az,aw⟩:=YK.1 t;obtain rfl:d=ap:=Yp (y.symm.trans az)
   have ad:∀e∈d.after,Region.binds md e=true->e.on≠i:=λe ax aq ac=>by
    have j:=aw e ax aq;rw[ac,getD_both s] at j;cases j
   obtain⟨aj,ah,av⟩:=JaP (V J d y p Y ad)
   have ar:∀k ok,ops[k]? =some ok->k≠i->(g.setIfInBounds J true).getD k true=false->
    (∀e∈ok.after,Region.binds md e=true->e.on≠i)->l.apart ops ok=true:=λk ok A ay s ab=>by
    refine V k ok A ay ?_ ab;by_cases Z:J=k
    ·subst Z;exact Y
    ·rw[YM true Z] at s;exact s
   have U:∀(o:Value) Q,Bc P md ops w n G E f ((g.setIfInBounds i true).setIfInBounds J true) ((a.put l.dst v).put d.dst o) Q->Bc P md ops w n G E (f+1) (g.setIfInBounds J true) (a.put d.dst o) Q:=λo Q h=>by
    refine au (g.setIfInBounds J true) (a.put d.dst o) Q (L.set t M) ar (YL u (Ne.symm p)) (N.of_put (λS b=>T i l S b F) av) ?_;rw[YN _ _ p,<-JaQ a v o ah];exact h
   refine⟨λan=>?_,λR af=>?_⟩
   ·obtain⟨o,ai,A⟩:=ae an;exact⟨o,ai.of_unput (λS b=>T J d S b y) aj,U o r A⟩
   ·obtain⟨am,A⟩:=ao R af;exact⟨am,λag al ak=>U _ _ (A ag al ak)⟩
def ZL (md:Region.Mode)(ops:Array Oper):Nat->Nat->Array Bool->Bool
 |0,_,_=>true
 |f+1,k,a=>(Region.ready md ops a).contains k&&Region.free md ops a k&&ZL md ops f (k+1) (a.setIfInBounds k true)
def Zj:Nat->Nat->Array Bool->Array Bool
 |0,_,a=>a
 |f+1,k,a=>Zj f (k+1) (a.setIfInBounds k true)
def OY (P:Program)(ops:Array Oper)(w:World)(b:Act->Prop):List Oper->Act->Prop
 |[],a=>b a
 |o::rest,a=>∃v,Xc P ops w o v a/\OY P ops w b rest (a.put o.dst v)
theorem Gn {w:World}{n m r:Nat}{al:Nat->Option Obj}{L:Array Bool->Act->List (Nat×Obj)->Prop}{t:Act->Prop}(j:Region.noSelect ops=true)(z:Region.sinkB md ops n=true)(I:Region.chainB md ops n=true)(B:n<ops.size)(N:m<=n)
 (y:∀i,i<m->al i=none)(E:∀b a G,L b a G->∀J∈Region.ready md ops b,n<=J):
 ∀(l:List Oper) (k:Nat) (b:Array Bool) (a:Act),(∀J,J<l.length->l[J]? =ops[k+J]?)->k+l.length=m->HeadInv md ops n b->
 ZL md ops l.length k b=true->(∀p,t p->Bc P md ops w n al L r (Zj l.length k b) p [])->OY P ops w t l a->Bc P md ops w n al L (l.length+r) b a []
 |[],k,b,a,_,A,_,e,d,h=>by
  rw[Jau,WM];exact d a h
 |o::l,k,b,a,M,A,s,e,d,h=>by
  have X:ops[k]? =some o:=by simpa using(M 0 (by simp)).symm
  simp only[Yy,ZL,YO] at e;obtain⟨⟨u,R⟩,T⟩:=e;have S:k<m:=by simp only[Yy] at A;omega
  have C:k∈Region.ready md ops b:=by simpa using u
  obtain⟨v,Q,F⟩:=h;rw[show(o::l).length+r=(l.length+r)+1 by simp only[Yy];omega]
  exact Ke X (y k S) (YP j) z I B O E (l.length+r) b a [] s (YQ X R) C Q
   (Gn j z I B N y E l (k+1) _ _ (λJ U=>by have:=M (J+1) (by simp;omega);simpa[WU,YR 1 J] using this) (by simp only[Yy] at A;omega) (s.set C O) T d F)
theorem XQ {b:World->Prop}{d:Act->Prop}{C:Oper}{rest:List Oper}{a:Act}(h:wpQuiet P ops b d (C::rest) a):∃v,YieldsIn P ops b C v a/\wpQuiet P ops b d rest (a.put C.dst v):=by
 rw[wpQuiet] at h;by_cases R:Region.wanted C (yielded ops a.tmps)=true
 ·simp only[R,YW] at h;obtain⟨v,j,y⟩:=h;exact⟨v,.inl ⟨R,j⟩,y⟩
 ·simp only[R] at h;exact⟨undef,.inr ⟨by simpa using R,rfl⟩,h⟩
def Be (n:Nat):List Oper->Bool
 |[]=>true
 |o::l=>(match o.dst with|some d=>decide (d<n)&&l.all λp=>p.dst != some d|none=>false)&&Be n l
theorem FN (a:Act)(d:Option Tmp)(v:Value):(a.put d v).tmps.size=a.tmps.size:=by
 cases d<;>simp[Act.put]
theorem AL {g:World->Prop}{b:Act}{N:Tmp}:∀(l:List Oper) (a:Act),(∀o∈l,o.dst≠some N)->wpQuiet P ops g (λd=>d=b) l a->b.tmps[N]? =a.tmps[N]?
 |[],a,_,h=>by have h:a=b:=h;rw[h]
 |o::l,a,L,h=>by
  obtain⟨v,-,y⟩:=XQ h;rw[AL l _ (λp E=>L p (by simp[E])) y];have:=L o (by simp);cases ho:o.dst with
  |none=>rfl
  |some e=>
   rw[ho] at this;have j:e≠N:=λh=>this (by rw[h])
   simp[Act.put,JaR,j]
theorem H2 {w:World}{t:Act}:∀(l:List Oper) (a:Act),Be a.tmps.size l=true->(∀V,Ji w V->wpQuiet P ops (Ag V) (λb=>b=t) l a)->OY P ops w (λb=>b=t) l a
 |[],a,_,h=>h w (Jc _ _)
 |o::l,a,z,h=>by
  rw[Be,YO] at z;obtain⟨d,I⟩:=z;cases ho:o.dst with
  |none=>rw[ho] at d;cases d
  |some N=>
   rw[ho] at d;simp only[YO,YS,Y4] at d;have G:∀p∈l,p.dst≠some N:=λp E e=>by have:=d.2 p E;rw[e] at this;simp at this
   have A:∀{B:World->Prop} {v:Value},wpQuiet P ops B (λb=>b=t) l (a.put o.dst v)->t.tmps[N]? =some v:=λ{B v} h=>by
    rw[AL l _ G h,ho];simp[Act.put,JaR,d.1]
   obtain⟨v,-,C⟩:=XQ (h w (Jc _ _));have e:=A C
   have u:∀V,Ji w V->YieldsIn P ops (Ag V) o v a/\wpQuiet P ops (Ag V) (λb=>b=t) l (a.put o.dst v):=λV s=>by
    obtain⟨F,j,y⟩:=XQ (h V s);have:=A y;rw[e] at this;obtain rfl:v=F:=Yp this;exact⟨j,y⟩
   exact⟨v,λV s=>(u V s).1,H2 l _ (by rw[FN];exact I) λV s=>(u V s).2⟩
def M6 (ops:Array Oper)(m:Nat):Bool:=
 let L:=Zj m 0 (Array.replicate ops.size false)
 Region.noSelect ops&&(decide (m+2<ops.size)&&(Region.sinkB .any ops (m+2)&&(Region.chainB .any ops (m+2)&&(ZL .any ops m 0 (Array.replicate ops.size false)&&
  (decide (Region.ready .any ops L=[m,m+1])&&(decide (Region.ready .any ops (L.setIfInBounds m true)=[m+1])&&(decide (Region.ready .any ops (L.setIfInBounds (m+1) true)=[m])&&
    (Region.seqB .any ops (ops.size-(m+2)) (m+2) ((L.setIfInBounds m true).setIfInBounds (m+1) true)))))))))
theorem FA {id:Nat}{y:Exit->Act->World->Prop}{a:Act}{w:World}{l:List Oper}(m:Nat){v u:Oper}{I Q:Tmp}{n o:Obj}(S:Act)(aH:P.follows .mixedOrders=true)(ag:M6 l.toArray m=true)
 (aF:l[m]? =some v)(aJ:l[m+1]? =some u)(aq:v.dst=some I)(aa:u.dst=some Q)(aD:I≠Q)(N:Be a.tmps.size (l.take m)=true)
 (aj:EL P l.toArray v n)(ak:EL P l.toArray u o)
 (au:∀ad,Ji w ad->wpQuiet P l.toArray (Ag ad) (λj=>j=S) (l.take m) a)
 (ae:∀b e d,Ji w d->w.heap.size<=b->w.heap.size<=e->b≠e->d.heap[b]? =some n->d.heap[e]? =some o->
   wpList P l.toArray y (l.drop (m+2)) ((S.put (some I) (XK b)).put (some Q) (XK e)) d):(Code.region id l.toArray true).wp P y a w:=by
 simp only[M6,YO,YS] at ag;obtain⟨ar,ah,aC,az,aI,af,am,ao,an⟩:=ag;have aL:m+2<l.length:=by simpa using ah
 have z:(l.take m).length=m:=by simp;omega
 have ab:(l.drop (m+2)).length=l.toArray.size-(m+2):=by simp
 have aE:HeadInv .any l.toArray (m+2) (Array.replicate l.toArray.size false):=
  ⟨by simp,λJ B _ M=>(by rw[getD_replicate_false] at M;cases M),λaK _ ax=>getD_in (by simpa using ax) (getD_replicate_false _ _)⟩
 let al:Nat->Option Obj:=λi=>if i=m then some n else if i=m+1 then some o else none
 have C:al m=some n:=by simp[al]
 have A:al (m+1)=some o:=by simp[al]
 let ac:Array Bool->Act->List (Nat×Obj)->Prop:=λE j T=>Region.seqB .any l.toArray (l.toArray.size-(m+2)) (m+2) E=true/\
  ∀d,Ji w d->TO d T->wpList P l.toArray y (l.drop (m+2)) j d
 have ai:l.toArray[m]? =some v:=by simpa using aF
 have ap:l.toArray[m+1]? =some u:=by simpa using aJ
 have aG:∀j,j=S->Bc P .any l.toArray w (m+2) al ac 2 (Zj (l.take m).length 0 (Array.replicate l.toArray.size false)) j []:=by
  rintro j rfl;rw[z];refine⟨(by rw[af];simp),λi F=>?_⟩;rw[af] at F;rcases YE.1 F with rfl|F
  ·refine⟨O,λU W=>⟨λh=>(by rw[C] at h;cases h),λt s=>?_⟩⟩;obtain rfl:v=U:=Yp (ai.symm.trans W);obtain rfl:n=t:=Yp (C.symm.trans s);refine⟨aj,λb X _=>⟨(by rw[am];simp),λJ p=>?_⟩⟩;rw[am] at p;obtain rfl:J=i+1:=by simpa using p
   refine⟨O,λB Z=>⟨λh=>(by rw[A] at h;cases h),λt s=>?_⟩⟩;obtain rfl:u=B:=Yp (ap.symm.trans Z);obtain rfl:o=t:=Yp (A.symm.trans s);refine⟨ak,λe Y V=>⟨an,λd R M=>?_⟩⟩;have:=V (b,n) (by simp);rw[aq,aa];exact ae b e d R X Y (by simp at this;omega) (M (b,n) (by simp)) (M (e,o) (by simp))
  ·obtain rfl:i=m+1:=by simpa using F
   refine⟨O,λU W=>⟨λh=>(by rw[A] at h;cases h),λt s=>?_⟩⟩;obtain rfl:u=U:=Yp (ap.symm.trans W);obtain rfl:o=t:=Yp (A.symm.trans s);refine⟨ak,λe Y _=>⟨(by rw[ao];simp),λJ p=>?_⟩⟩;rw[ao] at p;obtain rfl:J=m:=by simpa using p
   refine⟨O,λB Z=>⟨λh=>(by rw[C] at h;cases h),λt s=>?_⟩⟩;obtain rfl:v=B:=Yp (ai.symm.trans Z);obtain rfl:n=t:=Yp (C.symm.trans s);refine⟨aj,λb X V=>⟨by rw[YN _ _ O];exact an,λd R M=>?_⟩⟩;have:=V (e,o) (by simp);rw[aq,aa,JaQ _ _ _ (λaM N aB=>aD (Yp (aB.trans N.symm)))];exact ae b e d R X Y (by simp at this;omega) (M (b,n) (by simp)) (M (e,o) (by simp))
 have av:=Gn (md:=.any) (m:=m) (r:=2) (al:=al) (L:=ac) ar aC az ah O (λi F=>by simp only[al];rw[Yw O,Yw O]) (λE j T G=>seqB_ready G.1)
  (l.take m) 0 _ a (λJ p=>by
    have ay:J<m:=by rw[z] at p;exact p
    simp[ay]) (by simpa using z) aE (by rw[z];exact aI) aG (H2 (l.take m) a N au)
 refine YT aH ?_
 have:=Bd (Q':=y) (g:=l.toArray.size-(m+2)) (λE j T d aA M G=>by
  have:=wpAny_of_seq (md:=.any) (Q':=y) (l.drop (m+2)) (m+2) E j d (λJ=>by simp[W6]) (by rw[ab];exact G.1) (G.2 d aA M);rwa [ab] at this) _ _ _ [] _ (Jc w.heap.size w).drew (λaN aw=>by cases aw) av
 rw[z,show m+2+(l.toArray.size-(m+2))=l.toArray.size from O] at this;exact this
theorem Gp {id:Nat}{u:Exit->Act->World->Prop}{a:Act}{w:World}{l:List Oper}(m:Nat)(s t:Obj){p n:Oper}{o r:Tmp}(W:P.follows .mixedOrders=true)(F:M6 l.toArray m=true)
 (j:l[m]? =some p)(y:l[m+1]? =some n)(G:p.dst=some o)(A:n.dst=some r)(E:o≠r)(L:Be a.tmps.size (l.take m)=true)
 (C:EL P l.toArray p s)(I:EL P l.toArray n t)
 (h:∃g:Act,(∀V,Ji w V->wpQuiet P l.toArray (λd=>∃x:J2 V,d=x.world) (λv=>v=g) (l.take m) a)/\
   (∀b e d,Ji w d->w.heap.size<=b->w.heap.size<=e->b≠e->d.heap[b]? =some s->d.heap[e]? =some t->
     wpList P l.toArray u (l.drop (m+2)) ((g.put (some o) (XK b)).put (some r) (XK e)) d)):(Code.region id l.toArray true).wp P u a w:=by
 obtain⟨g,z,B⟩:=h;exact FA m g W F j y G A E L C I z B
end
end
section
open Go.RowKit
theorem Jen{p:Prop}(h:p:=by
 subst p;obtain rfl:o=d:=Yp (F.symm.trans r);exact⟨λ_=>⟨v,N,E⟩,λaA h=>by rw[W] at h;cases h⟩):p:=h
theorem Jet{p:Prop}(h:p:=by
 exact ag b F a g z u d _ R S T M (.inl (X (⟨b,F,p b F a⟩:Bj) (by simp))) I (by simp) (by simp)):p:=h
section
variable {P:Program} {ops:Array Oper} {md:Region.Mode}
structure Bj where
 lo:Nat
 hi:Nat
 fact:World->Prop
def D3 (b:Nat->Nat->Value->World->Prop):Prop:=∀a F v V w2,b a F v V->F<=V.heap.size->Ji V w2->b a F v w2
def LA (P:Program)(ops:Array Oper)(w:World)(C:Oper)(d:Nat->Nat->Value->World->Prop)(a:Act):Prop:=
 Region.wanted C (yielded ops a.tmps)=true/\∀V,Ji w V->
  (∃v w2,(execOp a.eval C).run P V=.ok (.value v) w2/\Ji V w2/\d V.heap.size w2.heap.size v w2)\/
  (∃f b,(execOp a.eval C).run P V=.ok (.enter f b) V/\Calls P f b V (λe w2=>∃v,e=.returned v/\Ji V w2/\d V.heap.size w2.heap.size v w2))
def B1 (d:World)(b:List Bj):Prop:=∀g∈b,g.hi<=d.heap.size/\∀a,Ji d a->g.fact a
def wpW (P:Program)(md:Region.Mode)(ops:Array Oper)(w:World)(n:Nat)(mk:Nat->Option (Nat->Nat->Value->World->Prop))(L:Array Bool->Act->List Bj->Prop):Nat->Array Bool->Act->List Bj->Prop
 |0,listed,a,e=>L listed a e
 |f+1,listed,a,e=>Region.ready md ops listed≠[]/\∀i∈Region.ready md ops listed,i<n/\∀j,ops[i]? =some j->
  ((mk i=none->∃v,Xc P ops w j v a/\wpW P md ops w n mk L f (listed.setIfInBounds i true) (a.put j.dst v) e)/\
   (∀l,mk i=some l->LA P ops w j l a/\D3 l/\∀b F v,w.heap.size<=b->b<=F->(∀p∈e,p.hi<=b)->(∃d,l b F v d)->wpW P md ops w n mk L f (listed.setIfInBounds i true) (a.put j.dst v) (⟨b,F,l b F v⟩::e)))
theorem B1.below {d e:World}{j:List Bj}(h:B1 d j)(o:Ji d e):B1 e j:=
 λg b=>⟨WJ (h g b).1 o.size,λt Y=>(h g b).2 t (Wx o Y)⟩
theorem BD {w:World}{n g:Nat}{mk:Nat->Option (Nat->Nat->Value->World->Prop)}{L:Array Bool->Act->List Bj->Prop}{Q':Exit->Act->World->Prop}
 (t:∀listed a b d,Ji w d->B1 d b->L listed a b->wpAny P md ops Q' g listed a d):
 ∀(f:Nat) (listed:Array Bool) (a:Act) (b:List Bj) (d:World),Ji w d->B1 d b->wpW P md ops w n mk L f listed a b->wpAny P md ops Q' (f+g) listed a d
 |0,listed,a,b,d,R,M,h=>by rw[WM];exact t _ _ _ _ R M h
 |f+1,listed,a,b,d,R,M,h=>by
  rw[show f+1+g=(f+g)+1 from O];refine⟨λX=>absurd X h.1,λi F=>?_⟩;obtain⟨_,s,B,_⟩:=YK.1 F;obtain⟨j,y⟩:=(h.2 i F).2 s B;cases hmk:mk i with
  |none=>
   obtain⟨v,S,A⟩:=j hmk;refine YJ (C:=Ag d) (K:=λG=>G=a.put s.dst v) ⟨⟨d,Jc _ _⟩,rfl⟩ (λG U Q ha=>?_) ((S d R).qOp B rfl);obtain⟨x,rfl⟩:=Q;subst ha;exact BD t f _ _ b _ (Wx R x.below) (M.below x.below) A
  |some N=>
   obtain⟨W,z,A⟩:=y N hmk
   have J:∀v w2,Ji d w2->N d.heap.size w2.heap.size v w2->wpAny P md ops Q' (f+g) (listed.setIfInBounds i true) (a.put s.dst v) w2:=λv w2 l o=>by
    refine BD t f _ _ _ _ (Wx R l) ?_ (A d.heap.size w2.heap.size v R.size l.size (λp E=>(M p E).1) ⟨w2,o⟩);intro p E;rcases YE.1 E with rfl|E
    ·exact⟨Je _,λZ Y=>z _ _ _ _ _ o (Je _) Y⟩
    ·exact M.below l p E
   unfold wpOp;simp only[B,W.1,YW];refine .inl ?_;unfold Oper.wp;rcases W.2 d R with ⟨v,w2,u,l,o⟩|⟨T,V,u,I⟩
   ·rw[u];exact J v w2 l o
   ·rw[u,JaS];refine I.mono ?_;rintro e w2 ⟨v,rfl,l,o⟩;exact J v w2 l o
theorem LA.of_same {w:World}{C:Oper}{R:Nat->Nat->Value->World->Prop}{a b:Act}(h:LA P ops w C R a)(e:execOp b.eval C=execOp a.eval C)(g:Region.wanted C (yielded ops b.tmps)=Region.wanted C (yielded ops a.tmps)):LA P ops w C R b:=by
 unfold LA at*;rw[e,g];exact h
theorem LA.of_unput {w:World}{d e:Oper}{l:Nat->Nat->Value->World->Prop}{g:Value}{a:Act}(n:∀S b,d.op≠ .select S b)(h:LA P ops w d l (a.put e.dst g))(j:∀N,e.dst=some N->N∉d.looksAt ops):LA P ops w d l a:=
 h.of_same (JaN d n a e.dst g j).symm (JaO d a e.dst g j).symm
theorem Rr {w:World}{n i:Nat}{o:Oper}{v:Value}{mk:Nat->Option (Nat->Nat->Value->World->Prop)}{G:Array Bool->Act->List Bj->Prop}(F:ops[i]? =some o)(W:mk i=none)(R:∀(J:Nat) (C:Oper) S b,ops[J]? =some C->C.op≠ .select S b)
 (z:Region.sinkB md ops n=true)(I:Region.chainB md ops n=true)(B:n<ops.size)(V:i<n)
 (aD:∀g a t,G g a t->∀J∈Region.ready md ops g,n<=J):
 ∀(f:Nat) (g:Array Bool) (a:Act) (t:List Bj),HeadInv md ops n g->
  (∀J d,ops[J]? =some d->J≠i->g.getD J true=false->(∀e∈d.after,Region.binds md e=true->e.on≠i)->o.apart ops d=true)->
  i∈Region.ready md ops g->Xc P ops w o v a->
  wpW P md ops w n mk G f (g.setIfInBounds i true) (a.put o.dst v) t->wpW P md ops w n mk G (f+1) g a t:=by
 intro f;induction f with
 |zero=>
  intro g a t Q _ u N E;have y:=(YK.1 u).1;refine⟨λh=>(by rw[h] at u;cases u),λJ s=>?_⟩
  have L:J<n:=by
   rcases Yh J n with h|h
   ·exact h
   ·exact absurd s (tail_waits z I B Q _ i rfl V y J h)
  refine⟨L,λd r=>?_⟩;by_cases p:J=i
  ·exact Jen
  ·have:=aD _ _ _ E J (YL s p);omega
 |succ f an=>
  intro g a t Q U u N E;have y:=(YK.1 u).1;refine⟨λh=>(by rw[h] at u;cases u),λJ s=>?_⟩
  have L:J<n:=by
   rcases Yh J n with h|h
   ·exact h
   ·exact absurd s (tail_waits z I B Q _ i rfl V y J h)
  refine⟨L,λd r=>?_⟩;by_cases p:J=i
  ·exact Jen
  ·obtain⟨ab,ak⟩:=(E.2 J (YL s p)).2 d r;obtain⟨T,al,ap,ax⟩:=YK.1 s;obtain rfl:d=al:=Yp (r.symm.trans ap)
   have ac:∀e∈d.after,Region.binds md e=true->e.on≠i:=λe ao av ar=>by
    have j:=ax e ao av;rw[ar,getD_both y] at j;cases j
   obtain⟨X,ad,aB⟩:=JaP (U J d r p T ac)
   have am:∀k ok,ops[k]? =some ok->k≠i->(g.setIfInBounds J true).getD k true=false->
    (∀e∈ok.after,Region.binds md e=true->e.on≠i)->o.apart ops ok=true:=λk ok A af y aa=>by
    refine U k ok A af ?_ aa;by_cases Y:J=k
    ·subst Y;exact T
    ·rw[YM true Y] at y;exact y
   have Z:∀(l:Value) M,wpW P md ops w n mk G f ((g.setIfInBounds i true).setIfInBounds J true) ((a.put o.dst v).put d.dst l) M->wpW P md ops w n mk G (f+1) (g.setIfInBounds J true) (a.put d.dst l) M:=λl M h=>by
    refine an (g.setIfInBounds J true) (a.put d.dst l) M (Q.set s L) am (YL u (Ne.symm p)) (N.of_put (λS b=>R i o S b F) aB) ?_;rw[YN _ _ p,<-JaQ a v l ad];exact h
   refine⟨λaj=>?_,λae au=>?_⟩
   ·obtain⟨l,ai,A⟩:=ab aj;exact⟨l,ai.of_unput (λS b=>R J d S b r) X,Z l t A⟩
   ·obtain⟨ay,aq,A⟩:=ak ae au;exact⟨ay.of_unput (λS b=>R J d S b r) X,aq,λaw ah l j az aC ag=>Z _ _ (A aw ah l j az aC ag)⟩
theorem Rs {w:World}{n m r:Nat}{mk:Nat->Option (Nat->Nat->Value->World->Prop)}{L:Array Bool->Act->List Bj->Prop}{t:Act->Prop}(j:Region.noSelect ops=true)(z:Region.sinkB md ops n=true)(I:Region.chainB md ops n=true)(B:n<ops.size)(N:m<=n)
 (y:∀i,i<m->mk i=none)(E:∀b a G,L b a G->∀J∈Region.ready md ops b,n<=J):
 ∀(l:List Oper) (k:Nat) (b:Array Bool) (a:Act),(∀J,J<l.length->l[J]? =ops[k+J]?)->k+l.length=m->HeadInv md ops n b->
 ZL md ops l.length k b=true->(∀p,t p->wpW P md ops w n mk L r (Zj l.length k b) p [])->OY P ops w t l a->wpW P md ops w n mk L (l.length+r) b a []
 |[],k,b,a,_,A,_,e,d,h=>by
  rw[Jau,WM];exact d a h
 |o::l,k,b,a,M,A,s,e,d,h=>by
  have X:ops[k]? =some o:=by simpa using(M 0 (by simp)).symm
  simp only[Yy,ZL,YO] at e;obtain⟨⟨u,R⟩,T⟩:=e;have S:k<m:=by simp only[Yy] at A;omega
  have C:k∈Region.ready md ops b:=by simpa using u
  obtain⟨v,Q,F⟩:=h;rw[show(o::l).length+r=(l.length+r)+1 by simp only[Yy];omega]
  exact Rr X (y k S) (YP j) z I B O E (l.length+r) b a [] s (YQ X R) C Q
   (Rs j z I B N y E l (k+1) _ _ (λJ U=>by have:=M (J+1) (by simp;omega);simpa[WU,YR 1 J] using this) (by simp only[Yy] at A;omega) (s.set C O) T d F)
theorem HE {id:Nat}{s:Exit->Act->World->Prop}{a:Act}{w:World}{l:List Oper}(m n r:Nat)(mk:Nat->Option (Nat->Nat->Value->World->Prop))(A:Act)(W:P.follows .mixedOrders=true)
 (y:(Region.noSelect l.toArray&&(decide (n<l.toArray.size/\m<=n)&&(Region.sinkB .any l.toArray n&&(Region.chainB .any l.toArray n&&ZL .any l.toArray m 0 (Array.replicate l.toArray.size false)))))=true)
 (S:∀i,i<m->mk i=none)(J:Be a.tmps.size (l.take m)=true)(ac:m+r=n)
 (F:∀V,Ji w V->wpQuiet P l.toArray (Ag V) (λb=>b=A) (l.take m) a)
 (Q:wpW P .any l.toArray w n mk (λe b o=>Region.seqB .any l.toArray (l.toArray.size-n) n e=true/\∀d,Ji w d->B1 d o->wpList P l.toArray s (l.drop n) b d) r (Zj m 0 (Array.replicate l.toArray.size false)) A []):
 (Code.region id l.toArray true).wp P s a w:=by
 simp only[YO,YS] at y;obtain⟨C,⟨B,N⟩,z,I,R⟩:=y;have aa:n<l.length:=by simpa using B
 have p:(l.take m).length=m:=by simp;omega
 have u:(l.drop n).length=l.toArray.size-n:=by simp
 have T:HeadInv .any l.toArray n (Array.replicate l.toArray.size false):=
  ⟨by simp,λj ab _ M=>(by rw[getD_replicate_false] at M;cases M),λad _ U=>getD_in (by simpa using U) (getD_replicate_false _ _)⟩
 let Y:Array Bool->Act->List Bj->Prop:=λe b o=>Region.seqB .any l.toArray (l.toArray.size-n) n e=true/\∀d,Ji w d->B1 d o->wpList P l.toArray s (l.drop n) b d
 have G:=Rs (md:=.any) (m:=m) (r:=r) (mk:=mk) (L:=Y) C z I B N S (λe b o t=>seqB_ready t.1)
  (l.take m) 0 _ a (λj v=>by
    have Z:j<m:=by rw[p] at v;exact v
    simp[Z]) (by simpa using p) T (by rw[p];exact R) (λb ha=>by subst ha;rw[p];exact Q) (H2 (l.take m) a J F)
 refine YT W ?_
 have:=BD (Q':=s) (g:=l.toArray.size-n) (λe b o d X M t=>by
  have:=wpAny_of_seq (md:=.any) (Q':=s) (l.drop n) n e b d (λj=>by simp[W6]) (by rw[u];exact t.1) (t.2 d X M);rwa [u] at this) _ _ _ [] _ (Jc w.heap.size w).drew (λae E=>by cases E) G
 rw[p,show m+r+(l.toArray.size-n)=l.toArray.size from O] at this;exact this
theorem FO (a:Act)(N e:Tmp)(v d:Value)(h:N≠e):(a.put (some N) v).put (some e) d=(a.put (some e) d).put (some N) v:=by
 first
  |rw[JaQ _ _ _ (λx b y=>h (Yp (b.trans y.symm)))]
  |rw[JaQ _ _ _ (λx b y=>h (Yp (y.trans b.symm)))]
  |rw[JaQ _ _ _ (λx b y=>h.symm (Yp (b.trans y.symm)))]
def D4 (b:Obj)(a F:Nat)(v:Value)(d:World):Prop:=v=XK a/\F=a+1/\d.heap[a]? =some b
theorem BE (a:Obj):D3 (D4 a):=λd F v V w2 h b g=>⟨h.1,h.2.1,(g.block _ (by have:=h.2.1;omega)).trans h.2.2⟩
theorem EM {w:World}{C:Oper}{b:Obj}(d:EL P ops C b)(a:Act):LA P ops w C (D4 b) a:=
 ⟨d.wanted a,λV _=>.inl ⟨_,_,d.run a V,Below.all (Jc _ _) b,rfl,by simp,WP V b⟩⟩
def VZ (ops:Array Oper)(m:Nat):Bool:=
 let L:=Zj m 0 (Array.replicate ops.size false)
 decide (Region.ready .any ops L=[m,m+2])&&(decide (Region.ready .any ops (L.setIfInBounds m true)=[m+1,m+2])&&(decide (Region.ready .any ops ((L.setIfInBounds m true).setIfInBounds (m+1) true)=[m+2])&&
  (decide (Region.ready .any ops ((L.setIfInBounds m true).setIfInBounds (m+2) true)=[m+1])&&(decide (Region.ready .any ops (L.setIfInBounds (m+2) true)=[m])&&(decide (Region.ready .any ops ((L.setIfInBounds (m+2) true).setIfInBounds m true)=[m+1])&&
    Region.seqB .any ops (ops.size-(m+3)) (m+3) (((L.setIfInBounds m true).setIfInBounds (m+1) true).setIfInBounds (m+2) true))))))
theorem Kf {id:Nat}{ak:Exit->Act->World->Prop}{af:Act}{w:World}{l:List Oper}(m:Nat)(p:Nat->Nat->Value->World->Prop)(B:Obj){A n t:Oper}{E J C:Tmp}(L:Value->Value)(aX:P.follows .mixedOrders=true)
 (aS:(Region.noSelect l.toArray&&(decide (m+3<l.toArray.size/\m<=m+3)&&(Region.sinkB .any l.toArray (m+3)&&(Region.chainB .any l.toArray (m+3)&&ZL .any l.toArray m 0 (Array.replicate l.toArray.size false)))))=true)
 (aD:VZ l.toArray m=true)(aV:l[m]? =some A)(aZ:l[m+1]? =some n)(a2:l[m+2]? =some t)(W:A.dst=some E)(ad:n.dst=some J)(Q:t.dst=some C)(a3:E≠J)(ay:E≠C)(aw:J≠C)
 (aP:∀ap al,A.op≠ .select ap al)(aW:∀ap al,n.op≠ .select ap al)(aG:(A.looksAt l.toArray).contains C=false)(az:(n.looksAt l.toArray).contains C=false)
 (aM:Be af.tmps.size (l.take m)=true)(aE:D3 p)(an:EL P l.toArray t B)
 (h:∃y:Act,(∀ab,Ji w ab->wpQuiet P l.toArray (λd=>∃x:J2 ab,d=x.world) (λaT=>aT=y) (l.take m) af)/\LA P l.toArray w A p y/\
   (∀b F a ab,p b F a ab->Xc P l.toArray w n (L a) (y.put (some E) a))/\
   (∀b F a r d,Ji w d->w.heap.size<=b->b<=F->w.heap.size<=r->(F<=r\/r<b)->p b F a d->d.heap[r]? =some B->
     wpList P l.toArray ak (l.drop (m+3)) (((y.put (some E) a).put (some J) (L a)).put (some C) (XK r)) d)):(Code.region id l.toArray true).wp P ak af w:=by
 obtain⟨y,aL,aB,aK,aR⟩:=h;simp only[VZ,YO,YS] at aD;obtain⟨ax,aH,aJ,aI,aF,ar,ao⟩:=aD;let mk:Nat->Option (Nat->Nat->Value->World->Prop):=λi=>if i=m then some p else if i=m+2 then some (D4 B) else none
 have aa:mk m=some p:=by simp[mk]
 have am:mk (m+1)=none:=by simp[mk]
 have U:mk (m+2)=some (D4 B):=by simp[mk]
 have aA:l.toArray[m]? =some A:=by simpa using aV
 have V:l.toArray[m+1]? =some n:=by simpa using aZ
 have aq:l.toArray[m+2]? =some t:=by simpa using a2
 have au:∀N,t.dst=some N->N∉A.looksAt l.toArray:=λN Y=>by
  rw[Q] at Y;cases Y;intro ah;rw[JaT.2 ah] at aG;cases aG
 have a1:∀N,t.dst=some N->N∉n.looksAt l.toArray:=λN Y=>by
  rw[Q] at Y;cases Y;intro ah;rw[JaT.2 ah] at az;cases az
 refine HE m (m+3) 3 mk y aX aS (λi F=>by simp only[mk];rw[Yw O,Yw O]) aM rfl aL ?_;have a0:∀x,LA P l.toArray w A p (y.put t.dst x):=λx=>aB.of_same (JaN A aP y t.dst x au) (JaO A y t.dst x au)
 have aC:∀b F a x,(∃d,p b F a d)->Xc P l.toArray w n (L a) ((y.put (some E) a).put t.dst x):=λb F a x h=>h.elim λd h=>(aK b F a d h).of_put aW a1
 have ag:∀b F a g z u d (Z:List Bj),Ji w d->w.heap.size<=b->b<=F->w.heap.size<=g->(F<=g\/z<=b)->B1 d Z->(⟨b,F,p b F a⟩:Bj)∈Z->(⟨g,z,D4 B g z u⟩:Bj)∈Z->
  wpList P l.toArray ak (l.drop (m+3)) (((y.put (some E) a).put (some J) (L a)).put (some C) u) d:=λb F a g z u d Z R S T M ae I aU aO=>by
  have aQ:=(I _ aU).2 d (Jc _ _);obtain⟨rfl,a4,aN⟩:=(I _ aO).2 d (Jc _ _);exact aR b F a g d R S T M O aQ aN
 refine⟨by rw[ax];simp,λi F=>?_⟩;rw[ax] at F;rcases YE.1 F with rfl|F
 ·refine⟨O,λai aj=>⟨λh=>(by rw[aa] at h;cases h),λv G=>?_⟩⟩;obtain rfl:A=ai:=Yp (aA.symm.trans aj);obtain rfl:p=v:=Yp (aa.symm.trans G);refine⟨aB,aE,λb F a S T _ ac=>⟨by rw[aH];simp,λj s=>?_⟩⟩;rw[aH] at s;rcases YE.1 s with rfl|s
  ·refine⟨O,λe o=>⟨λ_=>⟨L a,?_,?_⟩,λv h=>by rw[am] at h;cases h⟩⟩
   ·obtain rfl:n=e:=Yp (V.symm.trans o);rw[W];exact ac.elim λd h=>aK b F a d h
   ·obtain rfl:n=e:=Yp (V.symm.trans o);refine⟨by rw[aJ];simp,λj s=>?_⟩;rw[aJ] at s;obtain rfl:j=i+2:=by simpa using s
    refine⟨O,λe o=>⟨λh=>(by rw[U] at h;cases h),λv G=>?_⟩⟩;obtain rfl:t=e:=Yp (aq.symm.trans o);obtain rfl:D4 B=v:=Yp (U.symm.trans G);refine⟨EM an _,BE B,λg z u M ae X _=>⟨ao,λd R I=>?_⟩⟩;rw[W,ad,Q];exact Jet
  ·obtain rfl:j=i+2:=by simpa using s
   refine⟨O,λe o=>⟨λh=>(by rw[U] at h;cases h),λv G=>?_⟩⟩;obtain rfl:t=e:=Yp (aq.symm.trans o);obtain rfl:D4 B=v:=Yp (U.symm.trans G);refine⟨EM an _,BE B,λg z u M ae X _=>⟨by rw[aI];simp,λj s=>?_⟩⟩;rw[aI] at s;obtain rfl:j=i+1:=by simpa using s
   refine⟨O,λe o=>⟨λ_=>⟨L a,?_,?_⟩,λv h=>by rw[am] at h;cases h⟩⟩
   ·obtain rfl:n=e:=Yp (V.symm.trans o);rw[W];exact aC b F a u ac
   ·obtain rfl:n=e:=Yp (V.symm.trans o);refine⟨by rw[YN _ _ O];exact ao,λd R I=>?_⟩;rw[W,ad,Q,FO _ C J _ _ (Ne.symm aw)];exact Jet
 ·obtain rfl:i=m+2:=by simpa using F
  refine⟨O,λai aj=>⟨λh=>(by rw[U] at h;cases h),λv G=>?_⟩⟩;obtain rfl:t=ai:=Yp (aq.symm.trans aj);obtain rfl:D4 B=v:=Yp (U.symm.trans G);refine⟨EM an _,BE B,λg z u M ae _ _=>⟨by rw[aF];simp,λj s=>?_⟩⟩;rw[aF] at s;obtain rfl:j=m:=by simpa using s
  refine⟨O,λe o=>⟨λh=>(by rw[aa] at h;cases h),λv G=>?_⟩⟩;obtain rfl:A=e:=Yp (aA.symm.trans o);obtain rfl:p=v:=Yp (aa.symm.trans G);refine⟨a0 u,aE,λb F a S T X ac=>⟨by rw[ar];simp,λaY av=>?_⟩⟩;rw[ar] at av;obtain rfl:aY=j+1:=by simpa using av
  refine⟨O,λe o=>⟨λ_=>⟨L a,?_,?_⟩,λv h=>by rw[am] at h;cases h⟩⟩
  ·obtain rfl:n=e:=Yp (V.symm.trans o);rw[W,Q,FO _ C E _ _ (Ne.symm ay)];have:=aC b F a u ac;rwa [Q] at this
  ·obtain rfl:n=e:=Yp (V.symm.trans o)
   refine⟨by
    rw[YN (i:=j+2) (j:=j) _ _ O,YN (i:=j+2) (j:=j+1) _ _ O];exact ao,λd R I=>?_⟩
   rw[W,ad,Q,FO y C E _ _ (Ne.symm ay),FO _ C J _ _ (Ne.symm aw)];exact ag b F a g z u d _ R S T M (.inr (X (⟨g,z,D4 B g z u⟩:Bj) (by simp))) I (by simp) (by simp)
end
end
end Go.Proofs.YtkgjbipfhhjlpaaGreatDoor
