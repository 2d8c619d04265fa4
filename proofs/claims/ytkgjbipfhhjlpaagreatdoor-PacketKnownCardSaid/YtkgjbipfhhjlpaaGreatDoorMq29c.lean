import Derived.Test.YtkgjbipfhhjlpaaGreatDoorMq29b
set_option linter.unusedVariables false
set_option linter.unusedSimpArgs false
set_option maxRecDepth 100000
set_option maxHeartbeats 32000000
namespace Go.Proofs.YtkgjbipfhhjlpaaGreatDoor
open Go.Proofs.Tryz
section
open Go.RowKit
def lst (l:List Int):Nat->Int:=λi=>l.getD i 0
def knS (n:Nat):List Int:=[10,0,0,((n%3:Nat):Int)]
def knT (n:Nat):List Int:=[10,0,((n%4:Nat):Int),1,0,0,0,0,0,0,0,0,0,0,0,knL n]
def knK (n:Nat):Ky:=⟨knX n,lst (knS n),knX n,lst (knT n),knP n,knA n,knB n⟩
theorem TW (n:Nat):kyV (knK n)=knC n:=rfl
def knF (n:Nat):Int:=if knP n != 6&&decide (0<n%13) then 0 else ((n*5%64:Nat):Int)
def knU (n:Nat):List Int:=if n%17=0 then (knT n).set (4+n%12) 1 else knT n
def knE (n:Nat):Sp:=⟨⟨knX n,lst (knS n),knX n,lst (knU n),knP n,knA n,knB n⟩,knF n,((n*n%90:Nat):Int)⟩
def knM (n:Nat):List Int:=(spL (knE n)).set (n*7%(spL (knE n)).length) ((n%256:Nat):Int)
def knW:Sp:=⟨knK 0,0,2008⟩
abbrev VL (l:List Int):Prop:=l.getD 0 0/16=6->40<=l.length->Qe (l.getD 6 0)=false
theorem Oz {l:List Int}(h:∀v,v∈l->Jm v):U8 (lst l):=λi=>by
 unfold lst;rw[Yi];cases e:l[i]? with
 |none=>decide
 |some v=>exact h v (YD e)
theorem TX (n:Nat):0<=knP n/\knP n<256:=Oz (l:=[6,17,1,58,47,0,44]) D (n%7)
theorem Vb (n:Nat):0<=knL n/\knL n<256:=by unfold knL;split<;>omega
theorem TY (n:Nat):0<=knA n/\knA n<65536:=by unfold knA;split<;>omega
theorem TZ (n:Nat):0<=knB n/\knB n<65536:=by unfold knB;split<;>omega
theorem T0 (n:Nat):U8 (lst (knS n)):=Oz λv a=>by
 unfold knS at a;simp only[YE,YF,YG] at a;rcases a with rfl|rfl|rfl|rfl<;>omega
theorem Su (n:Nat):∀v,v∈knT n->Jm v:=λv a=>by
 have:=Vb n;unfold knT at a;simp only[YE,YF,YG] at a;rcases a with rfl|rfl|rfl|rfl|rfl|rfl|rfl|rfl|rfl|rfl|rfl|rfl|rfl|rfl|rfl|rfl<;>omega
theorem Vc (n:Nat):U8 (lst (knU n)):=Oz λv a=>by
 unfold knU at a;split at a
 ·rcases List.mem_or_eq_of_mem_set a with h|rfl
  ·exact Su n v h
  ·decide
 ·exact Su n v a
theorem Fu (n:Nat):Fz (knK n):=⟨T0 n,Oz (Su n),TX n,TY n,TZ n⟩
theorem Iw (n:Nat):EA (knE n):=⟨⟨T0 n,Vc n,TX n,TY n,TZ n⟩,by show 0<=knF n/\knF n<256;unfold knF;split<;>omega,by show-9223372036854775808<=((n*n%90:Nat):Int)/\((n*n%90:Nat):Int)<=9223372036854775807;omega⟩
theorem UK (n:Nat)(h:n%17=0)(x:Bool)(Z:Nat->Int)(p a b f N:Int):
 ((Jcy x x (Jq ((lst (knT n)) 0)) (Jq ((lst (knT n)) 1)) (Jq ((lst (knT n)) 2)) (Jq ((lst (knT n)) 3)) (Jq ((lst (knT n)) 4)) (Jq ((lst (knT n)) 5)) (Jq ((lst (knT n)) 6)) (Jq ((lst (knT n)) 7)) (Jq ((lst (knT n)) 8)) (Jq ((lst (knT n)) 9)) (Jq ((lst (knT n)) 10)) (Jq ((lst (knT n)) 11)) (Jq ((lst (knT n)) 12)) (Jq ((lst (knT n)) 13)) (Jq ((lst (knT n)) 14)) (Jq ((lst (knT n)) 15)) p (Jl a) (Jl b) f (Jk N) Z):Array Value).setIfInBounds (22+n%12) (.int .u8 1)=(Jcy x x (Jq ((lst (knU n)) 0)) (Jq ((lst (knU n)) 1)) (Jq ((lst (knU n)) 2)) (Jq ((lst (knU n)) 3)) (Jq ((lst (knU n)) 4)) (Jq ((lst (knU n)) 5)) (Jq ((lst (knU n)) 6)) (Jq ((lst (knU n)) 7)) (Jq ((lst (knU n)) 8)) (Jq ((lst (knU n)) 9)) (Jq ((lst (knU n)) 10)) (Jq ((lst (knU n)) 11)) (Jq ((lst (knU n)) 12)) (Jq ((lst (knU n)) 13)) (Jq ((lst (knU n)) 14)) (Jq ((lst (knU n)) 15)) p (Jl a) (Jl b) f (Jk N) Z:Array Value):=by
 unfold knU;rw[YH h];unfold knT;have d:n%12<12:=Yu _ D;generalize n%12=J at*;rcases(by omega:J=0\/J=1\/J=2\/J=3\/J=4\/J=5\/J=6\/J=7\/J=8\/J=9\/J=10\/J=11) with rfl|rfl|rfl|rfl|rfl|rfl|rfl|rfl|rfl|rfl|rfl|rfl;all_goals rfl
theorem Vd (n:Nat)(h:n%17≠0):lst (knU n)=lst (knT n):=by unfold knU;rw[Yw h]
theorem Ve:∀n,n<250->VL (spL (knE n))/\VL (knM n)/\VL ((knM n).take (n*5%(knM n).length)):=by decide+kernel
theorem Vf:∀n,n<250->Qy (knE n)=0->0<(spL (knE n)).length/\PT (spL (knE n)) ⟨(knE n).k.s,(knE n).k.S,(knE n).k.T,(knE n).k.p,(knE n).k.a,(knE n).k.b,(spL (knE n)).length,(knE n).f,false⟩:=by decide+kernel
theorem VM:∀n,n<250->Qy (knE n)=0->PT (spL (knE n)++JP (n%9)) ⟨(knE n).k.s,(knE n).k.S,(knE n).k.T,(knE n).k.p,(knE n).k.a,(knE n).k.b,(spL (knE n)).length,(knE n).f,false⟩:=by decide+kernel
theorem Vg:∀n,n<250->Qy (knE n)=0->((knE n).n.toNat<=(JH (knE n)).length/\(JH (knE n)).length<=2068)/\((knE n).k.s=false->QJ (spL (knE n))=0/\JR (spL (knE n))=0/\QK (spL (knE n))=JH (knE n)):=by decide+kernel
def VN (s:Sp):Prop:=JT (spL s)=0/\Xb (spL s)=[]/\Xh (spL s)=s.k.p/\Xk (spL s)=JH s/\(spL s).getD 6 0=s.k.p/\(spL s).getD 7 0=64/\w2 (spL s) 4=((JH s).length:Nat)
instance (s:Sp):Decidable (VN s):=by unfold VN;infer_instance
theorem VO:∀n,n<250->Qy (knE n)=0->(knE n).k.s=true->VN (knE n):=by decide+kernel
theorem VP:∀n,n<250->Qy (knE n)=0->¬((knE n).k.p=6\/(knE n).k.p=17\/(knE n).k.p=1\/(knE n).k.p=58)->(JH (knE n)).length=(knE n).n.toNat:=by decide+kernel
def Vs (s:Sp):Prop:=Ab s.k.p (JH s)=0/\(Fy s.k.p (JH s)).data.length=s.n.toNat/\(Fy s.k.p (JH s)).opt.length=0/\(Fy s.k.p (JH s)).flags=s.f/\(JH s).length=tHead s.k.p+s.n.toNat/\XW (Qh s.k.p ((JH s).length:Nat) (Jt s.k.s s.k.S) (Jt s.k.t s.k.T)++JH s)=true
instance (s:Sp):Decidable (Vs s):=by unfold Vs;infer_instance
theorem VQ:∀n,n<250->Qy (knE n)=0->(knE n).k.p=6\/(knE n).k.p=17\/(knE n).k.p=1\/(knE n).k.p=58->Vs (knE n):=by decide+kernel
theorem Vh (n:Nat)(h:n<250)(e:Qy (knE n)=0):ChG (knE n):=⟨(Vg n h e).1,(Vg n h e).2,VO n h e,VP n h e,VQ n h e⟩
theorem Vi:∀n,n<250->(QY (knE n).k).length<=1000/\(JS (knE n).k=true->((XB (QY (knE n).k)).any λk=>Is k (knE n).k)=true):=by decide+kernel
theorem VR:∀n,n<250->JS (knE n).k=true->JS (knK (n*31))=true->eqL (JZ (knE n).k) (JZ (knK (n*31)))=Is (knE n).k (knK (n*31))/\(QY (knE n).k==QY (knK (n*31)))=Is (knE n).k (knK (n*31))/\(Do (knE n).k (knK (n*31))==0)=Is (knE n).k (knK (n*31)):=by decide+kernel
theorem VS:∀n,n<250->(QY (knK (n*31))).length<=1000:=by decide+kernel
theorem UL (n:Nat)(h:n<250):UF (knE n) (knK (n*31)) (JP (n%9)):=⟨λe=>⟨(Vf n h e).1,(Vf n h e).2,λ_=>VM n h e,Vh n h e⟩,(Vi n h).1,(Vi n h).2,VR n h⟩
def V7 (n:Nat):List Int:=BJ (knE n) (8*(1+n%200))
def V8 (n:Nat):List Int:=BK (knE n) (8*(1+n%200))
def Ws (n:Nat):Pk:=⟨(knE n).k.s,(knE n).k.S,(knE n).k.T,(knE n).k.p,(knE n).k.a,(knE n).k.b,(V7 n).length,if 8*(1+n%200)<14 then 0 else (knE n).f,false⟩
def Wt (n:Nat):Pk:=⟨(knE n).k.s,(knE n).k.S,(knE n).k.T,(knE n).k.p,0,0,(V8 n).length,0,true⟩
def Vj (n:Nat):Prop:=Qy (knE n)=0/\hdI (knE n).k.s+((8*(1+n%200):Nat):Int)<((spL (knE n)).length:Int)
instance (n:Nat):Decidable (Vj n):=by unfold Vj;infer_instance
theorem VT:∀n,n<250->Vj n->((spL (knE n)).length:Int)=hdI (knE n).k.s+(JH (knE n)).length:=by decide+kernel
theorem VU:∀n,n<250->Vj n->PT (V7 n) (Ws n):=by decide+kernel
theorem VV:∀n,n<250->Vj n->PT (V8 n) (Wt n):=by decide+kernel
theorem UM (n:Nat)(h:n<250):U9 (knE n) (8*(1+(((n:Nat):Int)%200).toNat)):=by
 rw[show(((n:Nat):Int)%200).toNat=n%200 from O];exact λe j _=>⟨VT n h ⟨e,j⟩,Vh n h e,VU n h ⟨e,j⟩,VV n h ⟨e,j⟩⟩
theorem Vk:Qy knW=0/\0<(spL knW).length/\PT (spL knW) ⟨knW.k.s,knW.k.S,knW.k.T,knW.k.p,knW.k.a,knW.k.b,(spL knW).length,knW.f,false⟩:=by decide+kernel
theorem VW:(spL knW++[1]).length<=2048->PT (spL knW++[1]) ⟨knW.k.s,knW.k.S,knW.k.T,knW.k.p,knW.k.a,knW.k.b,(spL knW).length,knW.f,false⟩:=by decide+kernel
theorem UN:((knW.n.toNat<=(JH knW).length/\(JH knW).length<=2068)/\(QJ (spL knW)=0/\JR (spL knW)=0/\QK (spL knW)=JH knW))/\Vs knW:=by decide+kernel
theorem VX:ChG knW:=⟨UN.1.1,λ_=>UN.1.2,λh=>absurd h D,λh=>absurd (Or.inl D) h,λ_=>UN.2⟩
theorem Vl:(QY knW.k).length<=1000/\(JS knW.k=true->((XB (QY knW.k)).any λk=>Is k knW.k)=true):=by decide+kernel
theorem VY:JS knW.k=true->JS (knK 1)=true->eqL (JZ knW.k) (JZ (knK 1))=Is knW.k (knK 1)/\(QY knW.k==QY (knK 1))=Is knW.k (knK 1)/\(Do knW.k (knK 1)==0)=Is knW.k (knK 1):=by decide+kernel
theorem Vm:UF knW (knK 1) [1]:=⟨λ_=>⟨Vk.2.1,Vk.2.2,VW,VX⟩,Vl.1,Vl.2,VY⟩
end
end Go.Proofs.YtkgjbipfhhjlpaaGreatDoor
