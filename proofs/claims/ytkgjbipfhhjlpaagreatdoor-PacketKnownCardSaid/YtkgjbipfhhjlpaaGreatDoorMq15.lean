import Derived.Test.YtkgjbipfhhjlpaaGreatDoorMq11
set_option linter.unusedVariables false
set_option linter.unusedSimpArgs false
set_option maxRecDepth 100000
set_option maxHeartbeats 32000000
namespace Go.Proofs.YtkgjbipfhhjlpaaGreatDoor
open Go.Proofs.Tryz
section
open Go.RowKit
theorem HJ (w:World)(b a n:Nat)(S:Array Value)(h:b≠a):JE (w.setRow a S) b n=JE w b n:=by
 unfold JE;rw[Ja5 _ _ _ _ h]
theorem LV (w:World)(b a C:Nat)(S:Array Value)(h:b≠a):(w.setRow a S).cell? ⟨b,C,none⟩=w.cell? ⟨b,C,none⟩:=cell_setRow_other _ _ _ _ h
attribute [go_sem] HJ LV
theorem Ju {w:World}{b n:Nat}{cs:Array Value}{t:TypeId}{d:Nat×Nat}(h:w.heap[b]? =some (.cells cs t d))(z:cs.size=n):Jv w b 0 n=cs:=by
 rw[JG _ _ _ _ _ _ _ h,WM,<-z];simp
theorem JC {w:World}{b:Nat}{e cs:Array Value}{t:TypeId}{d:Nat×Nat}(h:w.heap[b]? =some (.cells e t d)):(w.setRow b cs).heap[b]? =some (.cells cs t d):=Jaf _ _ _ _ _ _ h
theorem Jy {U:Nat}{w:World}{b:Nat}(cs:Array Value)(h:U<=b):Below U w (w.setRow b cs):=⟨rfl,rfl,rfl,by simp,λk A=>Ja5 _ _ _ _ O⟩
theorem Ee (a:Operand->Value)(w:World)(e:Option Tmp)(t:TypeId)(b:String)(d:Array Edge)(r:Option (Nat×Bool))(x:Operand):(execOp a ⟨e,.load 96 x,t,b,d,r⟩).run prog w=Xj prog 96 w (a x):=Q2 _ a w e t b d r x _
theorem Fk (w:World)(b a:Nat)(z:(Jv w b a 2).size=2):Xj prog 96 w (.pointer (some ⟨b,a,none⟩))=.ok (.value (.agg (Jv w b a 2))) w:=
 Qf _ w none 0 "" #[] none _ _ 2 _ underlying96 rfl K D z
theorem Df (a:Operand->Value)(w:World)(e:Option Tmp)(t:TypeId)(b:String)(d:Array Edge)(r:Option (Nat×Bool))(x Q:Operand):(execOp a ⟨e,.store 96 x Q,t,b,d,r⟩).run prog w=XC prog 96 w (a x) (a Q):=Qz _ a w e t b d r x Q _
theorem Ef (w:World)(b:Nat)(S:Array Value)(P:JE w b 2=true)(z:S.size=2)(j:AX S.toList=true):XC prog 96 w (Jj b) (.agg S)=.ok .skip (w.setRow b S):=
 J9 _ w none 0 "" #[] none _ _ _ 2 K P (by show A9 _ (.agg S)=true;rw[QR,<-Y1,Xd _ j,z];simp)
theorem Dg (a:Operand->Value)(w:World)(e:Option Tmp)(t:TypeId)(b:String)(d:Array Edge)(r:Option (Nat×Bool))(x:Operand):(execOp a ⟨e,.load 161 x,t,b,d,r⟩).run prog w=Xj prog 161 w (a x):=Q2 _ a w e t b d r x _
theorem Eg (w:World)(b a:Nat)(z:(Jv w b a 2).size=2):Xj prog 161 w (.pointer (some ⟨b,a,none⟩))=.ok (.value (.agg (Jv w b a 2))) w:=
 Qf _ w none 0 "" #[] none _ _ 2 _ underlying161 rfl K D z
theorem Cm (a:Operand->Value)(w:World)(e:Option Tmp)(t:TypeId)(b:String)(d:Array Edge)(r:Option (Nat×Bool))(x Q:Operand):(execOp a ⟨e,.store 161 x Q,t,b,d,r⟩).run prog w=XC prog 161 w (a x) (a Q):=Qz _ a w e t b d r x Q _
theorem Dh (w:World)(b:Nat)(S:Array Value)(P:JE w b 2=true)(z:S.size=2)(j:AX S.toList=true):XC prog 161 w (Jj b) (.agg S)=.ok .skip (w.setRow b S):=
 J9 _ w none 0 "" #[] none _ _ _ 2 K P (by show A9 _ (.agg S)=true;rw[QR,<-Y1,Xd _ j,z];simp)
theorem KA (a:Operand->Value)(w:World)(e:Option Tmp)(t:TypeId)(b:String)(d:Array Edge)(r:Option (Nat×Bool))(x:Operand):(execOp a ⟨e,.load 222 x,t,b,d,r⟩).run prog w=Xj prog 222 w (a x):=Q2 _ a w e t b d r x _
theorem Fl (w:World)(b d:Nat)(z:(Jv w b d 5).size=5):Xj prog 222 w (.pointer (some ⟨b,d,none⟩))=.ok (.value (.agg (Jv w b d 5))) w:=
 Qf _ w none 0 "" #[] none _ _ 5 _ underlying222 rfl K D z
theorem Di (a:Operand->Value)(w:World)(e:Option Tmp)(t:TypeId)(b:String)(d:Array Edge)(r:Option (Nat×Bool))(x Q:Operand):(execOp a ⟨e,.store 222 x Q,t,b,d,r⟩).run prog w=XC prog 222 w (a x) (a Q):=Qz _ a w e t b d r x Q _
theorem Eh (w:World)(b:Nat)(S:Array Value)(P:JE w b 5=true)(z:S.size=5)(j:AX S.toList=true):XC prog 222 w (Jj b) (.agg S)=.ok .skip (w.setRow b S):=
 J9 _ w none 0 "" #[] none _ _ _ 5 K P (by show A9 _ (.agg S)=true;rw[QR,<-Y1,Xd _ j,z];simp)
attribute [go_sem ↓] Ee Df Dg Cm KA Di
attribute [go_sem] Fk Ef Eg Dh Fl Eh
theorem Cn (a:Operand->Value)(w:World){o:Option Tmp}{t:TypeId}{d:String}{n:Array Edge}{r:Option (Nat×Bool)}{x Q:Operand}(b:Nat)(cs:Array Value)(g:a x=.pointer (some ⟨b,0,none⟩))(e:a Q=.agg cs)(l:JE w b 2=true)(z:cs.size=2)(j:AX cs.toList=true):(execOp a ⟨o,.store 96 x Q,t,d,n,r⟩).run prog w=.ok .skip (w.setRow b cs):=by
 rw[Df,g,e];exact Ef w b cs l z j
theorem Nl (a:Operand->Value)(w:World){j:Option Tmp}{t:TypeId}{d:String}{g:Array Edge}{r:Option (Nat×Bool)}{x:Operand}(b:Nat)(cs:Array Value)(e:a x=.pointer (some ⟨b,0,none⟩))(E:Jv w b 0 2=cs)(z:cs.size=2):(execOp a ⟨j,.load 96 x,t,d,g,r⟩).run prog w=.ok (.value (.agg cs)) w:=by
 rw[Ee,e,Fk w b 0 (by rw[E,z]),E]
theorem KB (a:Operand->Value)(w:World){o:Option Tmp}{t:TypeId}{d:String}{n:Array Edge}{r:Option (Nat×Bool)}{x Q:Operand}(b:Nat)(cs:Array Value)(g:a x=.pointer (some ⟨b,0,none⟩))(e:a Q=.agg cs)(l:JE w b 2=true)(z:cs.size=2)(j:AX cs.toList=true):(execOp a ⟨o,.store 161 x Q,t,d,n,r⟩).run prog w=.ok .skip (w.setRow b cs):=by
 rw[Cm,g,e];exact Dh w b cs l z j
theorem LW (a:Operand->Value)(w:World){j:Option Tmp}{t:TypeId}{d:String}{g:Array Edge}{r:Option (Nat×Bool)}{x:Operand}(b:Nat)(cs:Array Value)(e:a x=.pointer (some ⟨b,0,none⟩))(E:Jv w b 0 2=cs)(z:cs.size=2):(execOp a ⟨j,.load 161 x,t,d,g,r⟩).run prog w=.ok (.value (.agg cs)) w:=by
 rw[Dg,e,Eg w b 0 (by rw[E,z]),E]
theorem Fm (d:Operand->Value)(w:World){n:Option Tmp}{t:TypeId}{e:String}{l:Array Edge}{r:Option (Nat×Bool)}{x Q:Operand}(b:Nat)(S:Array Value)(P:d x=.pointer (some ⟨b,0,none⟩))(g:d Q=.agg S)(u:JE w b 5=true)(z:S.size=5)(j:AX S.toList=true):(execOp d ⟨n,.store 222 x Q,t,e,l,r⟩).run prog w=.ok .skip (w.setRow b S):=by
 rw[Di,P,g];exact Eh w b S u z j
theorem LX (a:Operand->Value)(w:World){o:Option Tmp}{t:TypeId}{d:String}{n:Array Edge}{r:Option (Nat×Bool)}{x Q:Operand}(b:Nat)(cs:Array Value)(g:a x=.pointer (some ⟨b,0,none⟩))(e:a Q=.agg cs)(l:JE w b 37=true)(z:cs.size=37)(j:AX cs.toList=true):(execOp a ⟨o,.store 118 x Q,t,d,n,r⟩).run prog w=.ok .skip (w.setRow b cs):=by
 rw[C8,g,e];exact DV w b cs l z j
theorem Nn (a:Operand->Value)(w:World){j:Option Tmp}{t:TypeId}{d:String}{g:Array Edge}{r:Option (Nat×Bool)}{x:Operand}(b:Nat)(cs:Array Value)(e:a x=.pointer (some ⟨b,0,none⟩))(E:Jv w b 0 37=cs)(z:cs.size=37):(execOp a ⟨j,.load 118 x,t,d,g,r⟩).run prog w=.ok (.value (.agg cs)) w:=by
 rw[DU,e,Fc w b 0 (by rw[E,z]),E]
theorem KC (a:Operand->Value)(w:World){o:Option Tmp}{t:TypeId}{d:String}{n:Array Edge}{r:Option (Nat×Bool)}{x Q:Operand}(b:Nat)(cs:Array Value)(g:a x=.pointer (some ⟨b,0,none⟩))(e:a Q=.agg cs)(l:JE w b 7=true)(z:cs.size=7)(j:AX cs.toList=true):(execOp a ⟨o,.store 109 x Q,t,d,n,r⟩).run prog w=.ok .skip (w.setRow b cs):=by
 rw[Ce,g,e];exact C9 w b cs l z j
theorem Ao (d:Operand->Value)(w:World){n:Option Tmp}{t:TypeId}{e:String}{l:Array Edge}{r:Option (Nat×Bool)}{x Q:Operand}(b:Nat)(S:Array Value)(P:d x=.pointer (some ⟨b,0,none⟩))(g:d Q=.agg S)(u:JE w b 12=true)(z:S.size=12)(j:AX S.toList=true):(execOp d ⟨n,.store 149 x Q,t,e,l,r⟩).run prog w=.ok .skip (w.setRow b S):=by
 rw[Da,P,g];exact DX w b S u z j
theorem GN (d:Operand->Value)(w:World){j:Option Tmp}{t:TypeId}{e:String}{g:Array Edge}{r:Option (Nat×Bool)}{x:Operand}(b:Nat)(S:Array Value)(P:d x=.pointer (some ⟨b,0,none⟩))(E:Jv w b 0 12=S)(z:S.size=12):(execOp d ⟨j,.load 149 x,t,e,g,r⟩).run prog w=.ok (.value (.agg S)) w:=by
 rw[DW,P,Af w b 0 (by rw[E,z]),E]
theorem Z3 (a:Operand->Value)(w:World){g:Option Tmp}{t:TypeId}{d:String}{e:Array Edge}{r:Option (Nat×Bool)}{x:Operand}(b:Nat)(S:Array Value)(P:a x=.pointer (some ⟨b,0,none⟩))(E:Jv w b 0 37=S)(z:S.size=37):(execOp a ⟨g,.load 30 x,t,d,e,r⟩).run prog w=.ok (.value (.agg S)) w:=by
 rw[DY,P,Cf w b 0 (by rw[E,z]),E]
theorem LY (a:Operand->Value)(w:World){g:Option Tmp}{t:TypeId}{d:String}{e:Array Edge}{r:Option (Nat×Bool)}{x:Operand}(b:Nat)(S:Array Value)(P:a x=.pointer (some ⟨b,0,none⟩))(E:Jv w b 0 37=S)(z:S.size=37):(execOp a ⟨g,.load 38 x,t,d,e,r⟩).run prog w=.ok (.value (.agg S)) w:=by
 rw[Db,P,D0 w b 0 (by rw[E,z]),E]
theorem Ei (d:Operand->Value)(w:World){o:Option Tmp}{t:TypeId}{e:String}{n:Array Edge}{r:Option (Nat×Bool)}{x Q:Operand}(b:Nat)(cs:Array Value)(P:d x=.pointer (some ⟨b,0,none⟩))(g:d Q=.agg cs)(l:JE w b 40=true)(z:cs.size=40)(j:AX cs.toList=true):(execOp d ⟨o,.store 40 x Q,t,e,n,r⟩).run prog w=.ok .skip (w.setRow b cs):=by
 rw[Cg,P,g];exact Dc w b cs l z j
theorem AP (a:Operand->Value)(w:World){g:Option Tmp}{t:TypeId}{d:String}{e:Array Edge}{r:Option (Nat×Bool)}{x:Operand}(b:Nat)(S:Array Value)(P:a x=.pointer (some ⟨b,0,none⟩))(E:Jv w b 0 39=S)(z:S.size=39):(execOp a ⟨g,.load 47 x,t,d,e,r⟩).run prog w=.ok (.value (.agg S)) w:=by
 rw[D2,P,Fe w b 0 (by rw[E,z]),E]
open Go.RowKit Bits
theorem AQ (G:Bool)(Z:Nat->Int)(t:Bool)(d:Nat->Int)(p a b:Int)(w:World):
 Jf 21 #[.agg (kyC G Z t d p a b)] w (Jz w (.agg (kyC G Z t d p a b))):=by
 have n:=H (λw=>E9 G Z w);have g:=H (λw=>E9 t d w);unfold kyC adV at*;go_enter func21,ntmps21
 go_wp2_with fail
 refine Xe 13 K K ?_;simp only[Y6,Y7,Y8,Y9];repeat go_big_quiet_step ((go_at_call 56;first|exact JD (n _)|exact JD (g _)))
 refine Jaa ?_;intro x;have e:Jh x.world (w.heap.size+1) (kyC false (λ_=>0) false (λ_=>0) 0 0 0) 38:=(x.below.block _ (by simp)).trans (Jac w (.cells (kyC G Z t d p a b) 30) (.cells (kyC false (λ_=>0) false (λ_=>0) 0 0 0) 38));have o:JE x.world (w.heap.size+1) 37=true:=by rw[Jw _ _ _ _ _ e];rfl
 have j:=H e;have l:=H (show Ji w x.world from Ww (Below.all (Below.all (Jc _ _) _) _));clear e;go_wp2_with fail
 exact Jag (v:=.agg (kyC G Z t d p a b)) (XO rfl _ _ (w.heap.size+1) 37 _ underlying38 rfl Ly rfl _ (Xx j) rfl) rfl (.mk rfl (below_setRow l O _))
theorem No (G:Bool)(Z:Nat->Int)(t:Bool)(d:Nat->Int)(p a b n f:Int)(T:Bool)(w:World):
 Jf 13 #[.agg (Jbt G t p (Jl a) (Jl b) (Jk n) f T Z d:Array Value)] w (Jz w (.agg (Jbt G t p (Jl a) (Jl b) (Jk n) f T Z d))):=by
 have l:=H (λw=>AQ G Z t d p a b w);unfold kyC at*;go_enter func13,ntmps13
 go_wp2_with fail
 refine Xe 10 K K ?_;simp only[Y6,Y7,Y8,Y9];repeat go_big_quiet_step ((go_at_call 21;exact JD (l _)))
 refine Jaa ?_;intro x;have e:Jh x.world (w.heap.size+1) (Jbx false false (Jk 0) false) 40:=(x.below.block _ (by simp)).trans (Jac w (.cells (Jbt G t p (Jl a) (Jl b) (Jk n) f T Z d) 32) (.cells (Jbx false false (Jk 0) false) 40));have o:JE x.world (w.heap.size+1) 40=true:=by rw[Jw _ _ _ _ _ e];rfl
 have g:=H e;have j:=H (show Ji w x.world from Ww (Below.all (Below.all (Jc _ _) _) _));clear e;go_wp2_with fail
 exact Jag (v:=.agg (Jbt G t p (Jl a) (Jl b) (Jk n) f T Z d)) (XO rfl _ _ (w.heap.size+1) 40 _ underlying40 rfl D1 rfl _ (Xx g) rfl) rfl (.mk rfl (below_setRow j O _))
theorem LZ (G:Bool)(Z:Nat->Int)(t:Bool)(d:Nat->Int)(p a b f n:Int)(w:World):
 Jf 17 #[.agg (Jbw G t p (Jl a) (Jl b) f (Jk n) Z d:Array Value)] w (Jz w (.agg (Jbw G t p (Jl a) (Jl b) f (Jk n) Z d))):=by
 have l:=H (λw=>AQ G Z t d p a b w);unfold kyC at*;go_enter func17,ntmps17
 go_wp2_with fail
 refine Xe 8 K K ?_;simp only[Y6,Y7,Y8,Y9];repeat go_big_quiet_step ((go_at_call 21;exact JD (l _)))
 refine Jaa ?_;intro x;have e:Jh x.world (w.heap.size+1) (Jco false false (Jk 0)) 52:=(x.below.block _ (by simp)).trans (Jac w (.cells (Jbw G t p (Jl a) (Jl b) f (Jk n) Z d) 47) (.cells (Jco false false (Jk 0)) 52));have o:JE x.world (w.heap.size+1) 39=true:=by rw[Jw _ _ _ _ _ e];rfl
 have g:=H e;have j:=H (show Ji w x.world from Ww (Below.all (Below.all (Jc _ _) _) _));clear e;go_wp2_with fail
 exact Jag (v:=.agg (Jbw G t p (Jl a) (Jl b) f (Jk n) Z d)) (XO rfl _ _ (w.heap.size+1) 39 _ underlying52 rfl Rq rfl _ (Xx g) rfl) rfl (.mk rfl (below_setRow j O _))
theorem RK (l:List Int):eqL l l=true:=(EC l l).2 rfl
theorem GO (w:World)(N:Nat)(G:Bool)(Z:Nat->Int)(t:Bool)(d:Nat->Int)(p a b c e:Int):
 (Op.equalIn (N+6) 30 (.agg (Jbs G t p (Jl a) (Jl b) Z d)) (.agg (Jbs G t p (Jl c) (Jl e) Z d))).run prog w=.ok (decide (a=c)&&decide (b=e)) w:=by
 simp[go_sem];by_cases j:a=c
 ·by_cases y:b=e<;>simp[j,y,RK]
 ·simp[j]
attribute [go_sem 5000] GO
open Go.RowKit Bits
theorem EZ {a:Program}(j b n:TypeId)(T d:Nat)(e:Array MapEntry)(q:IntKind)(k:Int)(l:Value)(w:World)(W:a.underlying j=some (.map b n))(A:a.underlying b=some (.int q))(g:w.heap[T]? =some (.map e d))
 (o:Instr.findNow (.int q) (.int q k) e.toList 0=some none):
 (Instr.mapUpdate j (.map (some T)) (.int q k) l).run a w=.ok () { w with heap:=w.heap.setIfInBounds T (.map (e.push { key:=.int q k,val:=l,born:=d }) (d+1)) }:=by
 have I:(Instr.checkKey false 10000 b (.int q k)).run a w=.ok () w:=MapKept.run_checkKey (k:=.int q k) A (by simp[MapKept.IsKey]) false 9999;simp[Instr.mapUpdate,Yn W,MapKept.run_getObj_map g,I,MapKept.run_findKey A o,MapKept.run_setObj_map _ g,Result.andThen]
theorem QG {P:Program}(l j b:TypeId)(T p:Nat)(e:Array MapEntry)(q:IntKind)(k:Int)(d:Value)(ok:Bool)(w:World)(W:P.underlying l=some (.map j b))(A:P.underlying j=some (.int q))(g:w.heap[T]? =some (.map e p))(x:Option (Nat×Value))
 (o:Instr.findNow (.int q) (.int q k) e.toList 0=some x)(a:((P.info? b).bind (·.zero))=some d):
 (Instr.lookup l (.map (some T)) (.int q k) ok).run P w=.ok (if ok then .tuple #[(x.map (·.2)).getD d,.bool x.isSome] else (x.map (·.2)).getD d) w:=by
 have I:(Instr.checkKey e.isEmpty 10000 j (.int q k)).run P w=.ok () w:=MapKept.run_checkKey (k:=.int q k) A (by simp[MapKept.IsKey]) _ 9999
 have n:(zeroValue b).run P w=.ok d w:=by
  cases hi:P.info? b with
  |none=>rw[hi] at a;cases a
  |some i=>
   rw[hi] at a;simp only[Option.bind_some] at a;simp[zeroValue,typeInfo,hi,a,Result.andThen]
 cases x with
 |none=>simp[Instr.lookup,Yn W,MapKept.run_getObj_map g,I,MapKept.run_findKey A o,n,Result.andThen]
 |some x=>simp[Instr.lookup,Yn W,MapKept.run_getObj_map g,I,MapKept.run_findKey A o,n,Result.andThen]
theorem RR {U:Nat}{a w:World}{T:Nat}(h:Below U a w)(u:U<=T)(C:Obj):Below U a { w with heap:=w.heap.setIfInBounds T C }:=
 ⟨h.os,h.tape,h.output,by simpa using h.size,λi F=>by
   have:(w.heap.setIfInBounds T C)[i]? =w.heap[i]?:=by rw[Array.getElem?_setIfInBounds_ne O]
   exact this.trans (h.block i F)⟩
theorem E0 {b:Program}(w:World){o:Array Oper}{rest:List Oper}{C:Oper}{a:Act}{r:Exit->Act->World->Prop}
 (E:C.guard=none)(m x v:Operand)(t:TypeId)(I:C.op=Op.insert t m x v)(n p:TypeId)(W:b.underlying t=some (.map n p))(q:IntKind)(A:b.underlying n=some (.int q))
 (T e:Nat)(j:Array MapEntry)(k:Int)(l:Value)(g:w.heap[T]? =some (.map j e))(y:a.eval m=.map (some T))(P:a.eval x=.int q k)(s:a.eval v=l)(J:Instr.findNow (.int q) (.int q k) j.toList 0=some none)
 (u:∀d,d.heap[T]? =some (.map (j.push { key:=.int q k,val:=l,born:=e }) (e+1))->Below T w d->d.heap.size=w.heap.size->(∀i,i≠T->d.heap[i]? =w.heap[i]?)->wpList b o r rest (a.put C.dst undef) d):
 wpList b o r (C::rest) a w:=by
 refine wpList_plain E λL B=>?_
 have z:=EZ t n p T e j q k l w W A g J;have G:=(Ja g).1;unfold Oper.wp;simp[execOp,I,y,P,s,z,Result.andThen];refine B _ _ (u _ ?_ (RR (Jc _ _) (Je _) _) (by simp) (λi F=>?_))
 ·simp[G]
 ·show(w.heap.setIfInBounds T _)[i]? =_;rw[Array.getElem?_setIfInBounds_ne (Ne.symm F)]
theorem BZ {b:Program}(w:World){o:Array Oper}{rest:List Oper}{p:Option Tmp}{C:TypeId}{E:String}{z:Array Edge}{a:Act}{s:Exit->Act->World->Prop}{m v:Operand}{t:TypeId}{q:IntKind}{k:Int}
 (T e:Nat)(j:Array MapEntry)(l:Int->Value)(n r:TypeId)(W:b.underlying t=some (.map n r))(A:b.underlying n=some (.int q))
 (g:w.heap[T]? =some (.map j e))(B:a.eval m=.map (some T))(u:a.eval v=l k)(F:Instr.findNow (.int q) (.int q k) j.toList 0=some none)
 (y:∀d,d.heap[T]? =some (.map (j.push { key:=.int q k,val:=l k,born:=e }) (e+1))->Below T w d->d.heap.size=w.heap.size->(∀i,i≠T->d.heap[i]? =w.heap[i]?)->wpList b o s rest (a.put p undef) d):
 wpList b o s (⟨p,.insert t m (.const (.int q k)) v,C,E,z,none⟩::rest) a w:=
 E0 w rfl m _ v t rfl n r W q A T e j k (l k) g B rfl u F y
def FT:Value:=.agg #[Jk 20,Jk 16,Jr 184,Jr 185,Jr 186]
def FU:Value:=.agg #[Jk 8,Jk 6,Jr 187,Jr 188,Jr 189]
def Zq:Value:=.agg #[Jk 4,Jk 2,Jr 181,Jr 182,Jr 183]
def GP (k:Int):Value:=if k=6 then FT else if k=17 then FU else Zq
def QH:Array MapEntry:=#[⟨.int .u8 6,FT,0⟩,⟨.int .u8 17,FU,1⟩,⟨.int .u8 1,Zq,2⟩,⟨.int .u8 58,Zq,3⟩]
def Ej:Value:=.agg #[Jk 0,Jk 0,.nilFunc,.nilFunc,.nilFunc]
theorem ZF:((prog.info? 222).bind (·.zero))=some Ej:=K
def RT (w:World):Ending->World->Prop:=λe d=>∃T,e=.returned (.map (some T))/\w.heap.size<=T/\d.heap[T]? =some (.map QH 4)/\Ji w d
theorem Fo {U:Nat}{a w d:World}{T:Nat}(h:Below U a w)(u:U<=T)(M:Below T w d):Below U a d:=h.trans (M.mono u)
theorem Zk (w:World):Jf 136 #[] w (RT w):=by
 have l:=@run_makeMap prog
 have b:((w.alloc (.cells #[Jk 4,Jk 2,Jr 181,Jr 182,Jr 183] 222)).alloc (.map #[] 0)).heap[w.heap.size+1]? =some (.map #[] 0):=by
  have:=WP (w.alloc (.cells #[Jk 4,Jk 2,Jr 181,Jr 182,Jr 183] 222)) (.map #[] 0);exact Jek
 have d:((w.alloc (.cells #[Jk 4,Jk 2,Jr 181,Jr 182,Jr 183] 222)).alloc (.map #[] 0)).heap[w.heap.size]? =some (.cells #[Jk 4,Jk 2,Jr 181,Jr 182,Jr 183] 222):=by
  exact(YU _ _ (by simp)).trans (WP w _)
 have e:Below w.heap.size w ((w.alloc (.cells #[Jk 4,Jk 2,Jr 181,Jr 182,Jr 183] 222)).alloc (.map #[] 0)):=Below.all (Below.all (Jc _ _) _) _;go_enter func136,ntmps136
 go_wp2_with (first|(with_reducible refine BZ _ (w.heap.size+1) _ _ GP 5 222 ?_ ?_ b ?_ ?_ ?_ ?_;(kernel_rfl);(kernel_rfl);(kernel_rfl);(kernel_rfl);(kernel_rfl);intro V b g n j;have d:=(j w.heap.size O).trans d;have e:=Fo e O g;have o:Jv V w.heap.size 0 5=#[.int .i64 4,.int .i64 2,.func (.func 181) #[] #[],.func (.func 182) #[] #[],.func (.func 183) #[] #[]]:=Ju d rfl))
 go_ret;exact⟨_,rfl,O,b.trans K,e⟩
open Go.RowKit Bits
def Ib (a:Nat)(v:Int):List Int:=if a=1 then [v] else if a=2 then be2 v else be4 v
def GQ (a:Nat):Int:=if a=1 then 256 else if a=2 then 65536 else 4294967296
theorem Ok (a:Nat)(v:Int):(Ib a v).length<=4:=by
 unfold Ib;split
 ·simp
 ·split<;>simp[be2,be4]
def Q9 (a:Nat)(b:List Int):List Int:=(b.map (Ib a)).flatten
theorem Pa (a:Nat)(b:List Int)(v:Int):Q9 a (b++[v])=Q9 a b++Ib a v:=by simp[Q9]
theorem XZ (b:Nat)(a:List Int):(Q9 b a).length<=4*a.length:=by
 induction a with
 |nil=>simp[Q9]
 |cons v T d=>
  have:=Ok b v;unfold Q9 at d|-;simp only[Jap,Ja4,WV,Yy];omega
theorem Ek (a:Nat)(z:a=1\/a=2\/a=4)(p:Nat)(d:Nat->Prop)(l:List Int)(v:Int)(X:0<=v)(j:v<GQ a)(w:World)(R:WrK w p d l)(W:l.length<=900000):
 Jf 65 #[.pointer (some ⟨p,0,none⟩),Jo v,Jk a] w (GC w p d (l++Ib a v)):=by
 have b:=H R;clear R
 have B:∀w,Jf 124 #[Jo v,Jk a] w (Jz w (.bool true)):=λw=>by
  rcases z with rfl|rfl|rfl
  ·exact A2 v 1 X (by simpa[GQ] using j) D D w
  ·exact A2 v 2 X (by simpa[GQ] using j) D D w
  ·exact A2 v 4 X (by simpa[GQ] using j) D D w
 have n:∀w,Jf 125 #[Jo v,Jk a] w (J5 w (Ib a v)):=λw=>by
  rcases z with rfl|rfl|rfl
  ·exact Rm v X (by simpa[GQ] using j) w
  ·exact Kp v X (by simpa[GQ] using j) w
  ·exact Rn v X (by simpa[GQ] using j) w
 have y:∀x∈Ib a v,Jm x:=by
  rcases z with rfl|rfl|rfl
  ·intro x P;simp only[Ib,YW,YI] at P;subst P;exact⟨X,by simpa[GQ] using j⟩
  ·exact JN v
  ·exact Kk v
 have C:=Ok a v;generalize Ib a v=U at*;generalize GQ a=E at*;exact JcZ
theorem RU (b:Nat)(z:b=1\/b=2\/b=4)(p r:Nat)(g:Nat->Prop)(a:List Int)(l:List Int)(w:World)(R:WrK w p g l)(F:g r)
 (I:∀J,J<a.length->Jg w r J (Jo (a.getD J 0)))(u:∀J,J<a.length->0<=a.getD J 0/\a.getD J 0<GQ b)(W:a.length<=16)(ad:l.length<=800000):
 Jf 190 #[.pointer (some ⟨p,0,none⟩),Jk b,.slice (some ⟨r,0,none⟩) a.length a.length] w (λe d=>e=.returned (.tuple #[])/\WrK d p g (l++Q9 b a)/\Below p w d/\ZZ g w d):=by
 have B:=H R;have U:=H I;have Y:=H u;have Q:=H F;have Z:Hid (∀(l:List Int) (v:Int) (w:World),0<=v->v<GQ b->WrK w p g l->l.length<=900000->Jf 65 #[.pointer (some ⟨p,0,none⟩),Jo v,Jk b] w (GC w p g (l++Ib b v))):=H (λl v w X j R W=>Ek b z p g l v X j w R W);have T:Hid (∀k,k<a.length->Q9 b (a.take (k+1))=Q9 b (a.take k)++Ib b (a.getD k 0)):=H (λk A=>by rw[Cx a k A,Pa]);have M:Hid (Q9 b (a.take a.length)=Q9 b a):=H (by rw[List.take_length]);have S:Hid (∀k,(Q9 b (a.take k)).length<=4*a.length):=H (λk=>by have:=XZ b (a.take k);rw[WR] at this;omega);have N:Hid (Q9 b (a.take 0)=[]):=H rfl;clear R I u F z;generalize aa:a.length=n at*;clear aa;have ac:=B.lt;go_enter func190,ntmps190
 go_wp2_with fail
 go_loopw [10] (λu10 wr=>∃k:Nat,k<=n/\u10=.int .i64 k/\Hid (WrK wr p g (l++Q9 b (a.take k))/\Below p w wr/\ZZ g w wr)) (λu10 _=>(n:Int)-intOf u10 |>.toNat)
 case atStart=>exact⟨0,WG _,rfl,H ⟨by rw[N.out,Ja2];exact B,Jc _ _,ZZ.refl _ _⟩⟩
 case round=>
  obtain⟨k,A,rfl,o⟩:=hrel;by_cases s:k<n
  ·have L:=U.out k s
   have ab:Jg wr r k (Jo (a.getD k 0)):=by
    rw[<-L];unfold World.cell?;simp only[o.2.2 r Q.out]
   have y:=H (Y k s);have P:=H (T k s);clear L;generalize a.getD k 0=v at*;go_wp2_with fail
   refine Jb (Z _ v wr y.1 y.2 o.1 (by rw[WV];have:=S.out k;omega)) ?_;rintro e t ⟨rfl,E,C,G⟩;have V:Hid (WrK t p g (l++Q9 b (a.take (k+1)))/\Below p w t/\ZZ g w t):=H ⟨by rw[P.out,<-Jao];exact E,o.2.1.trans C,o.2.2.trans G⟩;exact Jeb
  ·exact Jeq
open Go.RowKit Bits
theorem JcV{p:Prop}(h:p:=by
 intro v g;simp only[YE,YF,YG] at g;unfold GQ;first|simp only[YW]|simp only[Yw (show¬(2:Nat)=1 from D),YW]|simp only[Yw (show¬(4:Nat)=1 from D),Yw (show¬(4:Nat)=2 from D)]
 omega):p:=h
theorem Jdy{p:Prop}(h:p:=by
 intro v r;simp only[YE,YF,YG] at r;unfold GQ;first|simp only[YW]|simp only[Yw (show¬(2:Nat)=1 from D),YW]|simp only[Yw (show¬(4:Nat)=1 from D),Yw (show¬(4:Nat)=2 from D)]
 omega):p:=h
def X0 (p a b f g j:Int)(d:Option Addr)(n e:Nat):Array Value:=(Jbz p (Jl a) (Jl b) f g j (.slice d n e))
def A5 (w:World)(p:Nat)(b:Nat->Prop)(g:List Int):Ending->World->Prop:=λe d=>e=.returned (.tuple #[])/\WrK d p b g/\Below p w d/\ZZ b w d
theorem WrK.puts {Q d:World}{p:Nat}{r:Nat->Prop}{o:List Int}(h:WrK Q p r o)(a:Nat)(z:a=1\/a=2\/a=4)(g:Ji Q d)(l:Nat)(y:Q.heap.size<=l)
 (j:List Int)(k:Nat)(A:j.length=k)(t:TypeId)(s:Jh d l (j.map (.int .u64)).toArray t)(u:∀v∈j,0<=v/\v<GQ a)(W:k<=16)(M:o.length<=800000):
 Jf 190 #[.pointer (some ⟨p,0,none⟩),Jk a,.slice (some ⟨l,0,none⟩) k k] d (A5 Q p r (o++Q9 a j)):=by
 subst A;have E:l<d.heap.size:=(Ja s).1;have B:=h.more g y E;refine(RU a z p l _ j o d B (.inr rfl) (λJ n=>?_) (λJ n=>?_) W M).mono ?_
 ·rw[WN _ _ J _ t (0,0) s];simp[Yi,n]
 ·rw[Yi,W2 n];exact u _ (Yj n)
 ·rintro e I ⟨rfl,G,C,F⟩;exact⟨rfl,G.mono λb h=>.inl h,(g.mono (Ja1 h.lt)).trans C,(ZZ.of g h.old).trans (λb g=>F b (.inl g))⟩
theorem BI (w:World)(b a:Obj):((w.alloc b).alloc a).heap[w.heap.size+1]? =some a:=by
 have:=WP (w.alloc b) a;exact Jek
theorem Pb (p:Nat)(y:Nat->Prop)(q a b f o l:Int)(d:Option Addr)(n j:Nat)(s:List Int)(w:World)(R:WrK w p y s)(ha:Jn a)(g:Jn b)(B:n<=65527)(M:s.length<=700000):
 Jf 188 #[.pointer (some ⟨p,0,none⟩),.agg (X0 q a b f o l d n j)] w (A5 w p y (s++Q9 2 [a,b,8+(n:Int),0])):=by
 have u:=H R;have r:=WP w (.cells (X0 q a b f o l d n j) 149);have t:Below w.heap.size w (w.alloc (.cells (X0 q a b f o l d n j) 149)):=Below.all (Jc _ _) _;have F:=H (R.below t);have z:=H t;unfold X0 at*;clear t R;have I:Jg (w.alloc (.cells (Jbz q (Jl a) (Jl b) f o l (.slice d n j)) 149)) w.heap.size 1 (Jl a):=WF 1 r;have L:Jg (w.alloc (.cells (Jbz q (Jl a) (Jl b) f o l (.slice d n j)) 149)) w.heap.size 2 (Jl b):=WF 2 r;have J:Jg (w.alloc (.cells (Jbz q (Jl a) (Jl b) f o l (.slice d n j)) 149)) w.heap.size 11 (.slice d n j):=WF 11 r;clear r;go_enter func188,ntmps188
 go_wp2_with fail
 refine Jb (F.puts 2 D (Below.all (Jc _ _) _) _ (by simp) [a,b,8+(n:Int),0] 4 rfl _ (BI w _ _) ?_ D O) ?_
 ·intro v A;simp only[YE,YF,YG] at A;unfold GQ;simp only[Yw (show¬(2:Nat)=1 from D),YW];omega
 rintro e w2 ⟨rfl,E,G,C⟩;go_wp2_with fail
 go_end0
 exact⟨rfl,E,(z.mono (Ja1 u.lt)).trans G,(ZZ.of z u.old).trans C⟩
theorem Np (p:Nat)(A:Nat->Prop)(q a b f j d:Int)(l:Option Addr)(n o:Nat)(s:List Int)(w:World)(R:WrK w p A s)(ha:Jm j)(g:Jm d)(M:s.length<=700000):
 Jf 182 #[.pointer (some ⟨p,0,none⟩),.agg (X0 q a b f j d l n o)] w (A5 w p A ((s++Q9 1 [j,d])++Q9 2 [0])):=by
 have y:=H R;have u:=WP w (.cells (X0 q a b f j d l n o) 149);have t:Below w.heap.size w (w.alloc (.cells (X0 q a b f j d l n o) 149)):=Below.all (Jc _ _) _;have F:=H (R.more t (Je _) (by simp));have E:=H t;unfold X0 at*;clear t R;have U:Jg (w.alloc (.cells (Jbz q (Jl a) (Jl b) f j d (.slice l n o)) 149)) w.heap.size 9 (Jq j):=WF 9 u;have V:Jg (w.alloc (.cells (Jbz q (Jl a) (Jl b) f j d (.slice l n o)) 149)) w.heap.size 10 (Jq d):=WF 10 u;clear u;go_enter func182,ntmps182
 go_wp2_with fail
 refine Jb (F.puts 1 D (Below.all (Jc _ _) _) _ (by simp) [j,d] 2 rfl _ (BI w _ _) ?_ D O) ?_
 ·exact Jdy
 rintro e w2 ⟨rfl,C,G,z⟩;have L:=H C;have Q:=H G;have N:=H z;clear C G z U V F;go_wp2_with fail
 refine Jb (L.puts 2 D (Below.all (Jc _ _) _) _ (by simp) [0] 1 rfl _ (WP _ _) ?_ D (by have:=XZ 1 [j,d];rw[WV];simp at this;omega)) ?_
 ·exact Jdy
 rintro e W ⟨rfl,J,B,I⟩;have S:=H J;have T:=H (Q.trans B);have P:=H (N.trans I);clear J B I;go_wp2_with fail
 go_end0
 exact⟨rfl,S.mono λb h=>.inl h,(E.mono (Ja1 y.lt)).trans T,(ZZ.of E y.old).trans (λb h=>P.out b (.inl h))⟩
theorem Pc (p:Nat)(L:Nat->Prop)(q a b f o l:Int)(j:Option Addr)(n r:Nat)(z:List Int)(w:World)(R:WrK w p L z)(ha:Jn a)(aB:Jn b)(aD:Jm f)(aC:z.length<=700000):
 Jf 185 #[.pointer (some ⟨p,0,none⟩),.agg (X0 q a b f o l j n r)] w (A5 w p L (z++Q9 2 [a,b]++Q9 4 [0,0]++Q9 1 [80,f]++Q9 2 [0,0,0])):=by
 have J:=H R;have d:=WP w (.cells (X0 q a b f o l j n r) 149);have A:Below w.heap.size w (w.alloc (.cells (X0 q a b f o l j n r) 149)):=Below.all (Jc _ _) _;have T:=H (R.more A (Je _) (by simp));have S:=H A;unfold X0 at*;clear A R;have av:Jg (w.alloc (.cells (Jbz q (Jl a) (Jl b) f o l (.slice j n r)) 149)) w.heap.size 1 (Jl a):=WF 1 d;have ax:Jg (w.alloc (.cells (Jbz q (Jl a) (Jl b) f o l (.slice j n r)) 149)) w.heap.size 2 (Jl b):=WF 2 d;have s:=H d;clear d;go_enter func185,ntmps185
 go_wp2_with fail
 refine Jb (T.puts 2 D (Below.all (Jc _ _) _) _ (by simp) [a,b] 2 rfl _ (BI w _ _) ?_ D O) ?_
 ·exact JcV
 rintro e w2 ⟨rfl,Q,Z,u⟩;have E:=H Q;have V:=H Z;have G:=H u;have d:=(u _ (.inr rfl)).trans s;clear Q Z u av ax T;have az:Jg w2 w.heap.size 3 (Jp 0):=WF 3 d;have ap:Jg w2 w.heap.size 4 (Jp 0):=WF 4 d;clear d;go_wp2_with fail
 refine Jb (E.puts 4 D (Below.all (Jc _ _) _) _ (by simp) [0,0] 2 rfl _ (WP _ _) ?_ D (by have X:=XZ 2 [a,b];simp only[WV,Yy,Jau] at*;omega)) ?_
 ·exact JcV
 rintro e ai ⟨rfl,ah,M,ac⟩;have aj:=H ah;have ad:=H (V.trans M);have y:=H (G.trans ac);have d:=(y _ (.inr rfl)).trans s;clear ah M ac az ap E V G;have ak:Jg ai w.heap.size 8 (.slice none 0 0):=WF 8 d;have ao:Jg ai w.heap.size 5 (Jq f):=WF 5 d;clear d;go_wp2_with fail
 refine Jb (aj.puts 1 D (Below.all (Jc _ _) _) _ (by simp) [80,f] 2 rfl _ (WP _ _) ?_ D (by have X:=XZ 2 [a,b];have ab:=XZ 4 [0,0];simp only[WV,Yy,Jau] at*;omega)) ?_
 ·exact JcV
 rintro e w4 ⟨rfl,af,W,Y⟩;have U:=H af;have I:=H (ad.trans W);have t:=H (y.trans Y);have d:=(t _ (.inr rfl)).trans s;clear af W Y ak ao aj ad y;have ay:Jg w4 w.heap.size 6 (Jl 0):=WF 6 d;have al:Jg w4 w.heap.size 7 (Jl 0):=WF 7 d;clear d;go_wp2_with fail
 refine Jb (U.puts 2 D (Below.all (Jc _ _) _) _ (by simp) [0,0,0] 3 rfl _ (WP _ _) ?_ D (by have X:=XZ 2 [a,b];have ab:=XZ 4 [0,0];have am:=XZ 1 [80,f];simp only[WV,Yy,Jau] at*;omega)) ?_
 ·exact JcV
 rintro e ag ⟨rfl,C,aa,P⟩;have aw:=H C;have aq:=H (I.trans aa);have N:=H (t.trans P);have d:=(N _ (.inr rfl)).trans s;clear C aa P ay al U I t;have ak:Jg ag w.heap.size 8 (.slice none 0 0):=WF 8 d;clear d;go_wp2_with fail
 refine Jb (A4 p _ _ none 0 0 [] ag aw (JA.nil _) (by have X:=XZ 2 [a,b];have ab:=XZ 4 [0,0];have am:=XZ 1 [80,f];have aE:=XZ 2 [0,0,0];simp only[WV,Yy,Jau] at*;omega)) ?_;rintro e aA ⟨rfl,B,ae,F⟩;rw[Ja2] at B;have ar:=H B;have au:=H (aq.trans ae);have an:=H (N.trans F);clear B ae F;go_wp2_with fail
 go_end0
 exact⟨rfl,ar.mono λb h=>.inl h,(S.mono (Ja1 J.lt)).trans au,(ZZ.of S J.old).trans (λb h=>an.out b (.inl h))⟩
open Go.RowKit Bits
theorem FV {w:World}{e b:Option Addr}{g n d l:Nat}{p o:List Int}(t:TypeId)(j:JA w e g n p)(y:JA w b d l o)(B:g<=100000)(A:d<=100000)(v:∀a,e=some a->a.block<w.heap.size)(s:∀a,b=some a->a.block<w.heap.size):
 XY (w.alloc (.cells #[.slice e g n,.slice b d l] t)) (w.alloc (.cells #[.slice e g n,.slice b d l] t)).heap.size w.heap.size 2 [p,o]:=by
 have u:=WP w (.cells #[.slice e g n,.slice b d l] t);have r:Below w.heap.size w (w.alloc (.cells #[.slice e g n,.slice b d l] t)):=Below.all (Jc _ _) _;refine⟨rfl,by simp,λJ z=>?_⟩;rw[WN _ _ J _ _ (0,0) u];rcases J with _|_|J
 ·exact⟨_,_,_,rfl,j.below r,O,λa ha=>by have:=v a ha;simp;omega⟩
 ·exact⟨_,_,_,rfl,y.below r,O,λa ha=>by have:=s a ha;simp;omega⟩
 ·simp at z;omega
theorem JA.lt {w:World}{b:Option Addr}{n o:Nat}{l:List Int}(h:JA w b n o l)(B:0<n):∀a,b=some a->a.block<w.heap.size:=by
 intro a ha;obtain⟨g,e,rfl,d,-⟩:=h.here B;cases ha;exact d
def Bs (w:World)(b:List Int):Ending->World->Prop:=λe d=>∃s o,e=.returned (.tuple #[.slice s b.length o,true])/\J8 d w.heap.size 1 s b.length o (b.map (.int .u8))/\Ji w d
theorem GR (p n:Int)(U E:Option Addr)(W T:Nat)(d b:List Int)(w:World)(j:JA w U 4 W d)(y:JA w E 4 T b)(ag:Jm p)(ao:Jn n):
 Jf 139 #[p,Jk n,.slice U 4 W,.slice E 4 T] w (Bs w (Qh p n d b)):=by
 have I:WrK (w.alloc (.cells #[Jbo] 137)) w.heap.size (λ_=>False) []:=by
  refine WrK.new ?_ ?_ ?_ ?_
  ·simp
  ·simp
  ·simp
  ·intro ax g;cases g
 have N:=H I;have o:Below w.heap.size w (w.alloc (.cells #[Jbo] 137)):=Below.all (Jc _ _) _;have V:=FV 22 (j.below o) (y.below o) D D (λa ha=>by have:=j.lt D a ha;simp;omega) (λa ha=>by have:=y.lt D a ha;simp;omega);have Q:=H V;have J:=j.len;have ai:=y.len;have G:=H o;have av:p<256:=ag.2;have ah:Hid (∀v∈d++b,Jm v):=H (λv r=>by rcases Ye.1 r with h|h;exact j.byte v h;exact y.byte v h);clear I o V j y;go_enter func139,ntmps139
 go_wp2_with fail
 refine Jb (ES _ 2 2 _ _ (by simpa using Q.out) D) ?_;rintro e w2 ⟨aA,ar,rfl,s,g⟩;rw[show[d,b].flatten=d++b by simp] at s|-;have u:=s.reads ah;have l:Hid ((d++b).length=8):=H (by rw[WV,J,ai]);rw[l.out] at u;have C:=Wx (Below.all (Jc (w.alloc (.cells #[Jbo] 137)).heap.size _) _) g;have L:=H (N.below C);have Y:=H (Wx G C);have F:=H u;clear s g C u Q N G;go_wp2_with fail
 refine Jb (A4 _ _ _ _ _ _ _ w2 L F (by rw[l.out];simp)) ?_;rintro e az ⟨rfl,B,S,-⟩;rw[Jah] at B;have ae:=H B;have ad:=H (Y.trans S);clear B S F L Y;go_wp2_with fail
 refine Jb (ae.puts 1 D (Below.all (Jc _ _) _) _ (by simp) [0,p] 2 rfl _ (WP _ _) ?_ D (by rw[l.out];decide)) ?_
 ·intro v r;simp only[YE,YF,YG] at r;unfold GQ;simp only[YW];omega
 rintro e w4 ⟨rfl,z,Z,-⟩;rw[show Q9 1 [0,p]=[0,p] from rfl] at z;have X:=H z;have M:=H (ad.trans Z);clear z Z ae ad;go_wp2_with fail
 refine Jb (Ek 2 D _ _ _ n ao.1 (by unfold GQ;simp;omega) w4 X (by rw[WV,l.out];simp)) ?_;rintro e am ⟨rfl,A,ac,-⟩;rw[show Ib 2 n=be2 n from rfl] at A;have aq:=H A;have t:=H (M.trans ac);clear A ac X M;by_cases aa:p=1
 ·subst aa;go_wp2_with fail
  go_ret2;exact⟨none,0,rfl,J8.nil _ _ _,t.out⟩
 ·have al:Hid (Qh p n d b=d++b++[0,p]++be2 n):=H (by unfold Qh;rw[Yw aa,YH J]);have ap:Hid ((d++b++[0,p]++be2 n).length<=1000000):=H (by rw[WV,WV,l.out];simp[be2]);generalize d++b++[0,p]++be2 n=aj at*;go_wp2_with fail
  have af:=H aq.wr;refine Jb (Bits.bytes_any _ aj am af ap) ?_;rintro e au ⟨aw,ay,rfl,ab,R⟩;have ak:=H (ab.mono t.size);have an:=H (Wx t R);clear ab R;go_wp2_with fail
  go_ret2;rw[al.out];exact⟨_,_,rfl,ak.out,an.out⟩
theorem Ic (p n:Int)(T C:Option Addr)(V S:Nat)(d b:List Int)(w:World)(j:JA w T 16 V d)(y:JA w C 16 S b)(E:Jm p)(ap:Jn n):
 Jf 139 #[p,Jk n,.slice T 16 V,.slice C 16 S] w (Bs w (Qh p n d b)):=by
 have I:WrK (w.alloc (.cells #[Jbo] 137)) w.heap.size (λ_=>False) []:=by
  refine WrK.new ?_ ?_ ?_ ?_
  ·simp
  ·simp
  ·simp
  ·intro ay g;cases g
 have M:=H I;have o:Below w.heap.size w (w.alloc (.cells #[Jbo] 137)):=Below.all (Jc _ _) _;have U:=FV 22 (j.below o) (y.below o) D D (λa ha=>by have:=j.lt D a ha;simp;omega) (λa ha=>by have:=y.lt D a ha;simp;omega);have N:=H U;have af:=j.len;have ai:=y.len;have G:=H o;have aw:p<256:=E.2;have ah:Hid (∀v∈d++b,Jm v):=H (λv ae=>by rcases Ye.1 ae with h|h;exact j.byte v h;exact y.byte v h);clear I o U j y;go_enter func139,ntmps139
 go_wp2_with fail
 refine Jb (ES _ 2 2 _ _ (by simpa using N.out) D) ?_;rintro e w2 ⟨aA,au,rfl,r,g⟩;rw[show[d,b].flatten=d++b by simp] at r|-;have u:=r.reads ah;have l:Hid ((d++b).length=32):=H (by rw[WV,af,ai]);rw[l.out] at u;have B:=Wx (Below.all (Jc (w.alloc (.cells #[Jbo] 137)).heap.size _) _) g;have J:=H (M.below B);have X:=H (Wx G B);have F:=H u;clear r g B u N M G;go_wp2_with fail
 refine Jb (A4 _ _ _ _ _ _ _ w2 J F (by rw[l.out];simp)) ?_;rintro e am ⟨rfl,A,R,-⟩;rw[Jah] at A;have ad:=H A;have ac:=H (X.trans R);clear A R F J X;go_wp2_with fail
 refine Jb (Ek 4 D _ _ _ n ap.1 (by unfold GQ;simp;omega) am ad (by rw[l.out];decide)) ?_;rintro e w4 ⟨rfl,t,Y,-⟩;rw[show Ib 4 n=be4 n from rfl] at t;have W:=H t;have L:=H (ac.trans Y);clear t Y ad ac;go_wp2_with fail
 refine Jb (Ek 4 D _ _ _ p E.1 (by unfold GQ;simp;omega) w4 W (by rw[WV,l.out];simp[be4])) ?_;rintro e an ⟨rfl,z,ab,-⟩;rw[show Ib 4 p=be4 p from rfl] at z;have ar:=H z;have s:=H (L.trans ab);clear z ab W L;by_cases Z:p=1
 ·subst Z;go_wp2_with fail
  go_ret2;exact⟨none,0,rfl,J8.nil _ _ _,s.out⟩
 ·have al:Hid (Qh p n d b=d++b++be4 n++be4 p):=H (by unfold Qh;rw[Yw Z,Yw O];simp only[be4,be2];rw[show n/16777216%256=0 from O,show n/65536%256=0 from O,show p/16777216%256=0 from O,show p/65536%256=0 from O,show p/256%256=0 from O,show p%256=p from O];simp);have aq:Hid ((d++b++be4 n++be4 p).length<=1000000):=H (by rw[WV,WV,l.out];simp[be4]);generalize d++b++be4 n++be4 p=aj at*;go_wp2_with fail
  have ag:=H ar.wr;refine Jb (Bits.bytes_any _ aj an ag aq) ?_;rintro e av ⟨ax,az,rfl,aa,Q⟩;have ak:=H (aa.mono s.size);have ao:=H (Wx s Q);clear aa Q;go_wp2_with fail
  go_ret2;rw[al.out];exact⟨_,_,rfl,ak.out,ao.out⟩
open Go.RowKit Bits
theorem Jdj{p:Prop}(h:p:=by
 go_wp2_with fail
 refine Jag (Nq rfl _ _ (w.heap.size+1) _ _ (0,0) rfl (BI w _ _) rfl) rfl ?_;exact .mk rfl (Below.all (Below.all (Jc _ _) _) _)):p:=h
theorem Jem{p:Prop}(h:p:=by
 go_enter func138,ntmps138
 go_wp2_with fail
 go_ret;exact .mk (by simp) (Below.all (Below.all (Jc _ _) _) _)):p:=h
theorem Ie (s:Option Addr)(n o:Nat)(l:List Int)(w:World)(u:JA w s n o l):Jf 220 #[.slice s n o,.slice s n o] w (Jz w (.bool true)):=by
 have a:(convert 22 9 (.slice s n o)).run prog w=.ok (.string (strOfNums l)) w:=Qm 22 5 underlying22 underlying5 u 9 underlying9;go_enter func220,ntmps220
 go_wp2_with fail
 go_ret;exact .mk (by simp) (Jc _ _)
theorem Z4 (h G:Int)(f r T:Value)(p a b g j l:Int)(d:Option Addr)(n e:Nat)(w:World)(o:0<=h/\h<100)(B:n<=1000000):
 Jf 138 #[.agg #[Jk h,Jk G,f,r,T],.agg (X0 p a b g j l d n e)] w (Jz w (Jk (h+n))):=by
 unfold X0;exact Jem
theorem GS (p a b r t s:Int)(d:Option Addr)(n o:Nat)(l:List Int)(w:World)(u:JA w d n o l):
 Jf 195 #[.agg (X0 p a b r t s d n o),.agg (X0 p a b r t s d n o)] w (Jz w (.bool true)):=by
 unfold X0;have A:=H u;clear u;go_enter func195,ntmps195
 go_wp2_with fail
 refine Jb (Ie none 0 0 [] _ (JA.nil _)) ?_;rintro e w2 ⟨rfl,g⟩;have B:=H ((g.block w.heap.size (by simp;omega)).trans ((YU _ _ (by simp)).trans (WP w _)));have z:=H ((g.block (w.heap.size+1) (by simp)).trans (BI w _ _));have v:=H (Wx (Below.all (Below.all (Jc w.heap.size w) (.cells (Jbz p (Jl a) (Jl b) r t s (.slice d n o)) 149)) (.cells (Jbz p (Jl a) (Jl b) r t s (.slice d n o)) 149)) g);clear g;have j:Jg w2 w.heap.size 11 (.slice d n o):=WF 11 B;have y:Jg w2 (w.heap.size+1) 11 (.slice d n o):=WF 11 z;go_wp2_with fail
 refine Jb (Ie d n o l w2 (A.below v)) ?_;rintro e E ⟨rfl,g⟩;have C:=H (Wx v g);clear g j y;go_wp2_with fail
 go_ret;exact .mk rfl C
theorem Nq {d:Func}{q:Tmp}(h:d.results=#[.cell q 149])(a:Array Value)(w:World)(b:Nat)(S:Array Value)(t:TypeId)(e:Nat×Nat)(E:a.getD q undef=.pointer (some ⟨b,0,none⟩))(I:w.heap[b]? =some (.cells S t e))(z:S.size=12):
 (results d a).run prog w=.ok (.agg S) w:=by
 have:=XO h a w b 12 _ underlying149 rfl N5 E S (Ju I z) z;exact this
theorem Pd (p a b g:Int)(d:Option Addr)(n e:Nat)(w:World):
 Jf 184 #[.agg (X0 p a b g 0 0 d n e)] w (Jz w (.agg (X0 p a b g 0 0 d n e))):=by
 unfold X0;go_enter func184,ntmps184
 exact Jdj
theorem Pe (p a b g j l:Int)(d:Option Addr)(n e:Nat)(w:World):
 Jf 187 #[.agg (X0 p a b g j l d n e)] w (Jz w (.agg (X0 0 a b 0 0 0 none 0 0))):=by
 unfold X0;go_enter func187,ntmps187
 exact Jdj
theorem Pf (p a b l d e:Int)(g:Option Addr)(n j:Nat)(w:World):
 Jf 181 #[.agg (X0 p a b l d e g n j)] w (Jz w (.agg (X0 0 0 0 0 d e none 0 0))):=by
 unfold X0;go_enter func181,ntmps181
 exact Jdj
end
end Go.Proofs.YtkgjbipfhhjlpaaGreatDoor
