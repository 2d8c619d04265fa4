import Derived.Test.YtkgjbipfhhjlpaaGreatDoorMb1
import Derived.Laws.CopyOwn
set_option linter.unusedVariables false
set_option linter.unusedSimpArgs false
set_option maxRecDepth 100000
set_option maxHeartbeats 32000000
namespace Go.Proofs.YtkgjbipfhhjlpaaGreatDoor
section
open Go.RowKit
def Jf (w:World)(b off n:Nat):Array Value:=match w.heap[b]? with
 |some (.cells cs _ _)=>cs.extract off (off+n)
 |_=>#[]
def Jg (w:World)(b n:Nat):Bool:=match w.heap[b]? with
 |some (.cells cs _ fr)=>cs.size==n&&fr==(0,0)
 |_=>false
def Jfz (w:World)(n:Nat):Value→Array Value
 | .pointer (some ⟨b,off,none⟩)=>Jf w b off n
 |_=>#[]
def Jic (w:World)(n:Nat):Value→Bool
 | .pointer (some ⟨b,0,none⟩)=>Jg w b n
 |_=>false
def JfA:Value→Nat
 | .pointer (some ⟨b,_,_⟩)=>b
 |_=>0
def JfB:Value→Array Value
 | .agg cs=>cs
 |_=>#[]
def Z3 (n:Nat):Value→Bool
 | .agg cs=>cs.size==n&&cs.all (·.oneCell')
 |_=>false
theorem Jid (w:World)(n b off:Nat):Jfz w n (.pointer (some ⟨b,off,none⟩))=Jf w b off n:=rfl
theorem Jie (w:World)(n b:Nat):Jic w n (.pointer (some ⟨b,0,none⟩))=Jg w b n:=rfl
theorem JgO (a:Addr):JfA (.pointer (some a))=a.block:=rfl
theorem JgP (cs:Array Value):JfB (.agg cs)=cs:=rfl
theorem Qk (n:Nat)(cs:Array Value):Z3 n (.agg cs)=(cs.size==n&&cs.all (·.oneCell')):=rfl
attribute [go_sem] Jid Jie JgO JgP Qk
theorem JjM (w:World)(b off n:Nat)(cs:Array Value)(t:TypeId)(fr:Nat×Nat)(h:b=w.heap.size):Jf (w.alloc (.cells cs t fr)) b off n=cs.extract off (off+n):=by
 subst h;unfold Jf;rw[heap_alloc_new]
theorem Je2 (w:World)(b off n:Nat)(o:Obj)(h:b<w.heap.size):Jf (w.alloc o) b off n=Jf w b off n:=by
 unfold Jf;rw[heap_alloc_old _ _ h]
theorem Jif (w:World)(b off n:Nat):Jf w.drew b off n=Jf w b off n:=rfl
theorem QD {B:Nat}{w w':World}(hb:Below B w w')(b off n:Nat)(h:b<B):Jf w' b off n=Jf w b off n:=by
 unfold Jf;rw[hb.block _ h]
theorem Jz.part {w:World}(x:Jz w)(b off n:Nat)(h:b<w.heap.size):Jf x.world b off n=Jf w b off n:=QD x.below b off n h
theorem Jq (w:World)(b off n:Nat)(cs:Array Value)(t:TypeId)(fr:Nat×Nat)(h:w.heap[b]? =some (.cells cs t fr)):Jf w b off n=cs.extract off (off+n):=by
 unfold Jf;rw[h]
attribute [go_sem] JjM Je2 Jif Jz.part
theorem Jig (w:World)(b n:Nat)(cs:Array Value)(t:TypeId)(h:b=w.heap.size):Jg (w.alloc (.cells cs t)) b n=(cs.size==n):=by
 subst h;unfold Jg;rw[heap_alloc_new];simp
theorem Jih (w:World)(b n:Nat)(o:Obj)(h:b<w.heap.size):Jg (w.alloc o) b n=Jg w b n:=by
 unfold Jg;rw[heap_alloc_old _ _ h]
theorem JgQ (w:World)(b n:Nat):Jg w.drew b n=Jg w b n:=rfl
theorem Jc (w:World)(b n:Nat)(cs:Array Value)(t:TypeId)(h:w.heap[b]? =some (.cells cs t (0,0))):Jg w b n=(cs.size==n):=by
 unfold Jg;rw[h];simp
theorem JdE (w:World)(b n:Nat)(a:Addr)(v:Value):Jg (w.setCell a v) b n=Jg w b n:=by
 by_cases h:b=a.block
 ·subst h
  unfold Jg World.setCell
  simp only[Array.getElem?_modify,if_true]
  cases w.heap[a.block]? with
  |none=>rfl
  |some o=>
   cases o<;>simp<;>(try cases a.spot)<;>simp
 ·unfold Jg;rw[heap_setCell_other _ _ _ _ h]
attribute [go_sem] Jig Jih JgQ JdE
theorem JjN (w:World)(b:Nat)(c c':Array Value)(t:TypeId)(h:b=w.heap.size):(w.alloc (.cells c t)).setRow b c'=w.alloc (.cells c' t):=by
 subst h
 simp only[World.setRow,World.alloc]
 congr 1
 apply Array.ext_getElem?
 intro i
 rw[Array.getElem?_modify]
 by_cases h:w.heap.size=i
 ·subst h;simp
 ·have h':¬i=w.heap.size:=fun e=>h e.symm
  simp[h,h',Array.getElem?_push]
theorem JjO (w:World)(b:Nat)(o:Obj)(c':Array Value)(h:b<w.heap.size):(w.alloc o).setRow b c'=(w.setRow b c').alloc o:=by
 simp only[World.setRow,World.alloc]
 congr 1
 apply Array.ext_getElem?
 intro i
 rw[Array.getElem?_modify]
 by_cases hb:b=i
 ·subst hb
  rw[Array.getElem?_push,Array.getElem?_push]
  have e:b≠w.heap.size:=by omega
  simp[e,Array.getElem?_modify]
 ·rw[Array.getElem?_push,Array.getElem?_push]
  simp[hb,Array.getElem?_modify]
attribute [go_sem] JjN JjO setRow_size setRow_tape setRow_os setRow_output setRow_drawn
section
variable {P:Program}
theorem Qp (w:World)(b off n ty:Nat)(d:TypeDesc)(hu:P.underlying ty=some d)(hd:(match d with| .struct _| .array _ _=>true|_=>false)=true)(hi:(P.info? ty).map (·.size)=some n)
 (hs:(Jf w b off n).size=n):(loadVar ty ⟨b,off,none⟩).run P w=.ok (.agg (Jf w b off n)) w:=by
 rcases Nat.eq_zero_or_pos n with h0|hn
 ·subst h0
  have hl:(loadCells ⟨b,off,none⟩ 0).run P w=.ok #[] w:=by simpa using run_loadCells_list (P:=P) w ⟨b,off,none⟩ [] (by simp)
  have he:Jf w b off 0=#[]:=Array.eq_empty_of_size_eq_zero hs
  have hagg:(isAgg ty).run P w=.ok true w:=by
   unfold isAgg
   rw[Sem.run_bind,run_underlying hu w]
   cases d<;>simp_all
  cases hq:P.info? ty with
  |none=>simp[hq] at hi
  |some i=>
   have hz:i.size=0:=by simpa[hq] using hi
   simp[loadVar,Sem.run_bind,hagg,sizeOf,typeInfo,hq,hz,hl,he]
 ·have hl:(loadCells ⟨b,off,none⟩ (Jf w b off n).toList.length).run P w=.ok (Jf w b off n).toList.toArray w:=by
   refine run_loadCells_list (P:=P) w ⟨b,off,none⟩ _ (fun j v hv=>?_)
   rw[Addr.add_lit]
   rw[Array.getElem?_toList] at hv
   have hj:j<(Jf w b off n).size:=(Jpb hv).1
   unfold Jf at hv hj
   unfold World.cell?
   cases hh:w.heap[b]? with
   |none=>rw[hh] at hv;simp at hv
   |some o=>
    rw[hh] at hv hj
    cases o with
    |cells cs t fr=>
     simp only at hv hj⊢
     rw[Array.getElem?_extract] at hv
     split at hv
     ·simpa using hv
     ·cases hv
    |_=>simp at hv
  have hagg:(isAgg ty).run P w=.ok true w:=by
   unfold isAgg
   rw[Sem.run_bind,run_underlying hu w]
   cases d<;>simp_all
  rw[Array.length_toList,hs,Array.toArray_toList] at hl
  cases hq:P.info? ty with
  |none=>simp[hq] at hi
  |some i=>
   have hz:i.size=n:=by simpa[hq] using hi
   simp[loadVar,Sem.run_bind,hagg,sizeOf,typeInfo,hq,hz,hl]
theorem JN (ev:Operand→Value)(w:World)(dst:Option Tmp)(t:TypeId)(pos:String)(after:Array Edge)(g:Option (Nat×Bool))(x:Operand)(ty n:Nat)(d:TypeDesc)
 (hu:P.underlying ty=some d)(hd:(match d with| .struct _| .array _ _=>true|_=>false)=true)(hi:(P.info? ty).map (·.size)=some n)(hn:0<n)
 (hs:(Jfz w n (ev x)).size=n):(execOp ev ⟨dst,.load ty x,t,pos,after,g⟩).run P w=.ok (.value (.agg (Jfz w n (ev x)))) w:=by
 generalize hv:ev x=v at hs
 unfold Jfz at hs⊢
 split at hs
 ·rename_i b off
  have:=Qp (P:=P) w b off n ty d hu hd hi hs
  simp[execOp,hv,Instr.loadAt,Instr.sureAddr,this,Result.andThen]
 ·simp at hs;omega
theorem JL (ev:Operand→Value)(w:World)(dst:Option Tmp)(t:TypeId)(pos:String)(after:Array Edge)(g:Option (Nat×Bool))(x y:Operand)(ty n:Nat)
 (hi:(P.info? ty).map (·.size)=some n)(hx:Jic w n (ev x)=true)(hy:Z3 n (ev y)=true):
 (execOp ev ⟨dst,.store ty x y,t,pos,after,g⟩).run P w=.ok .skip (w.setRow (JfA (ev x)) (JfB (ev y))):=by
 generalize hv:ev x=v at hx
 generalize hu:ev y=u at hy
 unfold Jic at hx
 unfold Z3 at hy
 split at hx
 ·rename_i b
  split at hy
  ·rename_i cs
   obtain⟨hc,h1⟩:=Bool.and_eq_true_iff.1 hy
   have hc:cs.size=n:=by simpa using hc
   unfold Jg at hx
   split at hx
   ·rename_i old t' fr hg
    obtain⟨ho,hf⟩:=Bool.and_eq_true_iff.1 hx
    have ho:old.size=n:=by simpa using ho
    obtain rfl:fr=(0,0):=by simpa using hf
    have:=run_storeVar_row (P:=P) w b t' ty old cs hg (by rw[hi,hc]) (by omega) h1
    simp[execOp,hv,hu,Instr.storeAt,Instr.sureAddr,this,Result.andThen,JfA,JfB]
   ·cases hx
  ·cases hy
 ·cases hx
theorem Qi {fn:Func}{p q:Tmp}{ty:TypeId}(h:fn.results=#[.cell p ty,.tmp q])(tmps:Array Value)(w:World)(b n:Nat)(d:TypeDesc)(v:Value)
 (hu:P.underlying ty=some d)(hd:(match d with| .struct _| .array _ _=>true|_=>false)=true)(hi:(P.info? ty).map (·.size)=some n)
 (hp:tmps.getD p undef=.pointer (some ⟨b,0,none⟩))(hq:tmps.getD q undef=v)(cs:Array Value)(hc:Jf w b 0 n=cs)(hs:cs.size=n):
 (results fn tmps).run P w=.ok (.tuple #[.agg cs,v]) w:=by
 subst hc
 have hp':tmps[p]?.getD undef=.pointer (some ⟨b,0,none⟩):=by simpa using hp
 have hq':tmps[q]?.getD undef=v:=by simpa using hq
 simp[results,h,hp',hq',asAddr,Qp w b 0 n ty d hu hd hi hs]
theorem XH {fn:Func}{p:Tmp}{ty:TypeId}(h:fn.results=#[.cell p ty])(tmps:Array Value)(w:World)(b n:Nat)(d:TypeDesc)
 (hu:P.underlying ty=some d)(hd:(match d with| .struct _| .array _ _=>true|_=>false)=true)(hi:(P.info? ty).map (·.size)=some n)
 (hp:tmps.getD p undef=.pointer (some ⟨b,0,none⟩))(cs:Array Value)(hc:Jf w b 0 n=cs)(hs:cs.size=n):
 (results fn tmps).run P w=.ok (.agg cs) w:=by
 subst hc
 have hp':tmps[p]?.getD undef=.pointer (some ⟨b,0,none⟩):=by simpa using hp
 simp[results,h,hp',asAddr,Qp w b 0 n ty d hu hd hi hs]
end
def Qz (P:Program)(ty:TypeId)(w:World)(v:Value):Result Next:=(execOp (fun _=>v) ⟨none,.load ty (.const v),0,"",#[],none⟩).run P w
def Xf (P:Program)(ty:TypeId)(w:World)(v u:Value):Result Next:=(execOp (fun o=>match o with| .tmp 0=>v|_=>u) ⟨none,.store ty (.tmp 0) (.tmp 1),0,"",#[],none⟩).run P w
theorem Ql (P:Program)(ev:Operand→Value)(w:World)(dst:Option Tmp)(t:TypeId)(pos:String)(after:Array Edge)(g:Option (Nat×Bool))(x:Operand)(ty:TypeId):
 (execOp ev ⟨dst,.load ty x,t,pos,after,g⟩).run P w=Qz P ty w (ev x):=by simp only[Qz,execOp]
theorem Qc (P:Program)(ev:Operand→Value)(w:World)(dst:Option Tmp)(t:TypeId)(pos:String)(after:Array Edge)(g:Option (Nat×Bool))(x y:Operand)(ty:TypeId):
 (execOp ev ⟨dst,.store ty x y,t,pos,after,g⟩).run P w=Xf P ty w (ev x) (ev y):=by simp only[Xf,execOp]
def ZP:List Value→Bool
 |[]=>true
 |v::r=>v.oneCell'&&ZP r
theorem QE:∀l:List Value,ZP l=true→l.all (·.oneCell')=true
 |[],_=>rfl
 |v::r,h=>by
  rw[ZP,Bool.and_eq_true] at h
  rw[List.all_cons,h.1,QE r h.2];rfl
theorem Jmj:ZP []=true:=rfl
theorem Jmk (k:IntKind)(n:Int)(r:List Value):ZP (.int k n::r)=ZP r:=by rw[ZP];rfl
theorem JkP (b:Bool)(r:List Value):ZP (.bool b::r)=ZP r:=by rw[ZP];rfl
theorem Jii (b:ByteArray)(r:List Value):ZP (.string b::r)=ZP r:=by rw[ZP];rfl
attribute [go_sem] Jmj Jmk JkP Jii
theorem JfC (ev:Operand→Value)(w:World)(dst:Option Tmp)(t:TypeId)(pos:String)(after:Array Edge)(g:Option (Nat×Bool))(x:Operand):(execOp ev ⟨dst,.load 25 x,t,pos,after,g⟩).run Tryz.prog w=Qz Tryz.prog 25 w (ev x):=Ql _ ev w dst t pos after g x _
theorem JgR (w:World)(b off:Nat)(hs:(Jf w b off 16).size=16):Qz Tryz.prog 25 w (.pointer (some ⟨b,off,none⟩))=.ok (.value (.agg (Jf w b off 16))) w:=
 JN _ w none 0 "" #[] none _ _ 16 _ Tryz.underlying25 rfl (by kernel_rfl) (by decide) hs
theorem JgS (ev:Operand→Value)(w:World)(dst:Option Tmp)(t:TypeId)(pos:String)(after:Array Edge)(g:Option (Nat×Bool))(x:Operand):(execOp ev ⟨dst,.load 27 x,t,pos,after,g⟩).run Tryz.prog w=Qz Tryz.prog 27 w (ev x):=Ql _ ev w dst t pos after g x _
theorem Jij (w:World)(b off:Nat)(hs:(Jf w b off 17).size=17):Qz Tryz.prog 27 w (.pointer (some ⟨b,off,none⟩))=.ok (.value (.agg (Jf w b off 17))) w:=
 JN _ w none 0 "" #[] none _ _ 17 _ Tryz.underlying27 rfl (by kernel_rfl) (by decide) hs
theorem JfD (ev:Operand→Value)(w:World)(dst:Option Tmp)(t:TypeId)(pos:String)(after:Array Edge)(g:Option (Nat×Bool))(x y:Operand):(execOp ev ⟨dst,.store 27 x y,t,pos,after,g⟩).run Tryz.prog w=Xf Tryz.prog 27 w (ev x) (ev y):=Qc _ ev w dst t pos after g x y _
theorem JgT (w:World)(b:Nat)(cs:Array Value)(hx:Jg w b 17=true)(hs:cs.size=17)(h1:ZP cs.toList=true):Xf Tryz.prog 27 w (.pointer (some ⟨b,0,none⟩)) (.agg cs)=.ok .skip (w.setRow b cs):=
 JL _ w none 0 "" #[] none _ _ _ 17 (by kernel_rfl) hx (by show Z3 _ (.agg cs)=true;rw[Qk,←Array.all_toList,QE _ h1,hs];simp)
theorem JfE (ev:Operand→Value)(w:World)(dst:Option Tmp)(t:TypeId)(pos:String)(after:Array Edge)(g:Option (Nat×Bool))(x:Operand):(execOp ev ⟨dst,.load 36 x,t,pos,after,g⟩).run Tryz.prog w=Qz Tryz.prog 36 w (ev x):=Ql _ ev w dst t pos after g x _
theorem JgU (w:World)(b off:Nat)(hs:(Jf w b off 17).size=17):Qz Tryz.prog 36 w (.pointer (some ⟨b,off,none⟩))=.ok (.value (.agg (Jf w b off 17))) w:=
 JN _ w none 0 "" #[] none _ _ 17 _ Tryz.underlying36 rfl (by kernel_rfl) (by decide) hs
theorem JeA (ev:Operand→Value)(w:World)(dst:Option Tmp)(t:TypeId)(pos:String)(after:Array Edge)(g:Option (Nat×Bool))(x y:Operand):(execOp ev ⟨dst,.store 36 x y,t,pos,after,g⟩).run Tryz.prog w=Xf Tryz.prog 36 w (ev x) (ev y):=Qc _ ev w dst t pos after g x y _
theorem JfF (w:World)(b:Nat)(cs:Array Value)(hx:Jg w b 17=true)(hs:cs.size=17)(h1:ZP cs.toList=true):Xf Tryz.prog 36 w (.pointer (some ⟨b,0,none⟩)) (.agg cs)=.ok .skip (w.setRow b cs):=
 JL _ w none 0 "" #[] none _ _ _ 17 (by kernel_rfl) hx (by show Z3 _ (.agg cs)=true;rw[Qk,←Array.all_toList,QE _ h1,hs];simp)
attribute [go_sem ↓] JfC JgS JfD JfE JeA
attribute [go_sem] JgR Jij JgT JgU JfF
end
section
open Go.RowKit
def adV (six:Bool)(B:Nat→Int):Value:=.agg (Jpm six B)
def U8 (B:Nat→Int):Prop:=∀i,0≤B i∧B i<256
def JfG (six:Bool):Int:=if six then 16 else 4
theorem JaW (six:Bool)(B:Nat→Int)(w:World):Calls Tryz.prog 123 #[adV six B] w (Jh w (.int .i64 (JfG six))):=by
 unfold adV
 cases six
 all_goals
  go_enter Tryz.func123,Tryz.ntmps123
  go_wp2_with fail
  go_ret
  exact .mk rfl (Below.all (Jpd _ _) _)
def eqL:List Int→List Int→Bool
 |[],[]=>true
 |x::l,y::m=>if x==y then eqL l m else false
 |_,_=>false
theorem JfH:∀(l m:List Int),eqL l m=true↔l=m
 |[],[]=>by simp[eqL]
 |x::l,y::m=>by
  rw[eqL]
  by_cases h:x=y
  ·subst h;simp[JfH l m]
  ·simp[h]
 |[],y::m=>by simp[eqL]
 |x::l,[]=>by simp[eqL]
def b16 (B:Nat→Int):List Int:=[B 0,B 1,B 2,B 3,B 4,B 5,B 6,B 7,B 8,B 9,B 10,B 11,B 12,B 13,B 14,B 15]
theorem JkQ (B:Nat→Int)(i:Nat)(h:i<16):(b16 B)[i]? =some (B i):=by
 unfold b16
 rcases i with _|_|_|_|_|_|_|_|_|_|_|_|_|_|_|_|i
 all_goals first|rfl|omega
theorem JnY {B C:Nat→Int}:b16 B=b16 C↔∀i,i<16→B i=C i:=by
 constructor
 ·intro h i hi
  have:=JkQ B i hi
  rw[h,JkQ C i hi] at this
  exact(Option.some.inj this).symm
 ·intro h
  unfold b16
  simp[h]
theorem JeB (w:World)(d:Nat)(x0 x1 x2 x3 x4 x5 x6 x7 x8 x9 x10 x11 x12 x13 x14 x15 y0 y1 y2 y3 y4 y5 y6 y7 y8 y9 y10 y11 y12 y13 y14 y15:Int):
 (Op.equalIn (d+2) 25 (.agg (JpQ x0 x1 x2 x3 x4 x5 x6 x7 x8 x9 x10 x11 x12 x13 x14 x15)) (.agg (JpQ y0 y1 y2 y3 y4 y5 y6 y7 y8 y9 y10 y11 y12 y13 y14 y15))).run Tryz.prog w=.ok (eqL [x0,x1,x2,x3,x4,x5,x6,x7,x8,x9,x10,x11,x12,x13,x14,x15] [y0,y1,y2,y3,y4,y5,y6,y7,y8,y9,y10,y11,y12,y13,y14,y15]) w:=by
 have hr:List.range' 0 16=[0,1,2,3,4,5,6,7,8,9,10,11,12,13,14,15]:=by decide
 rw[Op.equalIn]
 simp only[Sem.run_bind,run_underlying Tryz.underlying25,Result.andThen_ok]
 simp[go_sem,Std.Legacy.Range.forIn_eq_forIn_range',Std.Legacy.Range.size,hr]
 simp only[eqL,beq_iff_eq]
 have hi:∀(c:Prop) [Decidable c] (a b:Bool),(Result.ok (if c then a else b) w:Result Bool)=if c then Result.ok a w else Result.ok b w:=fun c _ a b=>by split<;>rfl
 simp only[hi]
attribute [go_sem] JeB
def J6 (six:Bool)(B:Nat→Int):Bool:=six||(List.range 12).all fun i=>B (4+i)==0
theorem JdF {B:Nat→Int}:J6 false B=true↔∀i,4≤i→i<16→B i=0:=by
 unfold J6
 simp only[Bool.false_or,List.all_eq_true,List.mem_range,beq_iff_eq]
 constructor
 ·intro h i h4 h16
  have:=h (i-4) (by omega)
  rwa [show 4+(i-4)=i by omega] at this
 ·intro h i hi;exact h _ (by omega) (by omega)
theorem JkR (B:Nat→Int):eqL (b16 B) (b16 fun i=>if i<4 then B i else 0)=J6 false B:=by
 rw[Bool.eq_iff_iff,JfH,JnY,JdF]
 constructor
 ·intro h i h4 h16;have:=h i h16;rw[if_neg (by omega)] at this;exact this
 ·intro h i hi
  split
  ·rfl
  ·exact h i (by omega) hi
def JbO (n:Nat)(B:Nat→Int):List Value:=(List.range n).map fun i=>.int .u8 (B i)
theorem JaX (n:Nat)(B:Nat→Int)(j:Nat)(u:Value)(h:(JbO n B)[j]? =some u):j<n∧u=.int .u8 (B j):=by
 unfold JbO at h
 rw[List.getElem?_map] at h
 by_cases hj:j<n
 ·rw[List.getElem?_range hj] at h
  exact⟨hj,by simpa using h.symm⟩
 ·rw[List.getElem?_eq_none (by simpa using hj)] at h;cases h
theorem XA (n:Nat)(B:Nat→Int):(JbO n B).length=n:=by simp[JbO]
theorem JaY (n:Nat)(B:Nat→Int):∀u∈JbO n B,u.oneCell'=true:=by
 intro u hu
 obtain⟨i,-,rfl⟩:=List.mem_map.1 hu
 rfl
theorem Jik {w:World}{b:Nat}{s:Bool}{B:Nat→Int}(h:∀j,w.cell? ⟨b,j,none⟩=((Jpm s B):Array Value)[j]?)(j:Nat)(hj:j<16):w.cell? ⟨b,1+j,none⟩=some (.int .u8 (B j)):=by
 rw[h]
 rcases j with _|_|_|_|_|_|_|_|_|_|_|_|_|_|_|_|j
 all_goals first|rfl|omega
theorem JjP (B:Nat→Int)(w:World):Calls Tryz.prog 68 #[adV false B] w (Jh w (.bool (J6 false B))):=by
 have hsz:∀w,Calls Tryz.prog 123 #[adV false B] w (Jh w (.int .i64 4)):=JaW false B
 unfold adV at hsz⊢
 go_enter Tryz.func68,Tryz.ntmps68
 go_wp2_with fail
 refine QI 5 (by kernel_rfl) (by kernel_rfl) ?_
 simp only[List.take_succ_cons,List.take_zero,List.drop_succ_cons,List.drop_zero]
 repeat go_big_quiet_step ((go_at_call 123;exact Jp (hsz _)))
 refine wpQuiet_nil ?_
 intro x
 have hA0:=(x.below.block _ (by simp;omega)).trans (heap_alloc2_old w (.cells (Jpm false B) 27) (.cells Jp6 25))
 have hP0:=(x.below.block _ (by simp)).trans (heap_alloc2_new w (.cells (Jpm false B) 27) (.cells (List.replicate 16 (Value.int .u8 0)).toArray 25))
 have hxb:Below w.heap.size w x.world:=Jo2 (Below.all (Below.all (Jpd _ _) _) _)
 have hxs:w.heap.size+1<x.world.heap.size:=by have:=x.below.size;simp at this;omega
 refine wpList_copy_splice rfl (.tmp 6) (.tmp 8) 22 22 rfl 5 Tryz.underlying22 (by kernel_rfl) (some ⟨w.heap.size+1,0,none⟩) (some ⟨w.heap.size,1,none⟩) 4 16 16 16 rfl rfl (w.heap.size+1) 0
  (List.replicate 16 (.int .u8 0)) 25 hP0 (JbO 4 B) (XA _ _) (fun _=>⟨rfl,_,rfl,fun j v hv=>?_⟩) (by rw[XA];decide) (JaY _ _) (w.heap.size+1) x.world (Jpd _ _) (Jpf _) ?_
 ·obtain⟨hj,rfl⟩:=JaX _ _ _ _ hv
  rw[Addr.add_lit]
  exact Jik (fun j=>cell_of_row _ _ j _ _ (0,0) hA0) j (by omega)
 intro w' hg hb
 have hA1:=(hb.block _ (by simp)).trans hA0
 have hP1:w'.heap[w.heap.size+1]? =some (.cells (Jp7 B) 25 (0,0)):=hg.out
 have hA:Jf w' w.heap.size 1 16=(JpR B:Array Value):=by rw[Jq _ _ _ _ _ _ _ hA1];simp
 have hP:Jf w' (w.heap.size+1) 0 16=(Jp7 B:Array Value):=by rw[Jq _ _ _ _ _ _ _ hP1];simp
 have hB:Hid (Below w.heap.size w w'):=Jpa (hxb.trans (hb.mono (by omega)))
 clear hA0 hP0 hg hxb hxs hsz hb hA1 hP1
 go_wp2_with fail
 go_ret
 exact .mk (JK (JkR B)) hB.out
theorem JkS (B:Nat→Int)(w:World):Calls Tryz.prog 68 #[adV true B] w (Jh w (.bool (J6 true B))):=by
 have hsz:∀w,Calls Tryz.prog 123 #[adV true B] w (Jh w (.int .i64 16)):=JaW true B
 unfold adV at hsz⊢
 go_enter Tryz.func68,Tryz.ntmps68
 go_wp2_with fail
 refine QI 5 (by kernel_rfl) (by kernel_rfl) ?_
 simp only[List.take_succ_cons,List.take_zero,List.drop_succ_cons,List.drop_zero]
 repeat go_big_quiet_step ((go_at_call 123;exact Jp (hsz _)))
 refine wpQuiet_nil ?_
 intro x
 have hA0:=(x.below.block _ (by simp;omega)).trans (heap_alloc2_old w (.cells (Jpm true B) 27) (.cells Jp6 25))
 have hP0:=(x.below.block _ (by simp)).trans (heap_alloc2_new w (.cells (Jpm true B) 27) (.cells (List.replicate 16 (Value.int .u8 0)).toArray 25))
 have hxb:Below w.heap.size w x.world:=Jo2 (Below.all (Below.all (Jpd _ _) _) _)
 have hxs:w.heap.size+1<x.world.heap.size:=by have:=x.below.size;simp at this;omega
 refine wpList_copy_splice rfl (.tmp 6) (.tmp 8) 22 22 rfl 5 Tryz.underlying22 (by kernel_rfl) (some ⟨w.heap.size+1,0,none⟩) (some ⟨w.heap.size,1,none⟩) 16 16 16 16 rfl rfl (w.heap.size+1) 0
  (List.replicate 16 (.int .u8 0)) 25 hP0 (JbO 16 B) (XA _ _) (fun _=>⟨rfl,_,rfl,fun j v hv=>?_⟩) (by rw[XA];decide) (JaY _ _) (w.heap.size+1) x.world (Jpd _ _) (Jpf _) ?_
 ·obtain⟨hj,rfl⟩:=JaX _ _ _ _ hv
  rw[Addr.add_lit]
  exact Jik (fun j=>cell_of_row _ _ j _ _ (0,0) hA0) j (by omega)
 intro w' hg hb
 have hA1:=(hb.block _ (by simp)).trans hA0
 have hP1:w'.heap[w.heap.size+1]? =some (.cells (JpR B) 25 (0,0)):=hg.out
 have hA:Jf w' w.heap.size 1 16=(JpR B:Array Value):=by rw[Jq _ _ _ _ _ _ _ hA1];simp
 have hP:Jf w' (w.heap.size+1) 0 16=(JpR B:Array Value):=by rw[Jq _ _ _ _ _ _ _ hP1];simp
 have hB:Hid (Below w.heap.size w w'):=Jpa (hxb.trans (hb.mono (by omega)))
 clear hA0 hP0 hg hxb hxs hsz hb hA1 hP1
 go_wp2_with fail
 go_ret
 exact .mk (JK ((JfH _ _).2 rfl)) hB.out
theorem QF (six:Bool)(B:Nat→Int)(w:World):Calls Tryz.prog 68 #[adV six B] w (Jh w (.bool (J6 six B))):=by
 cases six
 ·exact JjP B w
 ·exact JkS B w
end
section
open Go.RowKit
structure JZ (w:World)(b:Nat)(t:TypeId)(six:Bool)(B:Nat→Int):Prop where
 heap:w.heap[b]? =some (.cells (Jpm six B) t (0,0))
theorem JZ.lt {w:World}{b:Nat}{t:TypeId}{six:Bool}{B:Nat→Int}(h:JZ w b t six B):b<w.heap.size:=(Jpb h.heap).1
theorem JZ.part {w:World}{b:Nat}{t:TypeId}{six:Bool}{B:Nat→Int}(h:JZ w b t six B):Jf w b 0 17=(Jpm six B:Array Value):=by rw[Jq _ _ _ _ _ _ _ h.heap];simp
theorem JZ.six {w:World}{b:Nat}{t:TypeId}{six:Bool}{B:Nat→Int}(h:JZ w b t six B):w.cell? ⟨b,0,none⟩=some (.bool six):=by rw[cell_of_row _ _ _ _ _ _ h.heap];rfl
theorem JZ.cell {w:World}{b:Nat}{t:TypeId}{six:Bool}{B:Nat→Int}(h:JZ w b t six B)(j:Nat)(hj:j<16):w.cell? ⟨b,1+j,none⟩=some (.int .u8 (B j)):=
 Jik (fun j=>cell_of_row _ _ j _ _ (0,0) h.heap) j hj
theorem JZ.free {w:World}{b:Nat}{t:TypeId}{six:Bool}{B:Nat→Int}(h:JZ w b t six B)(j:Nat):w.frozen? ⟨b,j,none⟩=false:=frozen_of_row _ _ _ _ _ h.heap
theorem JZ.row {w:World}{b:Nat}{t:TypeId}{six:Bool}{B:Nat→Int}(h:JZ w b t six B):Jg w b 17=true:=by rw[Jc _ _ _ _ _ h.heap];rfl
theorem JZ.keep {w w':World}{b:Nat}{t:TypeId}{six:Bool}{B:Nat→Int}(h:JZ w b t six B)(e:w'.heap[b]? =w.heap[b]?):JZ w' b t six B:=⟨e.trans h.heap⟩
theorem JZ.below {w w':World}{b:Nat}{t:TypeId}{six:Bool}{B:Nat→Int}(h:JZ w b t six B)(hb:Below w.heap.size w w'):JZ w' b t six B:=h.keep (hb.block _ h.lt)
theorem JZ.other {w:World}{b:Nat}{t:TypeId}{six:Bool}{B:Nat→Int}(h:JZ w b t six B)(a:Addr)(v:Value)(hne:b≠a.block):JZ (w.setCell a v) b t six B:=h.keep (heap_setCell_other _ _ _ _ hne)
theorem JZ.made (w:World)(t:TypeId)(six:Bool)(B:Nat→Int):JZ (w.alloc (.cells (Jpm six B) t)) w.heap.size t six B:=⟨heap_alloc_new w _⟩
theorem JZ.made0 (w:World)(t:TypeId)(six:Bool):JZ (w.alloc (.cells (JpF six) t)) w.heap.size t six (fun _=>0):=JZ.made w t six fun _=>0
theorem JZ.congr {w:World}{b:Nat}{t:TypeId}{six:Bool}{B C:Nat→Int}(h:JZ w b t six B)(e:∀i,i<16→B i=C i):JZ w b t six C:=by
 refine⟨h.heap.trans ?_⟩
 rw[e 0 (by omega),e 1 (by omega),e 2 (by omega),e 3 (by omega),e 4 (by omega),e 5 (by omega),e 6 (by omega),e 7 (by omega),e 8 (by omega),e 9 (by omega),e 10 (by omega),e 11 (by omega),e 12 (by omega),e 13 (by omega),e 14 (by omega),e 15 (by omega)]
theorem JZ.set {w:World}{b:Nat}{t:TypeId}{six:Bool}{B:Nat→Int}(h:JZ w b t six B)(j:Nat)(hj:j<16)(v:Int):JZ (w.setCell ⟨b,1+j,none⟩ (.int .u8 v)) b t six (fun i=>if i=j then v else B i):=by
 refine⟨(heap_setCell_same _ _ _ _ _ _ h.heap).trans ?_⟩
 rcases j with _|_|_|_|_|_|_|_|_|_|_|_|_|_|_|_|j
 all_goals first|rfl|omega
theorem JZ.alloc {w:World}{b:Nat}{t:TypeId}{six:Bool}{B:Nat→Int}(h:JZ w b t six B)(o:Obj):JZ (w.alloc o) b t six B:=h.below (Below.all (Jpd _ _) _)
theorem Jml {six:Bool}{B C:Nat→Int}(e:∀i,i<16→B i=C i):adV six B=adV six C:=by
 unfold adV
 rw[e 0 (by omega),e 1 (by omega),e 2 (by omega),e 3 (by omega),e 4 (by omega),e 5 (by omega),e 6 (by omega),e 7 (by omega),e 8 (by omega),e 9 (by omega),e 10 (by omega),e 11 (by omega),e 12 (by omega),e 13 (by omega),e 14 (by omega),e 15 (by omega)]
section
variable {fn:Func} {p q:Tmp}
theorem J0 (t:TypeId)(fs:Array Field)(hu:Tryz.prog.underlying t=some (.struct fs))(hi:(Tryz.prog.info? t).map (·.size)=some 17)
 (h:fn.results=#[.cell p t,.tmp q])(tmps:Array Value)(w:World)(b:Nat)(v:Value){six:Bool}{B:Nat→Int}
 (hp:tmps.getD p undef=.pointer (some ⟨b,0,none⟩))(hq:tmps.getD q undef=v)(hc:Jf w b 0 17=(Jpm six B:Array Value)):(results fn tmps).run Tryz.prog w=.ok (.tuple #[adV six B,v]) w:=
 Qi h tmps w b 17 _ v hu rfl hi hp hq _ hc rfl
end
end
section
open Go.RowKit
theorem Xa {w:World}{b n:Nat}{cs cs':Array Value}{t:TypeId}{fr:Nat×Nat}(h:w.heap[b]? =some (.cells cs t fr))(hs:cs'.size=n:=by rfl):Jf (w.setRow b cs') b 0 n=cs':=by
 rw[Jq _ _ _ _ _ _ _ (setRow_heap _ _ _ _ _ _ h)];subst hs;simp
theorem JeC (w:World)(d:Nat)(s t:Bool)(x0 x1 x2 x3 x4 x5 x6 x7 x8 x9 x10 x11 x12 x13 x14 x15 y0 y1 y2 y3 y4 y5 y6 y7 y8 y9 y10 y11 y12 y13 y14 y15:Int):
 (Op.equalIn (d+3) 27 (.agg (Jpr s x0 x1 x2 x3 x4 x5 x6 x7 x8 x9 x10 x11 x12 x13 x14 x15)) (.agg (Jpr t y0 y1 y2 y3 y4 y5 y6 y7 y8 y9 y10 y11 y12 y13 y14 y15))).run Tryz.prog w=.ok (s==t&&eqL [x0,x1,x2,x3,x4,x5,x6,x7,x8,x9,x10,x11,x12,x13,x14,x15] [y0,y1,y2,y3,y4,y5,y6,y7,y8,y9,y10,y11,y12,y13,y14,y15]) w:=by
 simp[go_sem]
 generalize eqL _ _=e
 by_cases h:s=t
 ·subst h;cases e<;>simp
 ·simp[h]
theorem JdG (w:World)(d:Nat)(s t:Bool)(x0 x1 x2 x3 x4 x5 x6 x7 x8 x9 x10 x11 x12 x13 x14 x15 y0 y1 y2 y3 y4 y5 y6 y7 y8 y9 y10 y11 y12 y13 y14 y15:Int):
 (Op.equalIn (d+3) 36 (.agg (Jpr s x0 x1 x2 x3 x4 x5 x6 x7 x8 x9 x10 x11 x12 x13 x14 x15)) (.agg (Jpr t y0 y1 y2 y3 y4 y5 y6 y7 y8 y9 y10 y11 y12 y13 y14 y15))).run Tryz.prog w=.ok (s==t&&eqL [x0,x1,x2,x3,x4,x5,x6,x7,x8,x9,x10,x11,x12,x13,x14,x15] [y0,y1,y2,y3,y4,y5,y6,y7,y8,y9,y10,y11,y12,y13,y14,y15]) w:=by
 simp[go_sem]
 generalize eqL _ _=e
 by_cases h:s=t
 ·subst h;cases e<;>simp
 ·simp[h]
attribute [go_sem 5000] JeC JdG
theorem Jil {fn:Func}{p:Tmp}(t:TypeId)(fs:Array Field)(hu:Tryz.prog.underlying t=some (.struct fs))(hi:(Tryz.prog.info? t).map (·.size)=some 17)
 (h:fn.results=#[.cell p t])(tmps:Array Value)(w:World)(b:Nat){six:Bool}{B:Nat→Int}
 (hp:tmps.getD p undef=.pointer (some ⟨b,0,none⟩))(hc:Jf w b 0 17=(Jpm six B:Array Value)):(results fn tmps).run Tryz.prog w=.ok (adV six B) w:=
 XH h tmps w b 17 _ hu rfl hi hp _ hc rfl
theorem JbP:(Tryz.prog.info? 36).map (·.size)=some 17:=by kernel_rfl
theorem JcU (s:Bool)(B:Nat→Int)(w:World):Calls Tryz.prog 56 #[adV s B] w (Jh w (adV s B)):=by
 have HZ:JZ ((w.alloc (.cells (Jpm s B) 27)).alloc (.cells (Jpm s B) 36)) (w.heap.size+1) 36 s B:=⟨heap_alloc2_new w (.cells (Jpm s B) 27) (.cells (Jpm s B) 36)⟩
 have HZ:=Jpa HZ
 unfold adV
 go_enter Tryz.func56,Tryz.ntmps56
 go_wp2_with fail
 exact bodyPost_ret (v:=adV s B) (Jil _ _ Tryz.underlying36 JbP rfl _ _ (w.heap.size+1) rfl HZ.out.part) rfl (.mk rfl (Below.all (Below.all (Jpd _ _) _) _))
end
end Go.Proofs.YtkgjbipfhhjlpaaGreatDoor
