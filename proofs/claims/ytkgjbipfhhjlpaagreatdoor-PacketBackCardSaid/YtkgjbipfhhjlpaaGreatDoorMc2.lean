import Derived.Test.YtkgjbipfhhjlpaaGreatDoorMc1
import Derived.Laws.CopyOwn
set_option linter.unusedVariables false
set_option linter.unusedSimpArgs false
set_option maxRecDepth 100000
set_option maxHeartbeats 32000000
namespace Go.Proofs.YtkgjbipfhhjlpaaGreatDoor
section
open Go.RowKit
def Jb (w:World)(b off n:Nat):Array Value:=match w.heap[b]? with
 |some (.cells cs _ _)=>cs.extract off (off+n)
 |_=>#[]
def Jk (w:World)(b n:Nat):Bool:=match w.heap[b]? with
 |some (.cells cs _ fr)=>cs.size==n&&fr==(0,0)
 |_=>false
def Jfk (w:World)(n:Nat):Value→Array Value
 | .pointer (some ⟨b,off,none⟩)=>Jb w b off n
 |_=>#[]
def JhG (w:World)(n:Nat):Value→Bool
 | .pointer (some ⟨b,0,none⟩)=>Jk w b n
 |_=>false
def Jfl:Value→Nat
 | .pointer (some ⟨b,_,_⟩)=>b
 |_=>0
def Jfm:Value→Array Value
 | .agg cs=>cs
 |_=>#[]
def Jdb (n:Nat):Value→Bool
 | .agg cs=>cs.size==n&&cs.all (·.oneCell')
 |_=>false
theorem JhH (w:World)(n b off:Nat):Jfk w n (.pointer (some ⟨b,off,none⟩))=Jb w b off n:=rfl
theorem JhI (w:World)(n b:Nat):JhG w n (.pointer (some ⟨b,0,none⟩))=Jk w b n:=rfl
theorem Jgn (a:Addr):Jfl (.pointer (some a))=a.block:=rfl
theorem Jgo (cs:Array Value):Jfm (.agg cs)=cs:=rfl
theorem Xf (n:Nat)(cs:Array Value):Jdb n (.agg cs)=(cs.size==n&&cs.all (·.oneCell')):=rfl
attribute [go_sem] JhH JhI Jgn Jgo Xf
theorem Jjg (w:World)(b off n:Nat)(cs:Array Value)(t:TypeId)(fr:Nat×Nat)(h:b=w.heap.size):Jb (w.alloc (.cells cs t fr)) b off n=cs.extract off (off+n):=by
 subst h;unfold Jb;rw[heap_alloc_new]
theorem JeW (w:World)(b off n:Nat)(o:Obj)(h:b<w.heap.size):Jb (w.alloc o) b off n=Jb w b off n:=by
 unfold Jb;rw[heap_alloc_old _ _ h]
theorem JhJ (w:World)(b off n:Nat):Jb w.drew b off n=Jb w b off n:=rfl
theorem JL {B:Nat}{w w':World}(hb:Below B w w')(b off n:Nat)(h:b<B):Jb w' b off n=Jb w b off n:=by
 unfold Jb;rw[hb.block _ h]
theorem JG.part {w:World}(x:JG w)(b off n:Nat)(h:b<w.heap.size):Jb x.world b off n=Jb w b off n:=JL x.below b off n h
theorem Jl (w:World)(b off n:Nat)(cs:Array Value)(t:TypeId)(fr:Nat×Nat)(h:w.heap[b]? =some (.cells cs t fr)):Jb w b off n=cs.extract off (off+n):=by
 unfold Jb;rw[h]
attribute [go_sem] Jjg JeW JhJ JG.part
theorem JhK (w:World)(b n:Nat)(cs:Array Value)(t:TypeId)(h:b=w.heap.size):Jk (w.alloc (.cells cs t)) b n=(cs.size==n):=by
 subst h;unfold Jk;rw[heap_alloc_new];simp
theorem JhL (w:World)(b n:Nat)(o:Obj)(h:b<w.heap.size):Jk (w.alloc o) b n=Jk w b n:=by
 unfold Jk;rw[heap_alloc_old _ _ h]
theorem Jgp (w:World)(b n:Nat):Jk w.drew b n=Jk w b n:=rfl
theorem Jd (w:World)(b n:Nat)(cs:Array Value)(t:TypeId)(h:w.heap[b]? =some (.cells cs t (0,0))):Jk w b n=(cs.size==n):=by
 unfold Jk;rw[h];simp
attribute [go_sem] JhK JhL Jgp
theorem Jjh (w:World)(b:Nat)(c c':Array Value)(t:TypeId)(h:b=w.heap.size):(w.alloc (.cells c t)).setRow b c'=w.alloc (.cells c' t):=by
 subst h
 simp only[World.setRow,World.alloc]
 congr 1
 apply Array.ext_getElem?
 intro i
 rw[Array.getElem?_modify]
 by_cases h:w.heap.size=i
 ·subst h;simp
 ·have h':¬i=w.heap.size:=fun e=>h e.symm
  simp[h,h',Array.getElem?_push]
theorem Jji (w:World)(b:Nat)(o:Obj)(c':Array Value)(h:b<w.heap.size):(w.alloc o).setRow b c'=(w.setRow b c').alloc o:=by
 simp only[World.setRow,World.alloc]
 congr 1
 apply Array.ext_getElem?
 intro i
 rw[Array.getElem?_modify]
 by_cases hb:b=i
 ·subst hb
  rw[Array.getElem?_push,Array.getElem?_push]
  have e:b≠w.heap.size:=by omega
  simp[e,Array.getElem?_modify]
 ·rw[Array.getElem?_push,Array.getElem?_push]
  simp[hb,Array.getElem?_modify]
attribute [go_sem] Jjh Jji setRow_size setRow_tape setRow_os setRow_output setRow_drawn
section
variable {P:Program}
theorem Qr (w:World)(b off n ty:Nat)(d:TypeDesc)(hu:P.underlying ty=some d)(hd:(match d with| .struct _| .array _ _=>true|_=>false)=true)(hi:(P.info? ty).map (·.size)=some n)
 (hs:(Jb w b off n).size=n):(loadVar ty ⟨b,off,none⟩).run P w=.ok (.agg (Jb w b off n)) w:=by
 rcases Nat.eq_zero_or_pos n with h0|hn
 ·subst h0
  have hl:(loadCells ⟨b,off,none⟩ 0).run P w=.ok #[] w:=by simpa using run_loadCells_list (P:=P) w ⟨b,off,none⟩ [] (by simp)
  have he:Jb w b off 0=#[]:=Array.eq_empty_of_size_eq_zero hs
  have hagg:(isAgg ty).run P w=.ok true w:=by
   unfold isAgg
   rw[Sem.run_bind,run_underlying hu w]
   cases d<;>simp_all
  cases hq:P.info? ty with
  |none=>simp[hq] at hi
  |some i=>
   have hz:i.size=0:=by simpa[hq] using hi
   simp[loadVar,Sem.run_bind,hagg,sizeOf,typeInfo,hq,hz,hl,he]
 ·have hl:(loadCells ⟨b,off,none⟩ (Jb w b off n).toList.length).run P w=.ok (Jb w b off n).toList.toArray w:=by
   refine run_loadCells_list (P:=P) w ⟨b,off,none⟩ _ (fun j v hv=>?_)
   rw[Addr.add_lit]
   rw[Array.getElem?_toList] at hv
   have hj:j<(Jb w b off n).size:=(JoM hv).1
   unfold Jb at hv hj
   unfold World.cell?
   cases hh:w.heap[b]? with
   |none=>rw[hh] at hv;simp at hv
   |some o=>
    rw[hh] at hv hj
    cases o with
    |cells cs t fr=>
     simp only at hv hj⊢
     rw[Array.getElem?_extract] at hv
     split at hv
     ·simpa using hv
     ·cases hv
    |_=>simp at hv
  have hagg:(isAgg ty).run P w=.ok true w:=by
   unfold isAgg
   rw[Sem.run_bind,run_underlying hu w]
   cases d<;>simp_all
  rw[Array.length_toList,hs,Array.toArray_toList] at hl
  cases hq:P.info? ty with
  |none=>simp[hq] at hi
  |some i=>
   have hz:i.size=n:=by simpa[hq] using hi
   simp[loadVar,Sem.run_bind,hagg,sizeOf,typeInfo,hq,hz,hl]
theorem Qc (ev:Operand→Value)(w:World)(dst:Option Tmp)(t:TypeId)(pos:String)(after:Array Edge)(g:Option (Nat×Bool))(x:Operand)(ty n:Nat)(d:TypeDesc)
 (hu:P.underlying ty=some d)(hd:(match d with| .struct _| .array _ _=>true|_=>false)=true)(hi:(P.info? ty).map (·.size)=some n)(hn:0<n)
 (hs:(Jfk w n (ev x)).size=n):(execOp ev ⟨dst,.load ty x,t,pos,after,g⟩).run P w=.ok (.value (.agg (Jfk w n (ev x)))) w:=by
 generalize hv:ev x=v at hs
 unfold Jfk at hs⊢
 split at hs
 ·rename_i b off
  have:=Qr (P:=P) w b off n ty d hu hd hi hs
  simp[execOp,hv,Instr.loadAt,Instr.sureAddr,this,Result.andThen]
 ·simp at hs;omega
theorem Qh (ev:Operand→Value)(w:World)(dst:Option Tmp)(t:TypeId)(pos:String)(after:Array Edge)(g:Option (Nat×Bool))(x y:Operand)(ty n:Nat)
 (hi:(P.info? ty).map (·.size)=some n)(hx:JhG w n (ev x)=true)(hy:Jdb n (ev y)=true):
 (execOp ev ⟨dst,.store ty x y,t,pos,after,g⟩).run P w=.ok .skip (w.setRow (Jfl (ev x)) (Jfm (ev y))):=by
 generalize hv:ev x=v at hx
 generalize hu:ev y=u at hy
 unfold JhG at hx
 unfold Jdb at hy
 split at hx
 ·rename_i b
  split at hy
  ·rename_i cs
   obtain⟨hc,h1⟩:=Bool.and_eq_true_iff.1 hy
   have hc:cs.size=n:=by simpa using hc
   unfold Jk at hx
   split at hx
   ·rename_i old t' fr hg
    obtain⟨ho,hf⟩:=Bool.and_eq_true_iff.1 hx
    have ho:old.size=n:=by simpa using ho
    obtain rfl:fr=(0,0):=by simpa using hf
    have:=run_storeVar_row (P:=P) w b t' ty old cs hg (by rw[hi,hc]) (by omega) h1
    simp[execOp,hv,hu,Instr.storeAt,Instr.sureAddr,this,Result.andThen,Jfl,Jfm]
   ·cases hx
  ·cases hy
 ·cases hx
theorem QL {fn:Func}{p q:Tmp}{ty:TypeId}(h:fn.results=#[.cell p ty,.tmp q])(tmps:Array Value)(w:World)(b n:Nat)(d:TypeDesc)(v:Value)
 (hu:P.underlying ty=some d)(hd:(match d with| .struct _| .array _ _=>true|_=>false)=true)(hi:(P.info? ty).map (·.size)=some n)
 (hp:tmps.getD p undef=.pointer (some ⟨b,0,none⟩))(hq:tmps.getD q undef=v)(cs:Array Value)(hc:Jb w b 0 n=cs)(hs:cs.size=n):
 (results fn tmps).run P w=.ok (.tuple #[.agg cs,v]) w:=by
 subst hc
 have hp':tmps[p]?.getD undef=.pointer (some ⟨b,0,none⟩):=by simpa using hp
 have hq':tmps[q]?.getD undef=v:=by simpa using hq
 simp[results,h,hp',hq',asAddr,Qr w b 0 n ty d hu hd hi hs]
theorem Jfn {fn:Func}{p:Tmp}{ty:TypeId}(h:fn.results=#[.cell p ty])(tmps:Array Value)(w:World)(b n:Nat)(d:TypeDesc)
 (hu:P.underlying ty=some d)(hd:(match d with| .struct _| .array _ _=>true|_=>false)=true)(hi:(P.info? ty).map (·.size)=some n)
 (hp:tmps.getD p undef=.pointer (some ⟨b,0,none⟩))(cs:Array Value)(hc:Jb w b 0 n=cs)(hs:cs.size=n):
 (results fn tmps).run P w=.ok (.agg cs) w:=by
 subst hc
 have hp':tmps[p]?.getD undef=.pointer (some ⟨b,0,none⟩):=by simpa using hp
 simp[results,h,hp',asAddr,Qr w b 0 n ty d hu hd hi hs]
end
def Q9 (P:Program)(ty:TypeId)(w:World)(v:Value):Result Next:=(execOp (fun _=>v) ⟨none,.load ty (.const v),0,"",#[],none⟩).run P w
def ZQ (P:Program)(ty:TypeId)(w:World)(v u:Value):Result Next:=(execOp (fun o=>match o with| .tmp 0=>v|_=>u) ⟨none,.store ty (.tmp 0) (.tmp 1),0,"",#[],none⟩).run P w
theorem QY (P:Program)(ev:Operand→Value)(w:World)(dst:Option Tmp)(t:TypeId)(pos:String)(after:Array Edge)(g:Option (Nat×Bool))(x:Operand)(ty:TypeId):
 (execOp ev ⟨dst,.load ty x,t,pos,after,g⟩).run P w=Q9 P ty w (ev x):=by simp only[Q9,execOp]
theorem Q2 (P:Program)(ev:Operand→Value)(w:World)(dst:Option Tmp)(t:TypeId)(pos:String)(after:Array Edge)(g:Option (Nat×Bool))(x y:Operand)(ty:TypeId):
 (execOp ev ⟨dst,.store ty x y,t,pos,after,g⟩).run P w=ZQ P ty w (ev x) (ev y):=by simp only[ZQ,execOp]
def JbT:List Value→Bool
 |[]=>true
 |v::r=>v.oneCell'&&JbT r
theorem X3:∀l:List Value,JbT l=true→l.all (·.oneCell')=true
 |[],_=>rfl
 |v::r,h=>by
  rw[JbT,Bool.and_eq_true] at h
  rw[List.all_cons,h.1,X3 r h.2];rfl
theorem JlI:JbT []=true:=rfl
theorem JlJ (k:IntKind)(n:Int)(r:List Value):JbT (.int k n::r)=JbT r:=by rw[JbT];rfl
theorem Jkg (b:Bool)(r:List Value):JbT (.bool b::r)=JbT r:=by rw[JbT];rfl
attribute [go_sem] JlI JlJ Jkg
theorem Jfo (ev:Operand→Value)(w:World)(dst:Option Tmp)(t:TypeId)(pos:String)(after:Array Edge)(g:Option (Nat×Bool))(x:Operand):(execOp ev ⟨dst,.load 25 x,t,pos,after,g⟩).run Tryz.prog w=Q9 Tryz.prog 25 w (ev x):=QY _ ev w dst t pos after g x _
theorem Jgq (w:World)(b off:Nat)(hs:(Jb w b off 16).size=16):Q9 Tryz.prog 25 w (.pointer (some ⟨b,off,none⟩))=.ok (.value (.agg (Jb w b off 16))) w:=
 Qc _ w none 0 "" #[] none _ _ 16 _ Tryz.underlying25 rfl (by kernel_rfl) (by decide) hs
theorem Jgr (ev:Operand→Value)(w:World)(dst:Option Tmp)(t:TypeId)(pos:String)(after:Array Edge)(g:Option (Nat×Bool))(x:Operand):(execOp ev ⟨dst,.load 27 x,t,pos,after,g⟩).run Tryz.prog w=Q9 Tryz.prog 27 w (ev x):=QY _ ev w dst t pos after g x _
theorem JhM (w:World)(b off:Nat)(hs:(Jb w b off 17).size=17):Q9 Tryz.prog 27 w (.pointer (some ⟨b,off,none⟩))=.ok (.value (.agg (Jb w b off 17))) w:=
 Qc _ w none 0 "" #[] none _ _ 17 _ Tryz.underlying27 rfl (by kernel_rfl) (by decide) hs
theorem Jfp (ev:Operand→Value)(w:World)(dst:Option Tmp)(t:TypeId)(pos:String)(after:Array Edge)(g:Option (Nat×Bool))(x y:Operand):(execOp ev ⟨dst,.store 27 x y,t,pos,after,g⟩).run Tryz.prog w=ZQ Tryz.prog 27 w (ev x) (ev y):=Q2 _ ev w dst t pos after g x y _
theorem Jgs (w:World)(b:Nat)(cs:Array Value)(hx:Jk w b 17=true)(hs:cs.size=17)(h1:JbT cs.toList=true):ZQ Tryz.prog 27 w (.pointer (some ⟨b,0,none⟩)) (.agg cs)=.ok .skip (w.setRow b cs):=
 Qh _ w none 0 "" #[] none _ _ _ 17 (by kernel_rfl) hx (by show Jdb _ (.agg cs)=true;rw[Xf,←Array.all_toList,X3 _ h1,hs];simp)
attribute [go_sem ↓] Jfo Jgr Jfp
attribute [go_sem] Jgq JhM Jgs
end
section
open Go.RowKit
def adV (six:Bool)(B:Nat→Int):Value:=.agg (JoX six B)
def U8 (B:Nat→Int):Prop:=∀i,0≤B i∧B i<256
def JbU (six:Bool):Int:=if six then 16 else 4
theorem Ja9 (six:Bool)(B:Nat→Int)(w:World):Calls Tryz.prog 123 #[adV six B] w (Jj w (.int .i64 (JbU six))):=by
 unfold adV
 cases six
 all_goals
  go_enter Tryz.func123,Tryz.ntmps123
  go_wp2_with fail
  go_ret
  exact .mk rfl (Below.all (JoO _ _) _)
def eqL:List Int→List Int→Bool
 |[],[]=>true
 |x::l,y::m=>if x==y then eqL l m else false
 |_,_=>false
theorem JaE:∀(l m:List Int),eqL l m=true↔l=m
 |[],[]=>by simp[eqL]
 |x::l,y::m=>by
  rw[eqL]
  by_cases h:x=y
  ·subst h;simp[JaE l m]
  ·simp[h]
 |[],y::m=>by simp[eqL]
 |x::l,[]=>by simp[eqL]
def b16 (B:Nat→Int):List Int:=[B 0,B 1,B 2,B 3,B 4,B 5,B 6,B 7,B 8,B 9,B 10,B 11,B 12,B 13,B 14,B 15]
theorem Jkh (B:Nat→Int)(i:Nat)(h:i<16):(b16 B)[i]? =some (B i):=by
 unfold b16
 rcases i with _|_|_|_|_|_|_|_|_|_|_|_|_|_|_|_|i
 all_goals first|rfl|omega
theorem JmA {B C:Nat→Int}:b16 B=b16 C↔∀i,i<16→B i=C i:=by
 constructor
 ·intro h i hi
  have:=Jkh B i hi
  rw[h,Jkh C i hi] at this
  exact(Option.some.inj this).symm
 ·intro h
  unfold b16
  simp[h]
theorem JeB (w:World)(d:Nat)(x0 x1 x2 x3 x4 x5 x6 x7 x8 x9 x10 x11 x12 x13 x14 x15 y0 y1 y2 y3 y4 y5 y6 y7 y8 y9 y10 y11 y12 y13 y14 y15:Int):
 (Op.equalIn (d+2) 25 (.agg (Jpl x0 x1 x2 x3 x4 x5 x6 x7 x8 x9 x10 x11 x12 x13 x14 x15)) (.agg (Jpl y0 y1 y2 y3 y4 y5 y6 y7 y8 y9 y10 y11 y12 y13 y14 y15))).run Tryz.prog w=.ok (eqL [x0,x1,x2,x3,x4,x5,x6,x7,x8,x9,x10,x11,x12,x13,x14,x15] [y0,y1,y2,y3,y4,y5,y6,y7,y8,y9,y10,y11,y12,y13,y14,y15]) w:=by
 have hr:List.range' 0 16=[0,1,2,3,4,5,6,7,8,9,10,11,12,13,14,15]:=by decide
 rw[Op.equalIn]
 simp only[Sem.run_bind,run_underlying Tryz.underlying25,Result.andThen_ok]
 simp[go_sem,Std.Legacy.Range.forIn_eq_forIn_range',Std.Legacy.Range.size,hr]
 simp only[eqL,beq_iff_eq]
 have hi:∀(c:Prop) [Decidable c] (a b:Bool),(Result.ok (if c then a else b) w:Result Bool)=if c then Result.ok a w else Result.ok b w:=fun c _ a b=>by split<;>rfl
 simp only[hi]
attribute [go_sem] JeB
def JW (six:Bool)(B:Nat→Int):Bool:=six||(List.range 12).all fun i=>B (4+i)==0
theorem XS {B:Nat→Int}:JW false B=true↔∀i,4≤i→i<16→B i=0:=by
 unfold JW
 simp only[Bool.false_or,List.all_eq_true,List.mem_range,beq_iff_eq]
 constructor
 ·intro h i h4 h16
  have:=h (i-4) (by omega)
  rwa [show 4+(i-4)=i by omega] at this
 ·intro h i hi;exact h _ (by omega) (by omega)
theorem Jki (B:Nat→Int):eqL (b16 B) (b16 fun i=>if i<4 then B i else 0)=JW false B:=by
 rw[Bool.eq_iff_iff,JaE,JmA,XS]
 constructor
 ·intro h i h4 h16;have:=h i h16;rw[if_neg (by omega)] at this;exact this
 ·intro h i hi
  split
  ·rfl
  ·exact h i (by omega) hi
def JbV (n:Nat)(B:Nat→Int):List Value:=(List.range n).map fun i=>.int .u8 (B i)
theorem Jba (n:Nat)(B:Nat→Int)(j:Nat)(u:Value)(h:(JbV n B)[j]? =some u):j<n∧u=.int .u8 (B j):=by
 unfold JbV at h
 rw[List.getElem?_map] at h
 by_cases hj:j<n
 ·rw[List.getElem?_range hj] at h
  exact⟨hj,by simpa using h.symm⟩
 ·rw[List.getElem?_eq_none (by simpa using hj)] at h;cases h
theorem Xu (n:Nat)(B:Nat→Int):(JbV n B).length=n:=by simp[JbV]
theorem Jbb (n:Nat)(B:Nat→Int):∀u∈JbV n B,u.oneCell'=true:=by
 intro u hu
 obtain⟨i,-,rfl⟩:=List.mem_map.1 hu
 rfl
theorem JhN {w:World}{b:Nat}{s:Bool}{B:Nat→Int}(h:∀j,w.cell? ⟨b,j,none⟩=((JoX s B):Array Value)[j]?)(j:Nat)(hj:j<16):w.cell? ⟨b,1+j,none⟩=some (.int .u8 (B j)):=by
 rw[h]
 rcases j with _|_|_|_|_|_|_|_|_|_|_|_|_|_|_|_|j
 all_goals first|rfl|omega
theorem Jjj (B:Nat→Int)(w:World):Calls Tryz.prog 68 #[adV false B] w (Jj w (.bool (JW false B))):=by
 have hsz:∀w,Calls Tryz.prog 123 #[adV false B] w (Jj w (.int .i64 4)):=Ja9 false B
 unfold adV at hsz⊢
 go_enter Tryz.func68,Tryz.ntmps68
 go_wp2_with fail
 refine ZK 5 (by kernel_rfl) (by kernel_rfl) ?_
 simp only[List.take_succ_cons,List.take_zero,List.drop_succ_cons,List.drop_zero]
 repeat go_big_quiet_step ((go_at_call 123;exact JH (hsz _)))
 refine wpQuiet_nil ?_
 intro x
 have hA0:=(x.below.block _ (by simp;omega)).trans (heap_alloc2_old w (.cells (JoX false B) 27) (.cells JpA 25))
 have hP0:=(x.below.block _ (by simp)).trans (heap_alloc2_new w (.cells (JoX false B) 27) (.cells (List.replicate 16 (Value.int .u8 0)).toArray 25))
 have hxb:Below w.heap.size w x.world:=JoD (Below.all (Below.all (JoO _ _) _) _)
 have hxs:w.heap.size+1<x.world.heap.size:=by have:=x.below.size;simp at this;omega
 refine wpList_copy_splice rfl (.tmp 6) (.tmp 8) 22 22 rfl 5 Tryz.underlying22 (by kernel_rfl) (some ⟨w.heap.size+1,0,none⟩) (some ⟨w.heap.size,1,none⟩) 4 16 16 16 rfl rfl (w.heap.size+1) 0
  (List.replicate 16 (.int .u8 0)) 25 hP0 (JbV 4 B) (Xu _ _) (fun _=>⟨rfl,_,rfl,fun j v hv=>?_⟩) (by rw[Xu];decide) (Jbb _ _) (w.heap.size+1) x.world (JoO _ _) (JoQ _) ?_
 ·obtain⟨hj,rfl⟩:=Jba _ _ _ _ hv
  rw[Addr.add_lit]
  exact JhN (fun j=>cell_of_row _ _ j _ _ (0,0) hA0) j (by omega)
 intro w' hg hb
 have hA1:=(hb.block _ (by simp)).trans hA0
 have hP1:w'.heap[w.heap.size+1]? =some (.cells (JpB B) 25 (0,0)):=hg.out
 have hA:Jb w' w.heap.size 1 16=(Jpm B:Array Value):=by rw[Jl _ _ _ _ _ _ _ hA1];simp
 have hP:Jb w' (w.heap.size+1) 0 16=(JpB B:Array Value):=by rw[Jl _ _ _ _ _ _ _ hP1];simp
 have hB:Hid (Below w.heap.size w w'):=JoL (hxb.trans (hb.mono (by omega)))
 clear hA0 hP0 hg hxb hxs hsz hb hA1 hP1
 go_wp2_with fail
 go_ret
 exact .mk (JV (Jki B)) hB.out
theorem Jkj (B:Nat→Int)(w:World):Calls Tryz.prog 68 #[adV true B] w (Jj w (.bool (JW true B))):=by
 have hsz:∀w,Calls Tryz.prog 123 #[adV true B] w (Jj w (.int .i64 16)):=Ja9 true B
 unfold adV at hsz⊢
 go_enter Tryz.func68,Tryz.ntmps68
 go_wp2_with fail
 refine ZK 5 (by kernel_rfl) (by kernel_rfl) ?_
 simp only[List.take_succ_cons,List.take_zero,List.drop_succ_cons,List.drop_zero]
 repeat go_big_quiet_step ((go_at_call 123;exact JH (hsz _)))
 refine wpQuiet_nil ?_
 intro x
 have hA0:=(x.below.block _ (by simp;omega)).trans (heap_alloc2_old w (.cells (JoX true B) 27) (.cells JpA 25))
 have hP0:=(x.below.block _ (by simp)).trans (heap_alloc2_new w (.cells (JoX true B) 27) (.cells (List.replicate 16 (Value.int .u8 0)).toArray 25))
 have hxb:Below w.heap.size w x.world:=JoD (Below.all (Below.all (JoO _ _) _) _)
 have hxs:w.heap.size+1<x.world.heap.size:=by have:=x.below.size;simp at this;omega
 refine wpList_copy_splice rfl (.tmp 6) (.tmp 8) 22 22 rfl 5 Tryz.underlying22 (by kernel_rfl) (some ⟨w.heap.size+1,0,none⟩) (some ⟨w.heap.size,1,none⟩) 16 16 16 16 rfl rfl (w.heap.size+1) 0
  (List.replicate 16 (.int .u8 0)) 25 hP0 (JbV 16 B) (Xu _ _) (fun _=>⟨rfl,_,rfl,fun j v hv=>?_⟩) (by rw[Xu];decide) (Jbb _ _) (w.heap.size+1) x.world (JoO _ _) (JoQ _) ?_
 ·obtain⟨hj,rfl⟩:=Jba _ _ _ _ hv
  rw[Addr.add_lit]
  exact JhN (fun j=>cell_of_row _ _ j _ _ (0,0) hA0) j (by omega)
 intro w' hg hb
 have hA1:=(hb.block _ (by simp)).trans hA0
 have hP1:w'.heap[w.heap.size+1]? =some (.cells (Jpm B) 25 (0,0)):=hg.out
 have hA:Jb w' w.heap.size 1 16=(Jpm B:Array Value):=by rw[Jl _ _ _ _ _ _ _ hA1];simp
 have hP:Jb w' (w.heap.size+1) 0 16=(Jpm B:Array Value):=by rw[Jl _ _ _ _ _ _ _ hP1];simp
 have hB:Hid (Below w.heap.size w w'):=JoL (hxb.trans (hb.mono (by omega)))
 clear hA0 hP0 hg hxb hxs hsz hb hA1 hP1
 go_wp2_with fail
 go_ret
 exact .mk (JV ((JaE _ _).2 rfl)) hB.out
theorem Qu (six:Bool)(B:Nat→Int)(w:World):Calls Tryz.prog 68 #[adV six B] w (Jj w (.bool (JW six B))):=by
 cases six
 ·exact Jjj B w
 ·exact Jkj B w
end
section
open Go.RowKit
structure J6 (w:World)(b:Nat)(t:TypeId)(six:Bool)(B:Nat→Int):Prop where
 heap:w.heap[b]? =some (.cells (JoX six B) t (0,0))
theorem J6.lt {w:World}{b:Nat}{t:TypeId}{six:Bool}{B:Nat→Int}(h:J6 w b t six B):b<w.heap.size:=(JoM h.heap).1
theorem J6.part {w:World}{b:Nat}{t:TypeId}{six:Bool}{B:Nat→Int}(h:J6 w b t six B):Jb w b 0 17=(JoX six B:Array Value):=by rw[Jl _ _ _ _ _ _ _ h.heap];simp
theorem J6.six {w:World}{b:Nat}{t:TypeId}{six:Bool}{B:Nat→Int}(h:J6 w b t six B):w.cell? ⟨b,0,none⟩=some (.bool six):=by rw[cell_of_row _ _ _ _ _ _ h.heap];rfl
theorem J6.cell {w:World}{b:Nat}{t:TypeId}{six:Bool}{B:Nat→Int}(h:J6 w b t six B)(j:Nat)(hj:j<16):w.cell? ⟨b,1+j,none⟩=some (.int .u8 (B j)):=
 JhN (fun j=>cell_of_row _ _ j _ _ (0,0) h.heap) j hj
theorem J6.free {w:World}{b:Nat}{t:TypeId}{six:Bool}{B:Nat→Int}(h:J6 w b t six B)(j:Nat):w.frozen? ⟨b,j,none⟩=false:=frozen_of_row _ _ _ _ _ h.heap
theorem J6.row {w:World}{b:Nat}{t:TypeId}{six:Bool}{B:Nat→Int}(h:J6 w b t six B):Jk w b 17=true:=by rw[Jd _ _ _ _ _ h.heap];rfl
theorem J6.keep {w w':World}{b:Nat}{t:TypeId}{six:Bool}{B:Nat→Int}(h:J6 w b t six B)(e:w'.heap[b]? =w.heap[b]?):J6 w' b t six B:=⟨e.trans h.heap⟩
theorem J6.below {w w':World}{b:Nat}{t:TypeId}{six:Bool}{B:Nat→Int}(h:J6 w b t six B)(hb:Below w.heap.size w w'):J6 w' b t six B:=h.keep (hb.block _ h.lt)
theorem J6.other {w:World}{b:Nat}{t:TypeId}{six:Bool}{B:Nat→Int}(h:J6 w b t six B)(a:Addr)(v:Value)(hne:b≠a.block):J6 (w.setCell a v) b t six B:=h.keep (heap_setCell_other _ _ _ _ hne)
theorem J6.made (w:World)(t:TypeId)(six:Bool)(B:Nat→Int):J6 (w.alloc (.cells (JoX six B) t)) w.heap.size t six B:=⟨heap_alloc_new w _⟩
theorem J6.made0 (w:World)(t:TypeId)(six:Bool):J6 (w.alloc (.cells (Jpn six) t)) w.heap.size t six (fun _=>0):=J6.made w t six fun _=>0
theorem J6.congr {w:World}{b:Nat}{t:TypeId}{six:Bool}{B C:Nat→Int}(h:J6 w b t six B)(e:∀i,i<16→B i=C i):J6 w b t six C:=by
 refine⟨h.heap.trans ?_⟩
 rw[e 0 (by omega),e 1 (by omega),e 2 (by omega),e 3 (by omega),e 4 (by omega),e 5 (by omega),e 6 (by omega),e 7 (by omega),e 8 (by omega),e 9 (by omega),e 10 (by omega),e 11 (by omega),e 12 (by omega),e 13 (by omega),e 14 (by omega),e 15 (by omega)]
theorem J6.set {w:World}{b:Nat}{t:TypeId}{six:Bool}{B:Nat→Int}(h:J6 w b t six B)(j:Nat)(hj:j<16)(v:Int):J6 (w.setCell ⟨b,1+j,none⟩ (.int .u8 v)) b t six (fun i=>if i=j then v else B i):=by
 refine⟨(heap_setCell_same _ _ _ _ _ _ h.heap).trans ?_⟩
 rcases j with _|_|_|_|_|_|_|_|_|_|_|_|_|_|_|_|j
 all_goals first|rfl|omega
theorem J6.alloc {w:World}{b:Nat}{t:TypeId}{six:Bool}{B:Nat→Int}(h:J6 w b t six B)(o:Obj):J6 (w.alloc o) b t six B:=h.below (Below.all (JoO _ _) _)
theorem JlK {six:Bool}{B C:Nat→Int}(e:∀i,i<16→B i=C i):adV six B=adV six C:=by
 unfold adV
 rw[e 0 (by omega),e 1 (by omega),e 2 (by omega),e 3 (by omega),e 4 (by omega),e 5 (by omega),e 6 (by omega),e 7 (by omega),e 8 (by omega),e 9 (by omega),e 10 (by omega),e 11 (by omega),e 12 (by omega),e 13 (by omega),e 14 (by omega),e 15 (by omega)]
section
variable {fn:Func} {p q:Tmp}
theorem Qd (t:TypeId)(fs:Array Field)(hu:Tryz.prog.underlying t=some (.struct fs))(hi:(Tryz.prog.info? t).map (·.size)=some 17)
 (h:fn.results=#[.cell p t,.tmp q])(tmps:Array Value)(w:World)(b:Nat)(v:Value){six:Bool}{B:Nat→Int}
 (hp:tmps.getD p undef=.pointer (some ⟨b,0,none⟩))(hq:tmps.getD q undef=v)(hc:Jb w b 0 17=(JoX six B:Array Value)):(results fn tmps).run Tryz.prog w=.ok (.tuple #[adV six B,v]) w:=
 QL h tmps w b 17 _ v hu rfl hi hp hq _ hc rfl
end
end
section
open Go.RowKit
theorem Z9 {w:World}{b n:Nat}{cs cs':Array Value}{t:TypeId}{fr:Nat×Nat}(h:w.heap[b]? =some (.cells cs t fr))(hs:cs'.size=n:=by rfl):Jb (w.setRow b cs') b 0 n=cs':=by
 rw[Jl _ _ _ _ _ _ _ (setRow_heap _ _ _ _ _ _ h)];subst hs;simp
theorem JeC (w:World)(d:Nat)(s t:Bool)(x0 x1 x2 x3 x4 x5 x6 x7 x8 x9 x10 x11 x12 x13 x14 x15 y0 y1 y2 y3 y4 y5 y6 y7 y8 y9 y10 y11 y12 y13 y14 y15:Int):
 (Op.equalIn (d+3) 27 (.agg (JoZ s x0 x1 x2 x3 x4 x5 x6 x7 x8 x9 x10 x11 x12 x13 x14 x15)) (.agg (JoZ t y0 y1 y2 y3 y4 y5 y6 y7 y8 y9 y10 y11 y12 y13 y14 y15))).run Tryz.prog w=.ok (s==t&&eqL [x0,x1,x2,x3,x4,x5,x6,x7,x8,x9,x10,x11,x12,x13,x14,x15] [y0,y1,y2,y3,y4,y5,y6,y7,y8,y9,y10,y11,y12,y13,y14,y15]) w:=by
 simp[go_sem]
 generalize eqL _ _=e
 by_cases h:s=t
 ·subst h;cases e<;>simp
 ·simp[h]
attribute [go_sem 5000] JeC
end
end Go.Proofs.YtkgjbipfhhjlpaaGreatDoor
