import Derived.Test.YtkgjbipfhhjlpaaGreatDoorMc11
set_option linter.unusedVariables false
set_option linter.unusedSimpArgs false
set_option maxRecDepth 100000
set_option maxHeartbeats 32000000
namespace Go.Proofs.YtkgjbipfhhjlpaaGreatDoor
section
open Go.RowKit
theorem JeN (w:World)(b b2 n:Nat)(cs:Array Value)(h:b≠b2):Jk (w.setRow b2 cs) b n=Jk w b n:=by
 unfold Jk;rw[setRow_other _ _ _ _ h]
attribute [go_sem] JeN
theorem Ja {w:World}{b n:Nat}{cs:Array Value}{t:TypeId}{fr:Nat×Nat}(h:w.heap[b]? =some (.cells cs t fr))(hs:cs.size=n):Jb w b 0 n=cs:=by
 rw[Jl _ _ _ _ _ _ _ h,Nat.zero_add,←hs];simp
theorem Ji {w:World}{b:Nat}{old cs:Array Value}{t:TypeId}{fr:Nat×Nat}(h:w.heap[b]? =some (.cells old t fr)):(w.setRow b cs).heap[b]? =some (.cells cs t fr):=setRow_heap _ _ _ _ _ _ h
theorem Je {B:Nat}{w:World}{b:Nat}(cs:Array Value)(h:B≤b):Below B w (w.setRow b cs):=⟨rfl,rfl,rfl,by simp,fun k hk=>setRow_other _ _ _ _ (by omega)⟩
theorem Jcc (ev:Operand→Value)(w:World)(dst:Option Tmp)(t:TypeId)(pos:String)(after:Array Edge)(g:Option (Nat×Bool))(x:Operand):(execOp ev ⟨dst,.load 96 x,t,pos,after,g⟩).run Tryz.prog w=Q9 Tryz.prog 96 w (ev x):=QY _ ev w dst t pos after g x _
theorem Jc7 (w:World)(b off:Nat)(hs:(Jb w b off 2).size=2):Q9 Tryz.prog 96 w (.pointer (some ⟨b,off,none⟩))=.ok (.value (.agg (Jb w b off 2))) w:=
 Qc _ w none 0 "" #[] none _ _ 2 _ Tryz.underlying96 rfl (by kernel_rfl) (by decide) hs
theorem JbA (ev:Operand→Value)(w:World)(dst:Option Tmp)(t:TypeId)(pos:String)(after:Array Edge)(g:Option (Nat×Bool))(x y:Operand):(execOp ev ⟨dst,.store 96 x y,t,pos,after,g⟩).run Tryz.prog w=ZQ Tryz.prog 96 w (ev x) (ev y):=Q2 _ ev w dst t pos after g x y _
theorem Jcd (w:World)(b:Nat)(cs:Array Value)(hx:Jk w b 2=true)(hs:cs.size=2)(h1:JbT cs.toList=true):ZQ Tryz.prog 96 w (.pointer (some ⟨b,0,none⟩)) (.agg cs)=.ok .skip (w.setRow b cs):=
 Qh _ w none 0 "" #[] none _ _ _ 2 (by kernel_rfl) hx (by show Jdb _ (.agg cs)=true;rw[Xf,←Array.all_toList,X3 _ h1,hs];simp)
theorem Jgc (ev:Operand→Value)(w:World)(dst:Option Tmp)(t:TypeId)(pos:String)(after:Array Edge)(g:Option (Nat×Bool))(x:Operand):(execOp ev ⟨dst,.load 222 x,t,pos,after,g⟩).run Tryz.prog w=Q9 Tryz.prog 222 w (ev x):=QY _ ev w dst t pos after g x _
theorem ZH (w:World)(b off:Nat)(hs:(Jb w b off 5).size=5):Q9 Tryz.prog 222 w (.pointer (some ⟨b,off,none⟩))=.ok (.value (.agg (Jb w b off 5))) w:=
 Qc _ w none 0 "" #[] none _ _ 5 _ Tryz.underlying222 rfl (by kernel_rfl) (by decide) hs
theorem JbB (ev:Operand→Value)(w:World)(dst:Option Tmp)(t:TypeId)(pos:String)(after:Array Edge)(g:Option (Nat×Bool))(x y:Operand):(execOp ev ⟨dst,.store 222 x y,t,pos,after,g⟩).run Tryz.prog w=ZQ Tryz.prog 222 w (ev x) (ev y):=Q2 _ ev w dst t pos after g x y _
theorem Jce (w:World)(b:Nat)(cs:Array Value)(hx:Jk w b 5=true)(hs:cs.size=5)(h1:JbT cs.toList=true):ZQ Tryz.prog 222 w (.pointer (some ⟨b,0,none⟩)) (.agg cs)=.ok .skip (w.setRow b cs):=
 Qh _ w none 0 "" #[] none _ _ _ 5 (by kernel_rfl) hx (by show Jdb _ (.agg cs)=true;rw[Xf,←Array.all_toList,X3 _ h1,hs];simp)
attribute [go_sem ↓] Jcc JbA Jgc JbB
attribute [go_sem] Jc7 Jcd ZH Jce
theorem JaZ (ev:Operand→Value)(w:World){dst:Option Tmp}{t:TypeId}{pos:String}{after:Array Edge}{g:Option (Nat×Bool)}{x y:Operand}(b:Nat)(cs:Array Value)(hx:ev x=.pointer (some ⟨b,0,none⟩))(hy:ev y=.agg cs)(hr:Jk w b 2=true)(hs:cs.size=2)(h1:JbT cs.toList=true):(execOp ev ⟨dst,.store 96 x y,t,pos,after,g⟩).run Tryz.prog w=.ok .skip (w.setRow b cs):=by
 rw[JbA,hx,hy];exact Jcd w b cs hr hs h1
theorem Jij (ev:Operand→Value)(w:World){dst:Option Tmp}{t:TypeId}{pos:String}{after:Array Edge}{g:Option (Nat×Bool)}{x:Operand}(b:Nat)(cs:Array Value)(hx:ev x=.pointer (some ⟨b,0,none⟩))(hp:Jb w b 0 2=cs)(hs:cs.size=2):(execOp ev ⟨dst,.load 96 x,t,pos,after,g⟩).run Tryz.prog w=.ok (.value (.agg cs)) w:=by
 rw[Jcc,hx,Jc7 w b 0 (by rw[hp,hs]),hp]
theorem Xz (ev:Operand→Value)(w:World){dst:Option Tmp}{t:TypeId}{pos:String}{after:Array Edge}{g:Option (Nat×Bool)}{x y:Operand}(b:Nat)(cs:Array Value)(hx:ev x=.pointer (some ⟨b,0,none⟩))(hy:ev y=.agg cs)(hr:Jk w b 5=true)(hs:cs.size=5)(h1:JbT cs.toList=true):(execOp ev ⟨dst,.store 222 x y,t,pos,after,g⟩).run Tryz.prog w=.ok .skip (w.setRow b cs):=by
 rw[JbB,hx,hy];exact Jce w b cs hr hs h1
theorem Jhl (ev:Operand→Value)(w:World){dst:Option Tmp}{t:TypeId}{pos:String}{after:Array Edge}{g:Option (Nat×Bool)}{x y:Operand}(b:Nat)(cs:Array Value)(hx:ev x=.pointer (some ⟨b,0,none⟩))(hy:ev y=.agg cs)(hr:Jk w b 37=true)(hs:cs.size=37)(h1:JbT cs.toList=true):(execOp ev ⟨dst,.store 118 x y,t,pos,after,g⟩).run Tryz.prog w=.ok .skip (w.setRow b cs):=by
 rw[Jbw,hx,hy];exact Jb3 w b cs hr hs h1
theorem Jik (ev:Operand→Value)(w:World){dst:Option Tmp}{t:TypeId}{pos:String}{after:Array Edge}{g:Option (Nat×Bool)}{x:Operand}(b:Nat)(cs:Array Value)(hx:ev x=.pointer (some ⟨b,0,none⟩))(hp:Jb w b 0 37=cs)(hs:cs.size=37):(execOp ev ⟨dst,.load 118 x,t,pos,after,g⟩).run Tryz.prog w=.ok (.value (.agg cs)) w:=by
 rw[Jb2,hx,Jc1 w b 0 (by rw[hp,hs]),hp]
theorem Q1 (ev:Operand→Value)(w:World){dst:Option Tmp}{t:TypeId}{pos:String}{after:Array Edge}{g:Option (Nat×Bool)}{x y:Operand}(b:Nat)(cs:Array Value)(hx:ev x=.pointer (some ⟨b,0,none⟩))(hy:ev y=.agg cs)(hr:Jk w b 12=true)(hs:cs.size=12)(h1:JbT cs.toList=true):(execOp ev ⟨dst,.store 149 x y,t,pos,after,g⟩).run Tryz.prog w=.ok .skip (w.setRow b cs):=by
 rw[Jbx,hx,hy];exact Jb5 w b cs hr hs h1
theorem Jd7 (ev:Operand→Value)(w:World){dst:Option Tmp}{t:TypeId}{pos:String}{after:Array Edge}{g:Option (Nat×Bool)}{x:Operand}(b:Nat)(cs:Array Value)(hx:ev x=.pointer (some ⟨b,0,none⟩))(hp:Jb w b 0 12=cs)(hs:cs.size=12):(execOp ev ⟨dst,.load 149 x,t,pos,after,g⟩).run Tryz.prog w=.ok (.value (.agg cs)) w:=by
 rw[Jb4,hx,QZ w b 0 (by rw[hp,hs]),hp]
theorem Jd8 (ev:Operand→Value)(w:World){dst:Option Tmp}{t:TypeId}{pos:String}{after:Array Edge}{g:Option (Nat×Bool)}{x:Operand}(b:Nat)(cs:Array Value)(hx:ev x=.pointer (some ⟨b,0,none⟩))(hp:Jb w b 0 37=cs)(hs:cs.size=37):(execOp ev ⟨dst,.load 30 x,t,pos,after,g⟩).run Tryz.prog w=.ok (.value (.agg cs)) w:=by
 rw[Jb6,hx,Jc2 w b 0 (by rw[hp,hs]),hp]
theorem Ji1 (l:List Int):eqL l l=true:=(JaE l l).2 rfl
theorem Jd9 (w:World)(d:Nat)(s:Bool)(S:Nat→Int)(t:Bool)(T:Nat→Int)(p a b c e:Int):
 (Op.equalIn (d+6) 30 (.agg (Jo3 s t p (.int .u16 a) (.int .u16 b) S T)) (.agg (Jo3 s t p (.int .u16 c) (.int .u16 e) S T))).run Tryz.prog w=.ok (decide (a=c)&&decide (b=e)) w:=by
 simp[go_sem]
 by_cases h1:a=c
 ·by_cases h2:b=e<;>simp[h1,h2,Ji1]
 ·simp[h1]
attribute [go_sem 5000] Jd9
open Go.RowKit Bits
theorem JcS {P:Program}(mty kt et:TypeId)(r clock:Nat)(es:Array MapEntry)(q:IntKind)(k:Int)(val:Value)(w:World)(hm:P.underlying mty=some (.map kt et))(hk:P.underlying kt=some (.int q))(hb:w.heap[r]? =some (.map es clock))
 (hf:Instr.findNow (.int q) (.int q k) es.toList 0=some none):
 (Instr.mapUpdate mty (.map (some r)) (.int q k) val).run P w=.ok () { w with heap:=w.heap.setIfInBounds r (.map (es.push { key:=.int q k,val:=val,born:=clock }) (clock+1)) }:=by
 have hc:(Instr.checkKey false 10000 kt (.int q k)).run P w=.ok () w:=MapKept.run_checkKey (k:=.int q k) hk (by simp[MapKept.IsKey]) false 9999
 simp[Instr.mapUpdate,run_underlying hm,MapKept.run_getObj_map hb,hc,MapKept.run_findKey hk hf,MapKept.run_setObj_map _ hb,Result.andThen]
theorem J4 {P:Program}(mty kt et:TypeId)(r clock:Nat)(es:Array MapEntry)(q:IntKind)(k:Int)(z:Value)(ok:Bool)(w:World)(hm:P.underlying mty=some (.map kt et))(hk:P.underlying kt=some (.int q))(hb:w.heap[r]? =some (.map es clock))(x:Option (Nat×Value))
 (hf:Instr.findNow (.int q) (.int q k) es.toList 0=some x)(hz:((P.info? et).bind (·.zero))=some z):
 (Instr.lookup mty (.map (some r)) (.int q k) ok).run P w=.ok (if ok then .tuple #[(x.map (·.2)).getD z,.bool x.isSome] else (x.map (·.2)).getD z) w:=by
 have hc:(Instr.checkKey es.isEmpty 10000 kt (.int q k)).run P w=.ok () w:=MapKept.run_checkKey (k:=.int q k) hk (by simp[MapKept.IsKey]) _ 9999
 have hzz:(zeroValue et).run P w=.ok z w:=by
  cases hi:P.info? et with
  |none=>rw[hi] at hz;cases hz
  |some i=>
   rw[hi] at hz
   simp only[Option.bind_some] at hz
   simp[zeroValue,typeInfo,hi,hz,Result.andThen]
 cases x with
 |none=>simp[Instr.lookup,run_underlying hm,MapKept.run_getObj_map hb,hc,MapKept.run_findKey hk hf,hzz,Result.andThen]
 |some x=>simp[Instr.lookup,run_underlying hm,MapKept.run_getObj_map hb,hc,MapKept.run_findKey hk hf,hzz,Result.andThen]
theorem Jk1 {B:Nat}{w0 w:World}{r:Nat}(h:Below B w0 w)(hr:B≤r)(o:Obj):Below B w0 { w with heap:=w.heap.setIfInBounds r o }:=
 ⟨h.os,h.tape,h.output,by simpa using h.size,fun i hi=>by
   have:(w.heap.setIfInBounds r o)[i]? =w.heap[i]?:=by rw[Array.getElem?_setIfInBounds_ne (by omega)]
   exact this.trans (h.block i hi)⟩
theorem JcT {P:Program}(w:World){ops:Array Oper}{rest:List Oper}{o:Oper}{a:Act}{Q:Exit→Act→World→Prop}
 (hg:o.guard=none)(m x v:Operand)(t:TypeId)(hop:o.op=Op.insert t m x v)(kt et:TypeId)(hm:P.underlying t=some (.map kt et))(q:IntKind)(hk:P.underlying kt=some (.int q))
 (r clock:Nat)(es:Array MapEntry)(k:Int)(val:Value)(hb:w.heap[r]? =some (.map es clock))(hem:a.eval m=.map (some r))(hx:a.eval x=.int q k)(hv:a.eval v=val)(hf:Instr.findNow (.int q) (.int q k) es.toList 0=some none)
 (hK:∀w',w'.heap[r]? =some (.map (es.push { key:=.int q k,val:=val,born:=clock }) (clock+1))→Below r w w'→w'.heap.size=w.heap.size→(∀i,i≠r→w'.heap[i]? =w.heap[i]?)→wpList P ops Q rest (a.put o.dst undef) w'):
 wpList P ops Q (o::rest) a w:=by
 refine wpList_plain hg fun K' hK'=>?_
 have hrun:=JcS t kt et r clock es q k val w hm hk hb hf
 have hlt:=(JoM hb).1
 unfold Oper.wp
 simp[execOp,hop,hem,hx,hv,hrun,Result.andThen]
 refine hK' _ _ (hK _ ?_ (Jk1 (JoO _ _) (JoQ _) _) (by simp) (fun i hi=>?_))
 ·simp[hlt]
 ·show(w.heap.setIfInBounds r _)[i]? =_
  rw[Array.getElem?_setIfInBounds_ne (Ne.symm hi)]
theorem Jau {P:Program}(w:World){ops:Array Oper}{rest:List Oper}{dst:Option Tmp}{ty:TypeId}{pos:String}{after:Array Edge}{a:Act}{Q:Exit→Act→World→Prop}{m v:Operand}{t:TypeId}{q:IntKind}{k:Int}
 (r clock:Nat)(es:Array MapEntry)(val:Int→Value)(kt et:TypeId)(hm:P.underlying t=some (.map kt et))(hk:P.underlying kt=some (.int q))
 (hb:w.heap[r]? =some (.map es clock))(hem:a.eval m=.map (some r))(hv:a.eval v=val k)(hf:Instr.findNow (.int q) (.int q k) es.toList 0=some none)
 (hK:∀w',w'.heap[r]? =some (.map (es.push { key:=.int q k,val:=val k,born:=clock }) (clock+1))→Below r w w'→w'.heap.size=w.heap.size→(∀i,i≠r→w'.heap[i]? =w.heap[i]?)→wpList P ops Q rest (a.put dst undef) w'):
 wpList P ops Q (⟨dst,.insert t m (.const (.int q k)) v,ty,pos,after,none⟩::rest) a w:=
 JcT w rfl m _ v t rfl kt et hm q hk r clock es k (val k) hb hem rfl hv hf hK
def Jdo:Value:=.agg #[.int .i64 20,.int .i64 16,.func (.func 184) #[] #[],.func (.func 185) #[] #[],.func (.func 186) #[] #[]]
def Jdp:Value:=.agg #[.int .i64 8,.int .i64 6,.func (.func 187) #[] #[],.func (.func 188) #[] #[],.func (.func 189) #[] #[]]
def Xl:Value:=.agg #[.int .i64 4,.int .i64 2,.func (.func 181) #[] #[],.func (.func 182) #[] #[],.func (.func 183) #[] #[]]
def Jea (k:Int):Value:=if k=6 then Jdo else if k=17 then Jdp else Xl
def JU:Array MapEntry:=#[⟨.int .u8 6,Jdo,0⟩,⟨.int .u8 17,Jdp,1⟩,⟨.int .u8 1,Xl,2⟩,⟨.int .u8 58,Xl,3⟩]
def Jcf:Value:=.agg #[.int .i64 0,.int .i64 0,.nilFunc,.nilFunc,.nilFunc]
theorem XA:((Tryz.prog.info? 222).bind (·.zero))=some Jcf:=by kernel_rfl
def Jk2 (w:World):Ending→World→Prop:=fun e w'=>∃r,e=.returned (.map (some r))∧w.heap.size≤r∧w'.heap[r]? =some (.map JU 4)∧Below w.heap.size w w'
theorem Jc8 {B:Nat}{w0 w w':World}{r:Nat}(h:Below B w0 w)(hr:B≤r)(hl:Below r w w'):Below B w0 w':=h.trans (hl.mono hr)
theorem J5 (w:World):Calls Tryz.prog 136 #[] w (Jk2 w):=by
 have hmm:=@run_makeMap Tryz.prog
 have hmp:((w.alloc (.cells #[.int .i64 4,.int .i64 2,.func (.func 181) #[] #[],.func (.func 182) #[] #[],.func (.func 183) #[] #[]] 222)).alloc (.map #[] 0)).heap[w.heap.size+1]? =some (.map #[] 0):=by
  have:=heap_alloc_new (w.alloc (.cells #[.int .i64 4,.int .i64 2,.func (.func 181) #[] #[],.func (.func 182) #[] #[],.func (.func 183) #[] #[]] 222)) (.map #[] 0)
  simpa using this
 have hbx:((w.alloc (.cells #[.int .i64 4,.int .i64 2,.func (.func 181) #[] #[],.func (.func 182) #[] #[],.func (.func 183) #[] #[]] 222)).alloc (.map #[] 0)).heap[w.heap.size]? =some (.cells #[.int .i64 4,.int .i64 2,.func (.func 181) #[] #[],.func (.func 182) #[] #[],.func (.func 183) #[] #[]] 222):=by
  exact(heap_alloc_old _ _ (by simp)).trans (heap_alloc_new w _)
 have hB:Below w.heap.size w ((w.alloc (.cells #[.int .i64 4,.int .i64 2,.func (.func 181) #[] #[],.func (.func 182) #[] #[],.func (.func 183) #[] #[]] 222)).alloc (.map #[] 0)):=Below.all (Below.all (JoO _ _) _) _
 go_enter Tryz.func136,Tryz.ntmps136
 go_wp2_with (first|(with_reducible refine Jau _ (w.heap.size+1) _ _ Jea 5 222 ?_ ?_ hmp ?_ ?_ ?_ ?_;(kernel_rfl);(kernel_rfl);(kernel_rfl);(kernel_rfl);(kernel_rfl);intro w1 hmp hlow hsz hoth;have hbx:=(hoth w.heap.size (by omega)).trans hbx;have hB:=Jc8 hB (by omega) hlow;have hpt:Jb w1 w.heap.size 0 5=#[.int .i64 4,.int .i64 2,.func (.func 181) #[] #[],.func (.func 182) #[] #[],.func (.func 183) #[] #[]]:=Ja hbx rfl))
 go_ret
 exact⟨_,rfl,by omega,hmp.trans (by kernel_rfl),hB⟩
open Go.RowKit Bits
def Jfb (size:Nat)(v:Int):List Int:=if size=1 then [v] else if size=2 then be2 v else be4 v
def Jeb (size:Nat):Int:=if size=1 then 256 else if size=2 then 65536 else 4294967296
theorem Ji2 (size:Nat)(v:Int):(Jfb size v).length≤4:=by
 unfold Jfb;split
 ·simp
 ·split<;>simp[be2,be4]
def Ql (size:Nat)(vs:List Int):List Int:=(vs.map (Jfb size)).flatten
theorem JjC (size:Nat)(vs:List Int)(v:Int):Ql size (vs++[v])=Ql size vs++Jfb size v:=by simp[Ql]
theorem QU (size:Nat)(vs:List Int):(Ql size vs).length≤4*vs.length:=by
 induction vs with
 |nil=>simp[Ql]
 |cons v r ih=>
  have:=Ji2 size v
  unfold Ql at ih⊢
  simp only[List.map_cons,List.flatten_cons,List.length_append,List.length_cons]
  omega
theorem Jcg (size:Nat)(hs:size=1∨size=2∨size=4)(p:Nat)(K:Nat→Prop)(l:List Int)(v:Int)(h0:0≤v)(h1:v<Jeb size)(w:World)(hw:WrK w p K l)(hm:l.length≤900000):
 Calls Tryz.prog 65 #[.pointer (some ⟨p,0,none⟩),.int .u64 v,.int .i64 size] w (JdZ w p K (l++Jfb size v)):=by
 have HW:=JoL hw
 clear hw
 have hfit:∀w,Calls Tryz.prog 124 #[.int .u64 v,.int .i64 size] w (Jj w (.bool true)):=fun w=>by
  rcases hs with rfl|rfl|rfl
  ·exact ZD v 1 h0 (by simpa[Jeb] using h1) (by decide) (by decide) w
  ·exact ZD v 2 h0 (by simpa[Jeb] using h1) (by decide) (by decide) w
  ·exact ZD v 4 h0 (by simpa[Jeb] using h1) (by decide) (by decide) w
 have hof:∀w,Calls Tryz.prog 125 #[.int .u64 v,.int .i64 size] w (JT w (Jfb size v)):=fun w=>by
  rcases hs with rfl|rfl|rfl
  ·exact JkD v h0 (by simpa[Jeb] using h1) w
  ·exact Jf2 v h0 (by simpa[Jeb] using h1) w
  ·exact JkE v h0 (by simpa[Jeb] using h1) w
 have hby:∀x∈Jfb size v,0≤x∧x<256:=by
  rcases hs with rfl|rfl|rfl
  ·intro x hx
   simp only[Jfb,if_true,List.mem_singleton] at hx
   subst hx
   exact⟨h0,by simpa[Jeb] using h1⟩
  ·exact JB v
  ·exact JfW v
 have hln:=Ji2 size v
 generalize Jfb size v=B at*
 generalize Jeb size=T at*
 go_enter Tryz.func65,Tryz.ntmps65
 go_wp2_with (go_at_call 124;refine Calls.later (hfit _) ?_;intro x)
 refine JoN (hof _) ?_
 rintro e w2 ⟨oa,cap,rfl,ho,hb⟩
 go_wp2_with fail
 refine JoN (X4 p K l oa _ cap B w2 ((HW.out.later x).below hb) (ho.reads hby) (by omega)) ?_
 rintro e w3 ⟨rfl,hW3,hb3,hs3⟩
 go_wp2_with fail
 go_ret
 exact⟨rfl,hW3,((x.below.mono (Nat.le_of_lt HW.out.lt)).trans (hb.mono (Nat.le_of_lt (JoP HW.out.lt x.below.size)))).trans hb3,((XW.of x.below HW.out.old).trans (XW.of hb (HW.out.later x).old)).trans hs3⟩
theorem Jk3 (size:Nat)(hs:size=1∨size=2∨size=4)(p g:Nat)(K:Nat→Prop)(vs:List Int)(l:List Int)(w:World)(hw:WrK w p K l)(hg:K g)
 (hc:∀j,j<vs.length→w.cell? ⟨g,j,none⟩=some (.int .u64 (vs.getD j 0)))(hv:∀j,j<vs.length→0≤vs.getD j 0∧vs.getD j 0<Jeb size)(hm:vs.length≤16)(hl:l.length≤800000):
 Calls Tryz.prog 190 #[.pointer (some ⟨p,0,none⟩),.int .i64 size,.slice (some ⟨g,0,none⟩) vs.length vs.length] w (fun e w'=>e=.returned (.tuple #[])∧WrK w' p K (l++Ql size vs)∧Below p w w'∧XW K w w'):=by
 have HW:=JoL hw
 have HC:=JoL hc
 have HV:=JoL hv
 have HG:=JoL hg
 have HP:Hid (∀(l:List Int) (v:Int) (w:World),0≤v→v<Jeb size→WrK w p K l→l.length≤900000→Calls Tryz.prog 65 #[.pointer (some ⟨p,0,none⟩),.int .u64 v,.int .i64 size] w (JdZ w p K (l++Jfb size v))):=JoL (fun l v w h0 h1 hw hm=>Jcg size hs p K l v h0 h1 w hw hm)
 have HT:Hid (∀k,k<vs.length→Ql size (vs.take (k+1))=Ql size (vs.take k)++Jfb size (vs.getD k 0)):=JoL (fun k hk=>by rw[Ja7 vs k hk,JjC])
 have HF:Hid (Ql size (vs.take vs.length)=Ql size vs):=JoL (by rw[List.take_length])
 have HLN:Hid (∀k,(Ql size (vs.take k)).length≤4*vs.length):=JoL (fun k=>by have:=QU size (vs.take k);rw[List.length_take] at this;omega)
 have HZ:Hid (Ql size (vs.take 0)=[]):=JoL rfl
 clear hw hc hv hg hs
 generalize hn:vs.length=n at*
 clear hn
 have hp:=HW.out.lt
 go_enter Tryz.func190,Tryz.ntmps190
 go_wp2_with fail
 go_loopw [10] (fun u10 wr=>∃k:Nat,k≤n∧u10=.int .i64 k∧Hid (WrK wr p K (l++Ql size (vs.take k))∧Below p w wr∧XW K w wr)) (fun u10 _=>(n:Int)-intOf u10 |>.toNat)
 case atStart=>exact⟨0,Nat.zero_le _,rfl,JoL ⟨by rw[HZ.out,List.append_nil];exact HW.out,JoO _ _,XW.refl _ _⟩⟩
 case round=>
  obtain⟨k,hk,rfl,HS⟩:=hrel
  by_cases hlt:k<n
  ·have hck:=HC.out k hlt
   have hcw:wr.cell? ⟨g,k,none⟩=some (.int .u64 (vs.getD k 0)):=by
    rw[←hck];unfold World.cell?;simp only[HS.out.2.2 g HG.out]
   have HVK:=JoL (HV.out k hlt)
   have HTK:=JoL (HT.out k hlt)
   clear hck
   generalize vs.getD k 0=v at*
   go_wp2_with fail
   refine JoN (HP.out _ v wr HVK.out.1 HVK.out.2 HS.out.1 (by rw[List.length_append];have:=HLN.out k;omega)) ?_
   rintro e w3 ⟨rfl,hW3,hb3,hs3⟩
   have HS3:Hid (WrK w3 p K (l++Ql size (vs.take (k+1)))∧Below p w w3∧XW K w w3):=JoL ⟨by rw[HTK.out,←List.append_assoc];exact hW3,HS.out.2.1.trans hb3,HS.out.2.2.trans hs3⟩
   clear hW3 hb3 hs3
   go_wp2_with fail
   go_roundw
   case rel=>exact⟨k+1,by omega,by go_num,HS3⟩
   case measure=>simp[intOf];omega
  ·obtain rfl:k=n:=by omega
   go_wp2_with fail
   go_end0
   have:=HS.out
   rw[HF.out] at this
   exact⟨rfl,this⟩
open Go.RowKit Bits
def QC (p a b f ty cd:Int)(oD:Option Addr)(n cD:Nat):Array Value:=(Jpe p (.int .u16 a) (.int .u16 b) f ty cd (.slice oD n cD))
def Jal (w:World)(p:Nat)(K:Nat→Prop)(L:List Int):Ending→World→Prop:=fun e w'=>e=.returned (.tuple #[])∧WrK w' p K L∧Below p w w'∧XW K w w'
theorem WrK.puts {y w':World}{p:Nat}{K:Nat→Prop}{L:List Int}(h:WrK y p K L)(size:Nat)(hs:size=1∨size=2∨size=4)(hb:Below y.heap.size y w')(lo:Nat)(hlo:y.heap.size≤lo)
 (vs:List Int)(k:Nat)(hk:vs.length=k)(t:TypeId)(hh:w'.heap[lo]? =some (.cells (vs.map (.int .u64)).toArray t (0,0)))(hv:∀v∈vs,0≤v∧v<Jeb size)(hm:k≤16)(hl:L.length≤800000):
 Calls Tryz.prog 190 #[.pointer (some ⟨p,0,none⟩),.int .i64 size,.slice (some ⟨lo,0,none⟩) k k] w' (Jal y p K (L++Ql size vs)):=by
 subst hk
 have hlt:lo<w'.heap.size:=(JoM hh).1
 have hW:=h.more hb hlo hlt
 refine(Jk3 size hs p lo _ vs L w' hW (.inr rfl) (fun j hj=>?_) (fun j hj=>?_) hm hl).mono ?_
 ·rw[cell_of_row _ _ j _ t (0,0) hh]
  simp[List.getD_eq_getElem?_getD,hj]
 ·rw[List.getD_eq_getElem?_getD,List.getElem?_eq_getElem hj]
  exact hv _ (List.getElem_mem hj)
 ·rintro e w3 ⟨rfl,hw3,hb3,hs3⟩
  exact⟨rfl,hw3.mono fun b h=>.inl h,(hb.mono (Nat.le_of_lt h.lt)).trans hb3,(XW.of hb h.old).trans (fun b hb=>hs3 b (.inl hb))⟩
theorem Jam (w:World)(o1 o2:Obj):((w.alloc o1).alloc o2).heap[w.heap.size+1]? =some o2:=by
 have:=heap_alloc_new (w.alloc o1) o2
 simpa using this
theorem JjD (p:Nat)(K:Nat→Prop)(q a b f ty cd:Int)(oD:Option Addr)(n cD:Nat)(L:List Int)(w:World)(hw:WrK w p K L)(ha:0≤a∧a<65536)(hb:0≤b∧b<65536)(hn:n≤65527)(hl:L.length≤700000):
 Calls Tryz.prog 188 #[.pointer (some ⟨p,0,none⟩),.agg (QC q a b f ty cd oD n cD)] w (Jal w p K (L++Ql 2 [a,b,8+(n:Int),0])):=by
 have HW:=JoL hw
 have hbx:=heap_alloc_new w (.cells (QC q a b f ty cd oD n cD) 149)
 have hB:Below w.heap.size w (w.alloc (.cells (QC q a b f ty cd oD n cD) 149)):=Below.all (JoO _ _) _
 have HW1:=JoL (hw.below hB)
 have HB1:=JoL hB
 unfold QC at*
 clear hB hw
 have hc1:(w.alloc (.cells (Jpe q (.int .u16 a) (.int .u16 b) f ty cd (.slice oD n cD)) 149)).cell? ⟨w.heap.size,1,none⟩=some (.int .u16 a):=cell_of_row _ _ 1 _ _ (0,0) hbx
 have hc2:(w.alloc (.cells (Jpe q (.int .u16 a) (.int .u16 b) f ty cd (.slice oD n cD)) 149)).cell? ⟨w.heap.size,2,none⟩=some (.int .u16 b):=cell_of_row _ _ 2 _ _ (0,0) hbx
 have hc11:(w.alloc (.cells (Jpe q (.int .u16 a) (.int .u16 b) f ty cd (.slice oD n cD)) 149)).cell? ⟨w.heap.size,11,none⟩=some (.slice oD n cD):=cell_of_row _ _ 11 _ _ (0,0) hbx
 clear hbx
 go_enter Tryz.func188,Tryz.ntmps188
 go_wp2_with fail
 refine JoN (HW1.out.puts 2 (by decide) (Below.all (JoO _ _) _) _ (by simp) [a,b,8+(n:Int),0] 4 rfl _ (Jam w _ _) ?_ (by decide) (by omega)) ?_
 ·intro v hv;simp only[List.mem_cons,List.not_mem_nil,or_false] at hv;unfold Jeb;simp only[if_neg (show¬(2:Nat)=1 by decide),if_true];omega
 rintro e w2 ⟨rfl,hw2,hb2,hs2⟩
 go_wp2_with fail
 go_end0
 exact⟨rfl,hw2,(HB1.out.mono (Nat.le_of_lt HW.out.lt)).trans hb2,(XW.of HB1.out HW.out.old).trans hs2⟩
theorem Jil (p:Nat)(K:Nat→Prop)(q a b f ty cd:Int)(oD:Option Addr)(n cD:Nat)(L:List Int)(w:World)(hw:WrK w p K L)(ha:0≤ty∧ty<256)(hb:0≤cd∧cd<256)(hl:L.length≤700000):
 Calls Tryz.prog 182 #[.pointer (some ⟨p,0,none⟩),.agg (QC q a b f ty cd oD n cD)] w (Jal w p K ((L++Ql 1 [ty,cd])++Ql 2 [0])):=by
 have HW:=JoL hw
 have hbx:=heap_alloc_new w (.cells (QC q a b f ty cd oD n cD) 149)
 have hB:Below w.heap.size w (w.alloc (.cells (QC q a b f ty cd oD n cD) 149)):=Below.all (JoO _ _) _
 have HW1:=JoL (hw.more hB (JoQ _) (by simp))
 have HB1:=JoL hB
 unfold QC at*
 clear hB hw
 have hc9:(w.alloc (.cells (Jpe q (.int .u16 a) (.int .u16 b) f ty cd (.slice oD n cD)) 149)).cell? ⟨w.heap.size,9,none⟩=some (.int .u8 ty):=cell_of_row _ _ 9 _ _ (0,0) hbx
 have hc10:(w.alloc (.cells (Jpe q (.int .u16 a) (.int .u16 b) f ty cd (.slice oD n cD)) 149)).cell? ⟨w.heap.size,10,none⟩=some (.int .u8 cd):=cell_of_row _ _ 10 _ _ (0,0) hbx
 clear hbx
 go_enter Tryz.func182,Tryz.ntmps182
 go_wp2_with fail
 refine JoN (HW1.out.puts 1 (by decide) (Below.all (JoO _ _) _) _ (by simp) [ty,cd] 2 rfl _ (Jam w _ _) ?_ (by decide) (by omega)) ?_
 ·intro v hv;simp only[List.mem_cons,List.not_mem_nil,or_false] at hv;unfold Jeb;first|simp only[if_true]|simp only[if_neg (show¬(2:Nat)=1 by decide),if_true]|simp only[if_neg (show¬(4:Nat)=1 by decide),if_neg (show¬(4:Nat)=2 by decide)]
  omega
 rintro e w2 ⟨rfl,hw2,hb2,hs2⟩
 have HW2:=JoL hw2
 have HB2:=JoL hb2
 have HS2:=JoL hs2
 clear hw2 hb2 hs2 hc9 hc10 HW1
 go_wp2_with fail
 refine JoN (HW2.out.puts 2 (by decide) (Below.all (JoO _ _) _) _ (by simp) [0] 1 rfl _ (heap_alloc_new _ _) ?_ (by decide) (by have:=QU 1 [ty,cd];rw[List.length_append];simp at this;omega)) ?_
 ·intro v hv;simp only[List.mem_cons,List.not_mem_nil,or_false] at hv;unfold Jeb;first|simp only[if_true]|simp only[if_neg (show¬(2:Nat)=1 by decide),if_true]|simp only[if_neg (show¬(4:Nat)=1 by decide),if_neg (show¬(4:Nat)=2 by decide)]
  omega
 rintro e w3 ⟨rfl,hw3,hb3,hs3⟩
 have HWZ:=JoL hw3
 have HBZ:=JoL (HB2.out.trans hb3)
 have HSZ:=JoL (HS2.out.trans hs3)
 clear hw3 hb3 hs3
 go_wp2_with fail
 go_end0
 exact⟨rfl,HWZ.out.mono fun b h=>.inl h,(HB1.out.mono (Nat.le_of_lt HW.out.lt)).trans HBZ.out,(XW.of HB1.out HW.out.old).trans (fun b h=>HSZ.out b (.inl h))⟩
theorem JjE (p:Nat)(K:Nat→Prop)(q a b f ty cd:Int)(oD:Option Addr)(n cD:Nat)(L:List Int)(w:World)(hw:WrK w p K L)(ha:0≤a∧a<65536)(hb:0≤b∧b<65536)(hf:0≤f∧f<256)(hl:L.length≤700000):
 Calls Tryz.prog 185 #[.pointer (some ⟨p,0,none⟩),.agg (QC q a b f ty cd oD n cD)] w (Jal w p K (L++Ql 2 [a,b]++Ql 4 [0,0]++Ql 1 [80,f]++Ql 2 [0,0,0])):=by
 have HW:=JoL hw
 have hbx:=heap_alloc_new w (.cells (QC q a b f ty cd oD n cD) 149)
 have hB:Below w.heap.size w (w.alloc (.cells (QC q a b f ty cd oD n cD) 149)):=Below.all (JoO _ _) _
 have HW1:=JoL (hw.more hB (JoQ _) (by simp))
 have HB1:=JoL hB
 unfold QC at*
 clear hB hw
 have hc1:(w.alloc (.cells (Jpe q (.int .u16 a) (.int .u16 b) f ty cd (.slice oD n cD)) 149)).cell? ⟨w.heap.size,1,none⟩=some (.int .u16 a):=cell_of_row _ _ 1 _ _ (0,0) hbx
 have hc2:(w.alloc (.cells (Jpe q (.int .u16 a) (.int .u16 b) f ty cd (.slice oD n cD)) 149)).cell? ⟨w.heap.size,2,none⟩=some (.int .u16 b):=cell_of_row _ _ 2 _ _ (0,0) hbx
 have HX:=JoL hbx
 clear hbx
 go_enter Tryz.func185,Tryz.ntmps185
 go_wp2_with fail
 refine JoN (HW1.out.puts 2 (by decide) (Below.all (JoO _ _) _) _ (by simp) [a,b] 2 rfl _ (Jam w _ _) ?_ (by decide) (by omega)) ?_
 ·intro v hv;simp only[List.mem_cons,List.not_mem_nil,or_false] at hv;unfold Jeb;first|simp only[if_true]|simp only[if_neg (show¬(2:Nat)=1 by decide),if_true]|simp only[if_neg (show¬(4:Nat)=1 by decide),if_neg (show¬(4:Nat)=2 by decide)]
  omega
 rintro e w2 ⟨rfl,hw2,hb2,hs2⟩
 have HW2:=JoL hw2
 have HB2:=JoL hb2
 have HS2:=JoL hs2
 have hbx:=(hs2 _ (.inr rfl)).trans HX.out
 clear hw2 hb2 hs2 hc1 hc2 HW1
 have hc3:w2.cell? ⟨w.heap.size,3,none⟩=some (.int .u32 0):=cell_of_row _ _ 3 _ _ (0,0) hbx
 have hc4:w2.cell? ⟨w.heap.size,4,none⟩=some (.int .u32 0):=cell_of_row _ _ 4 _ _ (0,0) hbx
 clear hbx
 go_wp2_with fail
 refine JoN (HW2.out.puts 4 (by decide) (Below.all (JoO _ _) _) _ (by simp) [0,0] 2 rfl _ (heap_alloc_new _ _) ?_ (by decide) (by have h0:=QU 2 [a,b];simp only[List.length_append,List.length_cons,List.length_nil] at*;omega)) ?_
 ·intro v hv;simp only[List.mem_cons,List.not_mem_nil,or_false] at hv;unfold Jeb;first|simp only[if_true]|simp only[if_neg (show¬(2:Nat)=1 by decide),if_true]|simp only[if_neg (show¬(4:Nat)=1 by decide),if_neg (show¬(4:Nat)=2 by decide)]
  omega
 rintro e w3 ⟨rfl,hw3,hb3,hs3⟩
 have HW3:=JoL hw3
 have HB3:=JoL (HB2.out.trans hb3)
 have HS3:=JoL (HS2.out.trans hs3)
 have hbx:=(HS3.out _ (.inr rfl)).trans HX.out
 clear hw3 hb3 hs3 hc3 hc4 HW2 HB2 HS2
 have hc8:w3.cell? ⟨w.heap.size,8,none⟩=some (.slice none 0 0):=cell_of_row _ _ 8 _ _ (0,0) hbx
 have hc5:w3.cell? ⟨w.heap.size,5,none⟩=some (.int .u8 f):=cell_of_row _ _ 5 _ _ (0,0) hbx
 clear hbx
 go_wp2_with fail
 refine JoN (HW3.out.puts 1 (by decide) (Below.all (JoO _ _) _) _ (by simp) [80,f] 2 rfl _ (heap_alloc_new _ _) ?_ (by decide) (by have h0:=QU 2 [a,b];have h1:=QU 4 [0,0];simp only[List.length_append,List.length_cons,List.length_nil] at*;omega)) ?_
 ·intro v hv;simp only[List.mem_cons,List.not_mem_nil,or_false] at hv;unfold Jeb;first|simp only[if_true]|simp only[if_neg (show¬(2:Nat)=1 by decide),if_true]|simp only[if_neg (show¬(4:Nat)=1 by decide),if_neg (show¬(4:Nat)=2 by decide)]
  omega
 rintro e w4 ⟨rfl,hw4,hb4,hs4⟩
 have HW4:=JoL hw4
 have HB4:=JoL (HB3.out.trans hb4)
 have HS4:=JoL (HS3.out.trans hs4)
 have hbx:=(HS4.out _ (.inr rfl)).trans HX.out
 clear hw4 hb4 hs4 hc8 hc5 HW3 HB3 HS3
 have hc6:w4.cell? ⟨w.heap.size,6,none⟩=some (.int .u16 0):=cell_of_row _ _ 6 _ _ (0,0) hbx
 have hc7:w4.cell? ⟨w.heap.size,7,none⟩=some (.int .u16 0):=cell_of_row _ _ 7 _ _ (0,0) hbx
 clear hbx
 go_wp2_with fail
 refine JoN (HW4.out.puts 2 (by decide) (Below.all (JoO _ _) _) _ (by simp) [0,0,0] 3 rfl _ (heap_alloc_new _ _) ?_ (by decide) (by have h0:=QU 2 [a,b];have h1:=QU 4 [0,0];have h2:=QU 1 [80,f];simp only[List.length_append,List.length_cons,List.length_nil] at*;omega)) ?_
 ·intro v hv;simp only[List.mem_cons,List.not_mem_nil,or_false] at hv;unfold Jeb;first|simp only[if_true]|simp only[if_neg (show¬(2:Nat)=1 by decide),if_true]|simp only[if_neg (show¬(4:Nat)=1 by decide),if_neg (show¬(4:Nat)=2 by decide)]
  omega
 rintro e w5 ⟨rfl,hw5,hb5,hs5⟩
 have HW5:=JoL hw5
 have HB5:=JoL (HB4.out.trans hb5)
 have HS5:=JoL (HS4.out.trans hs5)
 have hbx:=(HS5.out _ (.inr rfl)).trans HX.out
 clear hw5 hb5 hs5 hc6 hc7 HW4 HB4 HS4
 have hc8:w5.cell? ⟨w.heap.size,8,none⟩=some (.slice none 0 0):=cell_of_row _ _ 8 _ _ (0,0) hbx
 clear hbx
 go_wp2_with fail
 refine JoN (X4 p _ _ none 0 0 [] w5 HW5.out (Jg.nil _) (by have h0:=QU 2 [a,b];have h1:=QU 4 [0,0];have h2:=QU 1 [80,f];have h3:=QU 2 [0,0,0];simp only[List.length_append,List.length_cons,List.length_nil] at*;omega)) ?_
 rintro e w9 ⟨rfl,hw9,hb9,hs9⟩
 rw[List.append_nil] at hw9
 have HWZ:=JoL hw9
 have HBZ:=JoL (HB5.out.trans hb9)
 have HSZ:=JoL (HS5.out.trans hs9)
 clear hw9 hb9 hs9
 go_wp2_with fail
 go_end0
 exact⟨rfl,HWZ.out.mono fun b h=>.inl h,(HB1.out.mono (Nat.le_of_lt HW.out.lt)).trans HBZ.out,(XW.of HB1.out HW.out.old).trans (fun b h=>HSZ.out b (.inl h))⟩
open Go.RowKit Bits
theorem Jbm {w:World}{o1 o2:Option Addr}{n1 c1 n2 c2:Nat}{l1 l2:List Int}(t:TypeId)(h1:Jg w o1 n1 c1 l1)(h2:Jg w o2 n2 c2 l2)(hn1:n1≤100000)(hn2:n2≤100000)(ha1:∀a,o1=some a→a.block<w.heap.size)(ha2:∀a,o2=some a→a.block<w.heap.size):
 QP (w.alloc (.cells #[.slice o1 n1 c1,.slice o2 n2 c2] t)) (w.alloc (.cells #[.slice o1 n1 c1,.slice o2 n2 c2] t)).heap.size w.heap.size 2 [l1,l2]:=by
 have hh:=heap_alloc_new w (.cells #[.slice o1 n1 c1,.slice o2 n2 c2] t)
 have hB:Below w.heap.size w (w.alloc (.cells #[.slice o1 n1 c1,.slice o2 n2 c2] t)):=Below.all (JoO _ _) _
 refine⟨rfl,by simp,fun j hj=>?_⟩
 rw[cell_of_row _ _ j _ _ (0,0) hh]
 rcases j with _|_|j
 ·exact⟨_,_,_,rfl,h1.below hB,by omega,fun a ha=>by have:=ha1 a ha;simp;omega⟩
 ·exact⟨_,_,_,rfl,h2.below hB,by omega,fun a ha=>by have:=ha2 a ha;simp;omega⟩
 ·simp at hj;omega
theorem Jg.lt {w:World}{oa:Option Addr}{n cap:Nat}{l:List Int}(h:Jg w oa n cap l)(hn:0<n):∀a,oa=some a→a.block<w.heap.size:=by
 intro a ha
 obtain⟨g,off,rfl,hg,-⟩:=h.here hn
 cases ha
 exact hg
def XX (w:World)(L:List Int):Ending→World→Prop:=fun e w'=>∃oa cap,e=.returned (.tuple #[.slice oa L.length cap,true])∧JQ w' w.heap.size 1 oa L.length cap (L.map (.int .u8))∧Below w.heap.size w w'
theorem Jan (p n:Int)(o1 o2:Option Addr)(c1 c2:Nat)(src dst:List Int)(w:World)(h1:Jg w o1 4 c1 src)(h2:Jg w o2 4 c2 dst)(hp:0≤p∧p<256)(hn:0≤n∧n<65536):
 Calls Tryz.prog 139 #[p,.int .i64 n,.slice o1 4 c1,.slice o2 4 c2] w (XX w (JR p n src dst)):=by
 have hW:WrK (w.alloc (.cells #[JoU] 137)) w.heap.size (fun _=>False) []:=by
  refine WrK.new ?_ ?_ ?_ ?_
  ·simp
  ·simp
  ·simp
  ·intro b hb;cases hb
 have HW:=JoL hW
 have hB:Below w.heap.size w (w.alloc (.cells #[JoU] 137)):=Below.all (JoO _ _) _
 have hu:=Jbm 22 (h1.below hB) (h2.below hB) (by decide) (by decide) (fun a ha=>by have:=h1.lt (by decide) a ha;simp;omega) (fun a ha=>by have:=h2.lt (by decide) a ha;simp;omega)
 have HU:=JoL hu
 have hl1:=h1.len
 have hl2:=h2.len
 have HB:=JoL hB
 have hpc:p<256:=hp.2
 have HBY:Hid (∀v∈src++dst,0≤v∧v<256):=JoL (fun v hv=>by rcases List.mem_append.1 hv with h|h;exact h1.byte v h;exact h2.byte v h)
 clear hW hB hu h1 h2
 go_enter Tryz.func139,Tryz.ntmps139
 go_wp2_with fail
 refine JoN (JcO _ 2 2 _ _ (by simpa using HU.out) (by decide)) ?_
 rintro e w2 ⟨oa,cap,rfl,ho,hb⟩
 rw[show[src,dst].flatten=src++dst by simp] at ho⊢
 have hr:=ho.reads HBY.out
 have HLL:Hid ((src++dst).length=8):=JoL (by rw[List.length_append,hl1,hl2])
 rw[HLL.out] at hr
 have hb':=JoE (Below.all (JoO (w.alloc (.cells #[JoU] 137)).heap.size _) _) hb
 have HW2:=JoL (HW.out.below hb')
 have HB2:=JoL (JoE HB.out hb')
 have HR:=JoL hr
 clear ho hb hb' hr HU HW HB
 go_wp2_with fail
 refine JoN (X4 _ _ _ _ _ _ _ w2 HW2.out HR.out (by rw[HLL.out];simp)) ?_
 rintro e w3 ⟨rfl,hw3,hb3,-⟩
 rw[List.nil_append] at hw3
 have HW3:=JoL hw3
 have HB3:=JoL (HB2.out.trans hb3)
 clear hw3 hb3 HR HW2 HB2
 go_wp2_with fail
 refine JoN (HW3.out.puts 1 (by decide) (Below.all (JoO _ _) _) _ (by simp) [0,p] 2 rfl _ (heap_alloc_new _ _) ?_ (by decide) (by rw[HLL.out];decide)) ?_
 ·intro v hv;simp only[List.mem_cons,List.not_mem_nil,or_false] at hv;unfold Jeb;simp only[if_true];omega
 rintro e w4 ⟨rfl,hw4,hb4,-⟩
 rw[show Ql 1 [0,p]=[0,p] from rfl] at hw4
 have HW4:=JoL hw4
 have HB4:=JoL (HB3.out.trans hb4)
 clear hw4 hb4 HW3 HB3
 go_wp2_with fail
 refine JoN (Jcg 2 (by decide) _ _ _ n hn.1 (by unfold Jeb;simp;omega) w4 HW4.out (by rw[List.length_append,HLL.out];simp)) ?_
 rintro e w5 ⟨rfl,hw5,hb5,-⟩
 rw[show Jfb 2 n=be2 n from rfl] at hw5
 have HW5:=JoL hw5
 have HB5:=JoL (HB4.out.trans hb5)
 clear hw5 hb5 HW4 HB4
 by_cases hp1:p=1
 ·subst hp1
  go_wp2_with fail
  go_ret2
  exact⟨none,0,rfl,JQ.nil _ _ _,HB5.out⟩
 ·have HE:Hid (JR p n src dst=src++dst++[0,p]++be2 n):=JoL (by unfold JR;rw[if_neg hp1,if_pos hl1])
  have HLL5:Hid ((src++dst++[0,p]++be2 n).length≤1000000):=JoL (by rw[List.length_append,List.length_append,HLL.out];simp[be2])
  generalize src++dst++[0,p]++be2 n=L at*
  go_wp2_with fail
  have HWL:=JoL HW5.out.wr
  refine JoN (Bits.bytes_any _ L w5 HWL.out HLL5.out) ?_
  rintro e w6 ⟨oa6,cap6,rfl,ho6,hb6⟩
  have HO6:=JoL (ho6.mono HB5.out.size)
  have HB6:=JoL (JoE HB5.out hb6)
  clear ho6 hb6
  go_wp2_with fail
  go_ret2
  rw[HE.out]
  exact⟨_,_,rfl,HO6.out,HB6.out⟩
theorem Jbn (p n:Int)(o1 o2:Option Addr)(c1 c2:Nat)(src dst:List Int)(w:World)(h1:Jg w o1 16 c1 src)(h2:Jg w o2 16 c2 dst)(hp:0≤p∧p<256)(hn:0≤n∧n<65536):
 Calls Tryz.prog 139 #[p,.int .i64 n,.slice o1 16 c1,.slice o2 16 c2] w (XX w (JR p n src dst)):=by
 have hW:WrK (w.alloc (.cells #[JoU] 137)) w.heap.size (fun _=>False) []:=by
  refine WrK.new ?_ ?_ ?_ ?_
  ·simp
  ·simp
  ·simp
  ·intro b hb;cases hb
 have HW:=JoL hW
 have hB:Below w.heap.size w (w.alloc (.cells #[JoU] 137)):=Below.all (JoO _ _) _
 have hu:=Jbm 22 (h1.below hB) (h2.below hB) (by decide) (by decide) (fun a ha=>by have:=h1.lt (by decide) a ha;simp;omega) (fun a ha=>by have:=h2.lt (by decide) a ha;simp;omega)
 have HU:=JoL hu
 have hl1:=h1.len
 have hl2:=h2.len
 have HB:=JoL hB
 have hpc:p<256:=hp.2
 have HBY:Hid (∀v∈src++dst,0≤v∧v<256):=JoL (fun v hv=>by rcases List.mem_append.1 hv with h|h;exact h1.byte v h;exact h2.byte v h)
 clear hW hB hu h1 h2
 go_enter Tryz.func139,Tryz.ntmps139
 go_wp2_with fail
 refine JoN (JcO _ 2 2 _ _ (by simpa using HU.out) (by decide)) ?_
 rintro e w2 ⟨oa,cap,rfl,ho,hb⟩
 rw[show[src,dst].flatten=src++dst by simp] at ho⊢
 have hr:=ho.reads HBY.out
 have HLL:Hid ((src++dst).length=32):=JoL (by rw[List.length_append,hl1,hl2])
 rw[HLL.out] at hr
 have hb':=JoE (Below.all (JoO (w.alloc (.cells #[JoU] 137)).heap.size _) _) hb
 have HW2:=JoL (HW.out.below hb')
 have HB2:=JoL (JoE HB.out hb')
 have HR:=JoL hr
 clear ho hb hb' hr HU HW HB
 go_wp2_with fail
 refine JoN (X4 _ _ _ _ _ _ _ w2 HW2.out HR.out (by rw[HLL.out];simp)) ?_
 rintro e w3 ⟨rfl,hw3,hb3,-⟩
 rw[List.nil_append] at hw3
 have HW3:=JoL hw3
 have HB3:=JoL (HB2.out.trans hb3)
 clear hw3 hb3 HR HW2 HB2
 go_wp2_with fail
 refine JoN (Jcg 4 (by decide) _ _ _ n hn.1 (by unfold Jeb;simp;omega) w3 HW3.out (by rw[HLL.out];decide)) ?_
 rintro e w4 ⟨rfl,hw4,hb4,-⟩
 rw[show Jfb 4 n=be4 n from rfl] at hw4
 have HW4:=JoL hw4
 have HB4:=JoL (HB3.out.trans hb4)
 clear hw4 hb4 HW3 HB3
 go_wp2_with fail
 refine JoN (Jcg 4 (by decide) _ _ _ p hp.1 (by unfold Jeb;simp;omega) w4 HW4.out (by rw[List.length_append,HLL.out];simp[be4])) ?_
 rintro e w5 ⟨rfl,hw5,hb5,-⟩
 rw[show Jfb 4 p=be4 p from rfl] at hw5
 have HW5:=JoL hw5
 have HB5:=JoL (HB4.out.trans hb5)
 clear hw5 hb5 HW4 HB4
 by_cases hp1:p=1
 ·subst hp1
  go_wp2_with fail
  go_ret2
  exact⟨none,0,rfl,JQ.nil _ _ _,HB5.out⟩
 ·have HE:Hid (JR p n src dst=src++dst++be4 n++be4 p):=JoL (by unfold JR;rw[if_neg hp1,if_neg (by omega)];simp only[be4,be2];rw[show n/16777216%256=0 by omega,show n/65536%256=0 by omega,show p/16777216%256=0 by omega,show p/65536%256=0 by omega,show p/256%256=0 by omega,show p%256=p by omega];simp)
  have HLL5:Hid ((src++dst++be4 n++be4 p).length≤1000000):=JoL (by rw[List.length_append,List.length_append,HLL.out];simp[be4])
  generalize src++dst++be4 n++be4 p=L at*
  go_wp2_with fail
  have HWL:=JoL HW5.out.wr
  refine JoN (Bits.bytes_any _ L w5 HWL.out HLL5.out) ?_
  rintro e w6 ⟨oa6,cap6,rfl,ho6,hb6⟩
  have HO6:=JoL (ho6.mono HB5.out.size)
  have HB6:=JoL (JoE HB5.out hb6)
  clear ho6 hb6
  go_wp2_with fail
  go_ret2
  rw[HE.out]
  exact⟨_,_,rfl,HO6.out,HB6.out⟩
open Go.RowKit Bits
theorem Jfc (oa:Option Addr)(n cap:Nat)(l:List Int)(w:World)(hr:Jg w oa n cap l):Calls Tryz.prog 220 #[.slice oa n cap,.slice oa n cap] w (Jj w (.bool true)):=by
 have hcv:(convert 22 9 (.slice oa n cap)).run Tryz.prog w=.ok (.string (strOfNums l)) w:=Jar 22 5 Tryz.underlying22 Tryz.underlying5 hr 9 Tryz.underlying9
 go_enter Tryz.func220,Tryz.ntmps220
 go_wp2_with fail
 go_ret
 exact .mk (by simp) (JoO _ _)
theorem XY (h s:Int)(f g r:Value)(p a b fl ty cd:Int)(oD:Option Addr)(n cD:Nat)(w:World)(hh:0≤h∧h<100)(hn:n≤1000000):
 Calls Tryz.prog 138 #[.agg #[.int .i64 h,.int .i64 s,f,g,r],.agg (QC p a b fl ty cd oD n cD)] w (Jj w (.int .i64 (h+n))):=by
 unfold QC
 go_enter Tryz.func138,Tryz.ntmps138
 go_wp2_with fail
 go_ret
 exact .mk (by simp) (Below.all (Below.all (JoO _ _) _) _)
theorem Jec (p a b fl ty cd:Int)(oD:Option Addr)(n cD:Nat)(l:List Int)(w:World)(hr:Jg w oD n cD l):
 Calls Tryz.prog 195 #[.agg (QC p a b fl ty cd oD n cD),.agg (QC p a b fl ty cd oD n cD)] w (Jj w (.bool true)):=by
 unfold QC
 have HR:=JoL hr
 clear hr
 go_enter Tryz.func195,Tryz.ntmps195
 go_wp2_with fail
 refine JoN (Jfc none 0 0 [] _ (Jg.nil _)) ?_
 rintro e w2 ⟨rfl,hb⟩
 have HX1:=JoL ((hb.block w.heap.size (by simp;omega)).trans ((heap_alloc_old _ _ (by simp)).trans (heap_alloc_new w _)))
 have HX2:=JoL ((hb.block (w.heap.size+1) (by simp)).trans (Jam w _ _))
 have HB:=JoL (JoE (Below.all (Below.all (JoO w.heap.size w) (.cells (Jpe p (.int .u16 a) (.int .u16 b) fl ty cd (.slice oD n cD)) 149)) (.cells (Jpe p (.int .u16 a) (.int .u16 b) fl ty cd (.slice oD n cD)) 149)) hb)
 clear hb
 have h1:w2.cell? ⟨w.heap.size,11,none⟩=some (.slice oD n cD):=cell_of_row _ _ 11 _ _ (0,0) HX1.out
 have h2:w2.cell? ⟨w.heap.size+1,11,none⟩=some (.slice oD n cD):=cell_of_row _ _ 11 _ _ (0,0) HX2.out
 go_wp2_with fail
 refine JoN (Jfc oD n cD l w2 (HR.out.below HB.out)) ?_
 rintro e w3 ⟨rfl,hb⟩
 have HB3:=JoL (JoE HB.out hb)
 clear hb h1 h2
 go_wp2_with fail
 go_ret
 exact .mk rfl HB3.out
theorem Jim {fn:Func}{q:Tmp}(h:fn.results=#[.cell q 149])(tmps:Array Value)(w:World)(b:Nat)(cs:Array Value)(t:TypeId)(fr:Nat×Nat)(hp:tmps.getD q undef=.pointer (some ⟨b,0,none⟩))(hc:w.heap[b]? =some (.cells cs t fr))(hs:cs.size=12):
 (results fn tmps).run Tryz.prog w=.ok (.agg cs) w:=by
 have:=Jfn h tmps w b 12 _ Tryz.underlying149 rfl JiQ hp cs (Ja hc hs) hs
 exact this
theorem JjF (p a b fl:Int)(oD:Option Addr)(n cD:Nat)(w:World):
 Calls Tryz.prog 184 #[.agg (QC p a b fl 0 0 oD n cD)] w (Jj w (.agg (QC p a b fl 0 0 oD n cD))):=by
 unfold QC
 go_enter Tryz.func184,Tryz.ntmps184
 go_wp2_with fail
 refine bodyPost_ret (Jim rfl _ _ (w.heap.size+1) _ _ (0,0) rfl (Jam w _ _) rfl) rfl ?_
 exact .mk rfl (Below.all (Below.all (JoO _ _) _) _)
theorem JjG (p a b fl ty cd:Int)(oD:Option Addr)(n cD:Nat)(w:World):
 Calls Tryz.prog 187 #[.agg (QC p a b fl ty cd oD n cD)] w (Jj w (.agg (QC 0 a b 0 0 0 none 0 0))):=by
 unfold QC
 go_enter Tryz.func187,Tryz.ntmps187
 go_wp2_with fail
 refine bodyPost_ret (Jim rfl _ _ (w.heap.size+1) _ _ (0,0) rfl (Jam w _ _) rfl) rfl ?_
 exact .mk rfl (Below.all (Below.all (JoO _ _) _) _)
theorem JjH (p a b fl ty cd:Int)(oD:Option Addr)(n cD:Nat)(w:World):
 Calls Tryz.prog 181 #[.agg (QC p a b fl ty cd oD n cD)] w (Jj w (.agg (QC 0 0 0 0 ty cd none 0 0))):=by
 unfold QC
 go_enter Tryz.func181,Tryz.ntmps181
 go_wp2_with fail
 refine bodyPost_ret (Jim rfl _ _ (w.heap.size+1) _ _ (0,0) rfl (Jam w _ _) rfl) rfl ?_
 exact .mk rfl (Below.all (Below.all (JoO _ _) _) _)
end
end Go.Proofs.YtkgjbipfhhjlpaaGreatDoor
