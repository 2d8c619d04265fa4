import Derived.Test.YtkgjbipfhhjlpaaGreatDoorMf10
set_option linter.unusedVariables false
set_option linter.unusedSimpArgs false
set_option maxRecDepth 100000
set_option maxHeartbeats 32000000
namespace Go.Proofs.YtkgjbipfhhjlpaaGreatDoor
section
open Go.RowKit
theorem Jd1 (w:World)(b b2 n:Nat)(cs:Array Value)(h:b≠b2):Jl (w.setRow b2 cs) b n=Jl w b n:=by
 unfold Jl;rw[setRow_other _ _ _ _ h]
attribute [go_sem] Jd1
theorem Jb {w:World}{b n:Nat}{cs:Array Value}{t:TypeId}{fr:Nat×Nat}(h:w.heap[b]? =some (.cells cs t fr))(hs:cs.size=n):Jc w b 0 n=cs:=by
 rw[Jn _ _ _ _ _ _ _ h,Nat.zero_add,←hs];simp
theorem Jh {w:World}{b:Nat}{old cs:Array Value}{t:TypeId}{fr:Nat×Nat}(h:w.heap[b]? =some (.cells old t fr)):(w.setRow b cs).heap[b]? =some (.cells cs t fr):=setRow_heap _ _ _ _ _ _ h
theorem Jf {B:Nat}{w:World}{b:Nat}(cs:Array Value)(h:B≤b):Below B w (w.setRow b cs):=⟨rfl,rfl,rfl,by simp,fun k hk=>setRow_other _ _ _ _ (by omega)⟩
theorem JbL (ev:Operand→Value)(w:World)(dst:Option Tmp)(t:TypeId)(pos:String)(after:Array Edge)(g:Option (Nat×Bool))(x:Operand):(execOp ev ⟨dst,.load 96 x,t,pos,after,g⟩).run Tryz.prog w=Q5 Tryz.prog 96 w (ev x):=QU _ ev w dst t pos after g x _
theorem JcB (w:World)(b off:Nat)(hs:(Jc w b off 2).size=2):Q5 Tryz.prog 96 w (.pointer (some ⟨b,off,none⟩))=.ok (.value (.agg (Jc w b off 2))) w:=
 J3 _ w none 0 "" #[] none _ _ 2 _ Tryz.underlying96 rfl (by kernel_rfl) (by decide) hs
theorem Jbc (ev:Operand→Value)(w:World)(dst:Option Tmp)(t:TypeId)(pos:String)(after:Array Edge)(g:Option (Nat×Bool))(x y:Operand):(execOp ev ⟨dst,.store 96 x y,t,pos,after,g⟩).run Tryz.prog w=ZF Tryz.prog 96 w (ev x) (ev y):=QZ _ ev w dst t pos after g x y _
theorem JbM (w:World)(b:Nat)(cs:Array Value)(hx:Jl w b 2=true)(hs:cs.size=2)(h1:Jbw cs.toList=true):ZF Tryz.prog 96 w (.pointer (some ⟨b,0,none⟩)) (.agg cs)=.ok .skip (w.setRow b cs):=
 Qd _ w none 0 "" #[] none _ _ _ 2 (by kernel_rfl) hx (by show JcH _ (.agg cs)=true;rw[Q8,←Array.all_toList,XQ _ h1,hs];simp)
theorem Jfq (ev:Operand→Value)(w:World)(dst:Option Tmp)(t:TypeId)(pos:String)(after:Array Edge)(g:Option (Nat×Bool))(x:Operand):(execOp ev ⟨dst,.load 222 x,t,pos,after,g⟩).run Tryz.prog w=Q5 Tryz.prog 222 w (ev x):=QU _ ev w dst t pos after g x _
theorem Zy (w:World)(b off:Nat)(hs:(Jc w b off 5).size=5):Q5 Tryz.prog 222 w (.pointer (some ⟨b,off,none⟩))=.ok (.value (.agg (Jc w b off 5))) w:=
 J3 _ w none 0 "" #[] none _ _ 5 _ Tryz.underlying222 rfl (by kernel_rfl) (by decide) hs
theorem Jbd (ev:Operand→Value)(w:World)(dst:Option Tmp)(t:TypeId)(pos:String)(after:Array Edge)(g:Option (Nat×Bool))(x y:Operand):(execOp ev ⟨dst,.store 222 x y,t,pos,after,g⟩).run Tryz.prog w=ZF Tryz.prog 222 w (ev x) (ev y):=QZ _ ev w dst t pos after g x y _
theorem JbN (w:World)(b:Nat)(cs:Array Value)(hx:Jl w b 5=true)(hs:cs.size=5)(h1:Jbw cs.toList=true):ZF Tryz.prog 222 w (.pointer (some ⟨b,0,none⟩)) (.agg cs)=.ok .skip (w.setRow b cs):=
 Qd _ w none 0 "" #[] none _ _ _ 5 (by kernel_rfl) hx (by show JcH _ (.agg cs)=true;rw[Q8,←Array.all_toList,XQ _ h1,hs];simp)
attribute [go_sem ↓] JbL Jbc Jfq Jbd
attribute [go_sem] JcB JbM Zy JbN
theorem JaF (ev:Operand→Value)(w:World){dst:Option Tmp}{t:TypeId}{pos:String}{after:Array Edge}{g:Option (Nat×Bool)}{x y:Operand}(b:Nat)(cs:Array Value)(hx:ev x=.pointer (some ⟨b,0,none⟩))(hy:ev y=.agg cs)(hr:Jl w b 2=true)(hs:cs.size=2)(h1:Jbw cs.toList=true):(execOp ev ⟨dst,.store 96 x y,t,pos,after,g⟩).run Tryz.prog w=.ok .skip (w.setRow b cs):=by
 rw[Jbc,hx,hy];exact JbM w b cs hr hs h1
theorem Jhl (ev:Operand→Value)(w:World){dst:Option Tmp}{t:TypeId}{pos:String}{after:Array Edge}{g:Option (Nat×Bool)}{x:Operand}(b:Nat)(cs:Array Value)(hx:ev x=.pointer (some ⟨b,0,none⟩))(hp:Jc w b 0 2=cs)(hs:cs.size=2):(execOp ev ⟨dst,.load 96 x,t,pos,after,g⟩).run Tryz.prog w=.ok (.value (.agg cs)) w:=by
 rw[JbL,hx,JcB w b 0 (by rw[hp,hs]),hp]
theorem Xt (ev:Operand→Value)(w:World){dst:Option Tmp}{t:TypeId}{pos:String}{after:Array Edge}{g:Option (Nat×Bool)}{x y:Operand}(b:Nat)(cs:Array Value)(hx:ev x=.pointer (some ⟨b,0,none⟩))(hy:ev y=.agg cs)(hr:Jl w b 5=true)(hs:cs.size=5)(h1:Jbw cs.toList=true):(execOp ev ⟨dst,.store 222 x y,t,pos,after,g⟩).run Tryz.prog w=.ok .skip (w.setRow b cs):=by
 rw[Jbd,hx,hy];exact JbN w b cs hr hs h1
theorem Jgy (ev:Operand→Value)(w:World){dst:Option Tmp}{t:TypeId}{pos:String}{after:Array Edge}{g:Option (Nat×Bool)}{x y:Operand}(b:Nat)(cs:Array Value)(hx:ev x=.pointer (some ⟨b,0,none⟩))(hy:ev y=.agg cs)(hr:Jl w b 37=true)(hs:cs.size=37)(h1:Jbw cs.toList=true):(execOp ev ⟨dst,.store 118 x y,t,pos,after,g⟩).run Tryz.prog w=.ok .skip (w.setRow b cs):=by
 rw[Ja8,hx,hy];exact JbE w b cs hr hs h1
theorem Jhm (ev:Operand→Value)(w:World){dst:Option Tmp}{t:TypeId}{pos:String}{after:Array Edge}{g:Option (Nat×Bool)}{x:Operand}(b:Nat)(cs:Array Value)(hx:ev x=.pointer (some ⟨b,0,none⟩))(hp:Jc w b 0 37=cs)(hs:cs.size=37):(execOp ev ⟨dst,.load 118 x,t,pos,after,g⟩).run Tryz.prog w=.ok (.value (.agg cs)) w:=by
 rw[JbD,hx,Jcw w b 0 (by rw[hp,hs]),hp]
theorem QX (ev:Operand→Value)(w:World){dst:Option Tmp}{t:TypeId}{pos:String}{after:Array Edge}{g:Option (Nat×Bool)}{x y:Operand}(b:Nat)(cs:Array Value)(hx:ev x=.pointer (some ⟨b,0,none⟩))(hy:ev y=.agg cs)(hr:Jl w b 12=true)(hs:cs.size=12)(h1:Jbw cs.toList=true):(execOp ev ⟨dst,.store 149 x y,t,pos,after,g⟩).run Tryz.prog w=.ok .skip (w.setRow b cs):=by
 rw[Ja9,hx,hy];exact JbG w b cs hr hs h1
theorem Jdt (ev:Operand→Value)(w:World){dst:Option Tmp}{t:TypeId}{pos:String}{after:Array Edge}{g:Option (Nat×Bool)}{x:Operand}(b:Nat)(cs:Array Value)(hx:ev x=.pointer (some ⟨b,0,none⟩))(hp:Jc w b 0 12=cs)(hs:cs.size=12):(execOp ev ⟨dst,.load 149 x,t,pos,after,g⟩).run Tryz.prog w=.ok (.value (.agg cs)) w:=by
 rw[JbF,hx,QV w b 0 (by rw[hp,hs]),hp]
theorem JhU (l:List Int):eqL l l=true:=(JeD l l).2 rfl
theorem Jdu (w:World)(d:Nat)(s:Bool)(S:Nat→Int)(t:Bool)(T:Nat→Int)(p a b c e:Int):
 (Op.equalIn (d+6) 30 (.agg (JnR s t p (.int .u16 a) (.int .u16 b) S T)) (.agg (JnR s t p (.int .u16 c) (.int .u16 e) S T))).run Tryz.prog w=.ok (decide (a=c)&&decide (b=e)) w:=by
 simp[go_sem]
 by_cases h1:a=c
 ·by_cases h2:b=e<;>simp[h1,h2,JhU]
 ·simp[h1]
attribute [go_sem 5000] Jdu
open Go.RowKit Bits
theorem Jcm {P:Program}(mty kt et:TypeId)(r clock:Nat)(es:Array MapEntry)(q:IntKind)(k:Int)(val:Value)(w:World)(hm:P.underlying mty=some (.map kt et))(hk:P.underlying kt=some (.int q))(hb:w.heap[r]? =some (.map es clock))
 (hf:Instr.findNow (.int q) (.int q k) es.toList 0=some none):
 (Instr.mapUpdate mty (.map (some r)) (.int q k) val).run P w=.ok () { w with heap:=w.heap.setIfInBounds r (.map (es.push { key:=.int q k,val:=val,born:=clock }) (clock+1)) }:=by
 have hc:(Instr.checkKey false 10000 kt (.int q k)).run P w=.ok () w:=MapKept.run_checkKey (k:=.int q k) hk (by simp[MapKept.IsKey]) false 9999
 simp[Instr.mapUpdate,run_underlying hm,MapKept.run_getObj_map hb,hc,MapKept.run_findKey hk hf,MapKept.run_setObj_map _ hb,Result.andThen]
theorem Qz {P:Program}(mty kt et:TypeId)(r clock:Nat)(es:Array MapEntry)(q:IntKind)(k:Int)(z:Value)(ok:Bool)(w:World)(hm:P.underlying mty=some (.map kt et))(hk:P.underlying kt=some (.int q))(hb:w.heap[r]? =some (.map es clock))(x:Option (Nat×Value))
 (hf:Instr.findNow (.int q) (.int q k) es.toList 0=some x)(hz:((P.info? et).bind (·.zero))=some z):
 (Instr.lookup mty (.map (some r)) (.int q k) ok).run P w=.ok (if ok then .tuple #[(x.map (·.2)).getD z,.bool x.isSome] else (x.map (·.2)).getD z) w:=by
 have hc:(Instr.checkKey es.isEmpty 10000 kt (.int q k)).run P w=.ok () w:=MapKept.run_checkKey (k:=.int q k) hk (by simp[MapKept.IsKey]) _ 9999
 have hzz:(zeroValue et).run P w=.ok z w:=by
  cases hi:P.info? et with
  |none=>rw[hi] at hz;cases hz
  |some i=>
   rw[hi] at hz
   simp only[Option.bind_some] at hz
   simp[zeroValue,typeInfo,hi,hz,Result.andThen]
 cases x with
 |none=>simp[Instr.lookup,run_underlying hm,MapKept.run_getObj_map hb,hc,MapKept.run_findKey hk hf,hzz,Result.andThen]
 |some x=>simp[Instr.lookup,run_underlying hm,MapKept.run_getObj_map hb,hc,MapKept.run_findKey hk hf,hzz,Result.andThen]
theorem JjL {B:Nat}{w0 w:World}{r:Nat}(h:Below B w0 w)(hr:B≤r)(o:Obj):Below B w0 { w with heap:=w.heap.setIfInBounds r o }:=
 ⟨h.os,h.tape,h.output,by simpa using h.size,fun i hi=>by
   have:(w.heap.setIfInBounds r o)[i]? =w.heap[i]?:=by rw[Array.getElem?_setIfInBounds_ne (by omega)]
   exact this.trans (h.block i hi)⟩
theorem Jcn {P:Program}(w:World){ops:Array Oper}{rest:List Oper}{o:Oper}{a:Act}{Q:Exit→Act→World→Prop}
 (hg:o.guard=none)(m x v:Operand)(t:TypeId)(hop:o.op=Op.insert t m x v)(kt et:TypeId)(hm:P.underlying t=some (.map kt et))(q:IntKind)(hk:P.underlying kt=some (.int q))
 (r clock:Nat)(es:Array MapEntry)(k:Int)(val:Value)(hb:w.heap[r]? =some (.map es clock))(hem:a.eval m=.map (some r))(hx:a.eval x=.int q k)(hv:a.eval v=val)(hf:Instr.findNow (.int q) (.int q k) es.toList 0=some none)
 (hK:∀w',w'.heap[r]? =some (.map (es.push { key:=.int q k,val:=val,born:=clock }) (clock+1))→Below r w w'→w'.heap.size=w.heap.size→(∀i,i≠r→w'.heap[i]? =w.heap[i]?)→wpList P ops Q rest (a.put o.dst undef) w'):
 wpList P ops Q (o::rest) a w:=by
 refine wpList_plain hg fun K' hK'=>?_
 have hrun:=Jcm t kt et r clock es q k val w hm hk hb hf
 have hlt:=(Jnw hb).1
 unfold Oper.wp
 simp[execOp,hop,hem,hx,hv,hrun,Result.andThen]
 refine hK' _ _ (hK _ ?_ (JjL (Jny _ _) (JnA _) _) (by simp) (fun i hi=>?_))
 ·simp[hlt]
 ·show(w.heap.setIfInBounds r _)[i]? =_
  rw[Array.getElem?_setIfInBounds_ne (Ne.symm hi)]
theorem Jah {P:Program}(w:World){ops:Array Oper}{rest:List Oper}{dst:Option Tmp}{ty:TypeId}{pos:String}{after:Array Edge}{a:Act}{Q:Exit→Act→World→Prop}{m v:Operand}{t:TypeId}{q:IntKind}{k:Int}
 (r clock:Nat)(es:Array MapEntry)(val:Int→Value)(kt et:TypeId)(hm:P.underlying t=some (.map kt et))(hk:P.underlying kt=some (.int q))
 (hb:w.heap[r]? =some (.map es clock))(hem:a.eval m=.map (some r))(hv:a.eval v=val k)(hf:Instr.findNow (.int q) (.int q k) es.toList 0=some none)
 (hK:∀w',w'.heap[r]? =some (.map (es.push { key:=.int q k,val:=val k,born:=clock }) (clock+1))→Below r w w'→w'.heap.size=w.heap.size→(∀i,i≠r→w'.heap[i]? =w.heap[i]?)→wpList P ops Q rest (a.put dst undef) w'):
 wpList P ops Q (⟨dst,.insert t m (.const (.int q k)) v,ty,pos,after,none⟩::rest) a w:=
 Jcn w rfl m _ v t rfl kt et hm q hk r clock es k (val k) hb hem rfl hv hf hK
def Jfr:Value:=.agg #[.int .i64 20,.int .i64 16,.func (.func 184) #[] #[],.func (.func 185) #[] #[],.func (.func 186) #[] #[]]
def Jfs:Value:=.agg #[.int .i64 8,.int .i64 6,.func (.func 187) #[] #[],.func (.func 188) #[] #[],.func (.func 189) #[] #[]]
def XV:Value:=.agg #[.int .i64 4,.int .i64 2,.func (.func 181) #[] #[],.func (.func 182) #[] #[],.func (.func 183) #[] #[]]
def Jdv (k:Int):Value:=if k=6 then Jfr else if k=17 then Jfs else XV
def Qa:Array MapEntry:=#[⟨.int .u8 6,Jfr,0⟩,⟨.int .u8 17,Jfs,1⟩,⟨.int .u8 1,XV,2⟩,⟨.int .u8 58,XV,3⟩]
def Jgz:Value:=.agg #[.int .i64 0,.int .i64 0,.nilFunc,.nilFunc,.nilFunc]
theorem JaY:((Tryz.prog.info? 222).bind (·.zero))=some Jgz:=by kernel_rfl
def JjM (w:World):Ending→World→Prop:=fun e w'=>∃r,e=.returned (.map (some r))∧w.heap.size≤r∧w'.heap[r]? =some (.map Qa 4)∧Below w.heap.size w w'
theorem JcC {B:Nat}{w0 w w':World}{r:Nat}(h:Below B w0 w)(hr:B≤r)(hl:Below r w w'):Below B w0 w':=h.trans (hl.mono hr)
theorem J5 (w:World):Calls Tryz.prog 136 #[] w (JjM w):=by
 have hmm:=@run_makeMap Tryz.prog
 have hmp:((w.alloc (.cells #[.int .i64 4,.int .i64 2,.func (.func 181) #[] #[],.func (.func 182) #[] #[],.func (.func 183) #[] #[]] 222)).alloc (.map #[] 0)).heap[w.heap.size+1]? =some (.map #[] 0):=by
  have:=heap_alloc_new (w.alloc (.cells #[.int .i64 4,.int .i64 2,.func (.func 181) #[] #[],.func (.func 182) #[] #[],.func (.func 183) #[] #[]] 222)) (.map #[] 0)
  simpa using this
 have hbx:((w.alloc (.cells #[.int .i64 4,.int .i64 2,.func (.func 181) #[] #[],.func (.func 182) #[] #[],.func (.func 183) #[] #[]] 222)).alloc (.map #[] 0)).heap[w.heap.size]? =some (.cells #[.int .i64 4,.int .i64 2,.func (.func 181) #[] #[],.func (.func 182) #[] #[],.func (.func 183) #[] #[]] 222):=by
  exact(heap_alloc_old _ _ (by simp)).trans (heap_alloc_new w _)
 have hB:Below w.heap.size w ((w.alloc (.cells #[.int .i64 4,.int .i64 2,.func (.func 181) #[] #[],.func (.func 182) #[] #[],.func (.func 183) #[] #[]] 222)).alloc (.map #[] 0)):=Below.all (Below.all (Jny _ _) _) _
 go_enter Tryz.func136,Tryz.ntmps136
 go_wp2_with (first|(with_reducible refine Jah _ (w.heap.size+1) _ _ Jdv 5 222 ?_ ?_ hmp ?_ ?_ ?_ ?_;(kernel_rfl);(kernel_rfl);(kernel_rfl);(kernel_rfl);(kernel_rfl);intro w1 hmp hlow hsz hoth;have hbx:=(hoth w.heap.size (by omega)).trans hbx;have hB:=JcC hB (by omega) hlow;have hpt:Jc w1 w.heap.size 0 5=#[.int .i64 4,.int .i64 2,.func (.func 181) #[] #[],.func (.func 182) #[] #[],.func (.func 183) #[] #[]]:=Jb hbx rfl))
 go_ret
 exact⟨_,rfl,by omega,hmp.trans (by kernel_rfl),hB⟩
open Go.RowKit Bits
def Jek (size:Nat)(v:Int):List Int:=if size=1 then [v] else if size=2 then be2 v else be4 v
def Jdw (size:Nat):Int:=if size=1 then 256 else if size=2 then 65536 else 4294967296
theorem JhV (size:Nat)(v:Int):(Jek size v).length≤4:=by
 unfold Jek;split
 ·simp
 ·split<;>simp[be2,be4]
def Qg (size:Nat)(vs:List Int):List Int:=(vs.map (Jek size)).flatten
theorem Jiq (size:Nat)(vs:List Int)(v:Int):Qg size (vs++[v])=Qg size vs++Jek size v:=by simp[Qg]
theorem QP (size:Nat)(vs:List Int):(Qg size vs).length≤4*vs.length:=by
 induction vs with
 |nil=>simp[Qg]
 |cons v r ih=>
  have:=JhV size v
  unfold Qg at ih⊢
  simp only[List.map_cons,List.flatten_cons,List.length_append,List.length_cons]
  omega
theorem JbO (size:Nat)(hs:size=1∨size=2∨size=4)(p:Nat)(K:Nat→Prop)(l:List Int)(v:Int)(h0:0≤v)(h1:v<Jdw size)(w:World)(hw:WrK w p K l)(hm:l.length≤900000):
 Calls Tryz.prog 65 #[.pointer (some ⟨p,0,none⟩),.int .u64 v,.int .i64 size] w (Jdj w p K (l++Jek size v)):=by
 have HW:=Jnv hw
 clear hw
 have hfit:∀w,Calls Tryz.prog 124 #[.int .u64 v,.int .i64 size] w (Jk w (.bool true)):=fun w=>by
  rcases hs with rfl|rfl|rfl
  ·exact Zu v 1 h0 (by simpa[Jdw] using h1) (by decide) (by decide) w
  ·exact Zu v 2 h0 (by simpa[Jdw] using h1) (by decide) (by decide) w
  ·exact Zu v 4 h0 (by simpa[Jdw] using h1) (by decide) (by decide) w
 have hof:∀w,Calls Tryz.prog 125 #[.int .u64 v,.int .i64 size] w (J9 w (Jek size v)):=fun w=>by
  rcases hs with rfl|rfl|rfl
  ·exact Jjn v h0 (by simpa[Jdw] using h1) w
  ·exact Jfg v h0 (by simpa[Jdw] using h1) w
  ·exact Jjo v h0 (by simpa[Jdw] using h1) w
 have hby:∀x∈Jek size v,0≤x∧x<256:=by
  rcases hs with rfl|rfl|rfl
  ·intro x hx
   simp only[Jek,if_true,List.mem_singleton] at hx
   subst hx
   exact⟨h0,by simpa[Jdw] using h1⟩
  ·exact Jt v
  ·exact Jfa v
 have hln:=JhV size v
 generalize Jek size v=B at*
 generalize Jdw size=T at*
 go_enter Tryz.func65,Tryz.ntmps65
 go_wp2_with (go_at_call 124;refine Calls.later (hfit _) ?_;intro x)
 refine Jnx (hof _) ?_
 rintro e w2 ⟨oa,cap,rfl,ho,hb⟩
 go_wp2_with fail
 refine Jnx (X6 p K l oa _ cap B w2 ((HW.out.later x).below hb) (ho.reads hby) (by omega)) ?_
 rintro e w3 ⟨rfl,hW3,hb3,hs3⟩
 go_wp2_with fail
 go_ret
 exact⟨rfl,hW3,((x.below.mono (Nat.le_of_lt HW.out.lt)).trans (hb.mono (Nat.le_of_lt (Jnz HW.out.lt x.below.size)))).trans hb3,((XI.of x.below HW.out.old).trans (XI.of hb (HW.out.later x).old)).trans hs3⟩
theorem JjN (size:Nat)(hs:size=1∨size=2∨size=4)(p g:Nat)(K:Nat→Prop)(vs:List Int)(l:List Int)(w:World)(hw:WrK w p K l)(hg:K g)
 (hc:∀j,j<vs.length→w.cell? ⟨g,j,none⟩=some (.int .u64 (vs.getD j 0)))(hv:∀j,j<vs.length→0≤vs.getD j 0∧vs.getD j 0<Jdw size)(hm:vs.length≤16)(hl:l.length≤800000):
 Calls Tryz.prog 190 #[.pointer (some ⟨p,0,none⟩),.int .i64 size,.slice (some ⟨g,0,none⟩) vs.length vs.length] w (fun e w'=>e=.returned (.tuple #[])∧WrK w' p K (l++Qg size vs)∧Below p w w'∧XI K w w'):=by
 have HW:=Jnv hw
 have HC:=Jnv hc
 have HV:=Jnv hv
 have HG:=Jnv hg
 have HP:Hid (∀(l:List Int) (v:Int) (w:World),0≤v→v<Jdw size→WrK w p K l→l.length≤900000→Calls Tryz.prog 65 #[.pointer (some ⟨p,0,none⟩),.int .u64 v,.int .i64 size] w (Jdj w p K (l++Jek size v))):=Jnv (fun l v w h0 h1 hw hm=>JbO size hs p K l v h0 h1 w hw hm)
 have HT:Hid (∀k,k<vs.length→Qg size (vs.take (k+1))=Qg size (vs.take k)++Jek size (vs.getD k 0)):=Jnv (fun k hk=>by rw[JaN vs k hk,Jiq])
 have HF:Hid (Qg size (vs.take vs.length)=Qg size vs):=Jnv (by rw[List.take_length])
 have HLN:Hid (∀k,(Qg size (vs.take k)).length≤4*vs.length):=Jnv (fun k=>by have:=QP size (vs.take k);rw[List.length_take] at this;omega)
 have HZ:Hid (Qg size (vs.take 0)=[]):=Jnv rfl
 clear hw hc hv hg hs
 generalize hn:vs.length=n at*
 clear hn
 have hp:=HW.out.lt
 go_enter Tryz.func190,Tryz.ntmps190
 go_wp2_with fail
 go_loopw [10] (fun u10 wr=>∃k:Nat,k≤n∧u10=.int .i64 k∧Hid (WrK wr p K (l++Qg size (vs.take k))∧Below p w wr∧XI K w wr)) (fun u10 _=>(n:Int)-intOf u10 |>.toNat)
 case atStart=>exact⟨0,Nat.zero_le _,rfl,Jnv ⟨by rw[HZ.out,List.append_nil];exact HW.out,Jny _ _,XI.refl _ _⟩⟩
 case round=>
  obtain⟨k,hk,rfl,HS⟩:=hrel
  by_cases hlt:k<n
  ·have hck:=HC.out k hlt
   have hcw:wr.cell? ⟨g,k,none⟩=some (.int .u64 (vs.getD k 0)):=by
    rw[←hck];unfold World.cell?;simp only[HS.out.2.2 g HG.out]
   have HVK:=Jnv (HV.out k hlt)
   have HTK:=Jnv (HT.out k hlt)
   clear hck
   generalize vs.getD k 0=v at*
   go_wp2_with fail
   refine Jnx (HP.out _ v wr HVK.out.1 HVK.out.2 HS.out.1 (by rw[List.length_append];have:=HLN.out k;omega)) ?_
   rintro e w3 ⟨rfl,hW3,hb3,hs3⟩
   have HS3:Hid (WrK w3 p K (l++Qg size (vs.take (k+1)))∧Below p w w3∧XI K w w3):=Jnv ⟨by rw[HTK.out,←List.append_assoc];exact hW3,HS.out.2.1.trans hb3,HS.out.2.2.trans hs3⟩
   clear hW3 hb3 hs3
   go_wp2_with fail
   go_roundw
   case rel=>exact⟨k+1,by omega,by go_num,HS3⟩
   case measure=>simp[intOf];omega
  ·obtain rfl:k=n:=by omega
   go_wp2_with fail
   go_end0
   have:=HS.out
   rw[HF.out] at this
   exact⟨rfl,this⟩
open Go.RowKit Bits
def QA (p a b f ty cd:Int)(oD:Option Addr)(n cD:Nat):Array Value:=(JnX p (.int .u16 a) (.int .u16 b) f ty cd (.slice oD n cD))
def Z7 (w:World)(p:Nat)(K:Nat→Prop)(L:List Int):Ending→World→Prop:=fun e w'=>e=.returned (.tuple #[])∧WrK w' p K L∧Below p w w'∧XI K w w'
theorem WrK.puts {y w':World}{p:Nat}{K:Nat→Prop}{L:List Int}(h:WrK y p K L)(size:Nat)(hs:size=1∨size=2∨size=4)(hb:Below y.heap.size y w')(lo:Nat)(hlo:y.heap.size≤lo)
 (vs:List Int)(k:Nat)(hk:vs.length=k)(t:TypeId)(hh:w'.heap[lo]? =some (.cells (vs.map (.int .u64)).toArray t (0,0)))(hv:∀v∈vs,0≤v∧v<Jdw size)(hm:k≤16)(hl:L.length≤800000):
 Calls Tryz.prog 190 #[.pointer (some ⟨p,0,none⟩),.int .i64 size,.slice (some ⟨lo,0,none⟩) k k] w' (Z7 y p K (L++Qg size vs)):=by
 subst hk
 have hlt:lo<w'.heap.size:=(Jnw hh).1
 have hW:=h.more hb hlo hlt
 refine(JjN size hs p lo _ vs L w' hW (.inr rfl) (fun j hj=>?_) (fun j hj=>?_) hm hl).mono ?_
 ·rw[cell_of_row _ _ j _ t (0,0) hh]
  simp[List.getD_eq_getElem?_getD,hj]
 ·rw[List.getD_eq_getElem?_getD,List.getElem?_eq_getElem hj]
  exact hv _ (List.getElem_mem hj)
 ·rintro e w3 ⟨rfl,hw3,hb3,hs3⟩
  exact⟨rfl,hw3.mono fun b h=>.inl h,(hb.mono (Nat.le_of_lt h.lt)).trans hb3,(XI.of hb h.old).trans (fun b hb=>hs3 b (.inl hb))⟩
theorem Z8 (w:World)(o1 o2:Obj):((w.alloc o1).alloc o2).heap[w.heap.size+1]? =some o2:=by
 have:=heap_alloc_new (w.alloc o1) o2
 simpa using this
theorem Jir (p:Nat)(K:Nat→Prop)(q a b f ty cd:Int)(oD:Option Addr)(n cD:Nat)(L:List Int)(w:World)(hw:WrK w p K L)(ha:0≤a∧a<65536)(hb:0≤b∧b<65536)(hn:n≤65527)(hl:L.length≤700000):
 Calls Tryz.prog 188 #[.pointer (some ⟨p,0,none⟩),.agg (QA q a b f ty cd oD n cD)] w (Z7 w p K (L++Qg 2 [a,b,8+(n:Int),0])):=by
 have HW:=Jnv hw
 have hbx:=heap_alloc_new w (.cells (QA q a b f ty cd oD n cD) 149)
 have hB:Below w.heap.size w (w.alloc (.cells (QA q a b f ty cd oD n cD) 149)):=Below.all (Jny _ _) _
 have HW1:=Jnv (hw.below hB)
 have HB1:=Jnv hB
 unfold QA at*
 clear hB hw
 have hc1:(w.alloc (.cells (JnX q (.int .u16 a) (.int .u16 b) f ty cd (.slice oD n cD)) 149)).cell? ⟨w.heap.size,1,none⟩=some (.int .u16 a):=cell_of_row _ _ 1 _ _ (0,0) hbx
 have hc2:(w.alloc (.cells (JnX q (.int .u16 a) (.int .u16 b) f ty cd (.slice oD n cD)) 149)).cell? ⟨w.heap.size,2,none⟩=some (.int .u16 b):=cell_of_row _ _ 2 _ _ (0,0) hbx
 have hc11:(w.alloc (.cells (JnX q (.int .u16 a) (.int .u16 b) f ty cd (.slice oD n cD)) 149)).cell? ⟨w.heap.size,11,none⟩=some (.slice oD n cD):=cell_of_row _ _ 11 _ _ (0,0) hbx
 clear hbx
 go_enter Tryz.func188,Tryz.ntmps188
 go_wp2_with fail
 refine Jnx (HW1.out.puts 2 (by decide) (Below.all (Jny _ _) _) _ (by simp) [a,b,8+(n:Int),0] 4 rfl _ (Z8 w _ _) ?_ (by decide) (by omega)) ?_
 ·intro v hv;simp only[List.mem_cons,List.not_mem_nil,or_false] at hv;unfold Jdw;simp only[if_neg (show¬(2:Nat)=1 by decide),if_true];omega
 rintro e w2 ⟨rfl,hw2,hb2,hs2⟩
 go_wp2_with fail
 go_end0
 exact⟨rfl,hw2,(HB1.out.mono (Nat.le_of_lt HW.out.lt)).trans hb2,(XI.of HB1.out HW.out.old).trans hs2⟩
theorem Jhn (p:Nat)(K:Nat→Prop)(q a b f ty cd:Int)(oD:Option Addr)(n cD:Nat)(L:List Int)(w:World)(hw:WrK w p K L)(ha:0≤ty∧ty<256)(hb:0≤cd∧cd<256)(hl:L.length≤700000):
 Calls Tryz.prog 182 #[.pointer (some ⟨p,0,none⟩),.agg (QA q a b f ty cd oD n cD)] w (Z7 w p K ((L++Qg 1 [ty,cd])++Qg 2 [0])):=by
 have HW:=Jnv hw
 have hbx:=heap_alloc_new w (.cells (QA q a b f ty cd oD n cD) 149)
 have hB:Below w.heap.size w (w.alloc (.cells (QA q a b f ty cd oD n cD) 149)):=Below.all (Jny _ _) _
 have HW1:=Jnv (hw.more hB (JnA _) (by simp))
 have HB1:=Jnv hB
 unfold QA at*
 clear hB hw
 have hc9:(w.alloc (.cells (JnX q (.int .u16 a) (.int .u16 b) f ty cd (.slice oD n cD)) 149)).cell? ⟨w.heap.size,9,none⟩=some (.int .u8 ty):=cell_of_row _ _ 9 _ _ (0,0) hbx
 have hc10:(w.alloc (.cells (JnX q (.int .u16 a) (.int .u16 b) f ty cd (.slice oD n cD)) 149)).cell? ⟨w.heap.size,10,none⟩=some (.int .u8 cd):=cell_of_row _ _ 10 _ _ (0,0) hbx
 clear hbx
 go_enter Tryz.func182,Tryz.ntmps182
 go_wp2_with fail
 refine Jnx (HW1.out.puts 1 (by decide) (Below.all (Jny _ _) _) _ (by simp) [ty,cd] 2 rfl _ (Z8 w _ _) ?_ (by decide) (by omega)) ?_
 ·intro v hv;simp only[List.mem_cons,List.not_mem_nil,or_false] at hv;unfold Jdw;first|simp only[if_true]|simp only[if_neg (show¬(2:Nat)=1 by decide),if_true]|simp only[if_neg (show¬(4:Nat)=1 by decide),if_neg (show¬(4:Nat)=2 by decide)]
  omega
 rintro e w2 ⟨rfl,hw2,hb2,hs2⟩
 have HW2:=Jnv hw2
 have HB2:=Jnv hb2
 have HS2:=Jnv hs2
 clear hw2 hb2 hs2 hc9 hc10 HW1
 go_wp2_with fail
 refine Jnx (HW2.out.puts 2 (by decide) (Below.all (Jny _ _) _) _ (by simp) [0] 1 rfl _ (heap_alloc_new _ _) ?_ (by decide) (by have:=QP 1 [ty,cd];rw[List.length_append];simp at this;omega)) ?_
 ·intro v hv;simp only[List.mem_cons,List.not_mem_nil,or_false] at hv;unfold Jdw;first|simp only[if_true]|simp only[if_neg (show¬(2:Nat)=1 by decide),if_true]|simp only[if_neg (show¬(4:Nat)=1 by decide),if_neg (show¬(4:Nat)=2 by decide)]
  omega
 rintro e w3 ⟨rfl,hw3,hb3,hs3⟩
 have HWZ:=Jnv hw3
 have HBZ:=Jnv (HB2.out.trans hb3)
 have HSZ:=Jnv (HS2.out.trans hs3)
 clear hw3 hb3 hs3
 go_wp2_with fail
 go_end0
 exact⟨rfl,HWZ.out.mono fun b h=>.inl h,(HB1.out.mono (Nat.le_of_lt HW.out.lt)).trans HBZ.out,(XI.of HB1.out HW.out.old).trans (fun b h=>HSZ.out b (.inl h))⟩
theorem Jis (p:Nat)(K:Nat→Prop)(q a b f ty cd:Int)(oD:Option Addr)(n cD:Nat)(L:List Int)(w:World)(hw:WrK w p K L)(ha:0≤a∧a<65536)(hb:0≤b∧b<65536)(hf:0≤f∧f<256)(hl:L.length≤700000):
 Calls Tryz.prog 185 #[.pointer (some ⟨p,0,none⟩),.agg (QA q a b f ty cd oD n cD)] w (Z7 w p K (L++Qg 2 [a,b]++Qg 4 [0,0]++Qg 1 [80,f]++Qg 2 [0,0,0])):=by
 have HW:=Jnv hw
 have hbx:=heap_alloc_new w (.cells (QA q a b f ty cd oD n cD) 149)
 have hB:Below w.heap.size w (w.alloc (.cells (QA q a b f ty cd oD n cD) 149)):=Below.all (Jny _ _) _
 have HW1:=Jnv (hw.more hB (JnA _) (by simp))
 have HB1:=Jnv hB
 unfold QA at*
 clear hB hw
 have hc1:(w.alloc (.cells (JnX q (.int .u16 a) (.int .u16 b) f ty cd (.slice oD n cD)) 149)).cell? ⟨w.heap.size,1,none⟩=some (.int .u16 a):=cell_of_row _ _ 1 _ _ (0,0) hbx
 have hc2:(w.alloc (.cells (JnX q (.int .u16 a) (.int .u16 b) f ty cd (.slice oD n cD)) 149)).cell? ⟨w.heap.size,2,none⟩=some (.int .u16 b):=cell_of_row _ _ 2 _ _ (0,0) hbx
 have HX:=Jnv hbx
 clear hbx
 go_enter Tryz.func185,Tryz.ntmps185
 go_wp2_with fail
 refine Jnx (HW1.out.puts 2 (by decide) (Below.all (Jny _ _) _) _ (by simp) [a,b] 2 rfl _ (Z8 w _ _) ?_ (by decide) (by omega)) ?_
 ·intro v hv;simp only[List.mem_cons,List.not_mem_nil,or_false] at hv;unfold Jdw;first|simp only[if_true]|simp only[if_neg (show¬(2:Nat)=1 by decide),if_true]|simp only[if_neg (show¬(4:Nat)=1 by decide),if_neg (show¬(4:Nat)=2 by decide)]
  omega
 rintro e w2 ⟨rfl,hw2,hb2,hs2⟩
 have HW2:=Jnv hw2
 have HB2:=Jnv hb2
 have HS2:=Jnv hs2
 have hbx:=(hs2 _ (.inr rfl)).trans HX.out
 clear hw2 hb2 hs2 hc1 hc2 HW1
 have hc3:w2.cell? ⟨w.heap.size,3,none⟩=some (.int .u32 0):=cell_of_row _ _ 3 _ _ (0,0) hbx
 have hc4:w2.cell? ⟨w.heap.size,4,none⟩=some (.int .u32 0):=cell_of_row _ _ 4 _ _ (0,0) hbx
 clear hbx
 go_wp2_with fail
 refine Jnx (HW2.out.puts 4 (by decide) (Below.all (Jny _ _) _) _ (by simp) [0,0] 2 rfl _ (heap_alloc_new _ _) ?_ (by decide) (by have h0:=QP 2 [a,b];simp only[List.length_append,List.length_cons,List.length_nil] at*;omega)) ?_
 ·intro v hv;simp only[List.mem_cons,List.not_mem_nil,or_false] at hv;unfold Jdw;first|simp only[if_true]|simp only[if_neg (show¬(2:Nat)=1 by decide),if_true]|simp only[if_neg (show¬(4:Nat)=1 by decide),if_neg (show¬(4:Nat)=2 by decide)]
  omega
 rintro e w3 ⟨rfl,hw3,hb3,hs3⟩
 have HW3:=Jnv hw3
 have HB3:=Jnv (HB2.out.trans hb3)
 have HS3:=Jnv (HS2.out.trans hs3)
 have hbx:=(HS3.out _ (.inr rfl)).trans HX.out
 clear hw3 hb3 hs3 hc3 hc4 HW2 HB2 HS2
 have hc8:w3.cell? ⟨w.heap.size,8,none⟩=some (.slice none 0 0):=cell_of_row _ _ 8 _ _ (0,0) hbx
 have hc5:w3.cell? ⟨w.heap.size,5,none⟩=some (.int .u8 f):=cell_of_row _ _ 5 _ _ (0,0) hbx
 clear hbx
 go_wp2_with fail
 refine Jnx (HW3.out.puts 1 (by decide) (Below.all (Jny _ _) _) _ (by simp) [80,f] 2 rfl _ (heap_alloc_new _ _) ?_ (by decide) (by have h0:=QP 2 [a,b];have h1:=QP 4 [0,0];simp only[List.length_append,List.length_cons,List.length_nil] at*;omega)) ?_
 ·intro v hv;simp only[List.mem_cons,List.not_mem_nil,or_false] at hv;unfold Jdw;first|simp only[if_true]|simp only[if_neg (show¬(2:Nat)=1 by decide),if_true]|simp only[if_neg (show¬(4:Nat)=1 by decide),if_neg (show¬(4:Nat)=2 by decide)]
  omega
 rintro e w4 ⟨rfl,hw4,hb4,hs4⟩
 have HW4:=Jnv hw4
 have HB4:=Jnv (HB3.out.trans hb4)
 have HS4:=Jnv (HS3.out.trans hs4)
 have hbx:=(HS4.out _ (.inr rfl)).trans HX.out
 clear hw4 hb4 hs4 hc8 hc5 HW3 HB3 HS3
 have hc6:w4.cell? ⟨w.heap.size,6,none⟩=some (.int .u16 0):=cell_of_row _ _ 6 _ _ (0,0) hbx
 have hc7:w4.cell? ⟨w.heap.size,7,none⟩=some (.int .u16 0):=cell_of_row _ _ 7 _ _ (0,0) hbx
 clear hbx
 go_wp2_with fail
 refine Jnx (HW4.out.puts 2 (by decide) (Below.all (Jny _ _) _) _ (by simp) [0,0,0] 3 rfl _ (heap_alloc_new _ _) ?_ (by decide) (by have h0:=QP 2 [a,b];have h1:=QP 4 [0,0];have h2:=QP 1 [80,f];simp only[List.length_append,List.length_cons,List.length_nil] at*;omega)) ?_
 ·intro v hv;simp only[List.mem_cons,List.not_mem_nil,or_false] at hv;unfold Jdw;first|simp only[if_true]|simp only[if_neg (show¬(2:Nat)=1 by decide),if_true]|simp only[if_neg (show¬(4:Nat)=1 by decide),if_neg (show¬(4:Nat)=2 by decide)]
  omega
 rintro e w5 ⟨rfl,hw5,hb5,hs5⟩
 have HW5:=Jnv hw5
 have HB5:=Jnv (HB4.out.trans hb5)
 have HS5:=Jnv (HS4.out.trans hs5)
 have hbx:=(HS5.out _ (.inr rfl)).trans HX.out
 clear hw5 hb5 hs5 hc6 hc7 HW4 HB4 HS4
 have hc8:w5.cell? ⟨w.heap.size,8,none⟩=some (.slice none 0 0):=cell_of_row _ _ 8 _ _ (0,0) hbx
 clear hbx
 go_wp2_with fail
 refine Jnx (X6 p _ _ none 0 0 [] w5 HW5.out (Jj.nil _) (by have h0:=QP 2 [a,b];have h1:=QP 4 [0,0];have h2:=QP 1 [80,f];have h3:=QP 2 [0,0,0];simp only[List.length_append,List.length_cons,List.length_nil] at*;omega)) ?_
 rintro e w9 ⟨rfl,hw9,hb9,hs9⟩
 rw[List.append_nil] at hw9
 have HWZ:=Jnv hw9
 have HBZ:=Jnv (HB5.out.trans hb9)
 have HSZ:=Jnv (HS5.out.trans hs9)
 clear hw9 hb9 hs9
 go_wp2_with fail
 go_end0
 exact⟨rfl,HWZ.out.mono fun b h=>.inl h,(HB1.out.mono (Nat.le_of_lt HW.out.lt)).trans HBZ.out,(XI.of HB1.out HW.out.old).trans (fun b h=>HSZ.out b (.inl h))⟩
open Go.RowKit Bits
theorem JbP {w:World}{o1 o2:Option Addr}{n1 c1 n2 c2:Nat}{l1 l2:List Int}(t:TypeId)(h1:Jj w o1 n1 c1 l1)(h2:Jj w o2 n2 c2 l2)(hn1:n1≤100000)(hn2:n2≤100000)(ha1:∀a,o1=some a→a.block<w.heap.size)(ha2:∀a,o2=some a→a.block<w.heap.size):
 QL (w.alloc (.cells #[.slice o1 n1 c1,.slice o2 n2 c2] t)) (w.alloc (.cells #[.slice o1 n1 c1,.slice o2 n2 c2] t)).heap.size w.heap.size 2 [l1,l2]:=by
 have hh:=heap_alloc_new w (.cells #[.slice o1 n1 c1,.slice o2 n2 c2] t)
 have hB:Below w.heap.size w (w.alloc (.cells #[.slice o1 n1 c1,.slice o2 n2 c2] t)):=Below.all (Jny _ _) _
 refine⟨rfl,by simp,fun j hj=>?_⟩
 rw[cell_of_row _ _ j _ _ (0,0) hh]
 rcases j with _|_|j
 ·exact⟨_,_,_,rfl,h1.below hB,by omega,fun a ha=>by have:=ha1 a ha;simp;omega⟩
 ·exact⟨_,_,_,rfl,h2.below hB,by omega,fun a ha=>by have:=ha2 a ha;simp;omega⟩
 ·simp at hj;omega
theorem Jj.lt {w:World}{oa:Option Addr}{n cap:Nat}{l:List Int}(h:Jj w oa n cap l)(hn:0<n):∀a,oa=some a→a.block<w.heap.size:=by
 intro a ha
 obtain⟨g,off,rfl,hg,-⟩:=h.here hn
 cases ha
 exact hg
def ZO (w:World)(L:List Int):Ending→World→Prop:=fun e w'=>∃oa cap,e=.returned (.tuple #[.slice oa L.length cap,true])∧JI w' w.heap.size 1 oa L.length cap (L.map (.int .u8))∧Below w.heap.size w w'
theorem Jbp (p n:Int)(o1 o2:Option Addr)(c1 c2:Nat)(src dst:List Int)(w:World)(h1:Jj w o1 4 c1 src)(h2:Jj w o2 4 c2 dst)(hp:0≤p∧p<256)(hn:0≤n∧n<65536):
 Calls Tryz.prog 139 #[p,.int .i64 n,.slice o1 4 c1,.slice o2 4 c2] w (ZO w (J1 p n src dst)):=by
 have hW:WrK (w.alloc (.cells #[JnE] 137)) w.heap.size (fun _=>False) []:=by
  refine WrK.new ?_ ?_ ?_ ?_
  ·simp
  ·simp
  ·simp
  ·intro b hb;cases hb
 have HW:=Jnv hW
 have hB:Below w.heap.size w (w.alloc (.cells #[JnE] 137)):=Below.all (Jny _ _) _
 have hu:=JbP 22 (h1.below hB) (h2.below hB) (by decide) (by decide) (fun a ha=>by have:=h1.lt (by decide) a ha;simp;omega) (fun a ha=>by have:=h2.lt (by decide) a ha;simp;omega)
 have HU:=Jnv hu
 have hl1:=h1.len
 have hl2:=h2.len
 have HB:=Jnv hB
 have hpc:p<256:=hp.2
 have HBY:Hid (∀v∈src++dst,0≤v∧v<256):=Jnv (fun v hv=>by rcases List.mem_append.1 hv with h|h;exact h1.byte v h;exact h2.byte v h)
 clear hW hB hu h1 h2
 go_enter Tryz.func139,Tryz.ntmps139
 go_wp2_with fail
 refine Jnx (Jci _ 2 2 _ _ (by simpa using HU.out) (by decide)) ?_
 rintro e w2 ⟨oa,cap,rfl,ho,hb⟩
 rw[show[src,dst].flatten=src++dst by simp] at ho⊢
 have hr:=ho.reads HBY.out
 have HLL:Hid ((src++dst).length=8):=Jnv (by rw[List.length_append,hl1,hl2])
 rw[HLL.out] at hr
 have hb':=Jno (Below.all (Jny (w.alloc (.cells #[JnE] 137)).heap.size _) _) hb
 have HW2:=Jnv (HW.out.below hb')
 have HB2:=Jnv (Jno HB.out hb')
 have HR:=Jnv hr
 clear ho hb hb' hr HU HW HB
 go_wp2_with fail
 refine Jnx (X6 _ _ _ _ _ _ _ w2 HW2.out HR.out (by rw[HLL.out];simp)) ?_
 rintro e w3 ⟨rfl,hw3,hb3,-⟩
 rw[List.nil_append] at hw3
 have HW3:=Jnv hw3
 have HB3:=Jnv (HB2.out.trans hb3)
 clear hw3 hb3 HR HW2 HB2
 go_wp2_with fail
 refine Jnx (HW3.out.puts 1 (by decide) (Below.all (Jny _ _) _) _ (by simp) [0,p] 2 rfl _ (heap_alloc_new _ _) ?_ (by decide) (by rw[HLL.out];decide)) ?_
 ·intro v hv;simp only[List.mem_cons,List.not_mem_nil,or_false] at hv;unfold Jdw;simp only[if_true];omega
 rintro e w4 ⟨rfl,hw4,hb4,-⟩
 rw[show Qg 1 [0,p]=[0,p] from rfl] at hw4
 have HW4:=Jnv hw4
 have HB4:=Jnv (HB3.out.trans hb4)
 clear hw4 hb4 HW3 HB3
 go_wp2_with fail
 refine Jnx (JbO 2 (by decide) _ _ _ n hn.1 (by unfold Jdw;simp;omega) w4 HW4.out (by rw[List.length_append,HLL.out];simp)) ?_
 rintro e w5 ⟨rfl,hw5,hb5,-⟩
 rw[show Jek 2 n=be2 n from rfl] at hw5
 have HW5:=Jnv hw5
 have HB5:=Jnv (HB4.out.trans hb5)
 clear hw5 hb5 HW4 HB4
 by_cases hp1:p=1
 ·subst hp1
  go_wp2_with fail
  go_ret2
  exact⟨none,0,rfl,JI.nil _ _ _,HB5.out⟩
 ·have HE:Hid (J1 p n src dst=src++dst++[0,p]++be2 n):=Jnv (by unfold J1;rw[if_neg hp1,if_pos hl1])
  have HLL5:Hid ((src++dst++[0,p]++be2 n).length≤1000000):=Jnv (by rw[List.length_append,List.length_append,HLL.out];simp[be2])
  generalize src++dst++[0,p]++be2 n=L at*
  go_wp2_with fail
  have HWL:=Jnv HW5.out.wr
  refine Jnx (Bits.bytes_any _ L w5 HWL.out HLL5.out) ?_
  rintro e w6 ⟨oa6,cap6,rfl,ho6,hb6⟩
  have HO6:=Jnv (ho6.mono HB5.out.size)
  have HB6:=Jnv (Jno HB5.out hb6)
  clear ho6 hb6
  go_wp2_with fail
  go_ret2
  rw[HE.out]
  exact⟨_,_,rfl,HO6.out,HB6.out⟩
theorem Jco (p n:Int)(o1 o2:Option Addr)(c1 c2:Nat)(src dst:List Int)(w:World)(h1:Jj w o1 16 c1 src)(h2:Jj w o2 16 c2 dst)(hp:0≤p∧p<256)(hn:0≤n∧n<65536):
 Calls Tryz.prog 139 #[p,.int .i64 n,.slice o1 16 c1,.slice o2 16 c2] w (ZO w (J1 p n src dst)):=by
 have hW:WrK (w.alloc (.cells #[JnE] 137)) w.heap.size (fun _=>False) []:=by
  refine WrK.new ?_ ?_ ?_ ?_
  ·simp
  ·simp
  ·simp
  ·intro b hb;cases hb
 have HW:=Jnv hW
 have hB:Below w.heap.size w (w.alloc (.cells #[JnE] 137)):=Below.all (Jny _ _) _
 have hu:=JbP 22 (h1.below hB) (h2.below hB) (by decide) (by decide) (fun a ha=>by have:=h1.lt (by decide) a ha;simp;omega) (fun a ha=>by have:=h2.lt (by decide) a ha;simp;omega)
 have HU:=Jnv hu
 have hl1:=h1.len
 have hl2:=h2.len
 have HB:=Jnv hB
 have hpc:p<256:=hp.2
 have HBY:Hid (∀v∈src++dst,0≤v∧v<256):=Jnv (fun v hv=>by rcases List.mem_append.1 hv with h|h;exact h1.byte v h;exact h2.byte v h)
 clear hW hB hu h1 h2
 go_enter Tryz.func139,Tryz.ntmps139
 go_wp2_with fail
 refine Jnx (Jci _ 2 2 _ _ (by simpa using HU.out) (by decide)) ?_
 rintro e w2 ⟨oa,cap,rfl,ho,hb⟩
 rw[show[src,dst].flatten=src++dst by simp] at ho⊢
 have hr:=ho.reads HBY.out
 have HLL:Hid ((src++dst).length=32):=Jnv (by rw[List.length_append,hl1,hl2])
 rw[HLL.out] at hr
 have hb':=Jno (Below.all (Jny (w.alloc (.cells #[JnE] 137)).heap.size _) _) hb
 have HW2:=Jnv (HW.out.below hb')
 have HB2:=Jnv (Jno HB.out hb')
 have HR:=Jnv hr
 clear ho hb hb' hr HU HW HB
 go_wp2_with fail
 refine Jnx (X6 _ _ _ _ _ _ _ w2 HW2.out HR.out (by rw[HLL.out];simp)) ?_
 rintro e w3 ⟨rfl,hw3,hb3,-⟩
 rw[List.nil_append] at hw3
 have HW3:=Jnv hw3
 have HB3:=Jnv (HB2.out.trans hb3)
 clear hw3 hb3 HR HW2 HB2
 go_wp2_with fail
 refine Jnx (JbO 4 (by decide) _ _ _ n hn.1 (by unfold Jdw;simp;omega) w3 HW3.out (by rw[HLL.out];decide)) ?_
 rintro e w4 ⟨rfl,hw4,hb4,-⟩
 rw[show Jek 4 n=be4 n from rfl] at hw4
 have HW4:=Jnv hw4
 have HB4:=Jnv (HB3.out.trans hb4)
 clear hw4 hb4 HW3 HB3
 go_wp2_with fail
 refine Jnx (JbO 4 (by decide) _ _ _ p hp.1 (by unfold Jdw;simp;omega) w4 HW4.out (by rw[List.length_append,HLL.out];simp[be4])) ?_
 rintro e w5 ⟨rfl,hw5,hb5,-⟩
 rw[show Jek 4 p=be4 p from rfl] at hw5
 have HW5:=Jnv hw5
 have HB5:=Jnv (HB4.out.trans hb5)
 clear hw5 hb5 HW4 HB4
 by_cases hp1:p=1
 ·subst hp1
  go_wp2_with fail
  go_ret2
  exact⟨none,0,rfl,JI.nil _ _ _,HB5.out⟩
 ·have HE:Hid (J1 p n src dst=src++dst++be4 n++be4 p):=Jnv (by unfold J1;rw[if_neg hp1,if_neg (by omega)];simp only[be4,be2];rw[show n/16777216%256=0 by omega,show n/65536%256=0 by omega,show p/16777216%256=0 by omega,show p/65536%256=0 by omega,show p/256%256=0 by omega,show p%256=p by omega];simp)
  have HLL5:Hid ((src++dst++be4 n++be4 p).length≤1000000):=Jnv (by rw[List.length_append,List.length_append,HLL.out];simp[be4])
  generalize src++dst++be4 n++be4 p=L at*
  go_wp2_with fail
  have HWL:=Jnv HW5.out.wr
  refine Jnx (Bits.bytes_any _ L w5 HWL.out HLL5.out) ?_
  rintro e w6 ⟨oa6,cap6,rfl,ho6,hb6⟩
  have HO6:=Jnv (ho6.mono HB5.out.size)
  have HB6:=Jnv (Jno HB5.out hb6)
  clear ho6 hb6
  go_wp2_with fail
  go_ret2
  rw[HE.out]
  exact⟨_,_,rfl,HO6.out,HB6.out⟩
open Go.RowKit Bits
theorem Jel (oa:Option Addr)(n cap:Nat)(l:List Int)(w:World)(hr:Jj w oa n cap l):Calls Tryz.prog 220 #[.slice oa n cap,.slice oa n cap] w (Jk w (.bool true)):=by
 have hcv:(convert 22 9 (.slice oa n cap)).run Tryz.prog w=.ok (.string (strOfNums l)) w:=Jad 22 5 Tryz.underlying22 Tryz.underlying5 hr 9 Tryz.underlying9
 go_enter Tryz.func220,Tryz.ntmps220
 go_wp2_with fail
 go_ret
 exact .mk (by simp) (Jny _ _)
theorem XJ (h s:Int)(f g r:Value)(p a b fl ty cd:Int)(oD:Option Addr)(n cD:Nat)(w:World)(hh:0≤h∧h<100)(hn:n≤1000000):
 Calls Tryz.prog 138 #[.agg #[.int .i64 h,.int .i64 s,f,g,r],.agg (QA p a b fl ty cd oD n cD)] w (Jk w (.int .i64 (h+n))):=by
 unfold QA
 go_enter Tryz.func138,Tryz.ntmps138
 go_wp2_with fail
 go_ret
 exact .mk (by simp) (Below.all (Below.all (Jny _ _) _) _)
theorem Jdx (p a b fl ty cd:Int)(oD:Option Addr)(n cD:Nat)(l:List Int)(w:World)(hr:Jj w oD n cD l):
 Calls Tryz.prog 195 #[.agg (QA p a b fl ty cd oD n cD),.agg (QA p a b fl ty cd oD n cD)] w (Jk w (.bool true)):=by
 unfold QA
 have HR:=Jnv hr
 clear hr
 go_enter Tryz.func195,Tryz.ntmps195
 go_wp2_with fail
 refine Jnx (Jel none 0 0 [] _ (Jj.nil _)) ?_
 rintro e w2 ⟨rfl,hb⟩
 have HX1:=Jnv ((hb.block w.heap.size (by simp;omega)).trans ((heap_alloc_old _ _ (by simp)).trans (heap_alloc_new w _)))
 have HX2:=Jnv ((hb.block (w.heap.size+1) (by simp)).trans (Z8 w _ _))
 have HB:=Jnv (Jno (Below.all (Below.all (Jny w.heap.size w) (.cells (JnX p (.int .u16 a) (.int .u16 b) fl ty cd (.slice oD n cD)) 149)) (.cells (JnX p (.int .u16 a) (.int .u16 b) fl ty cd (.slice oD n cD)) 149)) hb)
 clear hb
 have h1:w2.cell? ⟨w.heap.size,11,none⟩=some (.slice oD n cD):=cell_of_row _ _ 11 _ _ (0,0) HX1.out
 have h2:w2.cell? ⟨w.heap.size+1,11,none⟩=some (.slice oD n cD):=cell_of_row _ _ 11 _ _ (0,0) HX2.out
 go_wp2_with fail
 refine Jnx (Jel oD n cD l w2 (HR.out.below HB.out)) ?_
 rintro e w3 ⟨rfl,hb⟩
 have HB3:=Jnv (Jno HB.out hb)
 clear hb h1 h2
 go_wp2_with fail
 go_ret
 exact .mk rfl HB3.out
theorem Jho {fn:Func}{q:Tmp}(h:fn.results=#[.cell q 149])(tmps:Array Value)(w:World)(b:Nat)(cs:Array Value)(t:TypeId)(fr:Nat×Nat)(hp:tmps.getD q undef=.pointer (some ⟨b,0,none⟩))(hc:w.heap[b]? =some (.cells cs t fr))(hs:cs.size=12):
 (results fn tmps).run Tryz.prog w=.ok (.agg cs) w:=by
 have:=JeA h tmps w b 12 _ Tryz.underlying149 rfl JhK hp cs (Jb hc hs) hs
 exact this
theorem Jit (p a b fl:Int)(oD:Option Addr)(n cD:Nat)(w:World):
 Calls Tryz.prog 184 #[.agg (QA p a b fl 0 0 oD n cD)] w (Jk w (.agg (QA p a b fl 0 0 oD n cD))):=by
 unfold QA
 go_enter Tryz.func184,Tryz.ntmps184
 go_wp2_with fail
 refine bodyPost_ret (Jho rfl _ _ (w.heap.size+1) _ _ (0,0) rfl (Z8 w _ _) rfl) rfl ?_
 exact .mk rfl (Below.all (Below.all (Jny _ _) _) _)
theorem Jiu (p a b fl ty cd:Int)(oD:Option Addr)(n cD:Nat)(w:World):
 Calls Tryz.prog 187 #[.agg (QA p a b fl ty cd oD n cD)] w (Jk w (.agg (QA 0 a b 0 0 0 none 0 0))):=by
 unfold QA
 go_enter Tryz.func187,Tryz.ntmps187
 go_wp2_with fail
 refine bodyPost_ret (Jho rfl _ _ (w.heap.size+1) _ _ (0,0) rfl (Z8 w _ _) rfl) rfl ?_
 exact .mk rfl (Below.all (Below.all (Jny _ _) _) _)
theorem Jiv (p a b fl ty cd:Int)(oD:Option Addr)(n cD:Nat)(w:World):
 Calls Tryz.prog 181 #[.agg (QA p a b fl ty cd oD n cD)] w (Jk w (.agg (QA 0 0 0 0 ty cd none 0 0))):=by
 unfold QA
 go_enter Tryz.func181,Tryz.ntmps181
 go_wp2_with fail
 refine bodyPost_ret (Jho rfl _ _ (w.heap.size+1) _ _ (0,0) rfl (Z8 w _ _) rfl) rfl ?_
 exact .mk rfl (Below.all (Below.all (Jny _ _) _) _)
end
end Go.Proofs.YtkgjbipfhhjlpaaGreatDoor
