import Derived.Test.YtkgjbipfhhjlpaaGreatDoorMp10
set_option linter.unusedVariables false
set_option linter.unusedSimpArgs false
set_option maxRecDepth 100000
set_option maxHeartbeats 32000000
namespace Go.Proofs.YtkgjbipfhhjlpaaGreatDoor
section
open Go.RowKit Bits
theorem grow_any (k:Nat)(hk:k≤1000000)(w:World):Calls Tryz.prog 158 #[.slice none 0 0,.int .i64 (k:Int)] w (fun e w'=>∃oa cap,e=.returned (.slice oa 0 cap)∧Owns w' w.heap.size 1 oa 0 cap []∧Below w.heap.size w w'):=by
 rcases Nat.eq_zero_or_pos k with rfl|hpos
 ·go_enter Tryz.func158,Tryz.ntmps158
  go_wp2_with fail
  go_ret
  exact⟨none,0,rfl,Owns.nil _ _ _,Below.refl _ _⟩
 ·go_enter Tryz.func158,Tryz.ntmps158
  go_wp2_with (at_builtin;refine Stopped.of ?_)
  refine Stopped.mk ?_
  refine wpList_append_zeros _ rfl _ _ 22 3 rfl 5 (.int .u8 0) 1 w.heap.size .i64 Tryz.underlying22 (by kernel_rfl) infoU8 rfl rfl none 0 0 [] rfl (Owns.nil _ _ _) k rfl hk (by unfold maxLen;omega) (by omega) (Nat.le_refl _) ?_
  intro oa' cap' w' ho hg hd
  rw[Nat.zero_add] at ho⊢
  have hb:Below w.heap.size w w':=Below.appended (Below.refl _ _) (Owns.nil w w.heap.size 1) (Nat.le_refl _) hg (Nat.le_refl _)
  have ho':=ho.take 0 (by omega)
  have HO:=Lib.hid ho'
  have HB:=Lib.hid hb
  have hle:=ho.le
  clear ho ho' hg hd hb
  have hcut:∀w,(Instr.slice 22 (.slice oa' k cap') none (some (.int .i64 0)) none).run Tryz.prog w=.ok (.slice oa' 0 cap') w:=fun w=>run_cutTo _ oa' k cap' 1 elemBytes sizeBytes 0 0 rfl (Nat.zero_le _) w
  go_wp2_with fail
  go_ret
  exact⟨_,_,rfl,HO.out,HB.out⟩
theorem concat_any (R k c:Nat)(rs:List (List Int))(w:World)(hr:RowsUnder w w.heap.size R k rs)(hk:k≤8):
 Calls Tryz.prog 111 #[.slice (some ⟨R,0,none⟩) k c] w (NewBytes w rs.flatten):=by
 have HR:=Lib.hid hr
 have hlen:=hr.len
 have hbyte:∀v∈rs.flatten,0≤v∧v<256:=by
  intro v hv
  obtain⟨l,hl,hv⟩:=List.mem_flatten.1 hv
  obtain⟨j,hj,rfl⟩:=List.getElem_of_mem hl
  obtain⟨A,m,cap,-,h2,-⟩:=hr.row j hj
  exact h2.byte v hv
 have HFL:Hid (∀i,i≤rs.length→(rs.take i).flatten.length≤100000*i):=Lib.hid fun i=>by
  induction i with
  |zero=>intro _;simp
  |succ i ih=>
   intro hi
   have h1:=ih (by omega)
   obtain⟨A,m,cap,-,h2,h3,-⟩:=hr.row i (by omega)
   have:=h2.len
   rw[List.take_succ_eq_append_getElem (by omega),List.flatten_append,List.length_append]
   simp only[List.flatten_cons,List.flatten_nil,List.append_nil]
   omega
 have HFS:Hid (∀i (h:i<rs.length),(rs.take (i+1)).flatten=(rs.take i).flatten++rs[i]):=Lib.hid fun i h=>by
  rw[List.take_succ_eq_append_getElem h,List.flatten_append];simp
 have HFE:Hid ((rs.take rs.length).flatten=rs.flatten):=Lib.hid (by rw[List.take_length])
 have HBY:=Lib.hid hbyte
 clear hr hbyte
 go_enter Tryz.func111,Tryz.ntmps111
 go_wp2_with fail
 go_loop [3,11] (fun u3 u11=>∃i:Nat,i≤k∧u11=.int .i64 i∧∃s:Nat,u3=.int .i64 s∧s≤100000*i) (fun _ u11=>(k:Int)-intOf u11 |>.toNat)
 case atStart=>exact⟨0,Nat.zero_le _,rfl,0,rfl,by omega⟩
 case round=>
  obtain⟨i,hi,rfl,s,rfl,hs⟩:=hrel
  by_cases hlt:i<k
  ·obtain⟨A,m,cap,hc,hrd,hm,hA⟩:=HR.out.row i (by omega)
   clear hrd hA
   go_wp2_with fail
   go_round
   case rel=>exact⟨i+1,by omega,by go_num,s+m,by go_num,by omega⟩
   case measure=>simp[intOf];omega
  ·obtain rfl:i=k:=by omega
   go_wp2_with fail
   refine Calls.mono (grow_any s (by omega) _) ?_
   rintro e w1 ⟨oa,cap,rfl,ho,hb⟩
   have HO:=Lib.hid ho
   have HB:=Lib.hid hb
   clear ho hb
   go_wp2_with fail
   go_loopw [6,27] (fun u6 u27 wr=>∃j:Nat,j≤i∧u27=.int .i64 j∧∃n oa cap,u6=.slice oa n cap∧Hid (Owns wr w.heap.size 1 oa n cap ((rs.take j).flatten.map (.int .u8))∧Below w.heap.size w wr)) (fun _ u27 _=>(i:Int)-intOf u27 |>.toNat)
   case atStart=>exact⟨0,Nat.zero_le _,rfl,0,oa,cap,rfl,Lib.hid ⟨HO.out,HB.out⟩⟩
   case round=>
    obtain⟨j,hj,rfl,n,oa2,cap2,rfl,HS⟩:=hrel
    by_cases hjl:j<i
    ·obtain⟨A,m,capA,hc,hrd,hm,hA⟩:=(HR.out.below HS.out.2).row j (by omega)
     have HRD:=Lib.hid hrd
     have hfl:=HFL.out j (by omega)
     have hn:n≤100000*j:=by have:=HS.out.1.len;rw[List.length_map,Nat.mul_one] at this;omega
     have HT:=Lib.hid (HFS.out j (by omega))
     clear hrd hA hfl
     go_wp2_with (at_builtin;refine Stopped.of ?_)
     refine Stopped.mk ?_
     refine wpList_append_reads _ rfl _ _ 22 rfl 5 w.heap.size Tryz.underlying22 infoU8 oa2 n cap2 _ rfl HS.out.1 A m capA rs[j] rfl HRD.out (by omega) HS.out.2.size ?_
     intro oa' cap' w' ho' hg hd
     rw[←List.map_append,←HT.out] at ho'
     have HS2:Hid (Owns w' w.heap.size 1 oa' (n+m) cap' ((rs.take (j+1)).flatten.map (.int .u8))∧Below w.heap.size w w'):=Lib.hid ⟨ho',HS.out.2.trans (Below.appended (Below.refl _ _) HS.out.1 (Nat.le_refl _) hg HS.out.2.size)⟩
     clear ho' hg hd hc
     go_wp2_with fail
     go_roundw
     case rel=>exact⟨j+1,by omega,by go_num,n+m,oa',cap',rfl,HS2⟩
     case measure=>simp[intOf];omega
    ·obtain rfl:j=i:=by omega
     go_wp2_with fail
     go_ret
     obtain⟨ho,hb⟩:=HS.out
     rw[←hlen,HFE.out] at ho
     have hl:=ho.len
     exact .mk ho (by rw[List.length_map,Nat.mul_one] at hl;exact hl.symm) hb
end
section
open Go.RowKit Bits
section
variable {P:Program} {ops:Array Oper}
theorem Wide.f {w:World}{o:Oper}{R:Nat→Nat→Value→World→Prop}{a:Act}(h:Wide P ops w o R a)(gs:List Made):WideF P ops w gs o R a:=⟨h.1,fun w1 hb _=>h.2 w1 hb⟩
end
theorem wide64 {ops:Array Oper}{w:World}{o:Oper}{a:Act}{gs:List Made}(vs:List Int)(len:Nat)(parts:Array (Nat×Operand))(ho:o.op=.buildSlice 252 len parts)(hw:Region.wanted o (yielded ops a.tmps)=true)
 (hl:0<len∧len≤100)(hf:Instr.fill (fun i=>some (i*1,1)) ((Array.range (len*1)).map ((Value.int .u64 0).cells[·%(Value.int .u64 0).cells.size]!)) (parts.map fun(i,x)=>(i,a.eval x)).toList=some (vs.map (.int .u64)).toArray):
 WideF Tryz.prog ops w gs o (builtR (.cells (vs.map (.int .u64)).toArray 124) len) a:=by
 obtain⟨ie,hie,hz,h4,h5⟩:=info_parts info_u64'
 refine Wide.f (wide_slice 252 124 len parts ho hw _ ie (.int .u64 0) (by kernel_rfl) hie hz ?_ ?_ ?_) gs
 ·rw[h4];omega
 ·rw[h4];omega
 ·rw[h4];exact hf
structure PutSt (w:World)(b0:Nat)(ob:Obj)(p:Nat)(oa:Option Addr)(n cap:Nat)(opt:List Int)(y:World)(L:List Int):Prop where
 wr:WrK y p (fun b=>b=b0) L
 box:y.heap[b0]? =some ob
 opt:Reads y oa n cap opt
 optlt:∀a,oa=some a→a.block<w.heap.size
 out:Below w.heap.size w y
 lo:w.heap.size≤p
 lt0:b0<p
theorem PutSt.below {w:World}{b0:Nat}{ob:Obj}{p:Nat}{oa:Option Addr}{n cap:Nat}{opt:List Int}{y y':World}{L:List Int}(h:PutSt w b0 ob p oa n cap opt y L)(hb:Below y.heap.size y y'):PutSt w b0 ob p oa n cap opt y' L:=
 ⟨h.wr.below hb,(hb.block _ (h.wr.old b0 rfl)).trans h.box,h.opt.below hb,h.optlt,Below.via h.out hb,h.lo,h.lt0⟩
theorem PutSt.belowP {w:World}{b0:Nat}{ob:Obj}{p:Nat}{oa:Option Addr}{n cap:Nat}{opt:List Int}{y y':World}{L L':List Int}(h:PutSt w b0 ob p oa n cap opt y L)(hb:Below p y y')(hw:WrK y' p (fun b=>b=b0) L'):PutSt w b0 ob p oa n cap opt y' L':=
 ⟨hw,(hb.block _ h.lt0).trans h.box,h.opt.belowB hb (fun a ha=>Nat.lt_of_lt_of_le (h.optlt a ha) h.lo),h.optlt,h.out.trans (hb.mono h.lo),h.lo,h.lt0⟩
theorem PutSt.put {w:World}{b0:Nat}{ob:Obj}{p:Nat}{oa:Option Addr}{n cap:Nat}{opt:List Int}{y w':World}{L:List Int}(st:PutSt w b0 ob p oa n cap opt y L)(size:Nat)(hs:size=1∨size=2)(hb:Below y.heap.size y w')(lo:Nat)(hlo:y.heap.size≤lo)
 (vs:List Int)(k:Nat)(hk:vs.length=k)(t:TypeId)(hh:w'.heap[lo]? =some (.cells (vs.map (.int .u64)).toArray t (0,0)))(hv:∀v∈vs,0≤v∧v<topB size)(hm:k≤16)(hl:L.length≤800000):
 Calls Tryz.prog 108 #[.pointer (some ⟨p,0,none⟩),.int .i64 size,.slice (some ⟨lo,0,none⟩) k k] w' (fun e w3=>e=.returned (.tuple #[])∧PutSt w b0 ob p oa n cap opt w3 (L++putsB size vs)):=by
 subst hk
 have hlt:lo<w'.heap.size:=(Array.getElem?_eq_some_iff.1 hh).1
 have hW:=st.wr.more hb hlo hlt
 refine(wput_any size hs p lo _ vs L w' hW (.inr rfl) (fun j hj=>?_) (fun j hj=>?_) hm hl).mono ?_
 ·rw[cell_of_row _ _ j _ t (0,0) hh]
  simp[List.getD_eq_getElem?_getD,hj]
 ·rw[List.getD_eq_getElem?_getD,List.getElem?_eq_getElem hj]
  exact hv _ (List.getElem_mem hj)
 ·rintro e w3 ⟨rfl,hw3,hb3,-⟩
  exact⟨rfl,(st.below hb).belowP hb3 (hw3.mono fun b h=>.inl h)⟩
end
section
open Go.RowKit Bits
section
variable {P:Program} {ops:Array Oper}
theorem SeqRun.made {C:World→Prop}{C':Value→World→Prop}{o:Oper}{a:Act}(hw:Region.wanted o (yielded ops a.tmps)=true)(hr:∀w,C w→∃v w2,(execOp a.eval o).run P w=.ok (.value v) w2∧C' v w2):SeqRun P ops C C' o a:=
 ⟨hw,fun w h=>by obtain⟨v,w2,h1,h2⟩:=hr w h;exact .inl ⟨v,w2,h2,.inl h1⟩⟩
theorem SeqRun.skip {C C':World→Prop}{o:Oper}{a:Act}(hw:Region.wanted o (yielded ops a.tmps)=true)(hr:∀w,C w→∃w2,(execOp a.eval o).run P w=.ok .skip w2∧C' w2):SeqRun P ops C (fun v w=>v=undef∧C' w) o a:=
 ⟨hw,fun w h=>by obtain⟨w2,h1,h2⟩:=hr w h;exact .inl ⟨undef,w2,⟨rfl,h2⟩,.inr ⟨h1,rfl⟩⟩⟩
end
end
section
open Go.RowKit Bits
theorem Reads.shut {w:World}{oa:Option Addr}{n cap:Nat}{l:List Int}(h:Reads w oa n cap l):Reads w oa n n l:=
 ⟨h.len,Nat.le_refl _,by have:=h.max;have:=h.le;omega,h.byte,h.at'⟩
theorem run_cutFull {P:Program}(t:TypeId)(oa:Option Addr)(n cap size:Nat)(ht:P.underlying t=some (.slice (P.elem t)))(hsize:(P.info? (P.elem t)).map (·.size)=some size)(k m:Nat)(i j:Int)(hi:i=(k:Int))(hj:j=(m:Int))(hk:k≤m)(hm:m≤cap)(w:World):
 (Instr.slice t (.slice oa n cap) (some (.int .i64 i)) (some (.int .i64 j)) (some (.int .i64 j))).run P w=.ok (.slice (cutAddr oa k m size) (m-k) (m-k)) w:=by
 subst hi hj
 obtain⟨inf,h1,h2⟩:=Option.map_eq_some_iff.1 hsize
 rw[run_slice_lhm w t oa n cap ht .i64 .i64 .i64 (k:Int) (m:Int) (m:Int) (Int.natCast_nonneg _) (Int.ofNat_le.2 hk) (Int.le_refl _) (Int.ofNat_le.2 hm)]
 simp[sizeOf,typeInfo,h1,h2,sliced,cutAddr,Result.andThen]
theorem left_any (b p:Nat)(l:List Int)(i:Nat)(w:World)(hw:Rd w b p l i)(hi:i≤l.length)(hn:l.length≤1000000):
 Calls Tryz.prog 234 #[.pointer (some ⟨p,0,none⟩)] w (RetAt w (.int .i64 ((l.length:Int)-i))):=by
 obtain⟨oa,cap,hc,hr,ha⟩:=hw.row
 have hpos:=hw.pos
 have hlt:=hw.lt
 clear ha hr hw
 go_enter Tryz.func234,Tryz.ntmps234
 go_wp2_with fail
 refine wp_region_later (by kernel_rfl) (by kernel_rfl) ?_
 repeat go_big_quiet_step (fail)
 refine wpQuiet_nil ?_
 intro x
 go_wp2_with fail
 go_ret
 exact .mk rfl x.below
theorem run_mapUpdate_new {P:Program}(mty kt et:TypeId)(r clock:Nat)(es:Array MapEntry)(q:IntKind)(k:Int)(val:Value)(w:World)(hm:P.underlying mty=some (.map kt et))(hk:P.underlying kt=some (.int q))(hb:w.heap[r]? =some (.map es clock))
 (hf:Instr.findNow (.int q) (.int q k) es.toList 0=some none):
 (Instr.mapUpdate mty (.map (some r)) (.int q k) val).run P w=.ok () { w with heap:=w.heap.setIfInBounds r (.map (es.push { key:=.int q k,val:=val,born:=clock }) (clock+1)) }:=by
 have hc:(Instr.checkKey false 10000 kt (.int q k)).run P w=.ok () w:=MapKept.run_checkKey (k:=.int q k) hk (by simp[MapKept.IsKey]) false 9999
 simp[Instr.mapUpdate,run_underlying hm,MapKept.run_getObj_map hb,hc,MapKept.run_findKey hk hf,MapKept.run_setObj_map _ hb,Result.andThen]
theorem run_lookup_num {P:Program}(mty kt et:TypeId)(r clock:Nat)(es:Array MapEntry)(q:IntKind)(k:Int)(z:Value)(ok:Bool)(w:World)(hm:P.underlying mty=some (.map kt et))(hk:P.underlying kt=some (.int q))(hb:w.heap[r]? =some (.map es clock))(x:Option (Nat×Value))
 (hf:Instr.findNow (.int q) (.int q k) es.toList 0=some x)(hz:((P.info? et).bind (·.zero))=some z):
 (Instr.lookup mty (.map (some r)) (.int q k) ok).run P w=.ok (if ok then .tuple #[(x.map (·.2)).getD z,.bool x.isSome] else (x.map (·.2)).getD z) w:=by
 have hc:(Instr.checkKey es.isEmpty 10000 kt (.int q k)).run P w=.ok () w:=MapKept.run_checkKey (k:=.int q k) hk (by simp[MapKept.IsKey]) _ 9999
 have hzz:(zeroValue et).run P w=.ok z w:=by
  cases hi:P.info? et with
  |none=>rw[hi] at hz;cases hz
  |some i=>
   rw[hi] at hz
   simp only[Option.bind_some] at hz
   simp[zeroValue,typeInfo,hi,hz,Result.andThen]
 cases x with
 |none=>simp[Instr.lookup,run_underlying hm,MapKept.run_getObj_map hb,hc,MapKept.run_findKey hk hf,hzz,Result.andThen]
 |some x=>simp[Instr.lookup,run_underlying hm,MapKept.run_getObj_map hb,hc,MapKept.run_findKey hk hf,hzz,Result.andThen]
theorem below_map {B:Nat}{w0 w:World}{r:Nat}(h:Below B w0 w)(hr:B≤r)(o:Obj):Below B w0 { w with heap:=w.heap.setIfInBounds r o }:=
 ⟨h.os,h.tape,h.output,by simpa using h.size,fun i hi=>by
   have:(w.heap.setIfInBounds r o)[i]? =w.heap[i]?:=by rw[Array.getElem?_setIfInBounds_ne (by omega)]
   exact this.trans (h.block i hi)⟩
theorem wpList_insert_new {P:Program}(w:World){ops:Array Oper}{rest:List Oper}{o:Oper}{a:Act}{Q:Exit→Act→World→Prop}
 (hg:o.guard=none)(m x v:Operand)(t:TypeId)(hop:o.op=Op.insert t m x v)(kt et:TypeId)(hm:P.underlying t=some (.map kt et))(q:IntKind)(hk:P.underlying kt=some (.int q))
 (r clock:Nat)(es:Array MapEntry)(k:Int)(val:Value)(hb:w.heap[r]? =some (.map es clock))(hem:a.eval m=.map (some r))(hx:a.eval x=.int q k)(hv:a.eval v=val)(hf:Instr.findNow (.int q) (.int q k) es.toList 0=some none)
 (hK:∀w',w'.heap[r]? =some (.map (es.push { key:=.int q k,val:=val,born:=clock }) (clock+1))→Below r w w'→w'.heap.size=w.heap.size→(∀i,i≠r→w'.heap[i]? =w.heap[i]?)→wpList P ops Q rest (a.put o.dst undef) w'):
 wpList P ops Q (o::rest) a w:=by
 refine wpList_plain hg fun K' hK'=>?_
 have hrun:=run_mapUpdate_new t kt et r clock es q k val w hm hk hb hf
 have hlt:=(Array.getElem?_eq_some_iff.1 hb).1
 unfold Oper.wp
 simp[execOp,hop,hem,hx,hv,hrun,Result.andThen]
 refine hK' _ _ (hK _ ?_ (below_map (Below.refl _ _) (Nat.le_refl _) _) (by simp) (fun i hi=>?_))
 ·simp[hlt]
 ·show(w.heap.setIfInBounds r _)[i]? =_
  rw[Array.getElem?_setIfInBounds_ne (Ne.symm hi)]
theorem wpList_insert_at {P:Program}(w:World){ops:Array Oper}{rest:List Oper}{dst:Option Tmp}{ty:TypeId}{pos:String}{after:Array Edge}{a:Act}{Q:Exit→Act→World→Prop}{m v:Operand}{t:TypeId}{q:IntKind}{k:Int}
 (r clock:Nat)(es:Array MapEntry)(val:Int→Value)(kt et:TypeId)(hm:P.underlying t=some (.map kt et))(hk:P.underlying kt=some (.int q))
 (hb:w.heap[r]? =some (.map es clock))(hem:a.eval m=.map (some r))(hv:a.eval v=val k)(hf:Instr.findNow (.int q) (.int q k) es.toList 0=some none)
 (hK:∀w',w'.heap[r]? =some (.map (es.push { key:=.int q k,val:=val k,born:=clock }) (clock+1))→Below r w w'→w'.heap.size=w.heap.size→(∀i,i≠r→w'.heap[i]? =w.heap[i]?)→wpList P ops Q rest (a.put dst undef) w'):
 wpList P ops Q (⟨dst,.insert t m (.const (.int q k)) v,ty,pos,after,none⟩::rest) a w:=
 wpList_insert_new w rfl m _ v t rfl kt et hm q hk r clock es k (val k) hb hem rfl hv hf hK
def protoTcp:Value:=.agg #[.int .i64 20,.int .i64 16,.func (.func 184) #[] #[],.func (.func 185) #[] #[],.func (.func 186) #[] #[]]
def protoUdp:Value:=.agg #[.int .i64 8,.int .i64 6,.func (.func 187) #[] #[],.func (.func 188) #[] #[],.func (.func 189) #[] #[]]
def protoIcmp:Value:=.agg #[.int .i64 4,.int .i64 2,.func (.func 181) #[] #[],.func (.func 182) #[] #[],.func (.func 183) #[] #[]]
def protoOf (k:Int):Value:=if k=6 then protoTcp else if k=17 then protoUdp else protoIcmp
def protoRows:Array MapEntry:=#[⟨.int .u8 6,protoTcp,0⟩,⟨.int .u8 17,protoUdp,1⟩,⟨.int .u8 1,protoIcmp,2⟩,⟨.int .u8 58,protoIcmp,3⟩]
def protoZ:Value:=.agg #[.int .i64 0,.int .i64 0,.nilFunc,.nilFunc,.nilFunc]
theorem proto_zero:((Tryz.prog.info? 222).bind (·.zero))=some protoZ:=by kernel_rfl
def ProtoPost (w:World):Ending→World→Prop:=fun e w'=>∃r,e=.returned (.map (some r))∧w.heap.size≤r∧w'.heap[r]? =some (.map protoRows 4)∧Below w.heap.size w w'
theorem below_mapped {B:Nat}{w0 w w':World}{r:Nat}(h:Below B w0 w)(hr:B≤r)(hl:Below r w w'):Below B w0 w':=h.trans (hl.mono hr)
theorem protocols_any (w:World):Calls Tryz.prog 136 #[] w (ProtoPost w):=by
 have hmm:=@run_makeMap Tryz.prog
 have hmp:((w.alloc (.cells #[.int .i64 4,.int .i64 2,.func (.func 181) #[] #[],.func (.func 182) #[] #[],.func (.func 183) #[] #[]] 222)).alloc (.map #[] 0)).heap[w.heap.size+1]? =some (.map #[] 0):=by
  have:=heap_alloc_new (w.alloc (.cells #[.int .i64 4,.int .i64 2,.func (.func 181) #[] #[],.func (.func 182) #[] #[],.func (.func 183) #[] #[]] 222)) (.map #[] 0)
  simpa using this
 have hbx:((w.alloc (.cells #[.int .i64 4,.int .i64 2,.func (.func 181) #[] #[],.func (.func 182) #[] #[],.func (.func 183) #[] #[]] 222)).alloc (.map #[] 0)).heap[w.heap.size]? =some (.cells #[.int .i64 4,.int .i64 2,.func (.func 181) #[] #[],.func (.func 182) #[] #[],.func (.func 183) #[] #[]] 222):=by
  exact(heap_alloc_old _ _ (by simp)).trans (heap_alloc_new w _)
 have hB:Below w.heap.size w ((w.alloc (.cells #[.int .i64 4,.int .i64 2,.func (.func 181) #[] #[],.func (.func 182) #[] #[],.func (.func 183) #[] #[]] 222)).alloc (.map #[] 0)):=Below.all (Below.all (Below.refl _ _) _) _
 go_enter Tryz.func136,Tryz.ntmps136
 go_wp2_with (first|(with_reducible refine wpList_insert_at _ (w.heap.size+1) _ _ protoOf 5 222 ?_ ?_ hmp ?_ ?_ ?_ ?_;(kernel_rfl);(kernel_rfl);(kernel_rfl);(kernel_rfl);(kernel_rfl);intro w1 hmp hlow hsz hoth;have hbx:=(hoth w.heap.size (by omega)).trans hbx;have hB:=below_mapped hB (by omega) hlow;have hpt:partOf w1 w.heap.size 0 5=#[.int .i64 4,.int .i64 2,.func (.func 181) #[] #[],.func (.func 182) #[] #[],.func (.func 183) #[] #[]]:=partOf_all hbx rfl))
 go_ret
 exact⟨_,rfl,by omega,hmp.trans (by kernel_rfl),hB⟩
def putW (size:Nat)(v:Int):List Int:=if size=1 then [v] else if size=2 then be2 v else be4 v
def topW (size:Nat):Int:=if size=1 then 256 else if size=2 then 65536 else 4294967296
theorem putW_len (size:Nat)(v:Int):(putW size v).length≤4:=by
 unfold putW;split
 ·simp
 ·split<;>simp[be2,be4]
def putsW (size:Nat)(vs:List Int):List Int:=(vs.map (putW size)).flatten
theorem putsW_snoc (size:Nat)(vs:List Int)(v:Int):putsW size (vs++[v])=putsW size vs++putW size v:=by simp[putsW]
theorem putsW_len (size:Nat)(vs:List Int):(putsW size vs).length≤4*vs.length:=by
 induction vs with
 |nil=>simp[putsW]
 |cons v r ih=>
  have:=putW_len size v
  unfold putsW at ih⊢
  simp only[List.map_cons,List.flatten_cons,List.length_append,List.length_cons]
  omega
theorem put_keepW (size:Nat)(hs:size=1∨size=2∨size=4)(p:Nat)(K:Nat→Prop)(l:List Int)(v:Int)(h0:0≤v)(h1:v<topW size)(w:World)(hw:WrK w p K l)(hm:l.length≤900000):
 Calls Tryz.prog 65 #[.pointer (some ⟨p,0,none⟩),.int .u64 v,.int .i64 size] w (WrKPost w p K (l++putW size v)):=by
 have HW:=Lib.hid hw
 clear hw
 have hfit:∀w,Calls Tryz.prog 124 #[.int .u64 v,.int .i64 size] w (RetAt w (.bool true)):=fun w=>by
  rcases hs with rfl|rfl|rfl
  ·exact fits_any v 1 h0 (by simpa[topW] using h1) (by decide) (by decide) w
  ·exact fits_any v 2 h0 (by simpa[topW] using h1) (by decide) (by decide) w
  ·exact fits_any v 4 h0 (by simpa[topW] using h1) (by decide) (by decide) w
 have hof:∀w,Calls Tryz.prog 125 #[.int .u64 v,.int .i64 size] w (NewBytes w (putW size v)):=fun w=>by
  rcases hs with rfl|rfl|rfl
  ·exact of1_any v h0 (by simpa[topW] using h1) w
  ·exact of2_any v h0 (by simpa[topW] using h1) w
  ·exact of4_any v h0 (by simpa[topW] using h1) w
 have hby:∀x∈putW size v,0≤x∧x<256:=by
  rcases hs with rfl|rfl|rfl
  ·intro x hx
   simp only[putW,if_true,List.mem_singleton] at hx
   subst hx
   exact⟨h0,by simpa[topW] using h1⟩
  ·exact be2_bytes v
  ·exact be4_byte v
 have hln:=putW_len size v
 generalize putW size v=B at*
 generalize topW size=T at*
 go_enter Tryz.func65,Tryz.ntmps65
 go_wp2_with (go_at_call 124;refine Calls.later (hfit _) ?_;intro x)
 refine Calls.mono (hof _) ?_
 rintro e w2 ⟨oa,cap,rfl,ho,hb⟩
 go_wp2_with fail
 refine Calls.mono (raw_keep p K l oa _ cap B w2 ((HW.out.later x).below hb) (ho.reads hby) (by omega)) ?_
 rintro e w3 ⟨rfl,hW3,hb3,hs3⟩
 go_wp2_with fail
 go_ret
 exact⟨rfl,hW3,((x.below.mono (Nat.le_of_lt HW.out.lt)).trans (hb.mono (Nat.le_of_lt (Nat.lt_of_lt_of_le HW.out.lt x.below.size)))).trans hb3,((Stays.of x.below HW.out.old).trans (Stays.of hb (HW.out.later x).old)).trans hs3⟩
theorem teach_any (size:Nat)(hs:size=1∨size=2∨size=4)(p g:Nat)(K:Nat→Prop)(vs:List Int)(l:List Int)(w:World)(hw:WrK w p K l)(hg:K g)
 (hc:∀j,j<vs.length→w.cell? ⟨g,j,none⟩=some (.int .u64 (vs.getD j 0)))(hv:∀j,j<vs.length→0≤vs.getD j 0∧vs.getD j 0<topW size)(hm:vs.length≤16)(hl:l.length≤800000):
 Calls Tryz.prog 190 #[.pointer (some ⟨p,0,none⟩),.int .i64 size,.slice (some ⟨g,0,none⟩) vs.length vs.length] w (fun e w'=>e=.returned (.tuple #[])∧WrK w' p K (l++putsW size vs)∧Below p w w'∧Stays K w w'):=by
 have HW:=Lib.hid hw
 have HC:=Lib.hid hc
 have HV:=Lib.hid hv
 have HG:=Lib.hid hg
 have HP:Hid (∀(l:List Int) (v:Int) (w:World),0≤v→v<topW size→WrK w p K l→l.length≤900000→Calls Tryz.prog 65 #[.pointer (some ⟨p,0,none⟩),.int .u64 v,.int .i64 size] w (WrKPost w p K (l++putW size v))):=Lib.hid (fun l v w h0 h1 hw hm=>put_keepW size hs p K l v h0 h1 w hw hm)
 have HT:Hid (∀k,k<vs.length→putsW size (vs.take (k+1))=putsW size (vs.take k)++putW size (vs.getD k 0)):=Lib.hid (fun k hk=>by rw[take_snoc' vs k hk,putsW_snoc])
 have HF:Hid (putsW size (vs.take vs.length)=putsW size vs):=Lib.hid (by rw[List.take_length])
 have HLN:Hid (∀k,(putsW size (vs.take k)).length≤4*vs.length):=Lib.hid (fun k=>by have:=putsW_len size (vs.take k);rw[List.length_take] at this;omega)
 have HZ:Hid (putsW size (vs.take 0)=[]):=Lib.hid rfl
 clear hw hc hv hg hs
 generalize hn:vs.length=n at*
 clear hn
 have hp:=HW.out.lt
 go_enter Tryz.func190,Tryz.ntmps190
 go_wp2_with fail
 go_loopw [10] (fun u10 wr=>∃k:Nat,k≤n∧u10=.int .i64 k∧Hid (WrK wr p K (l++putsW size (vs.take k))∧Below p w wr∧Stays K w wr)) (fun u10 _=>(n:Int)-intOf u10 |>.toNat)
 case atStart=>exact⟨0,Nat.zero_le _,rfl,Lib.hid ⟨by rw[HZ.out,List.append_nil];exact HW.out,Below.refl _ _,Stays.refl _ _⟩⟩
 case round=>
  obtain⟨k,hk,rfl,HS⟩:=hrel
  by_cases hlt:k<n
  ·have hck:=HC.out k hlt
   have hcw:wr.cell? ⟨g,k,none⟩=some (.int .u64 (vs.getD k 0)):=by
    rw[←hck];unfold World.cell?;simp only[HS.out.2.2 g HG.out]
   have HVK:=Lib.hid (HV.out k hlt)
   have HTK:=Lib.hid (HT.out k hlt)
   clear hck
   generalize vs.getD k 0=v at*
   go_wp2_with fail
   refine Calls.mono (HP.out _ v wr HVK.out.1 HVK.out.2 HS.out.1 (by rw[List.length_append];have:=HLN.out k;omega)) ?_
   rintro e w3 ⟨rfl,hW3,hb3,hs3⟩
   have HS3:Hid (WrK w3 p K (l++putsW size (vs.take (k+1)))∧Below p w w3∧Stays K w w3):=Lib.hid ⟨by rw[HTK.out,←List.append_assoc];exact hW3,HS.out.2.1.trans hb3,HS.out.2.2.trans hs3⟩
   clear hW3 hb3 hs3
   go_wp2_with fail
   go_roundw
   case rel=>exact⟨k+1,by omega,by go_num,HS3⟩
   case measure=>simp[intOf];omega
  ·obtain rfl:k=n:=by omega
   go_wp2_with fail
   go_end0
   have:=HS.out
   rw[HF.out] at this
   exact⟨rfl,this⟩
def segV (p a b f ty cd:Int)(oD:Option Addr)(n cD:Nat):Array Value:=#[.int .u8 p,.int .u16 a,.int .u16 b,.int .u32 0,.int .u32 0,.int .u8 f,.int .u16 0,.int .u16 0,.slice none 0 0,.int .u8 ty,.int .u8 cd,.slice oD n cD]
def PutsPost (w:World)(p:Nat)(K:Nat→Prop)(L:List Int):Ending→World→Prop:=fun e w'=>e=.returned (.tuple #[])∧WrK w' p K L∧Below p w w'∧Stays K w w'
theorem WrK.puts {y w':World}{p:Nat}{K:Nat→Prop}{L:List Int}(h:WrK y p K L)(size:Nat)(hs:size=1∨size=2∨size=4)(hb:Below y.heap.size y w')(lo:Nat)(hlo:y.heap.size≤lo)
 (vs:List Int)(k:Nat)(hk:vs.length=k)(t:TypeId)(hh:w'.heap[lo]? =some (.cells (vs.map (.int .u64)).toArray t (0,0)))(hv:∀v∈vs,0≤v∧v<topW size)(hm:k≤16)(hl:L.length≤800000):
 Calls Tryz.prog 190 #[.pointer (some ⟨p,0,none⟩),.int .i64 size,.slice (some ⟨lo,0,none⟩) k k] w' (PutsPost y p K (L++putsW size vs)):=by
 subst hk
 have hlt:lo<w'.heap.size:=(Array.getElem?_eq_some_iff.1 hh).1
 have hW:=h.more hb hlo hlt
 refine(teach_any size hs p lo _ vs L w' hW (.inr rfl) (fun j hj=>?_) (fun j hj=>?_) hm hl).mono ?_
 ·rw[cell_of_row _ _ j _ t (0,0) hh]
  simp[List.getD_eq_getElem?_getD,hj]
 ·rw[List.getD_eq_getElem?_getD,List.getElem?_eq_getElem hj]
  exact hv _ (List.getElem_mem hj)
 ·rintro e w3 ⟨rfl,hw3,hb3,hs3⟩
  exact⟨rfl,hw3.mono fun b h=>.inl h,(hb.mono (Nat.le_of_lt h.lt)).trans hb3,(Stays.of hb h.old).trans (fun b hb=>hs3 b (.inl hb))⟩
theorem heap_two (w:World)(o1 o2:Obj):((w.alloc o1).alloc o2).heap[w.heap.size+1]? =some o2:=by
 have:=heap_alloc_new (w.alloc o1) o2
 simpa using this
theorem putudp_any (p:Nat)(K:Nat→Prop)(q a b f ty cd:Int)(oD:Option Addr)(n cD:Nat)(L:List Int)(w:World)(hw:WrK w p K L)(ha:0≤a∧a<65536)(hb:0≤b∧b<65536)(hn:n≤65527)(hl:L.length≤700000):
 Calls Tryz.prog 188 #[.pointer (some ⟨p,0,none⟩),.agg (segV q a b f ty cd oD n cD)] w (PutsPost w p K (L++putsW 2 [a,b,8+(n:Int),0])):=by
 have HW:=Lib.hid hw
 have hbx:=heap_alloc_new w (.cells (segV q a b f ty cd oD n cD) 149)
 have hB:Below w.heap.size w (w.alloc (.cells (segV q a b f ty cd oD n cD) 149)):=Below.all (Below.refl _ _) _
 have HW1:=Lib.hid (hw.below hB)
 have HB1:=Lib.hid hB
 unfold segV at*
 clear hB hw
 have hc1:(w.alloc (.cells #[.int .u8 q,.int .u16 a,.int .u16 b,.int .u32 0,.int .u32 0,.int .u8 f,.int .u16 0,.int .u16 0,.slice none 0 0,.int .u8 ty,.int .u8 cd,.slice oD n cD] 149)).cell? ⟨w.heap.size,1,none⟩=some (.int .u16 a):=cell_of_row _ _ 1 _ _ (0,0) hbx
 have hc2:(w.alloc (.cells #[.int .u8 q,.int .u16 a,.int .u16 b,.int .u32 0,.int .u32 0,.int .u8 f,.int .u16 0,.int .u16 0,.slice none 0 0,.int .u8 ty,.int .u8 cd,.slice oD n cD] 149)).cell? ⟨w.heap.size,2,none⟩=some (.int .u16 b):=cell_of_row _ _ 2 _ _ (0,0) hbx
 have hc11:(w.alloc (.cells #[.int .u8 q,.int .u16 a,.int .u16 b,.int .u32 0,.int .u32 0,.int .u8 f,.int .u16 0,.int .u16 0,.slice none 0 0,.int .u8 ty,.int .u8 cd,.slice oD n cD] 149)).cell? ⟨w.heap.size,11,none⟩=some (.slice oD n cD):=cell_of_row _ _ 11 _ _ (0,0) hbx
 clear hbx
 go_enter Tryz.func188,Tryz.ntmps188
 go_wp2_with fail
 refine Calls.mono (HW1.out.puts 2 (by decide) (Below.all (Below.refl _ _) _) _ (by simp) [a,b,8+(n:Int),0] 4 rfl _ (heap_two w _ _) ?_ (by decide) (by omega)) ?_
 ·intro v hv;simp only[List.mem_cons,List.not_mem_nil,or_false] at hv;unfold topW;simp only[if_neg (show¬(2:Nat)=1 by decide),if_true];omega
 rintro e w2 ⟨rfl,hw2,hb2,hs2⟩
 go_wp2_with fail
 go_end0
 exact⟨rfl,hw2,(HB1.out.mono (Nat.le_of_lt HW.out.lt)).trans hb2,(Stays.of HB1.out HW.out.old).trans hs2⟩
theorem puticmp_any (p:Nat)(K:Nat→Prop)(q a b f ty cd:Int)(oD:Option Addr)(n cD:Nat)(L:List Int)(w:World)(hw:WrK w p K L)(ha:0≤ty∧ty<256)(hb:0≤cd∧cd<256)(hl:L.length≤700000):
 Calls Tryz.prog 182 #[.pointer (some ⟨p,0,none⟩),.agg (segV q a b f ty cd oD n cD)] w (PutsPost w p K ((L++putsW 1 [ty,cd])++putsW 2 [0])):=by
 have HW:=Lib.hid hw
 have hbx:=heap_alloc_new w (.cells (segV q a b f ty cd oD n cD) 149)
 have hB:Below w.heap.size w (w.alloc (.cells (segV q a b f ty cd oD n cD) 149)):=Below.all (Below.refl _ _) _
 have HW1:=Lib.hid (hw.more hB (Nat.le_refl _) (by simp))
 have HB1:=Lib.hid hB
 unfold segV at*
 clear hB hw
 have hc9:(w.alloc (.cells #[.int .u8 q,.int .u16 a,.int .u16 b,.int .u32 0,.int .u32 0,.int .u8 f,.int .u16 0,.int .u16 0,.slice none 0 0,.int .u8 ty,.int .u8 cd,.slice oD n cD] 149)).cell? ⟨w.heap.size,9,none⟩=some (.int .u8 ty):=cell_of_row _ _ 9 _ _ (0,0) hbx
 have hc10:(w.alloc (.cells #[.int .u8 q,.int .u16 a,.int .u16 b,.int .u32 0,.int .u32 0,.int .u8 f,.int .u16 0,.int .u16 0,.slice none 0 0,.int .u8 ty,.int .u8 cd,.slice oD n cD] 149)).cell? ⟨w.heap.size,10,none⟩=some (.int .u8 cd):=cell_of_row _ _ 10 _ _ (0,0) hbx
 clear hbx
 go_enter Tryz.func182,Tryz.ntmps182
 go_wp2_with fail
 refine Calls.mono (HW1.out.puts 1 (by decide) (Below.all (Below.refl _ _) _) _ (by simp) [ty,cd] 2 rfl _ (heap_two w _ _) ?_ (by decide) (by omega)) ?_
 ·intro v hv;simp only[List.mem_cons,List.not_mem_nil,or_false] at hv;unfold topW;first|simp only[if_true]|simp only[if_neg (show¬(2:Nat)=1 by decide),if_true]|simp only[if_neg (show¬(4:Nat)=1 by decide),if_neg (show¬(4:Nat)=2 by decide)]
  omega
 rintro e w2 ⟨rfl,hw2,hb2,hs2⟩
 have HW2:=Lib.hid hw2
 have HB2:=Lib.hid hb2
 have HS2:=Lib.hid hs2
 clear hw2 hb2 hs2 hc9 hc10 HW1
 go_wp2_with fail
 refine Calls.mono (HW2.out.puts 2 (by decide) (Below.all (Below.refl _ _) _) _ (by simp) [0] 1 rfl _ (heap_alloc_new _ _) ?_ (by decide) (by have:=putsW_len 1 [ty,cd];rw[List.length_append];simp at this;omega)) ?_
 ·intro v hv;simp only[List.mem_cons,List.not_mem_nil,or_false] at hv;unfold topW;first|simp only[if_true]|simp only[if_neg (show¬(2:Nat)=1 by decide),if_true]|simp only[if_neg (show¬(4:Nat)=1 by decide),if_neg (show¬(4:Nat)=2 by decide)]
  omega
 rintro e w3 ⟨rfl,hw3,hb3,hs3⟩
 have HWZ:=Lib.hid hw3
 have HBZ:=Lib.hid (HB2.out.trans hb3)
 have HSZ:=Lib.hid (HS2.out.trans hs3)
 clear hw3 hb3 hs3
 go_wp2_with fail
 go_end0
 exact⟨rfl,HWZ.out.mono fun b h=>.inl h,(HB1.out.mono (Nat.le_of_lt HW.out.lt)).trans HBZ.out,(Stays.of HB1.out HW.out.old).trans (fun b h=>HSZ.out b (.inl h))⟩
theorem puttcp_any (p:Nat)(K:Nat→Prop)(q a b f ty cd:Int)(oD:Option Addr)(n cD:Nat)(L:List Int)(w:World)(hw:WrK w p K L)(ha:0≤a∧a<65536)(hb:0≤b∧b<65536)(hf:0≤f∧f<256)(hl:L.length≤700000):
 Calls Tryz.prog 185 #[.pointer (some ⟨p,0,none⟩),.agg (segV q a b f ty cd oD n cD)] w (PutsPost w p K (L++putsW 2 [a,b]++putsW 4 [0,0]++putsW 1 [80,f]++putsW 2 [0,0,0])):=by
 have HW:=Lib.hid hw
 have hbx:=heap_alloc_new w (.cells (segV q a b f ty cd oD n cD) 149)
 have hB:Below w.heap.size w (w.alloc (.cells (segV q a b f ty cd oD n cD) 149)):=Below.all (Below.refl _ _) _
 have HW1:=Lib.hid (hw.more hB (Nat.le_refl _) (by simp))
 have HB1:=Lib.hid hB
 unfold segV at*
 clear hB hw
 have hc1:(w.alloc (.cells #[.int .u8 q,.int .u16 a,.int .u16 b,.int .u32 0,.int .u32 0,.int .u8 f,.int .u16 0,.int .u16 0,.slice none 0 0,.int .u8 ty,.int .u8 cd,.slice oD n cD] 149)).cell? ⟨w.heap.size,1,none⟩=some (.int .u16 a):=cell_of_row _ _ 1 _ _ (0,0) hbx
 have hc2:(w.alloc (.cells #[.int .u8 q,.int .u16 a,.int .u16 b,.int .u32 0,.int .u32 0,.int .u8 f,.int .u16 0,.int .u16 0,.slice none 0 0,.int .u8 ty,.int .u8 cd,.slice oD n cD] 149)).cell? ⟨w.heap.size,2,none⟩=some (.int .u16 b):=cell_of_row _ _ 2 _ _ (0,0) hbx
 have HX:=Lib.hid hbx
 clear hbx
 go_enter Tryz.func185,Tryz.ntmps185
 go_wp2_with fail
 refine Calls.mono (HW1.out.puts 2 (by decide) (Below.all (Below.refl _ _) _) _ (by simp) [a,b] 2 rfl _ (heap_two w _ _) ?_ (by decide) (by omega)) ?_
 ·intro v hv;simp only[List.mem_cons,List.not_mem_nil,or_false] at hv;unfold topW;first|simp only[if_true]|simp only[if_neg (show¬(2:Nat)=1 by decide),if_true]|simp only[if_neg (show¬(4:Nat)=1 by decide),if_neg (show¬(4:Nat)=2 by decide)]
  omega
 rintro e w2 ⟨rfl,hw2,hb2,hs2⟩
 have HW2:=Lib.hid hw2
 have HB2:=Lib.hid hb2
 have HS2:=Lib.hid hs2
 have hbx:=(hs2 _ (.inr rfl)).trans HX.out
 clear hw2 hb2 hs2 hc1 hc2 HW1
 have hc3:w2.cell? ⟨w.heap.size,3,none⟩=some (.int .u32 0):=cell_of_row _ _ 3 _ _ (0,0) hbx
 have hc4:w2.cell? ⟨w.heap.size,4,none⟩=some (.int .u32 0):=cell_of_row _ _ 4 _ _ (0,0) hbx
 clear hbx
 go_wp2_with fail
 refine Calls.mono (HW2.out.puts 4 (by decide) (Below.all (Below.refl _ _) _) _ (by simp) [0,0] 2 rfl _ (heap_alloc_new _ _) ?_ (by decide) (by have h0:=putsW_len 2 [a,b];simp only[List.length_append,List.length_cons,List.length_nil] at*;omega)) ?_
 ·intro v hv;simp only[List.mem_cons,List.not_mem_nil,or_false] at hv;unfold topW;first|simp only[if_true]|simp only[if_neg (show¬(2:Nat)=1 by decide),if_true]|simp only[if_neg (show¬(4:Nat)=1 by decide),if_neg (show¬(4:Nat)=2 by decide)]
  omega
 rintro e w3 ⟨rfl,hw3,hb3,hs3⟩
 have HW3:=Lib.hid hw3
 have HB3:=Lib.hid (HB2.out.trans hb3)
 have HS3:=Lib.hid (HS2.out.trans hs3)
 have hbx:=(HS3.out _ (.inr rfl)).trans HX.out
 clear hw3 hb3 hs3 hc3 hc4 HW2 HB2 HS2
 have hc8:w3.cell? ⟨w.heap.size,8,none⟩=some (.slice none 0 0):=cell_of_row _ _ 8 _ _ (0,0) hbx
 have hc5:w3.cell? ⟨w.heap.size,5,none⟩=some (.int .u8 f):=cell_of_row _ _ 5 _ _ (0,0) hbx
 clear hbx
 go_wp2_with fail
 refine Calls.mono (HW3.out.puts 1 (by decide) (Below.all (Below.refl _ _) _) _ (by simp) [80,f] 2 rfl _ (heap_alloc_new _ _) ?_ (by decide) (by have h0:=putsW_len 2 [a,b];have h1:=putsW_len 4 [0,0];simp only[List.length_append,List.length_cons,List.length_nil] at*;omega)) ?_
 ·intro v hv;simp only[List.mem_cons,List.not_mem_nil,or_false] at hv;unfold topW;first|simp only[if_true]|simp only[if_neg (show¬(2:Nat)=1 by decide),if_true]|simp only[if_neg (show¬(4:Nat)=1 by decide),if_neg (show¬(4:Nat)=2 by decide)]
  omega
 rintro e w4 ⟨rfl,hw4,hb4,hs4⟩
 have HW4:=Lib.hid hw4
 have HB4:=Lib.hid (HB3.out.trans hb4)
 have HS4:=Lib.hid (HS3.out.trans hs4)
 have hbx:=(HS4.out _ (.inr rfl)).trans HX.out
 clear hw4 hb4 hs4 hc8 hc5 HW3 HB3 HS3
 have hc6:w4.cell? ⟨w.heap.size,6,none⟩=some (.int .u16 0):=cell_of_row _ _ 6 _ _ (0,0) hbx
 have hc7:w4.cell? ⟨w.heap.size,7,none⟩=some (.int .u16 0):=cell_of_row _ _ 7 _ _ (0,0) hbx
 clear hbx
 go_wp2_with fail
 refine Calls.mono (HW4.out.puts 2 (by decide) (Below.all (Below.refl _ _) _) _ (by simp) [0,0,0] 3 rfl _ (heap_alloc_new _ _) ?_ (by decide) (by have h0:=putsW_len 2 [a,b];have h1:=putsW_len 4 [0,0];have h2:=putsW_len 1 [80,f];simp only[List.length_append,List.length_cons,List.length_nil] at*;omega)) ?_
 ·intro v hv;simp only[List.mem_cons,List.not_mem_nil,or_false] at hv;unfold topW;first|simp only[if_true]|simp only[if_neg (show¬(2:Nat)=1 by decide),if_true]|simp only[if_neg (show¬(4:Nat)=1 by decide),if_neg (show¬(4:Nat)=2 by decide)]
  omega
 rintro e w5 ⟨rfl,hw5,hb5,hs5⟩
 have HW5:=Lib.hid hw5
 have HB5:=Lib.hid (HB4.out.trans hb5)
 have HS5:=Lib.hid (HS4.out.trans hs5)
 have hbx:=(HS5.out _ (.inr rfl)).trans HX.out
 clear hw5 hb5 hs5 hc6 hc7 HW4 HB4 HS4
 have hc8:w5.cell? ⟨w.heap.size,8,none⟩=some (.slice none 0 0):=cell_of_row _ _ 8 _ _ (0,0) hbx
 clear hbx
 go_wp2_with fail
 refine Calls.mono (raw_keep p _ _ none 0 0 [] w5 HW5.out (Reads.nil _) (by have h0:=putsW_len 2 [a,b];have h1:=putsW_len 4 [0,0];have h2:=putsW_len 1 [80,f];have h3:=putsW_len 2 [0,0,0];simp only[List.length_append,List.length_cons,List.length_nil] at*;omega)) ?_
 rintro e w9 ⟨rfl,hw9,hb9,hs9⟩
 rw[List.append_nil] at hw9
 have HWZ:=Lib.hid hw9
 have HBZ:=Lib.hid (HB5.out.trans hb9)
 have HSZ:=Lib.hid (HS5.out.trans hs9)
 clear hw9 hb9 hs9
 go_wp2_with fail
 go_end0
 exact⟨rfl,HWZ.out.mono fun b h=>.inl h,(HB1.out.mono (Nat.le_of_lt HW.out.lt)).trans HBZ.out,(Stays.of HB1.out HW.out.old).trans (fun b h=>HSZ.out b (.inl h))⟩
def l0V (h:IpH):Nat:=(ipStands h 0).length
theorem list4 (l:List Int)(h:l.length=4):l=[l.getD 0 0,l.getD 1 0,l.getD 2 0,l.getD 3 0]:=by
 match l,h with
 |[a,b,c,d],_=>rfl
theorem box_reads {w:World}{b:Nat}{cs:Array Value}{t:TypeId}{fr:Nat×Nat}(h:w.heap[b]? =some (.cells cs t fr))(off n:Nat)(l:List Int)(hl:l.length=n)(hb:IsBytes l)(hn:n≤1000000)(hc:∀j,j<n→cs[off+j]? =some (.int .u8 (l.getD j 0))):Reads w (some ⟨b,off,none⟩) n n l:=
 ⟨hl,Nat.le_refl _,by unfold maxLen;omega,hb,.inr ⟨b,off,rfl,(Array.getElem?_eq_some_iff.1 h).1,fun j hj=>by rw[cell_of_row _ _ _ _ _ _ h];exact hc j hj⟩⟩
theorem info_sl':(Tryz.prog.info? 22).map (fun i=>(i.zero,i.size,i.bytes))=some (some (.slice none 0 0),1,24):=by kernel_rfl
theorem wideRows {ops:Array Oper}{w:World}{o:Oper}{a:Act}{gs:List Made}(vs:Array Value)(len:Nat)(parts:Array (Nat×Operand))(ho:o.op=.buildSlice 251 len parts)(hw:Region.wanted o (yielded ops a.tmps)=true)
 (hl:0<len∧len≤100)(hf:Instr.fill (fun i=>some (i*1,1)) ((Array.range (len*1)).map ((Value.slice none 0 0).cells[·%(Value.slice none 0 0).cells.size]!)) (parts.map fun(i,x)=>(i,a.eval x)).toList=some vs):
 WideF Tryz.prog ops w gs o (builtR (.cells vs 22) len) a:=by
 obtain⟨ie,hie,hz,h4,h5⟩:=info_parts info_sl'
 refine Wide.f (wide_slice 251 22 len parts ho hw _ ie (.slice none 0 0) (by kernel_rfl) hie hz ?_ ?_ ?_) gs
 ·rw[h4];omega
 ·rw[h4];omega
 ·rw[h4];exact hf
theorem ipput_yes (h:IpH)(oa:Option Addr)(cap:Nat)(w:World)(hk:IpOk h)(hr:Reads w oa h.opt.length cap h.opt)(ha:∀a,oa=some a→a.block<w.heap.size)(hx:ipRight h=true):
 Calls Tryz.prog 53 #[.agg (ipV h oa cap)] w (BytesErr w (ipPutL h) (ipPutErr h)):=by
 have hn:h.opt.length≤40∧h.opt.length%4=0:=by
  unfold ipRight at hx;simp at hx;omega
 have HF:Hid (BytesErr w (ipPutL h) (ipPutErr h)=BytesErr w (ipPut h) 0):=Lib.hid (by unfold ipPutL ipPutErr;rw[hx];rfl)
 have HR:Hid (∀w,Calls Tryz.prog 107 #[.agg (ipV h oa cap)] w (RetAt w (.bool true))):=Lib.hid (fun w=>hx▸ipright_any h oa cap w (by omega) hk.total)
 have HL:Hid (∀w,Calls Tryz.prog 109 #[.agg (ipV h oa cap)] w (RetAt w (.int .i64 (20+(h.opt.length:Int))))):=Lib.hid (fun w=>iplength_any h oa cap w (by omega))
 have HRD:=Lib.hid hr
 have HK:=Lib.hid hk
 have HA:=Lib.hid ha
 clear hr hk ha
 have HSD:Hid (h.src=[h.src.getD 0 0,h.src.getD 1 0,h.src.getD 2 0,h.src.getD 3 0]):=Lib.hid (list4 _ HK.out.src.1)
 have HDD:Hid (h.dst=[h.dst.getD 0 0,h.dst.getD 1 0,h.dst.getD 2 0,h.dst.getD 3 0]):=Lib.hid (list4 _ HK.out.dst.1)
 have HPP:Hid (ipPut h=ipStands h (sumOf (ipStands h 0))):=Lib.hid rfl
 have HST:Hid (∀z,ipStands h z=[64+((20+h.opt.length:Nat):Int)/4,h.tos]++be2 h.total++be2 h.id++be2 (ipFlags h)++[h.ttl,h.proto]++be2 z++(h.src++h.dst++h.opt)):=Lib.hid (fun z=>rfl)
 have HFG:Hid (bits .or .u64 (bits .or .u64 (if h.df then 16384 else 0) (if h.mf then 8192 else 0)) h.frag=ipFlags h):=Lib.hid (bits_or_flags h.df h.mf h.frag HK.out.frag.1 (by unfold ipRight at hx;simp at hx;omega))
 have HF1:Hid (∀w,Calls Tryz.prog 110 #[.bool h.df,.int .u64 16384] w (RetAt w (.int .u64 (if h.df then 16384 else 0)))):=Lib.hid (fun w=>ipflag_any _ _ _)
 have HF2:Hid (∀w,Calls Tryz.prog 110 #[.bool h.mf,.int .u64 8192] w (RetAt w (.int .u64 (if h.mf then 8192 else 0)))):=Lib.hid (fun w=>ipflag_any _ _ _)
 have HFB:Hid (0≤ipFlags h∧ipFlags h<65536):=Lib.hid (by
  have h1:=HK.out.frag
  have h2:h.frag≤8191:=by unfold ipRight at hx;simp at hx;omega
  unfold ipFlags;split<;>split<;>omega)
 generalize ipFlags h=fl at*
 generalize (if h.df then (16384:Int) else 0)=f1 at*
 generalize (if h.mf then (8192:Int) else 0)=f2 at*
 unfold ipV at*
 generalize h.src.getD 0 0=s0 at*
 generalize h.src.getD 1 0=s1 at*
 generalize h.src.getD 2 0=s2 at*
 generalize h.src.getD 3 0=s3 at*
 generalize h.dst.getD 0 0=d0 at*
 generalize h.dst.getD 1 0=d1 at*
 generalize h.dst.getD 2 0=d2 at*
 generalize h.dst.getD 3 0=d3 at*
 go_enter Tryz.func53,Tryz.ntmps53
 go_wp2_with (go_at_call 107;refine Calls.later (HR.out _) ?_;intro x)
 have hbx:=(x.below.block w.heap.size (by simp))
 have hbw:(w.alloc (.cells #[.int .u8 h.tos,.int .u16 h.total,.int .u16 h.id,.bool h.df,.bool h.mf,.int .u16 h.frag,.int .u8 h.ttl,.int .u8 h.proto,.int .u8 s0,.int .u8 s1,.int .u8 s2,.int .u8 s3,.int .u8 d0,.int .u8 d1,.int .u8 d2,.int .u8 d3,.slice oa h.opt.length cap] 113)).heap[w.heap.size]? =some (.cells #[.int .u8 h.tos,.int .u16 h.total,.int .u16 h.id,.bool h.df,.bool h.mf,.int .u16 h.frag,.int .u8 h.ttl,.int .u8 h.proto,.int .u8 s0,.int .u8 s1,.int .u8 s2,.int .u8 s3,.int .u8 d0,.int .u8 d1,.int .u8 d2,.int .u8 d3,.slice oa h.opt.length cap] 113 (0,0)):=by
  show(w.heap.push _)[w.heap.size]? =_;simp
 rw[hbw] at hbx
 clear hbw
 obtain⟨b0,hb0⟩:∃b,b=w.heap.size:=⟨_,rfl⟩
 rw[←hb0] at hbx
 have hb0x:b0<x.world.heap.size:=by have:=x.below.size;simp at this;omega
 have hXB:Below w.heap.size w x.world:=Below.lat (Below.all (Below.refl _ _) _)
 have HXB:=Lib.hid hXB
 clear hXB
 obtain⟨p,hp⟩:∃p,p=x.world.heap.size:=⟨_,rfl⟩
 have hW:WrK (x.world.alloc (.cells #[.slice none 0 0] 188)) p (fun b=>b=b0) []:=by
  refine WrK.new ?_ ?_ ?_ ?_
  ·rw[hp];simp
  ·rw[hp];simp
  ·rw[hp];simp
  ·intro b hb;omega
 have hby:=((Below.refl _ _).alloc (Nat.le_refl _) (.cells #[.slice none 0 0] 188):Below x.world.heap.size x.world _).block b0 hb0x
 rw[hbx] at hby
 rw[←hb0,←hp]
 have HOR:Hid (bits .or .u64 64 ((20+(h.opt.length:Int))/4)=64+(20+(h.opt.length:Int))/4):=Lib.hid (bits_or_64 _ (by omega) (by omega))
 have hXY:Below w.heap.size x.world (x.world.alloc (.cells #[.slice none 0 0] 188)):=(Below.refl _ _).alloc HXB.out.size _
 generalize hY:x.world.alloc (.cells #[.slice none 0 0] 188)=y at*
 clear hbx
 have HY:=Lib.hid hby
 have hby0:b0<y.heap.size:=hW.old b0 rfl
 generalize hnn:h.opt.length=n at*
 obtain⟨q,hq⟩:∃q:Int,(20+(n:Int))/4=q:=⟨_,rfl⟩
 rw[hq] at HOR
 have htd:Int.tdiv (20+(n:Int)) 4=q:=by rw[Int.tdiv_eq_ediv_of_nonneg (by omega)];exact hq
 have hq0:0≤q∧q<16:=by omega
 have HT:=Lib.hid HK.out.tos
 have ht0:=HT.out.1
 have ht1:=HT.out.2
 have hst0:PutSt w b0 (.cells #[.int .u8 h.tos,.int .u16 h.total,.int .u16 h.id,.bool h.df,.bool h.mf,.int .u16 h.frag,.int .u8 h.ttl,.int .u8 h.proto,.int .u8 s0,.int .u8 s1,.int .u8 s2,.int .u8 s3,.int .u8 d0,.int .u8 d1,.int .u8 d2,.int .u8 d3,.slice oa n cap] 113 (0,0)) p oa n cap h.opt y []:=⟨hW,HY.out,HRD.out.below (HXB.out.trans hXY),HA.out,HXB.out.trans hXY,by have:=HXB.out.size;omega,by omega⟩
 have ST:=Lib.hid hst0
 clear hst0 hW hXY hby hb0 hp hb0x hby0
 have HE5:Hid ([64+q,h.tos]++be2 h.total++be2 h.id++be2 fl++[h.ttl,h.proto]++be2 0++(h.src++h.dst++h.opt)=ipStands h 0):=Lib.hid (by
  rw[HST.out,show((20+n:Nat):Int)/4=q by omega])
 have HLN:Hid (l0V h=20+n):=Lib.hid (by unfold l0V;rw[HST.out];have h1:=HK.out.src.1;have h2:=HK.out.dst.1;simp[be2,h1,h2,hnn];omega)
 have HSB:Hid (IsBytes (ipStands h 0)):=Lib.hid (by
  rw[HST.out]
  refine isBytes_app (isBytes_app (isBytes_app (isBytes_app (isBytes_app (isBytes_app ?_ (be2_bytes _)) (be2_bytes _)) (be2_bytes _)) ?_) (be2_bytes _)) (isBytes_app (isBytes_app HK.out.src.2 HK.out.dst.2) HK.out.opt)
  ·intro v hv;simp only[List.mem_cons,List.not_mem_nil,or_false] at hv;rcases hv with rfl|rfl;omega;exact HK.out.tos
  ·intro v hv;simp only[List.mem_cons,List.not_mem_nil,or_false] at hv;rcases hv with rfl|rfl;exact HK.out.ttl;exact HK.out.proto)
 have HSS:Hid (∀z:Nat,(ipStands h 0).take 10++be2 (z:Int)++(ipStands h 0).drop 12=ipStands h z):=Lib.hid (fun z=>by rw[HST.out,HST.out];simp[be2])
 have HLS:Hid (∀z:Int,(ipStands h z).length=l0V h):=Lib.hid (fun z=>by unfold l0V;rw[HST.out,HST.out];simp[be2])
 clear hq
 have bt:=HK.out.total
 have bi:=HK.out.id
 have bf:=HK.out.frag
 have bl:=HK.out.ttl
 have bp:=HK.out.proto
 refine wp_region_late 9 [true] (by kernel_rfl) (by kernel_rfl) (by kernel_rfl) ?_
 apply Exists.intro
 refine⟨fun wx hbx=>?_,?_⟩
 ·have hr:=(ST.out.below hbx).box
  have hbw:b0<wx.heap.size:=Nat.lt_of_lt_of_le (ST.out.wr.old b0 rfl) hbx.size
  have hpt:partOf wx b0 0 17=#[.int .u8 h.tos,.int .u16 h.total,.int .u16 h.id,.bool h.df,.bool h.mf,.int .u16 h.frag,.int .u8 h.ttl,.int .u8 h.proto,.int .u8 s0,.int .u8 s1,.int .u8 s2,.int .u8 s3,.int .u8 d0,.int .u8 d1,.int .u8 d2,.int .u8 d3,.slice oa n cap]:=by rw[partOf_row _ _ _ _ _ _ _ hr];simp
  have hld:∀x:Later wx,ldRun Tryz.prog 113 x.world (.pointer (some ⟨b0,0,none⟩))=.ok (.value (.agg #[.int .u8 h.tos,.int .u16 h.total,.int .u16 h.id,.bool h.df,.bool h.mf,.int .u16 h.frag,.int .u8 h.ttl,.int .u8 h.proto,.int .u8 s0,.int .u8 s1,.int .u8 s2,.int .u8 s3,.int .u8 d0,.int .u8 d1,.int .u8 d2,.int .u8 d3,.slice oa n cap])) x.world:=fun x=>by
   have e:partOf x.world b0 0 17=_:=(Later.part x b0 0 17 hbw).trans hpt
   rw[run_load_iph x.world b0 0 (by rw[e];rfl),e]
  have hc0:wx.cell? ⟨b0,0,none⟩=some (.int .u8 h.tos):=cell_of_row _ _ 0 _ _ (0,0) hr
  clear hr hbx
  simp only[List.take_succ_cons,List.take_zero]
  repeat go_big_quiet_step ((go_at_call 109;exact later_call (HL.out _)))
  exact wpQuiet_nil rfl
 ·simp only[List.drop_succ_cons,List.drop_zero,List.zip_cons_cons,List.zip_nil_left,List.length_cons,List.length_nil]
  refine wpLate_wide _ (wide64 [bits .or .u64 64 q,h.tos] 2 _ rfl rfl (by decide) (by simp[Instr.fill,Value.cells,go_sem])) (builtR_stable _ _) ?_
  rintro lo hi v hlo hhi-⟨w0,rfl,-⟩
  refine wpLate_end ?_
  intro w' hb hal
  have hh:=((hal _ (List.mem_cons_self ..)).2 w' (Below.refl _ _)).2.2
  clear hal
  go_wp2_with fail
  refine Calls.mono (ST.out.put 1 (by decide) hb lo hlo [bits .or .u64 64 q,h.tos] 2 rfl _ hh (by intro v hv;simp only[List.mem_cons,List.not_mem_nil,or_false] at hv;rcases hv with rfl|rfl;exact(by rw[HOR.out];unfold topB;simp;omega);exact HT.out) (by decide) (by decide)) ?_
  rintro e y1 ⟨rfl,st⟩
  clear hh hb hlo hhi
  rw[HOR.out,show([]:List Int)++putsB 1 [64+q,h.tos]=[64+q,h.tos] from rfl] at st
  have ST1:=Lib.hid st
  clear st ST
  go_wp2_with fail
  refine wp_region_late 18 [true] (by kernel_rfl) (by kernel_rfl) (by kernel_rfl) ?_
  apply Exists.intro
  refine⟨fun wx hbx=>?_,?_⟩
  ·have hr:=(ST1.out.below hbx).box
   have hbw:b0<wx.heap.size:=Nat.lt_of_lt_of_le (ST1.out.wr.old b0 rfl) hbx.size
   have hc1:wx.cell? ⟨b0,1,none⟩=some (.int .u16 h.total):=cell_of_row _ _ 1 _ _ (0,0) hr
   have hc2:wx.cell? ⟨b0,2,none⟩=some (.int .u16 h.id):=cell_of_row _ _ 2 _ _ (0,0) hr
   have hc3:wx.cell? ⟨b0,3,none⟩=some (.bool h.df):=cell_of_row _ _ 3 _ _ (0,0) hr
   have hc4:wx.cell? ⟨b0,4,none⟩=some (.bool h.mf):=cell_of_row _ _ 4 _ _ (0,0) hr
   have hc5:wx.cell? ⟨b0,5,none⟩=some (.int .u16 h.frag):=cell_of_row _ _ 5 _ _ (0,0) hr
   clear hr hbx
   simp only[List.take_succ_cons,List.take_zero]
   repeat go_big_quiet_step ((first|(go_at_call 110;exact later_call (HF1.out _))|(go_at_call 110;exact later_call (HF2.out _))))
   exact wpQuiet_nil rfl
  ·simp only[List.drop_succ_cons,List.drop_zero,List.zip_cons_cons,List.zip_nil_left,List.length_cons,List.length_nil]
   refine wpLate_wide _ (wide64 [h.total,h.id,bits .or .u64 (bits .or .u64 f1 f2) h.frag] 3 _ rfl rfl (by decide) (by simp[Instr.fill,Value.cells,go_sem])) (builtR_stable _ _) ?_
   rintro lo hi v hlo hhi-⟨w0,rfl,-⟩
   refine wpLate_end ?_
   intro w' hb hal
   have hh:=((hal _ (List.mem_cons_self ..)).2 w' (Below.refl _ _)).2.2
   clear hal
   go_wp2_with fail
   refine Calls.mono (ST1.out.put 2 (by decide) hb lo hlo [h.total,h.id,bits .or .u64 (bits .or .u64 f1 f2) h.frag] 3 rfl _ hh (by intro v hv;simp only[List.mem_cons,List.not_mem_nil,or_false] at hv;rcases hv with rfl|rfl|rfl;exact HK.out.total;exact HK.out.id;exact(by rw[HFG.out];exact HFB.out)) (by decide) (by simp)) ?_
   rintro e y2 ⟨rfl,st⟩
   clear hh hb hlo hhi
   rw[HFG.out,show[64+q,h.tos]++putsB 2 [h.total,h.id,fl]=[64+q,h.tos]++be2 h.total++be2 h.id++be2 fl from rfl] at st
   have ST2:=Lib.hid st
   clear st ST1
   have hr:=ST2.out.box
   have hb2:b0<y2.heap.size:=ST2.out.wr.old b0 rfl
   have hc6:y2.cell? ⟨b0,6,none⟩=some (.int .u8 h.ttl):=cell_of_row _ _ 6 _ _ (0,0) hr
   have hc7:y2.cell? ⟨b0,7,none⟩=some (.int .u8 h.proto):=cell_of_row _ _ 7 _ _ (0,0) hr
   clear hr
   go_wp2_with fail
   refine Calls.mono (ST2.out.put 1 (by decide) (Below.all (Below.refl _ _) _) y2.heap.size (Nat.le_refl _) [h.ttl,h.proto] 2 rfl _ (heap_alloc_new y2 _) (by intro v hv;simp only[List.mem_cons,List.not_mem_nil,or_false] at hv;rcases hv with rfl|rfl;exact HK.out.ttl;exact HK.out.proto) (by decide) (by simp[be2])) ?_
   rintro e y3 ⟨rfl,st⟩
   rw[show putsB 1 [h.ttl,h.proto]=[h.ttl,h.proto] from rfl] at st
   have ST3:=Lib.hid st
   clear st ST2 hc6 hc7 hb2
   go_wp2_with fail
   refine Calls.mono (ST3.out.put 2 (by decide) (Below.all (Below.refl _ _) _) y3.heap.size (Nat.le_refl _) [0] 1 rfl _ (heap_alloc_new y3 _) (by intro v hv;obtain rfl:=List.mem_singleton.1 hv;decide) (by decide) (by simp[be2])) ?_
   rintro e y4 ⟨rfl,st⟩
   rw[show putsB 2 [0]=be2 0 from rfl] at st
   have ST4:=Lib.hid st
   clear st ST3
   go_wp2_with fail
   refine wp_region_late 9 [true,true] (by kernel_rfl) (by kernel_rfl) (by kernel_rfl) ?_
   apply Exists.intro
   refine⟨fun wx hbx=>?_,?_⟩
   ·have hr:=(ST4.out.below hbx).box
    have hbw:b0<wx.heap.size:=Nat.lt_of_lt_of_le (ST4.out.wr.old b0 rfl) hbx.size
    have hc16:wx.cell? ⟨b0,16,none⟩=some (.slice oa n cap):=cell_of_row _ _ 16 _ _ (0,0) hr
    clear hr hbx
    simp only[List.take_succ_cons,List.take_zero]
    repeat go_big_quiet_step (fail)
    exact wpQuiet_nil rfl
   ·simp only[List.drop_succ_cons,List.drop_zero,List.zip_cons_cons,List.zip_nil_left,List.length_cons,List.length_nil]
    refine wpLate_wide _ (wideRows #[.slice (some ⟨b0,8,none⟩) 4 4,.slice (some ⟨b0,12,none⟩) 4 4,.slice oa n cap] 3 _ rfl rfl (by decide) (by simp[Instr.fill,Value.cells,go_sem])) (builtR_stable _ _) ?_
    rintro lo hi v hlo hhi-⟨w0,rfl,rfl,-⟩
    refine wpLate_wide (newR (h.src++h.dst++h.opt)) (WideF.call 111 #[.slice (some ⟨lo,0,none⟩) 3 3] rfl (fun w1=>by kernel_rfl) ?_) (newR_stable _) ?_
    ·intro w1 hb1 hal
     have hh:=((hal _ (List.mem_cons_self ..)).2 w1 (Below.refl _ _)).2.2
     have hlt:lo<w1.heap.size:=(Array.getElem?_eq_some_iff.1 hh).1
     have hx1:=(ST4.out.below hb1).box
     have hb01:b0<w1.heap.size:=(Array.getElem?_eq_some_iff.1 hx1).1
     have hru:RowsUnder w1 w1.heap.size lo 3 [h.src,h.dst,h.opt]:=by
      refine⟨rfl,hlt,fun j hj=>?_⟩
      rw[cell_of_row _ _ j _ _ (0,0) hh]
      rcases j with _|_|_|j
      ·refine⟨_,_,_,rfl,box_reads hx1 8 4 h.src HK.out.src.1 HK.out.src.2 (by decide) (fun j hj=>?_),by decide,fun a ha=>by cases ha;exact hb01⟩
       rw[HSD.out]
       rcases j with _|_|_|_|j
       ·rfl
       ·rfl
       ·rfl
       ·rfl
       ·omega
      ·refine⟨_,_,_,rfl,box_reads hx1 12 4 h.dst HK.out.dst.1 HK.out.dst.2 (by decide) (fun j hj=>?_),by decide,fun a ha=>by cases ha;exact hb01⟩
       rw[HDD.out]
       rcases j with _|_|_|_|j
       ·rfl
       ·rfl
       ·rfl
       ·rfl
       ·omega
      ·exact⟨_,_,_,rfl,ST4.out.opt.below hb1,by omega,fun a ha=>Nat.lt_of_lt_of_le (HA.out a ha) (Nat.le_trans ST4.out.out.size hb1.size)⟩
      ·simp at hj;omega
     refine(concat_any lo 3 3 _ w1 hru (by decide)).mono ?_
     intro e w2 hp
     have:=newR_of hp
     simpa using this
    rintro lo2 hi2 v hlo2 hhi2-⟨w0,oc,cc,rfl,-⟩
    refine wpLate_end ?_
    intro w' hb hal
    obtain⟨oc',cc',he,hoc,-⟩:=((hal _ (List.mem_cons_self ..)).2 w' (Below.refl _ _))
    obtain⟨rfl,-,rfl⟩:oc=oc'∧True∧cc=cc':=by simpa using he
    clear hal he hhi hhi2 hlo hlo2
    have HOC:=Lib.hid hoc
    have HBB:=Lib.hid hb
    clear hoc hb
    generalize hln:(h.src++h.dst++h.opt).length=ln at*
    go_wp2_with fail
    have st4:=ST4.out.below HBB.out
    refine Calls.mono (raw_keep p _ _ oc ln cc (h.src++h.dst++h.opt) w' st4.wr (HOC.out.reads (isBytes_app (isBytes_app HK.out.src.2 HK.out.dst.2) HK.out.opt)) (by have h1:=HK.out.src.1;have h2:=HK.out.dst.1;simp[be2,h1,h2];omega)) ?_
    rintro e y5 ⟨rfl,hw5,hb5,-⟩
    have st5:=st4.belowP hb5 hw5
    rw[HE5.out] at st5
    have ST5:=Lib.hid st5
    clear st4 hw5 hb5 st5 HOC HBB ST4
    go_wp2_with fail
    refine wp_region_late 6 [true,true,false,false] (by kernel_rfl) (by kernel_rfl) (by kernel_rfl) ?_
    apply Exists.intro
    refine⟨fun wx hbx=>?_,?_⟩
    ·simp only[List.take_succ_cons,List.take_zero]
     repeat go_big_quiet_step (fail)
     exact wpQuiet_nil rfl
    ·simp only[List.drop_succ_cons,List.drop_zero,List.zip_cons_cons,List.zip_nil_left,List.length_cons,List.length_nil]
     refine wpLate_wide (newR (ipStands h 0)) (WideF.call 66 #[.pointer (some ⟨p,0,none⟩)] rfl (fun w1=>by kernel_rfl) ?_) (newR_stable _) ?_
     ·intro w1 hb1 hal
      exact(Bits.bytes_any p _ w1 (ST5.out.below hb1).wr.wr (by rw[HLS.out,HLN.out];omega)).mono fun e w2 hp=>newR_of hp
     rintro lo hi v hlo hhi-⟨w0,ob,cb,rfl,-⟩
     generalize hl0:(ipStands h 0).length=l0 at*
     refine wpLate_wide _ (wideRows #[.slice ob l0 cb] 1 _ rfl rfl (by decide) (by simp[Instr.fill,Value.cells,go_sem])) (builtR_stable _ _) ?_
     rintro lo2 hi2 v hlo2 hhi2-⟨w0,rfl,rfl,-⟩
     refine wpLate_quiet (.int .u16 (sumOf (ipStands h 0):Nat)) (YieldsF.call 113 #[.slice (some ⟨lo2,0,none⟩) 1 1] rfl (fun w1=>by kernel_rfl) ?_) ?_
     ·intro w1 hb1 hal
      have hh:=((hal _ (List.mem_cons_self ..)).2 w1 (Below.refl _ _)).2.2
      obtain⟨ob',cb',he,hob,hlt⟩:=((hal _ (List.mem_cons_of_mem _ (List.mem_cons_self ..))).2 w1 (Below.refl _ _))
      rw[hl0] at he
      obtain⟨rfl,-,rfl⟩:ob=ob'∧True∧cb=cb':=by simpa using he
      rw[hl0] at hob
      have hru:RowsUnder w1 w1.heap.size lo2 1 [ipStands h 0]:=by
       refine⟨rfl,(Array.getElem?_eq_some_iff.1 hh).1,fun j hj=>?_⟩
       rw[cell_of_row _ _ j _ _ (0,0) hh]
       obtain rfl:j=0:=by simpa using hj
       exact⟨_,_,_,rfl,hob.reads HSB.out,by have h8:=HLN.out;have h9:=HLS.out 0;omega,fun a ha=>(hob.lt ha).2⟩
      have:=sumof_any lo2 1 1 _ w1 hru (by decide)
      simpa using this
     have hs0:=sumOf_le (ipStands h 0)
     generalize sumOf (ipStands h 0)=sm at*
     refine wpLate_quiet (.int .u64 (IntKind.u64.wrap (sm:Int))) (YieldsF.value rfl (fun w1=>by kernel_rfl)) ?_
     refine wpLate_end ?_
     intro w' hb hal
     have st6:=ST5.out.below hb
     have ST6:=Lib.hid st6
     clear hal st6 hb ST5 hhi hhi2 hlo hlo2
     have hwr:IntKind.u64.wrap (sm:Int)=sm:=IntWalk.u64_in _ (by omega)
     rw[hwr]
     clear hwr
     go_wp2_with fail
     refine Calls.mono (set2_any p _ 10 sm (by omega) (by omega) w' ST6.out.wr.wr (by have h8:=HLN.out;have h9:=HLS.out 0;omega) (by have h8:=HLN.out;have h9:=HLS.out 0;omega)) ?_
     rintro e y7 ⟨rfl,hw7,hb7⟩
     rw[HSS.out sm] at hw7
     have HW7:=Lib.hid hw7
     have HB7:Hid (Below w.heap.size w y7):=Lib.hid (ST6.out.out.trans (hb7.mono ST6.out.lo))
     clear hw7 hb7 ST6
     go_wp2_with fail
     refine Calls.mono (Bits.bytes_any p _ y7 HW7.out (by rw[HLS.out,HLN.out];omega)) ?_
     rintro e y8 ⟨ob2,cb2,rfl,ho8,hb8⟩
     have HO8:=Lib.hid (ho8.mono HB7.out.size)
     have HB8:Hid (Below w.heap.size w y8):=Lib.hid (Below.via HB7.out hb8)
     rw[←HPP.out] at HO8⊢
     clear ho8 hb8 HB7 HW7
     generalize hlf:(ipPut h).length=lf at*
     go_wp2_with fail
     go_ret2
     show BytesErr w (ipPutL h) (ipPutErr h) _ _
     rw[HF.out]
     exact⟨ob2,cb2,by rw[hlf];rfl,by rw[hlf];exact HO8.out,HB8.out⟩
end
end Go.Proofs.YtkgjbipfhhjlpaaGreatDoor
