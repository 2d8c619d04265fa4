import Derived.Test.YtkgjbipfhhjlpaaGreatDoorMb11
import Derived.Test.YtkgjbipfhhjlpaaGreatDoorMb9
set_option linter.unusedVariables false
set_option linter.unusedSimpArgs false
set_option maxRecDepth 100000
set_option maxHeartbeats 32000000
namespace Go.Proofs.YtkgjbipfhhjlpaaGreatDoor
section
open Go.RowKit Bits
section
variable {P:Program} {ops:Array Oper}
theorem JgL.f {w:World}{o:Oper}{R:Nat→Nat→Value→World→Prop}{a:Act}(h:JgL P ops w o R a)(gs:List ZQ):Jbw P ops w gs o R a:=⟨h.1,fun w1 hb _=>h.2 w1 hb⟩
end
theorem Jnd {ops:Array Oper}{w:World}{o:Oper}{a:Act}{gs:List ZQ}(vs:List Int)(len:Nat)(parts:Array (Nat×Operand))(ho:o.op=.buildSlice 252 len parts)(hw:Region.wanted o (yielded ops a.tmps)=true)
 (hl:0<len∧len≤100)(hf:Instr.fill (fun i=>some (i*1,1)) ((Array.range (len*1)).map ((Value.int .u64 0).cells[·%(Value.int .u64 0).cells.size]!)) (parts.map fun(i,x)=>(i,a.eval x)).toList=some (vs.map (.int .u64)).toArray):
 Jbw Tryz.prog ops w gs o (JhG (.cells (vs.map (.int .u64)).toArray 124) len) a:=by
 obtain⟨ie,hie,hz,h4,h5⟩:=info_parts JdX
 refine JgL.f (JcH 252 124 len parts ho hw _ ie (.int .u64 0) (by kernel_rfl) hie hz ?_ ?_ ?_) gs
 ·rw[h4];omega
 ·rw[h4];omega
 ·rw[h4];exact hf
structure JeU (w:World)(b0:Nat)(ob:Obj)(p:Nat)(oa:Option Addr)(n cap:Nat)(opt:List Int)(y:World)(L:List Int):Prop where
 wr:WrK y p (fun b=>b=b0) L
 box:y.heap[b0]? =some ob
 opt:Ji y oa n cap opt
 optlt:∀a,oa=some a→a.block<w.heap.size
 out:Below w.heap.size w y
 lo:w.heap.size≤p
 lt0:b0<p
theorem JeU.below {w:World}{b0:Nat}{ob:Obj}{p:Nat}{oa:Option Addr}{n cap:Nat}{opt:List Int}{y y':World}{L:List Int}(h:JeU w b0 ob p oa n cap opt y L)(hb:Below y.heap.size y y'):JeU w b0 ob p oa n cap opt y' L:=
 ⟨h.wr.below hb,(hb.block _ (h.wr.old b0 rfl)).trans h.box,h.opt.below hb,h.optlt,Jo3 h.out hb,h.lo,h.lt0⟩
theorem JeU.belowP {w:World}{b0:Nat}{ob:Obj}{p:Nat}{oa:Option Addr}{n cap:Nat}{opt:List Int}{y y':World}{L L':List Int}(h:JeU w b0 ob p oa n cap opt y L)(hb:Below p y y')(hw:WrK y' p (fun b=>b=b0) L'):JeU w b0 ob p oa n cap opt y' L':=
 ⟨hw,(hb.block _ h.lt0).trans h.box,h.opt.belowB hb (fun a ha=>Jpe (h.optlt a ha) h.lo),h.optlt,h.out.trans (hb.mono h.lo),h.lo,h.lt0⟩
theorem JeU.put {w:World}{b0:Nat}{ob:Obj}{p:Nat}{oa:Option Addr}{n cap:Nat}{opt:List Int}{y w':World}{L:List Int}(st:JeU w b0 ob p oa n cap opt y L)(size:Nat)(hs:size=1∨size=2)(hb:Below y.heap.size y w')(lo:Nat)(hlo:y.heap.size≤lo)
 (vs:List Int)(k:Nat)(hk:vs.length=k)(t:TypeId)(hh:w'.heap[lo]? =some (.cells (vs.map (.int .u64)).toArray t (0,0)))(hv:∀v∈vs,0≤v∧v<JlJ size)(hm:k≤16)(hl:L.length≤800000):
 Calls Tryz.prog 108 #[.pointer (some ⟨p,0,none⟩),.int .i64 size,.slice (some ⟨lo,0,none⟩) k k] w' (fun e w3=>e=.returned (.tuple #[])∧JeU w b0 ob p oa n cap opt w3 (L++ZX size vs)):=by
 subst hk
 have hlt:lo<w'.heap.size:=(Jpb hh).1
 have hW:=st.wr.more hb hlo hlt
 refine(JmN size hs p lo _ vs L w' hW (.inr rfl) (fun j hj=>?_) (fun j hj=>?_) hm hl).mono ?_
 ·rw[cell_of_row _ _ j _ t (0,0) hh]
  simp[List.getD_eq_getElem?_getD,hj]
 ·rw[List.getD_eq_getElem?_getD,List.getElem?_eq_getElem hj]
  exact hv _ (List.getElem_mem hj)
 ·rintro e w3 ⟨rfl,hw3,hb3,-⟩
  exact⟨rfl,(st.below hb).belowP hb3 (hw3.mono fun b h=>.inl h)⟩
end
section
open Go.RowKit Bits
section
variable {P:Program} {ops:Array Oper}
theorem JbC (ev:Operand→Value)(w:World){dst:Option Tmp}{ty:TypeId}{pos:String}{after:Array Edge}{g:Option (Nat×Bool)}{s x:Operand}{t:TypeId}{v1 v2 v:Value}{w':World}(hs:ev s=v1)(hx:ev x=v2)
 (hr:(Builtin.append_ #[t,t] ty #[v1,v2]).run P w=.ok v w'):(execOp ev ⟨dst,.call { callee:=Callee.builtin Builtin.append,args:=#[s,x],argTypes:=#[t,t] },ty,pos,after,g⟩).run P w=.ok (.value v) w':=by
 simp[execOp,resolve,invoke,builtin,hs,hx,hr,Result.andThen]
theorem Jj6 (ev:Operand→Value)(w:World){dst:Option Tmp}{ty:TypeId}{pos:String}{after:Array Edge}{g:Option (Nat×Bool)}(t e:TypeId)(len:Nat)(parts:Array (Nat×Operand))(cells:Array Value)(ie:TypeInfo)(z:Value)(hu:P.underlying t=some (.slice e))(hie:P.info? e=some ie)(hz:ie.zero=some z)(hsmall:¬len*ie.size>2^24)(hpos:¬len*ie.size=0)
 (hf:Instr.fill (fun i=>some (i*ie.size,ie.size)) ((Array.range (len*ie.size)).map (z.cells[·%z.cells.size]!)) (parts.map fun(i,x)=>(i,ev x)).toList=some cells):
 (execOp ev ⟨dst,.buildSlice t len parts,ty,pos,after,g⟩).run P w=.ok (.value (.slice (some ⟨w.heap.size,0,none⟩) len len)) (w.alloc (.cells cells e)):=by
 unfold execOp
 simp only[Sem.run_bind,run_buildSlice w t e len _ cells ie z hu hie hz hsmall hpos hf,Result.andThen_ok]
 rfl
theorem Jv.same {C:World→Prop}{o:Oper}{a:Act}(v:Value)(hw:Region.wanted o (yielded ops a.tmps)=true)(hr:∀w,C w→(execOp a.eval o).run P w=.ok (.value v) w):Jv P ops C (fun v' w=>v'=v∧C w) o a:=
 ⟨hw,fun w h=>.inl ⟨v,w,⟨rfl,h⟩,.inl (hr w h)⟩⟩
theorem Jv.made {C:World→Prop}{C':Value→World→Prop}{o:Oper}{a:Act}(hw:Region.wanted o (yielded ops a.tmps)=true)(hr:∀w,C w→∃v w2,(execOp a.eval o).run P w=.ok (.value v) w2∧C' v w2):Jv P ops C C' o a:=
 ⟨hw,fun w h=>by obtain⟨v,w2,h1,h2⟩:=hr w h;exact .inl ⟨v,w2,h2,.inl h1⟩⟩
theorem Jv.skip {C C':World→Prop}{o:Oper}{a:Act}(hw:Region.wanted o (yielded ops a.tmps)=true)(hr:∀w,C w→∃w2,(execOp a.eval o).run P w=.ok .skip w2∧C' w2):Jv P ops C (fun v w=>v=undef∧C' w) o a:=
 ⟨hw,fun w h=>by obtain⟨w2,h1,h2⟩:=hr w h;exact .inl ⟨undef,w2,⟨rfl,h2⟩,.inr ⟨h1,rfl⟩⟩⟩
theorem JaH {G:Nat→World→Prop}{top:List Nat}{Q:Exit→Act→World→Prop}{rest:List Oper}{k:Nat}{C C3:World→Prop}{a:Act}(h:∀w,C w→C3 w)(hk:Jly P ops G top Q rest k C3 a):Jly P ops G top Q rest k C a:=by
 cases rest with
 |nil=>exact fun w hw=>hk w (h w hw)
 |cons o rest=>
  obtain⟨C',h1,h2,h3⟩:=hk
  exact⟨C',⟨h1.1,fun w hw=>h1.2 w (h w hw)⟩,h2,h3⟩
theorem JP {G:Nat→World→Prop}{top:List Nat}{Q:Exit→Act→World→Prop}{o:Oper}{rest:List Oper}{k:Nat}{C:World→Prop}{a:Act}(v:Value)(hw:Region.wanted o (yielded ops a.tmps)=true)(hr:∀w,C w→(execOp a.eval o).run P w=.ok (.value v) w)(hG:JkL G top (k+1) C)
 (h:Jly P ops G top Q rest (k+1) C (a.put o.dst v)):Jly P ops G top Q (o::rest) k C a:=
 ⟨fun v' w=>v'=v∧C w,Jv.same v hw hr,fun v' g hg w hc=>hG g hg w hc.2,fun v' hex=>by
   obtain⟨w,rfl,-⟩:=hex
   exact JaH (fun w hc=>hc.2) h⟩
theorem Xd {G:Nat→World→Prop}{top:List Nat}{Q:Exit→Act→World→Prop}{o:Oper}{rest:List Oper}{k:Nat}{C:World→Prop}{a:Act}(C':World→Prop)(hw:Region.wanted o (yielded ops a.tmps)=true)(hr:∀w,C w→∃w2,(execOp a.eval o).run P w=.ok .skip w2∧C' w2)(hG:JkL G top (k+1) C')
 (h:Jly P ops G top Q rest (k+1) C' (a.put o.dst undef)):Jly P ops G top Q (o::rest) k C a:=
 ⟨fun v' w=>v'=undef∧C' w,Jv.skip hw hr,fun v' g hg w hc=>hG g hg w hc.2,fun v' hex=>by
   obtain⟨w,rfl,-⟩:=hex
   exact JaH (fun w hc=>hc.2) h⟩
theorem ZY {G:Nat→World→Prop}{top:List Nat}{Q:Exit→Act→World→Prop}{o:Oper}{rest:List Oper}{k:Nat}{C:World→Prop}{a:Act}(C':Value→World→Prop)(hw:Region.wanted o (yielded ops a.tmps)=true)(hr:∀w,C w→∃v w2,(execOp a.eval o).run P w=.ok (.value v) w2∧C' v w2)(hG:∀v,JkL G top (k+1) (C' v))
 (h:∀v,(∃w,C' v w)→Jly P ops G top Q rest (k+1) (C' v) (a.put o.dst v)):Jly P ops G top Q (o::rest) k C a:=
 ⟨C',Jv.made hw hr,hG,h⟩
def Jne (G0:World→Prop):Nat→World→Prop
 |0=>G0
 |_=>fun _=>True
theorem Jx {G0:World→Prop}{t u k:Nat}{C:World→Prop}(h:t<k):JkL (Jne G0) [t,u] k C:=by
 intro g hg w _
 rcases g with _|g
 ·simp at hg;omega
 ·trivial
theorem Xr {G0:World→Prop}{t u k:Nat}{C:World→Prop}(h:∀w,C w→G0 w):JkL (Jne G0) [t,u] k C:=by
 intro g hg w hc
 rcases g with _|g
 ·exact h w hc
 ·trivial
end
theorem JcJ {w:World}{b:Nat}{x0 x1:Value}{t:TypeId}(u v:Value)(h:w.heap[b]? =some (.cells #[x0,x1] t (0,0))):((w.setCell ⟨b,0,none⟩ u).setCell ⟨b,1,none⟩ v).heap[b]? =some (.cells #[u,v] t (0,0)):=by
 rw[heap_setCell_same _ b 1 #[u,x1] t v (by rw[heap_setCell_same _ b 0 #[x0,x1] t u h];rfl)];rfl
theorem Q2 {B:Nat}{w:World}{b o:Nat}{v:Value}(h:B≤b):Below B w (w.setCell ⟨b,o,none⟩ v):=(Jpd _ _).setCell h v
end
section
open Go.RowKit Bits
theorem Ji.shut {w:World}{oa:Option Addr}{n cap:Nat}{l:List Int}(h:Ji w oa n cap l):Ji w oa n n l:=
 ⟨h.len,Jpf _,by have:=h.max;have:=h.le;omega,h.byte,h.at'⟩
theorem JiF {P:Program}(t:TypeId)(oa:Option Addr)(n cap size:Nat)(ht:P.underlying t=some (.slice (P.elem t)))(hsize:(P.info? (P.elem t)).map (·.size)=some size)(k m:Nat)(i j:Int)(hi:i=(k:Int))(hj:j=(m:Int))(hk:k≤m)(hm:m≤cap)(w:World):
 (Instr.slice t (.slice oa n cap) (some (.int .i64 i)) (some (.int .i64 j)) (some (.int .i64 j))).run P w=.ok (.slice (Jk oa k m size) (m-k) (m-k)) w:=by
 subst hi hj
 obtain⟨inf,h1,h2⟩:=Option.map_eq_some_iff.1 hsize
 rw[run_slice_lhm w t oa n cap ht .i64 .i64 .i64 (k:Int) (m:Int) (m:Int) (Int.natCast_nonneg _) (Int.ofNat_le.2 hk) (Int.le_refl _) (Int.ofNat_le.2 hm)]
 simp[sizeOf,typeInfo,h1,h2,sliced,Jk,Result.andThen]
theorem Jgp (b p:Nat)(l:List Int)(i:Nat)(w:World)(hw:Rd w b p l i)(hi:i≤l.length)(hn:l.length≤1000000):
 Calls Tryz.prog 234 #[.pointer (some ⟨p,0,none⟩)] w (Jh w (.int .i64 ((l.length:Int)-i))):=by
 obtain⟨oa,cap,hc,hr,ha⟩:=hw.row
 have hpos:=hw.pos
 have hlt:=hw.lt
 clear ha hr hw
 go_enter Tryz.func234,Tryz.ntmps234
 go_wp2_with fail
 refine Jo (by kernel_rfl) (by kernel_rfl) ?_
 repeat go_big_quiet_step (fail)
 refine wpQuiet_nil ?_
 intro x
 go_wp2_with fail
 go_ret
 exact .mk rfl x.below
def l0V (h:IpH):Nat:=(Qn h 0).length
theorem JmQ (l:List Int)(h:l.length=4):l=[l.getD 0 0,l.getD 1 0,l.getD 2 0,l.getD 3 0]:=by
 match l,h with
 |[a,b,c,d],_=>rfl
theorem XO {w:World}{b:Nat}{cs:Array Value}{t:TypeId}{fr:Nat×Nat}(h:w.heap[b]? =some (.cells cs t fr))(off n:Nat)(l:List Int)(hl:l.length=n)(hb:Jl l)(hn:n≤1000000)(hc:∀j,j<n→cs[off+j]? =some (.int .u8 (l.getD j 0))):Ji w (some ⟨b,off,none⟩) n n l:=
 ⟨hl,Jpf _,by unfold maxLen;omega,hb,.inr ⟨b,off,rfl,(Jpb h).1,fun j hj=>by rw[cell_of_row _ _ _ _ _ _ h];exact hc j hj⟩⟩
theorem JmR:(Tryz.prog.info? 22).map (fun i=>(i.zero,i.size,i.bytes))=some (some (.slice none 0 0),1,24):=by kernel_rfl
theorem Jjx {ops:Array Oper}{w:World}{o:Oper}{a:Act}{gs:List ZQ}(vs:Array Value)(len:Nat)(parts:Array (Nat×Operand))(ho:o.op=.buildSlice 251 len parts)(hw:Region.wanted o (yielded ops a.tmps)=true)
 (hl:0<len∧len≤100)(hf:Instr.fill (fun i=>some (i*1,1)) ((Array.range (len*1)).map ((Value.slice none 0 0).cells[·%(Value.slice none 0 0).cells.size]!)) (parts.map fun(i,x)=>(i,a.eval x)).toList=some vs):
 Jbw Tryz.prog ops w gs o (JhG (.cells vs 22) len) a:=by
 obtain⟨ie,hie,hz,h4,h5⟩:=info_parts JmR
 refine JgL.f (JcH 251 22 len parts ho hw _ ie (.slice none 0 0) (by kernel_rfl) hie hz ?_ ?_ ?_) gs
 ·rw[h4];omega
 ·rw[h4];omega
 ·rw[h4];exact hf
theorem JlL (h:IpH)(oa:Option Addr)(cap:Nat)(w:World)(hk:JoI h)(hr:Ji w oa h.opt.length cap h.opt)(ha:∀a,oa=some a→a.block<w.heap.size)(hx:Zp h=true):
 Calls Tryz.prog 53 #[.agg (ipV h oa cap)] w (Jw w (JhH h) (Jb6 h)):=by
 have hn:h.opt.length≤40∧h.opt.length%4=0:=by
  unfold Zp at hx;simp at hx;omega
 have HF:Hid (Jw w (JhH h) (Jb6 h)=Jw w (Jdc h) 0):=Jpa (by unfold JhH Jb6;rw[hx];rfl)
 have HR:Hid (∀w,Calls Tryz.prog 107 #[.agg (ipV h oa cap)] w (Jh w (.bool true))):=Jpa (fun w=>hx▸JiE h oa cap w (by omega) hk.total)
 have HL:Hid (∀w,Calls Tryz.prog 109 #[.agg (ipV h oa cap)] w (Jh w (.int .i64 (20+(h.opt.length:Int))))):=Jpa (fun w=>Jc1 h oa cap w (by omega))
 have HRD:=Jpa hr
 have HK:=Jpa hk
 have HA:=Jpa ha
 clear hr hk ha
 have HSD:Hid (h.src=[h.src.getD 0 0,h.src.getD 1 0,h.src.getD 2 0,h.src.getD 3 0]):=Jpa (JmQ _ HK.out.src.1)
 have HDD:Hid (h.dst=[h.dst.getD 0 0,h.dst.getD 1 0,h.dst.getD 2 0,h.dst.getD 3 0]):=Jpa (JmQ _ HK.out.dst.1)
 have HPP:Hid (Jdc h=Qn h (sumOf (Qn h 0))):=Jpa rfl
 have HST:Hid (∀z,Qn h z=[64+((20+h.opt.length:Nat):Int)/4,h.tos]++be2 h.total++be2 h.id++be2 (Jbu h)++[h.ttl,h.proto]++be2 z++(h.src++h.dst++h.opt)):=Jpa (fun z=>rfl)
 have HFG:Hid (bits .or .u64 (bits .or .u64 (if h.df then 16384 else 0) (if h.mf then 8192 else 0)) h.frag=Jbu h):=Jpa (Jgo h.df h.mf h.frag HK.out.frag.1 (by unfold Zp at hx;simp at hx;omega))
 have HF1:Hid (∀w,Calls Tryz.prog 110 #[.bool h.df,.int .u64 16384] w (Jh w (.int .u64 (if h.df then 16384 else 0)))):=Jpa (fun w=>Jfe _ _ _)
 have HF2:Hid (∀w,Calls Tryz.prog 110 #[.bool h.mf,.int .u64 8192] w (Jh w (.int .u64 (if h.mf then 8192 else 0)))):=Jpa (fun w=>Jfe _ _ _)
 have HFB:Hid (0≤Jbu h∧Jbu h<65536):=Jpa (by
  have h1:=HK.out.frag
  have h2:h.frag≤8191:=by unfold Zp at hx;simp at hx;omega
  unfold Jbu;split<;>split<;>omega)
 generalize Jbu h=fl at*
 generalize (if h.df then (16384:Int) else 0)=f1 at*
 generalize (if h.mf then (8192:Int) else 0)=f2 at*
 unfold ipV at*
 generalize h.src.getD 0 0=s0 at*
 generalize h.src.getD 1 0=s1 at*
 generalize h.src.getD 2 0=s2 at*
 generalize h.src.getD 3 0=s3 at*
 generalize h.dst.getD 0 0=d0 at*
 generalize h.dst.getD 1 0=d1 at*
 generalize h.dst.getD 2 0=d2 at*
 generalize h.dst.getD 3 0=d3 at*
 go_enter Tryz.func53,Tryz.ntmps53
 go_wp2_with (go_at_call 107;refine Calls.later (HR.out _) ?_;intro x)
 have hbx:=(x.below.block w.heap.size (by simp))
 have hbw:(w.alloc (.cells (Jpr (.int .u8 h.tos) (.int .u16 h.total) (.int .u16 h.id) (.bool h.df) (.bool h.mf) (.int .u16 h.frag) (.int .u8 h.ttl) (.int .u8 h.proto) s0 s1 s2 s3 d0 d1 d2 d3 (.slice oa h.opt.length cap)) 113)).heap[w.heap.size]? =some (.cells (Jpr (.int .u8 h.tos) (.int .u16 h.total) (.int .u16 h.id) (.bool h.df) (.bool h.mf) (.int .u16 h.frag) (.int .u8 h.ttl) (.int .u8 h.proto) s0 s1 s2 s3 d0 d1 d2 d3 (.slice oa h.opt.length cap)) 113 (0,0)):=by
  show(w.heap.push _)[w.heap.size]? =_;simp
 rw[hbw] at hbx
 clear hbw
 obtain⟨b0,hb0⟩:∃b,b=w.heap.size:=⟨_,rfl⟩
 rw[←hb0] at hbx
 have hb0x:b0<x.world.heap.size:=by have:=x.below.size;simp at this;omega
 have hXB:Below w.heap.size w x.world:=Jo2 (Below.all (Jpd _ _) _)
 have HXB:=Jpa hXB
 clear hXB
 obtain⟨p,hp⟩:∃p,p=x.world.heap.size:=⟨_,rfl⟩
 have hW:WrK (x.world.alloc (.cells #[Jpj] 188)) p (fun b=>b=b0) []:=by
  refine WrK.new ?_ ?_ ?_ ?_
  ·rw[hp];simp
  ·rw[hp];simp
  ·rw[hp];simp
  ·intro b hb;omega
 have hby:=((Jpd _ _).alloc (Jpf _) (.cells #[Jpj] 188):Below x.world.heap.size x.world _).block b0 hb0x
 rw[hbx] at hby
 rw[←hb0,←hp]
 have HOR:Hid (bits .or .u64 64 ((20+(h.opt.length:Int))/4)=64+(20+(h.opt.length:Int))/4):=Jpa (Jj5 _ (by omega) (by omega))
 have hXY:Below w.heap.size x.world (x.world.alloc (.cells #[Jpj] 188)):=(Jpd _ _).alloc HXB.out.size _
 generalize hY:x.world.alloc (.cells #[Jpj] 188)=y at*
 clear hbx
 have HY:=Jpa hby
 have hby0:b0<y.heap.size:=hW.old b0 rfl
 generalize hnn:h.opt.length=n at*
 obtain⟨q,hq⟩:∃q:Int,(20+(n:Int))/4=q:=⟨_,rfl⟩
 rw[hq] at HOR
 have htd:Int.tdiv (20+(n:Int)) 4=q:=by rw[Int.tdiv_eq_ediv_of_nonneg (by omega)];exact hq
 have hq0:0≤q∧q<16:=by omega
 have HT:=Jpa HK.out.tos
 have ht0:=HT.out.1
 have ht1:=HT.out.2
 have hst0:JeU w b0 (.cells (Jpr (.int .u8 h.tos) (.int .u16 h.total) (.int .u16 h.id) (.bool h.df) (.bool h.mf) (.int .u16 h.frag) (.int .u8 h.ttl) (.int .u8 h.proto) s0 s1 s2 s3 d0 d1 d2 d3 (.slice oa n cap)) 113 (0,0)) p oa n cap h.opt y []:=⟨hW,HY.out,HRD.out.below (HXB.out.trans hXY),HA.out,HXB.out.trans hXY,by have:=HXB.out.size;omega,by omega⟩
 have ST:=Jpa hst0
 clear hst0 hW hXY hby hb0 hp hb0x hby0
 have HE5:Hid ([64+q,h.tos]++be2 h.total++be2 h.id++be2 fl++[h.ttl,h.proto]++be2 0++(h.src++h.dst++h.opt)=Qn h 0):=Jpa (by
  rw[HST.out,show((20+n:Nat):Int)/4=q by omega])
 have HLN:Hid (l0V h=20+n):=Jpa (by unfold l0V;rw[HST.out];have h1:=HK.out.src.1;have h2:=HK.out.dst.1;simp[be2,h1,h2,hnn];omega)
 have HSB:Hid (Jl (Qn h 0)):=Jpa (by
  rw[HST.out]
  refine Jj (Jj (Jj (Jj (Jj (Jj ?_ (JI _)) (JI _)) (JI _)) ?_) (JI _)) (Jj (Jj HK.out.src.2 HK.out.dst.2) HK.out.opt)
  ·intro v hv;simp only[List.mem_cons,List.not_mem_nil,or_false] at hv;rcases hv with rfl|rfl;omega;exact HK.out.tos
  ·intro v hv;simp only[List.mem_cons,List.not_mem_nil,or_false] at hv;rcases hv with rfl|rfl;exact HK.out.ttl;exact HK.out.proto)
 have HSS:Hid (∀z:Nat,(Qn h 0).take 10++be2 (z:Int)++(Qn h 0).drop 12=Qn h z):=Jpa (fun z=>by rw[HST.out,HST.out];simp[be2])
 have HLS:Hid (∀z:Int,(Qn h z).length=l0V h):=Jpa (fun z=>by unfold l0V;rw[HST.out,HST.out];simp[be2])
 clear hq
 have bt:=HK.out.total
 have bi:=HK.out.id
 have bf:=HK.out.frag
 have bl:=HK.out.ttl
 have bp:=HK.out.proto
 refine Xp 9 [true] (by kernel_rfl) (by kernel_rfl) (by kernel_rfl) ?_
 apply Exists.intro
 refine⟨fun wx hbx=>?_,?_⟩
 ·have hr:=(ST.out.below hbx).box
  have hbw:b0<wx.heap.size:=Jpe (ST.out.wr.old b0 rfl) hbx.size
  have hpt:Jf wx b0 0 17=(Jpr (.int .u8 h.tos) (.int .u16 h.total) (.int .u16 h.id) (.bool h.df) (.bool h.mf) (.int .u16 h.frag) (.int .u8 h.ttl) (.int .u8 h.proto) s0 s1 s2 s3 d0 d1 d2 d3 (.slice oa n cap):Array Value):=by rw[Jq _ _ _ _ _ _ _ hr];simp
  have hld:∀x:Jz wx,Qz Tryz.prog 113 x.world (.pointer (some ⟨b0,0,none⟩))=.ok (.value (.agg (Jpr (.int .u8 h.tos) (.int .u16 h.total) (.int .u16 h.id) (.bool h.df) (.bool h.mf) (.int .u16 h.frag) (.int .u8 h.ttl) (.int .u8 h.proto) s0 s1 s2 s3 d0 d1 d2 d3 (.slice oa n cap)))) x.world:=fun x=>by
   have e:Jf x.world b0 0 17=_:=(Jz.part x b0 0 17 hbw).trans hpt
   rw[JcX x.world b0 0 (by rw[e];rfl),e]
  have hc0:wx.cell? ⟨b0,0,none⟩=some (.int .u8 h.tos):=cell_of_row _ _ 0 _ _ (0,0) hr
  clear hr hbx
  simp only[List.take_succ_cons,List.take_zero]
  repeat go_big_quiet_step ((go_at_call 109;exact Jp (HL.out _)))
  exact wpQuiet_nil rfl
 ·simp only[List.drop_succ_cons,List.drop_zero,List.zip_cons_cons,List.zip_nil_left,List.length_cons,List.length_nil]
  refine Xx _ (Jnd [bits .or .u64 64 q,h.tos] 2 _ rfl rfl (by decide) (by simp[Instr.fill,Value.cells,go_sem])) (XN _ _) ?_
  rintro lo hi v hlo hhi-⟨w0,rfl,-⟩
  refine ZS ?_
  intro w' hb hal
  have hh:=((hal _ (List.mem_cons_self ..)).2 w' (Jpd _ _)).2.2
  clear hal
  go_wp2_with fail
  refine Jpc (ST.out.put 1 (by decide) hb lo hlo [bits .or .u64 64 q,h.tos] 2 rfl _ hh (by intro v hv;simp only[List.mem_cons,List.not_mem_nil,or_false] at hv;rcases hv with rfl|rfl;exact(by rw[HOR.out];unfold JlJ;simp;omega);exact HT.out) (by decide) (by decide)) ?_
  rintro e y1 ⟨rfl,st⟩
  clear hh hb hlo hhi
  rw[HOR.out,show([]:List Int)++ZX 1 [64+q,h.tos]=[64+q,h.tos] from rfl] at st
  have ST1:=Jpa st
  clear st ST
  go_wp2_with fail
  refine Xp 18 [true] (by kernel_rfl) (by kernel_rfl) (by kernel_rfl) ?_
  apply Exists.intro
  refine⟨fun wx hbx=>?_,?_⟩
  ·have hr:=(ST1.out.below hbx).box
   have hbw:b0<wx.heap.size:=Jpe (ST1.out.wr.old b0 rfl) hbx.size
   have hc1:wx.cell? ⟨b0,1,none⟩=some (.int .u16 h.total):=cell_of_row _ _ 1 _ _ (0,0) hr
   have hc2:wx.cell? ⟨b0,2,none⟩=some (.int .u16 h.id):=cell_of_row _ _ 2 _ _ (0,0) hr
   have hc3:wx.cell? ⟨b0,3,none⟩=some (.bool h.df):=cell_of_row _ _ 3 _ _ (0,0) hr
   have hc4:wx.cell? ⟨b0,4,none⟩=some (.bool h.mf):=cell_of_row _ _ 4 _ _ (0,0) hr
   have hc5:wx.cell? ⟨b0,5,none⟩=some (.int .u16 h.frag):=cell_of_row _ _ 5 _ _ (0,0) hr
   clear hr hbx
   simp only[List.take_succ_cons,List.take_zero]
   repeat go_big_quiet_step ((first|(go_at_call 110;exact Jp (HF1.out _))|(go_at_call 110;exact Jp (HF2.out _))))
   exact wpQuiet_nil rfl
  ·simp only[List.drop_succ_cons,List.drop_zero,List.zip_cons_cons,List.zip_nil_left,List.length_cons,List.length_nil]
   refine Xx _ (Jnd [h.total,h.id,bits .or .u64 (bits .or .u64 f1 f2) h.frag] 3 _ rfl rfl (by decide) (by simp[Instr.fill,Value.cells,go_sem])) (XN _ _) ?_
   rintro lo hi v hlo hhi-⟨w0,rfl,-⟩
   refine ZS ?_
   intro w' hb hal
   have hh:=((hal _ (List.mem_cons_self ..)).2 w' (Jpd _ _)).2.2
   clear hal
   go_wp2_with fail
   refine Jpc (ST1.out.put 2 (by decide) hb lo hlo [h.total,h.id,bits .or .u64 (bits .or .u64 f1 f2) h.frag] 3 rfl _ hh (by intro v hv;simp only[List.mem_cons,List.not_mem_nil,or_false] at hv;rcases hv with rfl|rfl|rfl;exact HK.out.total;exact HK.out.id;exact(by rw[HFG.out];exact HFB.out)) (by decide) (by simp)) ?_
   rintro e y2 ⟨rfl,st⟩
   clear hh hb hlo hhi
   rw[HFG.out,show[64+q,h.tos]++ZX 2 [h.total,h.id,fl]=[64+q,h.tos]++be2 h.total++be2 h.id++be2 fl from rfl] at st
   have ST2:=Jpa st
   clear st ST1
   have hr:=ST2.out.box
   have hb2:b0<y2.heap.size:=ST2.out.wr.old b0 rfl
   have hc6:y2.cell? ⟨b0,6,none⟩=some (.int .u8 h.ttl):=cell_of_row _ _ 6 _ _ (0,0) hr
   have hc7:y2.cell? ⟨b0,7,none⟩=some (.int .u8 h.proto):=cell_of_row _ _ 7 _ _ (0,0) hr
   clear hr
   go_wp2_with fail
   refine Jpc (ST2.out.put 1 (by decide) (Below.all (Jpd _ _) _) y2.heap.size (Jpf _) [h.ttl,h.proto] 2 rfl _ (heap_alloc_new y2 _) (by intro v hv;simp only[List.mem_cons,List.not_mem_nil,or_false] at hv;rcases hv with rfl|rfl;exact HK.out.ttl;exact HK.out.proto) (by decide) (by simp[be2])) ?_
   rintro e y3 ⟨rfl,st⟩
   rw[show ZX 1 [h.ttl,h.proto]=[h.ttl,h.proto] from rfl] at st
   have ST3:=Jpa st
   clear st ST2 hc6 hc7 hb2
   go_wp2_with fail
   refine Jpc (ST3.out.put 2 (by decide) (Below.all (Jpd _ _) _) y3.heap.size (Jpf _) [0] 1 rfl _ (heap_alloc_new y3 _) (by intro v hv;obtain rfl:=List.mem_singleton.1 hv;decide) (by decide) (by simp[be2])) ?_
   rintro e y4 ⟨rfl,st⟩
   rw[show ZX 2 [0]=be2 0 from rfl] at st
   have ST4:=Jpa st
   clear st ST3
   go_wp2_with fail
   refine Xp 9 [true,true] (by kernel_rfl) (by kernel_rfl) (by kernel_rfl) ?_
   apply Exists.intro
   refine⟨fun wx hbx=>?_,?_⟩
   ·have hr:=(ST4.out.below hbx).box
    have hbw:b0<wx.heap.size:=Jpe (ST4.out.wr.old b0 rfl) hbx.size
    have hc16:wx.cell? ⟨b0,16,none⟩=some (.slice oa n cap):=cell_of_row _ _ 16 _ _ (0,0) hr
    clear hr hbx
    simp only[List.take_succ_cons,List.take_zero]
    repeat go_big_quiet_step (fail)
    exact wpQuiet_nil rfl
   ·simp only[List.drop_succ_cons,List.drop_zero,List.zip_cons_cons,List.zip_nil_left,List.length_cons,List.length_nil]
    refine Xx _ (Jjx #[.slice (some ⟨b0,8,none⟩) 4 4,.slice (some ⟨b0,12,none⟩) 4 4,.slice oa n cap] 3 _ rfl rfl (by decide) (by simp[Instr.fill,Value.cells,go_sem])) (XN _ _) ?_
    rintro lo hi v hlo hhi-⟨w0,rfl,rfl,-⟩
    refine Xx (JmO (h.src++h.dst++h.opt)) (Jbw.call 111 #[.slice (some ⟨lo,0,none⟩) 3 3] rfl (fun w1=>by kernel_rfl) ?_) (JbB _) ?_
    ·intro w1 hb1 hal
     have hh:=((hal _ (List.mem_cons_self ..)).2 w1 (Jpd _ _)).2.2
     have hlt:lo<w1.heap.size:=(Jpb hh).1
     have hx1:=(ST4.out.below hb1).box
     have hb01:b0<w1.heap.size:=(Jpb hx1).1
     have hru:Q1 w1 w1.heap.size lo 3 [h.src,h.dst,h.opt]:=by
      refine⟨rfl,hlt,fun j hj=>?_⟩
      rw[cell_of_row _ _ j _ _ (0,0) hh]
      rcases j with _|_|_|j
      ·refine⟨_,_,_,rfl,XO hx1 8 4 h.src HK.out.src.1 HK.out.src.2 (by decide) (fun j hj=>?_),by decide,fun a ha=>by cases ha;exact hb01⟩
       rw[HSD.out]
       rcases j with _|_|_|_|j
       ·rfl
       ·rfl
       ·rfl
       ·rfl
       ·omega
      ·refine⟨_,_,_,rfl,XO hx1 12 4 h.dst HK.out.dst.1 HK.out.dst.2 (by decide) (fun j hj=>?_),by decide,fun a ha=>by cases ha;exact hb01⟩
       rw[HDD.out]
       rcases j with _|_|_|_|j
       ·rfl
       ·rfl
       ·rfl
       ·rfl
       ·omega
      ·exact⟨_,_,_,rfl,ST4.out.opt.below hb1,by omega,fun a ha=>Jpe (HA.out a ha) (Nat.le_trans ST4.out.out.size hb1.size)⟩
      ·simp at hj;omega
     refine(JcI lo 3 3 _ w1 hru (by decide)).mono ?_
     intro e w2 hp
     have:=JcG hp
     simpa using this
    rintro lo2 hi2 v hlo2 hhi2-⟨w0,oc,cc,rfl,-⟩
    refine ZS ?_
    intro w' hb hal
    obtain⟨oc',cc',he,hoc,-⟩:=((hal _ (List.mem_cons_self ..)).2 w' (Jpd _ _))
    obtain⟨rfl,-,rfl⟩:oc=oc'∧True∧cc=cc':=by simpa using he
    clear hal he hhi hhi2 hlo hlo2
    have HOC:=Jpa hoc
    have HBB:=Jpa hb
    clear hoc hb
    generalize hln:(h.src++h.dst++h.opt).length=ln at*
    go_wp2_with fail
    have st4:=ST4.out.below HBB.out
    refine Jpc (Zk p _ _ oc ln cc (h.src++h.dst++h.opt) w' st4.wr (HOC.out.reads (Jj (Jj HK.out.src.2 HK.out.dst.2) HK.out.opt)) (by have h1:=HK.out.src.1;have h2:=HK.out.dst.1;simp[be2,h1,h2];omega)) ?_
    rintro e y5 ⟨rfl,hw5,hb5,-⟩
    have st5:=st4.belowP hb5 hw5
    rw[HE5.out] at st5
    have ST5:=Jpa st5
    clear st4 hw5 hb5 st5 HOC HBB ST4
    go_wp2_with fail
    refine Xp 6 [true,true,false,false] (by kernel_rfl) (by kernel_rfl) (by kernel_rfl) ?_
    apply Exists.intro
    refine⟨fun wx hbx=>?_,?_⟩
    ·simp only[List.take_succ_cons,List.take_zero]
     repeat go_big_quiet_step (fail)
     exact wpQuiet_nil rfl
    ·simp only[List.drop_succ_cons,List.drop_zero,List.zip_cons_cons,List.zip_nil_left,List.length_cons,List.length_nil]
     refine Xx (JmO (Qn h 0)) (Jbw.call 66 #[.pointer (some ⟨p,0,none⟩)] rfl (fun w1=>by kernel_rfl) ?_) (JbB _) ?_
     ·intro w1 hb1 hal
      exact(Bits.bytes_any p _ w1 (ST5.out.below hb1).wr.wr (by rw[HLS.out,HLN.out];omega)).mono fun e w2 hp=>JcG hp
     rintro lo hi v hlo hhi-⟨w0,ob,cb,rfl,-⟩
     generalize hl0:(Qn h 0).length=l0 at*
     refine Xx _ (Jjx #[.slice ob l0 cb] 1 _ rfl rfl (by decide) (by simp[Instr.fill,Value.cells,go_sem])) (XN _ _) ?_
     rintro lo2 hi2 v hlo2 hhi2-⟨w0,rfl,rfl,-⟩
     refine JcZ (.int .u16 (sumOf (Qn h 0):Nat)) (Zd.call 113 #[.slice (some ⟨lo2,0,none⟩) 1 1] rfl (fun w1=>by kernel_rfl) ?_) ?_
     ·intro w1 hb1 hal
      have hh:=((hal _ (List.mem_cons_self ..)).2 w1 (Jpd _ _)).2.2
      obtain⟨ob',cb',he,hob,hlt⟩:=((hal _ (List.mem_cons_of_mem _ (List.mem_cons_self ..))).2 w1 (Jpd _ _))
      rw[hl0] at he
      obtain⟨rfl,-,rfl⟩:ob=ob'∧True∧cb=cb':=by simpa using he
      rw[hl0] at hob
      have hru:Q1 w1 w1.heap.size lo2 1 [Qn h 0]:=by
       refine⟨rfl,(Jpb hh).1,fun j hj=>?_⟩
       rw[cell_of_row _ _ j _ _ (0,0) hh]
       obtain rfl:j=0:=by simpa using hj
       exact⟨_,_,_,rfl,hob.reads HSB.out,by have h8:=HLN.out;have h9:=HLS.out 0;omega,fun a ha=>(hob.lt ha).2⟩
      have:=JaG lo2 1 1 _ w1 hru (by decide)
      simpa using this
     have hs0:=JbN (Qn h 0)
     generalize sumOf (Qn h 0)=sm at*
     refine JcZ (.int .u64 (IntKind.u64.wrap (sm:Int))) (Zd.value rfl (fun w1=>by kernel_rfl)) ?_
     refine ZS ?_
     intro w' hb hal
     have st6:=ST5.out.below hb
     have ST6:=Jpa st6
     clear hal st6 hb ST5 hhi hhi2 hlo hlo2
     have hwr:IntKind.u64.wrap (sm:Int)=sm:=IntWalk.u64_in _ (by omega)
     rw[hwr]
     clear hwr
     go_wp2_with fail
     refine Jpc (Jac p _ 10 sm (by omega) (by omega) w' ST6.out.wr.wr (by have h8:=HLN.out;have h9:=HLS.out 0;omega) (by have h8:=HLN.out;have h9:=HLS.out 0;omega)) ?_
     rintro e y7 ⟨rfl,hw7,hb7⟩
     rw[HSS.out sm] at hw7
     have HW7:=Jpa hw7
     have HB7:Hid (Below w.heap.size w y7):=Jpa (ST6.out.out.trans (hb7.mono ST6.out.lo))
     clear hw7 hb7 ST6
     go_wp2_with fail
     refine Jpc (Bits.bytes_any p _ y7 HW7.out (by rw[HLS.out,HLN.out];omega)) ?_
     rintro e y8 ⟨ob2,cb2,rfl,ho8,hb8⟩
     have HO8:=Jpa (ho8.mono HB7.out.size)
     have HB8:Hid (Below w.heap.size w y8):=Jpa (Jo3 HB7.out hb8)
     rw[←HPP.out] at HO8⊢
     clear ho8 hb8 HB7 HW7
     generalize hlf:(Jdc h).length=lf at*
     go_wp2_with fail
     go_ret2
     show Jw w (JhH h) (Jb6 h) _ _
     rw[HF.out]
     exact⟨ob2,cb2,by rw[hlf];rfl,by rw[hlf];exact HO8.out,HB8.out⟩
end
end Go.Proofs.YtkgjbipfhhjlpaaGreatDoor
