import Derived.Test.YtkgjbipfhhjlpaaGreatDoorMk14
set_option linter.unusedVariables false
set_option linter.unusedSimpArgs false
set_option maxRecDepth 100000
set_option maxHeartbeats 32000000
namespace Go.Proofs.YtkgjbipfhhjlpaaGreatDoor
section
open Go.RowKit Bits
structure SxH where
 cls:Int
 flow:Int
 len:Int
 nxt:Int
 hops:Int
 src:List Int
 dst:List Int
structure SxOk (h:SxH):Prop where
 cls:0≤h.cls∧h.cls<256
 flow:0≤h.flow∧h.flow<4294967296
 len:0≤h.len∧h.len<65536
 nxt:0≤h.nxt∧h.nxt<256
 hops:0≤h.hops∧h.hops<256
 src:h.src.length=16∧IsBytes h.src
 dst:h.dst.length=16∧IsBytes h.dst
def sxF (c f l n o:Int)(S D:Nat→Int):Array Value:=#[.int .u8 c,.int .u32 f,.int .u16 l,.int .u8 n,.int .u8 o,.int .u8 (S 0),.int .u8 (S 1),.int .u8 (S 2),.int .u8 (S 3),.int .u8 (S 4),.int .u8 (S 5),.int .u8 (S 6),.int .u8 (S 7),.int .u8 (S 8),.int .u8 (S 9),.int .u8 (S 10),.int .u8 (S 11),.int .u8 (S 12),.int .u8 (S 13),.int .u8 (S 14),.int .u8 (S 15),.int .u8 (D 0),.int .u8 (D 1),.int .u8 (D 2),.int .u8 (D 3),.int .u8 (D 4),.int .u8 (D 5),.int .u8 (D 6),.int .u8 (D 7),.int .u8 (D 8),.int .u8 (D 9),.int .u8 (D 10),.int .u8 (D 11),.int .u8 (D 12),.int .u8 (D 13),.int .u8 (D 14),.int .u8 (D 15)]
def sxV (h:SxH):Array Value:=sxF h.cls h.flow h.len h.nxt h.hops (fun i=>h.src.getD i 0) (fun i=>h.dst.getD i 0)
def sxPutErr (h:SxH):Int:=if h.flow<1048576 then 0 else 51
def sxBytes (h:SxH):List Int:=be4 (1610612736+h.cls*1048576+h.flow)++be2 h.len++[h.nxt,h.hops]++h.src++h.dst
def sxPutL (h:SxH):List Int:=if h.flow<1048576 then sxBytes h else []
structure BoxWr (w:World)(b0:Nat)(ob:Obj)(p:Nat)(y:World)(L:List Int):Prop where
 wr:Wr y p L
 box:y.heap[b0]? =some ob
 out:Below w.heap.size w y
 lo:w.heap.size≤b0
 lt0:b0<p
theorem BoxWr.below {w:World}{b0:Nat}{ob:Obj}{p:Nat}{y y':World}{L:List Int}(h:BoxWr w b0 ob p y L)(hb:Below y.heap.size y y'):BoxWr w b0 ob p y' L:=
 ⟨h.wr.below hb,(hb.block _ (Nat.lt_trans h.lt0 h.wr.lt)).trans h.box,Below.via h.out hb,h.lo,h.lt0⟩
theorem BoxWr.belowP {w:World}{b0:Nat}{ob:Obj}{p:Nat}{y y':World}{L L':List Int}(h:BoxWr w b0 ob p y L)(hb:Below p y y')(hw:Wr y' p L'):BoxWr w b0 ob p y' L':=
 ⟨hw,(hb.block _ h.lt0).trans h.box,h.out.trans (hb.mono (Nat.le_trans h.lo (Nat.le_of_lt h.lt0))),h.lo,h.lt0⟩
theorem Wr.new {w:World}{p:Nat}(hc:w.cell? ⟨p,0,none⟩=some (.slice none 0 0))(hf:w.frozen? ⟨p,0,none⟩=false)(hlt:p<w.heap.size):Wr w p []:=
 ⟨⟨none,0,hc,Owns.nil _ _ _⟩,hf,hlt,by simp⟩
theorem be4_bytes (v:Int):IsBytes (be4 v):=be4_byte v
theorem bits_or_six (c f:Int)(hc:0≤c∧c<256)(hf:0≤f∧f<1048576):bits .or .u64 (bits .or .u64 1610612736 (c*1048576)) f=1610612736+c*1048576+f:=by
 obtain⟨a,rfl⟩:∃a:Nat,c=a:=⟨c.toNat,by omega⟩
 obtain⟨b,rfl⟩:∃b:Nat,f=b:=⟨f.toNat,by omega⟩
 have h1:=bits_or_at 28 6 (a*1048576) (by omega) (by omega)
 rw[show(((2^28*6:Nat)):Int)=1610612736 by decide,show((a*1048576:Nat):Int)=(a:Int)*1048576 by omega] at h1
 rw[h1]
 have h2:=bits_or_at 20 (6*256+a) b (by omega) (by omega)
 rw[show((2^20*(6*256+a):Nat):Int)=((2^28*6+a*1048576:Nat):Int) by omega] at h2
 rw[h2];omega
theorem sxput_any (h:SxH)(w:World)(hk:SxOk h):Calls Tryz.prog 55 #[.agg (sxV h)] w (BytesErr w (sxPutL h) (sxPutErr h)):=by
 have HK:=Lib.hid hk
 have bc:=hk.cls
 have bl:=hk.len
 have bn:=hk.nxt
 have bh:=hk.hops
 have bf:=hk.flow
 have HSR:Hid (∀(y:World) (b:Nat) (t:TypeId),y.heap[b]? =some (.cells (sxV h) t (0,0))→Reads y (some ⟨b,5,none⟩) 16 16 h.src):=Lib.hid (fun y b t hy=>box_reads hy 5 16 h.src hk.src.1 hk.src.2 (by decide) (fun j hj=>by
  rcases j with _|_|_|_|_|_|_|_|_|_|_|_|_|_|_|_|j
  all_goals first|rfl|omega))
 have HDR:Hid (∀(y:World) (b:Nat) (t:TypeId),y.heap[b]? =some (.cells (sxV h) t (0,0))→Reads y (some ⟨b,21,none⟩) 16 16 h.dst):=Lib.hid (fun y b t hy=>box_reads hy 21 16 h.dst hk.dst.1 hk.dst.2 (by decide) (fun j hj=>by
  rcases j with _|_|_|_|_|_|_|_|_|_|_|_|_|_|_|_|j
  all_goals first|rfl|omega))
 clear hk
 by_cases hfl:h.flow<1048576
 rotate_left
 ·have HF:Hid (BytesErr w (sxPutL h) (sxPutErr h)=BytesErr w [] 51):=Lib.hid (by unfold sxPutL sxPutErr;rw[if_neg hfl,if_neg hfl])
  have hd:decide (1048576≤h.flow)=true:=by simp;omega
  clear HK HSR HDR
  unfold sxV
  generalize (fun i=>h.src.getD i 0)=S at*
  generalize (fun i=>h.dst.getD i 0)=D at*
  unfold sxF
  go_enter Tryz.func55,Tryz.ntmps55
  go_wp2_with fail
  go_ret2
  show BytesErr w (sxPutL h) (sxPutErr h) _ _
  rw[HF.out]
  exact⟨none,0,rfl,Owns.nil _ _ _,Below.all (Below.refl _ _) _⟩
 have HF:Hid (BytesErr w (sxPutL h) (sxPutErr h)=BytesErr w (sxBytes h) 0):=Lib.hid (by unfold sxPutL sxPutErr;rw[if_pos hfl,if_pos hfl])
 have HBY:Hid (sxBytes h=be4 (1610612736+h.cls*1048576+h.flow)++be2 h.len++[h.nxt,h.hops]++h.src++h.dst):=Lib.hid rfl
 have HOR:=Lib.hid (bits_or_six h.cls h.flow bc ⟨bf.1,hfl⟩)
 have hd:decide (1048576≤h.flow)=false:=by simp;omega
 obtain⟨ob,hob⟩:∃ob,ob=Obj.cells (sxV h) 118:=⟨_,rfl⟩
 have hbox:(w.alloc (.cells (sxV h) 118)).heap[w.heap.size]? =some (.cells (sxV h) 118 (0,0)):=heap_alloc_new w _
 have ST0:Hid (BoxWr w w.heap.size (.cells (sxV h) 118 (0,0)) (w.heap.size+1) ((w.alloc (.cells (sxV h) 118)).alloc (.cells #[.slice none 0 0] 137)) []):=Lib.hid ⟨Wr.new (by have:=World.size_alloc w (.cells (sxV h) 118);go_cell) (by go_cell) (by simp),(heap_alloc_old _ _ (by simp)).trans hbox,Below.all (Below.all (Below.refl _ _) _) _,Nat.le_refl _,by omega⟩
 clear hbox hob
 clear ob
 unfold sxV at*
 generalize (fun i=>h.src.getD i 0)=S at*
 generalize (fun i=>h.dst.getD i 0)=D at*
 unfold sxF at*
 go_enter Tryz.func55,Tryz.ntmps55
 go_wp2_with fail
 rw[HOR.out]
 generalize hy0:((w.alloc (.cells #[.int .u8 h.cls,.int .u32 h.flow,.int .u16 h.len,.int .u8 h.nxt,.int .u8 h.hops,.int .u8 (S 0),.int .u8 (S 1),.int .u8 (S 2),.int .u8 (S 3),.int .u8 (S 4),.int .u8 (S 5),.int .u8 (S 6),.int .u8 (S 7),.int .u8 (S 8),.int .u8 (S 9),.int .u8 (S 10),.int .u8 (S 11),.int .u8 (S 12),.int .u8 (S 13),.int .u8 (S 14),.int .u8 (S 15),.int .u8 (D 0),.int .u8 (D 1),.int .u8 (D 2),.int .u8 (D 3),.int .u8 (D 4),.int .u8 (D 5),.int .u8 (D 6),.int .u8 (D 7),.int .u8 (D 8),.int .u8 (D 9),.int .u8 (D 10),.int .u8 (D 11),.int .u8 (D 12),.int .u8 (D 13),.int .u8 (D 14),.int .u8 (D 15)] 118)).alloc (.cells #[.slice none 0 0] 137))=y0 at*
 clear hy0
 refine Calls.mono (put4_any _ [] _ (by omega) (by omega) _ ST0.out.wr (by decide)) ?_
 rintro e y1 ⟨rfl,hw1,hb1⟩
 have ST1:=Lib.hid (ST0.out.belowP hb1 hw1)
 have hr:=ST1.out.box
 have hc2:y1.cell? ⟨w.heap.size,2,none⟩=some (.int .u16 h.len):=cell_of_row _ _ 2 _ _ (0,0) hr
 clear hr hb1 hw1 ST0
 go_wp2_with fail
 refine Calls.mono (put2_any _ _ _ (by omega) (by omega) _ ST1.out.wr (by simp[be4])) ?_
 rintro e y2 ⟨rfl,hw2,hb2⟩
 have ST2:=Lib.hid (ST1.out.belowP hb2 hw2)
 have hr:=ST2.out.box
 have hc3:y2.cell? ⟨w.heap.size,3,none⟩=some (.int .u8 h.nxt):=cell_of_row _ _ 3 _ _ (0,0) hr
 have hc4:y2.cell? ⟨w.heap.size,4,none⟩=some (.int .u8 h.hops):=cell_of_row _ _ 4 _ _ (0,0) hr
 clear hr hb2 hw2 ST1 hc2
 have hlt2:w.heap.size+1<y2.heap.size:=ST2.out.wr.lt
 go_wp2_with fail
 have HRL:=Lib.hid (box_reads (heap_alloc_new y2 (.cells #[.int .u8 h.nxt,.int .u8 h.hops] 5)) 0 2 [h.nxt,h.hops] rfl (by intro v hv;simp only[List.mem_cons,List.not_mem_nil,or_false] at hv;rcases hv with rfl|rfl;exact bn;exact bh) (by decide) (fun j hj=>by
  rcases j with _|_|j
  ·rfl
  ·rfl
  ·omega))
 have st2:=ST2.out.below (Below.all (Below.refl _ _) (.cells #[.int .u8 h.nxt,.int .u8 h.hops] 5))
 refine Calls.mono (raw_any _ _ _ _ _ [h.nxt,h.hops] _ st2.wr HRL.out (by simp[be4,be2])) ?_
 rintro e y3 ⟨rfl,hw3,hb3⟩
 have ST3:=Lib.hid (st2.belowP hb3 hw3)
 clear hb3 hw3 ST2 st2 hc3 hc4 hlt2 HRL
 go_wp2_with fail
 refine Calls.mono (raw_any _ _ _ _ _ h.src _ ST3.out.wr (HSR.out _ _ _ ST3.out.box) (by simp[be4,be2,HK.out.src.1])) ?_
 rintro e y4 ⟨rfl,hw4,hb4⟩
 have ST4:=Lib.hid (ST3.out.belowP hb4 hw4)
 clear hb4 hw4 ST3
 go_wp2_with fail
 refine Calls.mono (raw_any _ _ _ _ _ h.dst _ ST4.out.wr (HDR.out _ _ _ ST4.out.box) (by simp[be4,be2,HK.out.src.1,HK.out.dst.1])) ?_
 rintro e y5 ⟨rfl,hw5,hb5⟩
 have ST5:=Lib.hid (ST4.out.belowP hb5 hw5)
 clear hb5 hw5 ST4
 go_wp2_with fail
 refine Calls.mono (Bits.bytes_any _ _ _ ST5.out.wr (by simp[be4,be2,HK.out.src.1,HK.out.dst.1])) ?_
 rintro e y6 ⟨oa,cap,rfl,ho,hb⟩
 have HO:=Lib.hid (ho.mono ST5.out.out.size)
 have HB:Hid (Below w.heap.size w y6):=Lib.hid (Below.via ST5.out.out hb)
 clear ho hb ST5
 rw[List.nil_append,←HBY.out] at HO⊢
 generalize hlf:(sxBytes h).length=lf at*
 go_wp2_with fail
 go_ret2
 show BytesErr w (sxPutL h) (sxPutErr h) _ _
 rw[HF.out]
 exact⟨oa,cap,by rw[hlf];rfl,by rw[hlf];exact HO.out,HB.out⟩
theorem below_cell {w w':World}{b:Nat}(h:Below w.heap.size w w')(hb:b<w.heap.size)(q:Addr)(e:q.block=b):w'.cell? q=w.cell? q:=h.cell (p:=q) (by omega)
structure ExtRec where
 k:Int
 a:Option Addr
 m:Nat
 c:Nat
def extCells (es:List ExtRec):List Value:=es.flatMap fun e=>[.int .u8 e.k,.slice e.a e.m e.c]
theorem extCells_get:∀(es:List ExtRec) (i:Nat) (e:ExtRec),es[i]? =some e→(extCells es)[2*i]? =some (.int .u8 e.k)∧(extCells es)[2*i+1]? =some (.slice e.a e.m e.c)
 |[],i,e,h=>by simp at h
 |x::es,0,e,h=>by
  obtain rfl:x=e:=by simpa using h
  exact⟨rfl,rfl⟩
 |x::es,i+1,e,h=>by
  have:=extCells_get es i e (by simpa using h)
  have hc:extCells (x::es)=.int .u8 x.k::.slice x.a x.m x.c::extCells es:=by simp[extCells]
  rw[hc]
  exact⟨by rw[show 2*(i+1)=2*i+1+1 by omega];simpa using this.1,by rw[show 2*(i+1)+1=(2*i+1)+1+1 by omega];simpa using this.2⟩
structure ExtAt (w:World)(lo:Nat)(oe:Option Addr)(e:ExtRec)(x:Int×List Int):Prop where
 k:e.k=x.1
 rd:Reads w e.a e.m e.c x.2
 blk:∀a,e.a=some a→lo≤a.block∧a.block<w.heap.size∧∀b,oe=some b→b.block≠a.block
structure ExtsAt (w:World)(lo:Nat)(oe:Option Addr)(ce:Nat)(xs:ExtL)(es:List ExtRec):Prop where
 own:Owns w lo 2 oe xs.length ce (extCells es)
 len:es.length=xs.length
 each:∀(i:Nat) e x,es[i]? =some e→xs[i]? =some x→ExtAt w lo oe e x
theorem ExtAt.keep {w w':World}{lo:Nat}{oe:Option Addr}{e:ExtRec}{x:Int×List Int}(h:ExtAt w lo oe e x)(hs:w.heap.size≤w'.heap.size)(hk:∀a,e.a=some a→w'.heap[a.block]? =w.heap[a.block]?):ExtAt w' lo oe e x:=
 ⟨h.k,h.rd.keep hs (fun a ha _=>hk a ha),fun a ha=>⟨(h.blk a ha).1,Nat.lt_of_lt_of_le (h.blk a ha).2.1 hs,(h.blk a ha).2.2⟩⟩
theorem ExtsAt.below {w w':World}{lo:Nat}{oe:Option Addr}{ce:Nat}{xs:ExtL}{es:List ExtRec}(h:ExtsAt w lo oe ce xs es)(hb:Below w.heap.size w w'):ExtsAt w' lo oe ce xs es:=
 ⟨h.own.below hb,h.len,fun i e x h1 h2=>(h.each i e x h1 h2).keep hb.size (fun a ha=>hb.block _ ((h.each i e x h1 h2).blk a ha).2.1)⟩
theorem kept_none {G:Nat→World→Prop}{k:Nat}{C:World→Prop}:Kept G [] (k+1) C:=by
 intro g hg w _
 simp at hg
theorem proto_lookup (p:Int)(hp:p=6∨p=17∨p=1∨p=58)(r:Nat)(w:World)(h:w.heap[r]? =some (.map protoRows 4)):
 (Instr.lookup 224 (.map (some r)) (.int .u8 p) true).run Tryz.prog w=.ok (.tuple #[protoOf p,.bool true]) w:=by
 rcases hp with rfl|rfl|rfl|rfl
 ·exact run_lookup_num (P:=Tryz.prog) 224 5 222 r 4 protoRows .u8 6 protoZ true w Tryz.underlying224 Tryz.underlying5 h (some (0,protoTcp)) rfl proto_zero
 ·exact run_lookup_num (P:=Tryz.prog) 224 5 222 r 4 protoRows .u8 17 protoZ true w Tryz.underlying224 Tryz.underlying5 h (some (1,protoUdp)) rfl proto_zero
 ·exact run_lookup_num (P:=Tryz.prog) 224 5 222 r 4 protoRows .u8 1 protoZ true w Tryz.underlying224 Tryz.underlying5 h (some (2,protoIcmp)) rfl proto_zero
 ·exact run_lookup_num (P:=Tryz.prog) 224 5 222 r 4 protoRows .u8 58 protoZ true w Tryz.underlying224 Tryz.underlying5 h (some (3,protoIcmp)) rfl proto_zero
theorem exec_lookup {P:Program}(ev:Operand→Value)(w:World){dst:Option Tmp}{ty:TypeId}{pos:String}{after:Array Edge}{g:Option (Nat×Bool)}{t:TypeId}{m x:Operand}{ok:Bool}{vm vx v:Value}(hm:ev m=vm)(hx:ev x=vx)
 (hr:(Instr.lookup t vm vx ok).run P w=.ok v w):(execOp ev ⟨dst,.lookup t m x ok,ty,pos,after,g⟩).run P w=.ok (.value v) w:=by
 simp[execOp,hm,hx,hr,Result.andThen]
def ProtoSt (y:World)(r:Nat)(fl:Option Nat)(w:World):Prop:=Below y.heap.size y w∧y.heap.size≤r∧w.heap[r]? =some (.map protoRows 4)∧∀b,fl=some b→y.heap.size≤b∧w.heap[b]? =some (.cells #[.int .i64 0,.int .i64 0,.nilFunc,.nilFunc,.nilFunc] 222 (0,0))
theorem kept_top {G:Nat→World→Prop}{k t:Nat}{C:World→Prop}(h:decide (t<k)=true):Kept G [t] k C:=by
 intro g hg w _
 rcases g with _|g
 ·simp at hg;simp at h;omega
 ·simp at hg
  have:=of_decide_eq_true h
  omega
theorem seg_set0 {w:World}{b:Nat}{x0 x1 x2 x3 x4 x5 x6 x7 x8 x9 x10 x11:Value}{t:TypeId}(u:Value)(h:w.heap[b]? =some (.cells #[x0,x1,x2,x3,x4,x5,x6,x7,x8,x9,x10,x11] t (0,0))):(w.setCell ⟨b,0,none⟩ u).heap[b]? =some (.cells #[u,x1,x2,x3,x4,x5,x6,x7,x8,x9,x10,x11] t (0,0)):=by
 rw[heap_setCell_same _ b 0 #[x0,x1,x2,x3,x4,x5,x6,x7,x8,x9,x10,x11] t u h];rfl
theorem seg_set11 {w:World}{b:Nat}{x0 x1 x2 x3 x4 x5 x6 x7 x8 x9 x10 x11:Value}{t:TypeId}(u:Value)(h:w.heap[b]? =some (.cells #[x0,x1,x2,x3,x4,x5,x6,x7,x8,x9,x10,x11] t (0,0))):(w.setCell ⟨b,11,none⟩ u).heap[b]? =some (.cells #[x0,x1,x2,x3,x4,x5,x6,x7,x8,x9,x10,u] t (0,0)):=by
 rw[heap_setCell_same _ b 11 #[x0,x1,x2,x3,x4,x5,x6,x7,x8,x9,x10,x11] t u h];rfl
theorem tright_tcp (a b f:Int)(oD:Option Addr)(n cD:Nat)(l:List Int)(w:World)(hr:Reads w oD n cD l)(hn:n≤60000):
 Calls Tryz.prog 152 #[.agg (segV 6 a b f 0 0 oD n cD)] w (RetAt w (.bool true)):=by
 have hR0:=Lib.hid hr
 have HR:=Lib.hid hr
 have HLK:Hid (∀r w',w'.heap[r]? =some (.map protoRows 4)→(Instr.lookup 224 (.map (some r)) (.int .u8 6) true).run Tryz.prog w'=.ok (.tuple #[.agg #[.int .i64 20,.int .i64 16,.func (.func 184) #[] #[],.func (.func 185) #[] #[],.func (.func 186) #[] #[]],.bool true]) w'):=Lib.hid (fun r w' h=>proto_lookup 6 (.inl rfl) r w' h)
 have HP:Hid (∀w',Calls Tryz.prog 184 #[.agg #[.int .u8 6,.int .u16 a,.int .u16 b,.int .u32 0,.int .u32 0,.int .u8 f,.int .u16 0,.int .u16 0,.slice none 0 0,.int .u8 0,.int .u8 0,.slice oD n cD]] w' (RetAt w' (.agg #[.int .u8 6,.int .u16 a,.int .u16 b,.int .u32 0,.int .u32 0,.int .u8 f,.int .u16 0,.int .u16 0,.slice none 0 0,.int .u8 0,.int .u8 0,.slice oD n cD]))):=Lib.hid (fun w'=>proto2_any 6 a b f oD n cD w')
 have HSM:Hid (∀w',Reads w' oD n cD l→Calls Tryz.prog 195 #[.agg #[.int .u8 6,.int .u16 a,.int .u16 b,.int .u32 0,.int .u32 0,.int .u8 f,.int .u16 0,.int .u16 0,.slice none 0 0,.int .u8 0,.int .u8 0,.slice oD n cD],.agg #[.int .u8 6,.int .u16 a,.int .u16 b,.int .u32 0,.int .u32 0,.int .u8 f,.int .u16 0,.int .u16 0,.slice none 0 0,.int .u8 0,.int .u8 0,.slice oD n cD]] w' (RetAt w' (.bool true))):=Lib.hid (fun w' h=>tsame_any 6 a b f 0 0 oD n cD l w' h)
 have HTL:Hid (∀w',Calls Tryz.prog 138 #[.agg #[.int .i64 20,.int .i64 16,.func (.func 184) #[] #[],.func (.func 185) #[] #[],.func (.func 186) #[] #[]],.agg #[.int .u8 6,.int .u16 a,.int .u16 b,.int .u32 0,.int .u32 0,.int .u8 f,.int .u16 0,.int .u16 0,.slice none 0 0,.int .u8 0,.int .u8 0,.slice oD n cD]] w' (RetAt w' (.int .i64 (20+(n:Int))))):=Lib.hid (fun w'=>tlength_any 20 _ _ _ _ 6 a b f 0 0 oD n cD w' (by decide) (by omega))
 have hx:=heap_alloc_new w (.cells (segV 6 a b f 0 0 oD n cD) 149)
 have hB:Below w.heap.size w (w.alloc (.cells (segV 6 a b f 0 0 oD n cD) 149)):=Below.all (Below.refl _ _) _
 unfold segV at hx hB⊢
 have hle:decide ((20:Int)+(n:Int)≤65535)=true:=by simp;omega
 clear hr
 go_enter Tryz.func152,Tryz.ntmps152
 go_wp2_with fail
 obtain⟨b0,hb0e⟩:∃b,b=w.heap.size:=⟨_,rfl⟩
 rw[←hb0e] at hx⊢
 have HE0:=Lib.hid hb0e
 clear hb0e
 generalize hy:w.alloc (.cells #[.int .u8 6,.int .u16 a,.int .u16 b,.int .u32 0,.int .u32 0,.int .u8 f,.int .u16 0,.int .u16 0,.slice none 0 0,.int .u8 0,.int .u8 0,.slice oD n cD] 149)=y at*
 have hb0:b0<y.heap.size:=(Array.getElem?_eq_some_iff.1 hx).1
 have hc0:y.cell? ⟨b0,0,none⟩=some (.int .u8 6):=cell_of_row _ _ 0 _ _ (0,0) hx
 have HX:=Lib.hid hx
 have HB:=Lib.hid hB
 clear hx hB hy
 refine wp_region_fl [.w,.h,.h] [(1,1,0),(2,1,0)] (fun _ w'=>w'.cell? ⟨b0,0,none⟩=some (.int .u8 6)) [1] [(.w,0),(.w,3),(.q,4),(.q,5),(.q,6)] [(.w,8),(.q,9)] 7 (.cells #[.int .i64 0,.int .i64 0,.nilFunc,.nilFunc,.nilFunc] 222) (by kernel_rfl) (by kernel_rfl) rfl rfl ⟨fun _=>rfl,fun _ _=>by kernel_rfl⟩ (by kernel_rfl) (by kernel_rfl) ?_
 apply Exists.intro
 refine⟨fun wx hbx=>?_,?_,?_⟩
 ·have hcx:wx.cell? ⟨b0,0,none⟩=some (.int .u8 6):=(below_cell hbx hb0 _ rfl).trans hc0
  have hbx2:b0<wx.heap.size:=Nat.lt_of_lt_of_le hb0 hbx.size
  simp only[headsL]
  repeat go_big_quiet_step (fail)
  exact wpQuiet_nil rfl
 ·intro q hq oi hoi
  simp only[List.mem_cons,List.not_mem_nil,or_false] at hq
  rcases hq with rfl|rfl
  ·cases hoi;exact⟨_,rfl,rfl,fun w2 hw=>by kernel_rfl⟩
  ·cases hoi;exact⟨_,rfl,rfl,fun w2 hw=>by simp[execOp,go_sem,hw]⟩
 simp only[opsAt,List.getElem?_cons_succ,List.getElem?_cons_zero]
 refine⟨fun v fl w2=>∃r,v=.map (some r)∧ProtoSt y r fl w2,?_,?_,?_,?_⟩
 ·rintro fl-
  refine⟨rfl,fun w' hw'=>.inr ⟨136,#[],by kernel_rfl,?_⟩⟩
  obtain⟨⟨x,rfl⟩,hfb⟩:=hw'
  refine(protocols_any x.world).mono ?_
  rintro e w2 ⟨r,rfl,hr1,hr2,hb2⟩
  refine⟨_,rfl,r,rfl,Below.via x.below hb2,Nat.le_trans x.below.size hr1,hr2,fun b hb'=>⟨(hfb b hb').1,?_⟩⟩
  have:=(hfb b hb').2
  exact(hb2.block b (Array.getElem?_eq_some_iff.1 this).1).trans this
 ·rintro v fl g-w2 ⟨r,-,hst⟩
  exact(below_cell hst.1 hb0 _ rfl).trans hc0
 ·rintro-v w2 ⟨r,rfl,h1,h2,h3,-⟩
  exact⟨r,rfl,Below.all h1 _,h2,(heap_alloc_old _ _ (Array.getElem?_eq_some_iff.1 h3).1).trans h3,fun b hb'=>by cases hb';exact⟨h1.size,heap_alloc_new _ _⟩⟩
 rintro v ⟨fl0,w20,r,rfl,-⟩
 refine⟨fun v fl w2=>v=.tuple #[.agg #[.int .i64 20,.int .i64 16,.func (.func 184) #[] #[],.func (.func 185) #[] #[],.func (.func 186) #[] #[]],.bool true]∧ProtoSt y r fl w2,?_,fun _ _=>kept_top rfl,?_,?_⟩
 ·rintro fl-
  refine SeqRun.made rfl ?_
  rintro w' ⟨r',hr',hst⟩
  cases hr'
  exact⟨.tuple #[.agg #[.int .i64 20,.int .i64 16,.func (.func 184) #[] #[],.func (.func 185) #[] #[],.func (.func 186) #[] #[]],.bool true],w',exec_lookup _ _ (vm:=.map (some r)) (vx:=.int .u8 6) (by kernel_rfl) (by kernel_rfl) (HLK.out r w' hst.2.2.1),rfl,hst⟩
 ·rintro-v w2 ⟨h0,h1,h2,h3,-⟩
  exact⟨h0,Below.all h1 _,h2,(heap_alloc_old _ _ (Array.getElem?_eq_some_iff.1 h3).1).trans h3,fun b hb'=>by cases hb';exact⟨h1.size,heap_alloc_new _ _⟩⟩
 rintro v ⟨fl1,w21,rfl,-⟩
 refine⟨.tuple #[.agg #[.int .i64 20,.int .i64 16,.func (.func 184) #[] #[],.func (.func 185) #[] #[],.func (.func 186) #[] #[]],.bool true],⟨rfl,fun _=>by kernel_rfl⟩,?_⟩
 refine⟨.agg #[.int .i64 20,.int .i64 16,.func (.func 184) #[] #[],.func (.func 185) #[] #[],.func (.func 186) #[] #[]],⟨rfl,fun _=>by kernel_rfl⟩,?_⟩
 refine⟨.bool true,⟨rfl,fun _=>by kernel_rfl⟩,?_⟩
 intro bp
 refine⟨fun v fl w2=>v=undef∧Below y.heap.size y w2∧y.heap.size≤bp∧w2.heap[bp]? =some (.cells #[.int .i64 20,.int .i64 16,.func (.func 184) #[] #[],.func (.func 185) #[] #[],.func (.func 186) #[] #[]] 222 (0,0)),?_,fun _ _=>kept_top rfl,(fun h=>by cases h),?_⟩
 ·rintro fl rfl
  refine SeqRun.skip rfl ?_
  rintro w' ⟨-,hst⟩
  obtain⟨hbge,hbx⟩:=hst.2.2.2 bp rfl
  exact⟨_,do_store_pro _ w' bp #[.int .i64 20,.int .i64 16,.func (.func 184) #[] #[],.func (.func 185) #[] #[],.func (.func 186) #[] #[]] (by kernel_rfl) (by kernel_rfl) (by rw[rowFree_row _ _ _ _ _ hbx];rfl) rfl rfl,hst.1.trans (setRow_below _ hbge),hbge,setRow_row hbx⟩
 rintro v ⟨fl2,w22,rfl,-⟩
 refine⟨.bool true,⟨rfl,fun _=>by kernel_rfl⟩,?_⟩
 rintro zz ⟨-,hzz,hbge,hpz⟩
 have HZ:=Lib.hid (Below.via HB.out hzz)
 have HXZ:=Lib.hid ((hzz.block b0 hb0).trans HX.out)
 have HPZ:=Lib.hid hpz
 have hRZ:=Lib.hid ((HR.out.below HB.out).below hzz)
 have hbpz:bp<zz.heap.size:=(Array.getElem?_eq_some_iff.1 hpz).1
 have hb0z:b0<zz.heap.size:=Nat.lt_of_lt_of_le hb0 hzz.size
 have hne:bp≠b0:=by omega
 have hc2:zz.cell? ⟨bp,2,none⟩=some (.func (.func 184) #[] #[]):=cell_of_row _ _ 2 _ _ (0,0) hpz
 have hpt:partOf zz b0 0 12=#[.int .u8 6,.int .u16 a,.int .u16 b,.int .u32 0,.int .u32 0,.int .u8 f,.int .u16 0,.int .u16 0,.slice none 0 0,.int .u8 0,.int .u8 0,.slice oD n cD]:=partOf_all HXZ.out rfl
 clear hzz hpz hbge hc0 hb0 w20 w21 w22 fl0 fl1 fl2 HX HB HR HLK
 unfold ptrTo
 go_wp2_with fail
 refine Calls.mono (HP.out zz) ?_
 rintro e y2 ⟨rfl,hb2⟩
 have HZ2:=Lib.hid (Below.via HZ.out hb2)
 have HXZ2:=Lib.hid ((hb2.block b0 hb0z).trans HXZ.out)
 have HPZ2:=Lib.hid ((hb2.block bp hbpz).trans HPZ.out)
 have HRZ2:=Lib.hid (hRZ.out.below hb2)
 clear hb2 hpt hc2 hbpz hb0z HZ HXZ HPZ hRZ HP
 go_wp2_with fail
 have hx5:=heap_alloc_new y2 (.cells #[.int .u8 6,.int .u16 a,.int .u16 b,.int .u32 0,.int .u32 0,.int .u8 f,.int .u16 0,.int .u16 0,.slice none 0 0,.int .u8 0,.int .u8 0,.slice oD n cD] 149)
 have hB5:Below y2.heap.size y2 (y2.alloc (.cells #[.int .u8 6,.int .u16 a,.int .u16 b,.int .u32 0,.int .u32 0,.int .u8 f,.int .u16 0,.int .u16 0,.slice none 0 0,.int .u8 0,.int .u8 0,.slice oD n cD] 149)):=Below.all (Below.refl _ _) _
 have hb02:b0<y2.heap.size:=(Array.getElem?_eq_some_iff.1 HXZ2.out).1
 have hbp2:bp<y2.heap.size:=(Array.getElem?_eq_some_iff.1 HPZ2.out).1
 obtain⟨b5,hb5⟩:∃b,b=y2.heap.size:=⟨_,rfl⟩
 rw[←hb5] at hx5 hB5 hb02 hbp2⊢
 have HB5:=Lib.hid hB5
 have HZ3:=Lib.hid (HZ2.out.trans (hB5.mono (by rw[hb5];exact HZ2.out.size)))
 have HXZ3:=Lib.hid ((hB5.block b0 hb02).trans HXZ2.out)
 have HPZ3:=Lib.hid ((hB5.block bp hbp2).trans HPZ2.out)
 have HRZ3:=Lib.hid (HRZ2.out.below (by rw[←hb5];exact hB5))
 have hs5:w.heap.size≤b5:=by rw[hb5];exact HZ2.out.size
 generalize y2.alloc (.cells #[.int .u8 6,.int .u16 a,.int .u16 b,.int .u32 0,.int .u32 0,.int .u8 f,.int .u16 0,.int .u16 0,.slice none 0 0,.int .u8 0,.int .u8 0,.slice oD n cD] 149)=y3 at*
 have HX5:=Lib.hid hx5
 clear hx5 hB5 HB5 HXZ2 HPZ2 HRZ2 HZ2 hb5 y2
 have hc0:y3.cell? ⟨b0,0,none⟩=some (.int .u8 6):=cell_of_row _ _ 0 _ _ (0,0) HXZ3.out
 have hc11:y3.cell? ⟨b0,11,none⟩=some (.slice oD n cD):=cell_of_row _ _ 11 _ _ (0,0) HXZ3.out
 have hb03:b0<y3.heap.size:=(Array.getElem?_eq_some_iff.1 HXZ3.out).1
 have hb53:b5<y3.heap.size:=(Array.getElem?_eq_some_iff.1 HX5.out).1
 refine wp_region_sc [.h,.h,.h,.h] [(2,1,0),(3,1,0)] (fun _ w'=>w'.cell? ⟨b0,11,none⟩=some (.slice oD n cD)) [1] [(.q,4),(.w,5),(.q,6),(.w,7)] (by kernel_rfl) (by kernel_rfl) (by kernel_rfl) (by kernel_rfl) ?_
 apply Exists.intro
 refine⟨fun wx hbx=>?_,?_,?_⟩
 ·have hcx:wx.cell? ⟨b0,0,none⟩=some (.int .u8 6):=(below_cell hbx hb03 _ rfl).trans hc0
  have hcx11:wx.cell? ⟨b0,11,none⟩=some (.slice oD n cD):=(below_cell hbx hb03 _ rfl).trans hc11
  have hbx2:b0<wx.heap.size:=Nat.lt_of_lt_of_le hb03 hbx.size
  simp only[headsL]
  repeat go_big_quiet_step (fail)
  exact wpQuiet_nil rfl
 ·intro q hq oi hoi
  simp only[List.mem_cons,List.not_mem_nil,or_false] at hq
  rcases hq with rfl|rfl
  ·cases hoi;exact⟨_,rfl,rfl,fun w2 hw=>by kernel_rfl⟩
  ·cases hoi;exact⟨_,rfl,rfl,fun w2 hw=>by simp[execOp,go_sem,hw]⟩
 simp only[opsAt,List.getElem?_cons_succ,List.getElem?_cons_zero]
 refine⟨.pointer (some ⟨b5,0,none⟩),⟨rfl,fun _=>by kernel_rfl⟩,?_⟩
 refine⟨fun v fl w2=>v=undef∧Below b5 y3 w2∧w2.heap[b5]? =some (.cells #[.int .u8 6,.int .u16 a,.int .u16 b,.int .u32 0,.int .u32 0,.int .u8 f,.int .u16 0,.int .u16 0,.slice none 0 0,.int .u8 0,.int .u8 0,.slice oD n cD] 149 (0,0)),?_,?_,(fun h=>by cases h),?_⟩
 ·rintro fl rfl
  refine SeqRun.skip rfl ?_
  rintro w' ⟨⟨x,rfl⟩,-⟩
  have hx':=(x.below.block b5 hb53).trans HX5.out
  have q1:=cell_of_row _ _ 0 _ _ (0,0) hx'
  have q2:=frozen_of_row _ _ 0 _ _ hx'
  refine⟨_,?_,((x.below.mono (Nat.le_of_lt hb53)).setCell (Nat.le_refl _) (.int .u8 6)),seg_set0 (.int .u8 6) hx'⟩
  simp[execOp,go_sem,q1,q2]
 ·rintro v fl g-w2 ⟨-,hb,-⟩
  exact(World.cell?_of_block (a:=⟨b0,11,none⟩) (hb.block b0 hb02)).trans hc11
 rintro v ⟨fl3,w23,rfl,-⟩
 refine⟨.pointer (some ⟨b5,11,none⟩),⟨rfl,fun _=>by kernel_rfl⟩,?_⟩
 refine⟨fun v fl w2=>v=undef∧Below b5 y3 w2∧w2.heap[b5]? =some (.cells #[.int .u8 6,.int .u16 a,.int .u16 b,.int .u32 0,.int .u32 0,.int .u8 f,.int .u16 0,.int .u16 0,.slice none 0 0,.int .u8 0,.int .u8 0,.slice oD n cD] 149 (0,0)),?_,fun _ _=>kept_top rfl,(fun h=>by cases h),?_⟩
 ·rintro fl rfl
  refine SeqRun.skip rfl ?_
  rintro w' ⟨-,hb,hx'⟩
  have q1:=cell_of_row _ _ 11 _ _ (0,0) hx'
  have q2:=frozen_of_row _ _ 11 _ _ hx'
  refine⟨_,?_,hb.setCell (Nat.le_refl _) (.slice oD n cD),seg_set11 (.slice oD n cD) hx'⟩
  simp[execOp,go_sem,q1,q2]
 rintro v ⟨fl4,w24,rfl,-⟩
 rintro y4 ⟨-,hb4,hx4⟩
 have HZ4:=Lib.hid (HZ3.out.trans (hb4.mono hs5))
 have HXZ4:=Lib.hid ((hb4.block b0 hb02).trans HXZ3.out)
 have HPZ4:=Lib.hid ((hb4.block bp hbp2).trans HPZ3.out)
 have HX54:=Lib.hid hx4
 have HR4:=Lib.hid (hR0.out.below HZ4.out)
 have hpt0:partOf y4 b0 0 12=#[.int .u8 6,.int .u16 a,.int .u16 b,.int .u32 0,.int .u32 0,.int .u8 f,.int .u16 0,.int .u16 0,.slice none 0 0,.int .u8 0,.int .u8 0,.slice oD n cD]:=partOf_all HXZ4.out rfl
 have hpt5:partOf y4 b5 0 12=#[.int .u8 6,.int .u16 a,.int .u16 b,.int .u32 0,.int .u32 0,.int .u8 f,.int .u16 0,.int .u16 0,.slice none 0 0,.int .u8 0,.int .u8 0,.slice oD n cD]:=partOf_all hx4 rfl
 clear hb4 hx4 hc0 hc11 hb03 hb53 HXZ3 HPZ3 HZ3 HRZ3 HX5 hs5
 go_wp2_with fail
 refine Calls.mono (HSM.out y4 HR4.out) ?_
 rintro e y5 ⟨rfl,hb⟩
 have HZ5:=Lib.hid (Below.via HZ4.out hb)
 have hxz:=(hb.block b0 (Array.getElem?_eq_some_iff.1 HXZ4.out).1).trans HXZ4.out
 have hpz:=(hb.block bp (Array.getElem?_eq_some_iff.1 HPZ4.out).1).trans HPZ4.out
 have hc8:y5.cell? ⟨b0,8,none⟩=some (.slice none 0 0):=cell_of_row _ _ 8 _ _ (0,0) hxz
 have hpt0:partOf y5 b0 0 12=#[.int .u8 6,.int .u16 a,.int .u16 b,.int .u32 0,.int .u32 0,.int .u8 f,.int .u16 0,.int .u16 0,.slice none 0 0,.int .u8 0,.int .u8 0,.slice oD n cD]:=partOf_all hxz rfl
 have hptp:partOf y5 bp 0 5=#[.int .i64 20,.int .i64 16,.func (.func 184) #[] #[],.func (.func 185) #[] #[],.func (.func 186) #[] #[]]:=partOf_all hpz rfl
 clear hb hxz hpz HXZ4 HPZ4 HX54 HZ4 HR4
 go_wp2_with fail
 refine Calls.mono (HTL.out y5) ?_
 rintro e y6 ⟨rfl,hb⟩
 have HZ6:=Lib.hid (Below.via HZ5.out hb)
 clear hb hpt0 hptp hc8
 go_wp2_with fail
 go_ret
 exact .mk rfl HZ6.out
theorem tright_udp (a b:Int)(oD:Option Addr)(n cD:Nat)(l:List Int)(w:World)(hr:Reads w oD n cD l)(hn:n≤60000):
 Calls Tryz.prog 152 #[.agg (segV 17 a b 0 0 0 oD n cD)] w (RetAt w (.bool true)):=by
 have hR0:=Lib.hid hr
 have HR:=Lib.hid hr
 have HLK:Hid (∀r w',w'.heap[r]? =some (.map protoRows 4)→(Instr.lookup 224 (.map (some r)) (.int .u8 17) true).run Tryz.prog w'=.ok (.tuple #[.agg #[.int .i64 8,.int .i64 6,.func (.func 187) #[] #[],.func (.func 188) #[] #[],.func (.func 189) #[] #[]],.bool true]) w'):=Lib.hid (fun r w' h=>proto_lookup 17 (.inr (.inl rfl)) r w' h)
 have HP:Hid (∀w',Calls Tryz.prog 187 #[.agg #[.int .u8 17,.int .u16 a,.int .u16 b,.int .u32 0,.int .u32 0,.int .u8 0,.int .u16 0,.int .u16 0,.slice none 0 0,.int .u8 0,.int .u8 0,.slice oD n cD]] w' (RetAt w' (.agg #[.int .u8 0,.int .u16 a,.int .u16 b,.int .u32 0,.int .u32 0,.int .u8 0,.int .u16 0,.int .u16 0,.slice none 0 0,.int .u8 0,.int .u8 0,.slice none 0 0]))):=Lib.hid (fun w'=>proto3_any 17 a b 0 0 0 oD n cD w')
 have HSM:Hid (∀w',Reads w' oD n cD l→Calls Tryz.prog 195 #[.agg #[.int .u8 17,.int .u16 a,.int .u16 b,.int .u32 0,.int .u32 0,.int .u8 0,.int .u16 0,.int .u16 0,.slice none 0 0,.int .u8 0,.int .u8 0,.slice oD n cD],.agg #[.int .u8 17,.int .u16 a,.int .u16 b,.int .u32 0,.int .u32 0,.int .u8 0,.int .u16 0,.int .u16 0,.slice none 0 0,.int .u8 0,.int .u8 0,.slice oD n cD]] w' (RetAt w' (.bool true))):=Lib.hid (fun w' h=>tsame_any 17 a b 0 0 0 oD n cD l w' h)
 have HTL:Hid (∀w',Calls Tryz.prog 138 #[.agg #[.int .i64 8,.int .i64 6,.func (.func 187) #[] #[],.func (.func 188) #[] #[],.func (.func 189) #[] #[]],.agg #[.int .u8 17,.int .u16 a,.int .u16 b,.int .u32 0,.int .u32 0,.int .u8 0,.int .u16 0,.int .u16 0,.slice none 0 0,.int .u8 0,.int .u8 0,.slice oD n cD]] w' (RetAt w' (.int .i64 (8+(n:Int))))):=Lib.hid (fun w'=>tlength_any 8 _ _ _ _ 17 a b 0 0 0 oD n cD w' (by decide) (by omega))
 have hx:=heap_alloc_new w (.cells (segV 17 a b 0 0 0 oD n cD) 149)
 have hB:Below w.heap.size w (w.alloc (.cells (segV 17 a b 0 0 0 oD n cD) 149)):=Below.all (Below.refl _ _) _
 unfold segV at hx hB⊢
 have hle:decide ((8:Int)+(n:Int)≤65535)=true:=by simp;omega
 clear hr
 go_enter Tryz.func152,Tryz.ntmps152
 go_wp2_with fail
 obtain⟨b0,hb0e⟩:∃b,b=w.heap.size:=⟨_,rfl⟩
 rw[←hb0e] at hx⊢
 have HE0:=Lib.hid hb0e
 clear hb0e
 generalize hy:w.alloc (.cells #[.int .u8 17,.int .u16 a,.int .u16 b,.int .u32 0,.int .u32 0,.int .u8 0,.int .u16 0,.int .u16 0,.slice none 0 0,.int .u8 0,.int .u8 0,.slice oD n cD] 149)=y at*
 have hb0:b0<y.heap.size:=(Array.getElem?_eq_some_iff.1 hx).1
 have hc0:y.cell? ⟨b0,0,none⟩=some (.int .u8 17):=cell_of_row _ _ 0 _ _ (0,0) hx
 have HX:=Lib.hid hx
 have HB:=Lib.hid hB
 clear hx hB hy
 refine wp_region_fl [.w,.h,.h] [(1,1,0),(2,1,0)] (fun _ w'=>w'.cell? ⟨b0,0,none⟩=some (.int .u8 17)) [1] [(.w,0),(.w,3),(.q,4),(.q,5),(.q,6)] [(.w,8),(.q,9)] 7 (.cells #[.int .i64 0,.int .i64 0,.nilFunc,.nilFunc,.nilFunc] 222) (by kernel_rfl) (by kernel_rfl) rfl rfl ⟨fun _=>rfl,fun _ _=>by kernel_rfl⟩ (by kernel_rfl) (by kernel_rfl) ?_
 apply Exists.intro
 refine⟨fun wx hbx=>?_,?_,?_⟩
 ·have hcx:wx.cell? ⟨b0,0,none⟩=some (.int .u8 17):=(below_cell hbx hb0 _ rfl).trans hc0
  have hbx2:b0<wx.heap.size:=Nat.lt_of_lt_of_le hb0 hbx.size
  simp only[headsL]
  repeat go_big_quiet_step (fail)
  exact wpQuiet_nil rfl
 ·intro q hq oi hoi
  simp only[List.mem_cons,List.not_mem_nil,or_false] at hq
  rcases hq with rfl|rfl
  ·cases hoi;exact⟨_,rfl,rfl,fun w2 hw=>by kernel_rfl⟩
  ·cases hoi;exact⟨_,rfl,rfl,fun w2 hw=>by simp[execOp,go_sem,hw]⟩
 simp only[opsAt,List.getElem?_cons_succ,List.getElem?_cons_zero]
 refine⟨fun v fl w2=>∃r,v=.map (some r)∧ProtoSt y r fl w2,?_,?_,?_,?_⟩
 ·rintro fl-
  refine⟨rfl,fun w' hw'=>.inr ⟨136,#[],by kernel_rfl,?_⟩⟩
  obtain⟨⟨x,rfl⟩,hfb⟩:=hw'
  refine(protocols_any x.world).mono ?_
  rintro e w2 ⟨r,rfl,hr1,hr2,hb2⟩
  refine⟨_,rfl,r,rfl,Below.via x.below hb2,Nat.le_trans x.below.size hr1,hr2,fun b hb'=>⟨(hfb b hb').1,?_⟩⟩
  have:=(hfb b hb').2
  exact(hb2.block b (Array.getElem?_eq_some_iff.1 this).1).trans this
 ·rintro v fl g-w2 ⟨r,-,hst⟩
  exact(below_cell hst.1 hb0 _ rfl).trans hc0
 ·rintro-v w2 ⟨r,rfl,h1,h2,h3,-⟩
  exact⟨r,rfl,Below.all h1 _,h2,(heap_alloc_old _ _ (Array.getElem?_eq_some_iff.1 h3).1).trans h3,fun b hb'=>by cases hb';exact⟨h1.size,heap_alloc_new _ _⟩⟩
 rintro v ⟨fl0,w20,r,rfl,-⟩
 refine⟨fun v fl w2=>v=.tuple #[.agg #[.int .i64 8,.int .i64 6,.func (.func 187) #[] #[],.func (.func 188) #[] #[],.func (.func 189) #[] #[]],.bool true]∧ProtoSt y r fl w2,?_,fun _ _=>kept_top rfl,?_,?_⟩
 ·rintro fl-
  refine SeqRun.made rfl ?_
  rintro w' ⟨r',hr',hst⟩
  cases hr'
  exact⟨.tuple #[.agg #[.int .i64 8,.int .i64 6,.func (.func 187) #[] #[],.func (.func 188) #[] #[],.func (.func 189) #[] #[]],.bool true],w',exec_lookup _ _ (vm:=.map (some r)) (vx:=.int .u8 17) (by kernel_rfl) (by kernel_rfl) (HLK.out r w' hst.2.2.1),rfl,hst⟩
 ·rintro-v w2 ⟨h0,h1,h2,h3,-⟩
  exact⟨h0,Below.all h1 _,h2,(heap_alloc_old _ _ (Array.getElem?_eq_some_iff.1 h3).1).trans h3,fun b hb'=>by cases hb';exact⟨h1.size,heap_alloc_new _ _⟩⟩
 rintro v ⟨fl1,w21,rfl,-⟩
 refine⟨.tuple #[.agg #[.int .i64 8,.int .i64 6,.func (.func 187) #[] #[],.func (.func 188) #[] #[],.func (.func 189) #[] #[]],.bool true],⟨rfl,fun _=>by kernel_rfl⟩,?_⟩
 refine⟨.agg #[.int .i64 8,.int .i64 6,.func (.func 187) #[] #[],.func (.func 188) #[] #[],.func (.func 189) #[] #[]],⟨rfl,fun _=>by kernel_rfl⟩,?_⟩
 refine⟨.bool true,⟨rfl,fun _=>by kernel_rfl⟩,?_⟩
 intro bp
 refine⟨fun v fl w2=>v=undef∧Below y.heap.size y w2∧y.heap.size≤bp∧w2.heap[bp]? =some (.cells #[.int .i64 8,.int .i64 6,.func (.func 187) #[] #[],.func (.func 188) #[] #[],.func (.func 189) #[] #[]] 222 (0,0)),?_,fun _ _=>kept_top rfl,(fun h=>by cases h),?_⟩
 ·rintro fl rfl
  refine SeqRun.skip rfl ?_
  rintro w' ⟨-,hst⟩
  obtain⟨hbge,hbx⟩:=hst.2.2.2 bp rfl
  exact⟨_,do_store_pro _ w' bp #[.int .i64 8,.int .i64 6,.func (.func 187) #[] #[],.func (.func 188) #[] #[],.func (.func 189) #[] #[]] (by kernel_rfl) (by kernel_rfl) (by rw[rowFree_row _ _ _ _ _ hbx];rfl) rfl rfl,hst.1.trans (setRow_below _ hbge),hbge,setRow_row hbx⟩
 rintro v ⟨fl2,w22,rfl,-⟩
 refine⟨.bool true,⟨rfl,fun _=>by kernel_rfl⟩,?_⟩
 rintro zz ⟨-,hzz,hbge,hpz⟩
 have HZ:=Lib.hid (Below.via HB.out hzz)
 have HXZ:=Lib.hid ((hzz.block b0 hb0).trans HX.out)
 have HPZ:=Lib.hid hpz
 have hRZ:=Lib.hid ((HR.out.below HB.out).below hzz)
 have hbpz:bp<zz.heap.size:=(Array.getElem?_eq_some_iff.1 hpz).1
 have hb0z:b0<zz.heap.size:=Nat.lt_of_lt_of_le hb0 hzz.size
 have hne:bp≠b0:=by omega
 have hc2:zz.cell? ⟨bp,2,none⟩=some (.func (.func 187) #[] #[]):=cell_of_row _ _ 2 _ _ (0,0) hpz
 have hpt:partOf zz b0 0 12=#[.int .u8 17,.int .u16 a,.int .u16 b,.int .u32 0,.int .u32 0,.int .u8 0,.int .u16 0,.int .u16 0,.slice none 0 0,.int .u8 0,.int .u8 0,.slice oD n cD]:=partOf_all HXZ.out rfl
 clear hzz hpz hbge hc0 hb0 w20 w21 w22 fl0 fl1 fl2 HX HB HR HLK
 unfold ptrTo
 go_wp2_with fail
 refine Calls.mono (HP.out zz) ?_
 rintro e y2 ⟨rfl,hb2⟩
 have HZ2:=Lib.hid (Below.via HZ.out hb2)
 have HXZ2:=Lib.hid ((hb2.block b0 hb0z).trans HXZ.out)
 have HPZ2:=Lib.hid ((hb2.block bp hbpz).trans HPZ.out)
 have HRZ2:=Lib.hid (hRZ.out.below hb2)
 clear hb2 hpt hc2 hbpz hb0z HZ HXZ HPZ hRZ HP
 go_wp2_with fail
 have hx5:=heap_alloc_new y2 (.cells #[.int .u8 0,.int .u16 a,.int .u16 b,.int .u32 0,.int .u32 0,.int .u8 0,.int .u16 0,.int .u16 0,.slice none 0 0,.int .u8 0,.int .u8 0,.slice none 0 0] 149)
 have hB5:Below y2.heap.size y2 (y2.alloc (.cells #[.int .u8 0,.int .u16 a,.int .u16 b,.int .u32 0,.int .u32 0,.int .u8 0,.int .u16 0,.int .u16 0,.slice none 0 0,.int .u8 0,.int .u8 0,.slice none 0 0] 149)):=Below.all (Below.refl _ _) _
 have hb02:b0<y2.heap.size:=(Array.getElem?_eq_some_iff.1 HXZ2.out).1
 have hbp2:bp<y2.heap.size:=(Array.getElem?_eq_some_iff.1 HPZ2.out).1
 obtain⟨b5,hb5⟩:∃b,b=y2.heap.size:=⟨_,rfl⟩
 rw[←hb5] at hx5 hB5 hb02 hbp2⊢
 have HB5:=Lib.hid hB5
 have HZ3:=Lib.hid (HZ2.out.trans (hB5.mono (by rw[hb5];exact HZ2.out.size)))
 have HXZ3:=Lib.hid ((hB5.block b0 hb02).trans HXZ2.out)
 have HPZ3:=Lib.hid ((hB5.block bp hbp2).trans HPZ2.out)
 have HRZ3:=Lib.hid (HRZ2.out.below (by rw[←hb5];exact hB5))
 have hs5:w.heap.size≤b5:=by rw[hb5];exact HZ2.out.size
 generalize y2.alloc (.cells #[.int .u8 0,.int .u16 a,.int .u16 b,.int .u32 0,.int .u32 0,.int .u8 0,.int .u16 0,.int .u16 0,.slice none 0 0,.int .u8 0,.int .u8 0,.slice none 0 0] 149)=y3 at*
 have HX5:=Lib.hid hx5
 clear hx5 hB5 HB5 HXZ2 HPZ2 HRZ2 HZ2 hb5 y2
 have hc0:y3.cell? ⟨b0,0,none⟩=some (.int .u8 17):=cell_of_row _ _ 0 _ _ (0,0) HXZ3.out
 have hc11:y3.cell? ⟨b0,11,none⟩=some (.slice oD n cD):=cell_of_row _ _ 11 _ _ (0,0) HXZ3.out
 have hb03:b0<y3.heap.size:=(Array.getElem?_eq_some_iff.1 HXZ3.out).1
 have hb53:b5<y3.heap.size:=(Array.getElem?_eq_some_iff.1 HX5.out).1
 refine wp_region_sc [.h,.h,.h,.h] [(2,1,0),(3,1,0)] (fun _ w'=>w'.cell? ⟨b0,11,none⟩=some (.slice oD n cD)) [1] [(.q,4),(.w,5),(.q,6),(.w,7)] (by kernel_rfl) (by kernel_rfl) (by kernel_rfl) (by kernel_rfl) ?_
 apply Exists.intro
 refine⟨fun wx hbx=>?_,?_,?_⟩
 ·have hcx:wx.cell? ⟨b0,0,none⟩=some (.int .u8 17):=(below_cell hbx hb03 _ rfl).trans hc0
  have hcx11:wx.cell? ⟨b0,11,none⟩=some (.slice oD n cD):=(below_cell hbx hb03 _ rfl).trans hc11
  have hbx2:b0<wx.heap.size:=Nat.lt_of_lt_of_le hb03 hbx.size
  simp only[headsL]
  repeat go_big_quiet_step (fail)
  exact wpQuiet_nil rfl
 ·intro q hq oi hoi
  simp only[List.mem_cons,List.not_mem_nil,or_false] at hq
  rcases hq with rfl|rfl
  ·cases hoi;exact⟨_,rfl,rfl,fun w2 hw=>by kernel_rfl⟩
  ·cases hoi;exact⟨_,rfl,rfl,fun w2 hw=>by simp[execOp,go_sem,hw]⟩
 simp only[opsAt,List.getElem?_cons_succ,List.getElem?_cons_zero]
 refine⟨.pointer (some ⟨b5,0,none⟩),⟨rfl,fun _=>by kernel_rfl⟩,?_⟩
 refine⟨fun v fl w2=>v=undef∧Below b5 y3 w2∧w2.heap[b5]? =some (.cells #[.int .u8 17,.int .u16 a,.int .u16 b,.int .u32 0,.int .u32 0,.int .u8 0,.int .u16 0,.int .u16 0,.slice none 0 0,.int .u8 0,.int .u8 0,.slice none 0 0] 149 (0,0)),?_,?_,(fun h=>by cases h),?_⟩
 ·rintro fl rfl
  refine SeqRun.skip rfl ?_
  rintro w' ⟨⟨x,rfl⟩,-⟩
  have hx':=(x.below.block b5 hb53).trans HX5.out
  have q1:=cell_of_row _ _ 0 _ _ (0,0) hx'
  have q2:=frozen_of_row _ _ 0 _ _ hx'
  refine⟨_,?_,((x.below.mono (Nat.le_of_lt hb53)).setCell (Nat.le_refl _) (.int .u8 17)),seg_set0 (.int .u8 17) hx'⟩
  simp[execOp,go_sem,q1,q2]
 ·rintro v fl g-w2 ⟨-,hb,-⟩
  exact(World.cell?_of_block (a:=⟨b0,11,none⟩) (hb.block b0 hb02)).trans hc11
 rintro v ⟨fl3,w23,rfl,-⟩
 refine⟨.pointer (some ⟨b5,11,none⟩),⟨rfl,fun _=>by kernel_rfl⟩,?_⟩
 refine⟨fun v fl w2=>v=undef∧Below b5 y3 w2∧w2.heap[b5]? =some (.cells #[.int .u8 17,.int .u16 a,.int .u16 b,.int .u32 0,.int .u32 0,.int .u8 0,.int .u16 0,.int .u16 0,.slice none 0 0,.int .u8 0,.int .u8 0,.slice oD n cD] 149 (0,0)),?_,fun _ _=>kept_top rfl,(fun h=>by cases h),?_⟩
 ·rintro fl rfl
  refine SeqRun.skip rfl ?_
  rintro w' ⟨-,hb,hx'⟩
  have q1:=cell_of_row _ _ 11 _ _ (0,0) hx'
  have q2:=frozen_of_row _ _ 11 _ _ hx'
  refine⟨_,?_,hb.setCell (Nat.le_refl _) (.slice oD n cD),seg_set11 (.slice oD n cD) hx'⟩
  simp[execOp,go_sem,q1,q2]
 rintro v ⟨fl4,w24,rfl,-⟩
 rintro y4 ⟨-,hb4,hx4⟩
 have HZ4:=Lib.hid (HZ3.out.trans (hb4.mono hs5))
 have HXZ4:=Lib.hid ((hb4.block b0 hb02).trans HXZ3.out)
 have HPZ4:=Lib.hid ((hb4.block bp hbp2).trans HPZ3.out)
 have HX54:=Lib.hid hx4
 have HR4:=Lib.hid (hR0.out.below HZ4.out)
 have hpt0:partOf y4 b0 0 12=#[.int .u8 17,.int .u16 a,.int .u16 b,.int .u32 0,.int .u32 0,.int .u8 0,.int .u16 0,.int .u16 0,.slice none 0 0,.int .u8 0,.int .u8 0,.slice oD n cD]:=partOf_all HXZ4.out rfl
 have hpt5:partOf y4 b5 0 12=#[.int .u8 17,.int .u16 a,.int .u16 b,.int .u32 0,.int .u32 0,.int .u8 0,.int .u16 0,.int .u16 0,.slice none 0 0,.int .u8 0,.int .u8 0,.slice oD n cD]:=partOf_all hx4 rfl
 clear hb4 hx4 hc0 hc11 hb03 hb53 HXZ3 HPZ3 HZ3 HRZ3 HX5 hs5
 go_wp2_with fail
 refine Calls.mono (HSM.out y4 HR4.out) ?_
 rintro e y5 ⟨rfl,hb⟩
 have HZ5:=Lib.hid (Below.via HZ4.out hb)
 have hxz:=(hb.block b0 (Array.getElem?_eq_some_iff.1 HXZ4.out).1).trans HXZ4.out
 have hpz:=(hb.block bp (Array.getElem?_eq_some_iff.1 HPZ4.out).1).trans HPZ4.out
 have hc8:y5.cell? ⟨b0,8,none⟩=some (.slice none 0 0):=cell_of_row _ _ 8 _ _ (0,0) hxz
 have hpt0:partOf y5 b0 0 12=#[.int .u8 17,.int .u16 a,.int .u16 b,.int .u32 0,.int .u32 0,.int .u8 0,.int .u16 0,.int .u16 0,.slice none 0 0,.int .u8 0,.int .u8 0,.slice oD n cD]:=partOf_all hxz rfl
 have hptp:partOf y5 bp 0 5=#[.int .i64 8,.int .i64 6,.func (.func 187) #[] #[],.func (.func 188) #[] #[],.func (.func 189) #[] #[]]:=partOf_all hpz rfl
 clear hb hxz hpz HXZ4 HPZ4 HX54 HZ4 HR4
 go_wp2_with fail
 refine Calls.mono (HTL.out y5) ?_
 rintro e y6 ⟨rfl,hb⟩
 have HZ6:=Lib.hid (Below.via HZ5.out hb)
 clear hb hpt0 hptp hc8
 go_wp2_with fail
 go_ret
 exact .mk rfl HZ6.out
theorem tright_icmp (p ty cd:Int)(oD:Option Addr)(n cD:Nat)(l:List Int)(w:World)(hr:Reads w oD n cD l)(hn:n≤60000)(hp:p=1∨p=58):
 Calls Tryz.prog 152 #[.agg (segV p 0 0 0 ty cd oD n cD)] w (RetAt w (.bool true)):=by
 have hR0:=Lib.hid hr
 have HR:=Lib.hid hr
 have HLK:Hid (∀r w',w'.heap[r]? =some (.map protoRows 4)→(Instr.lookup 224 (.map (some r)) (.int .u8 p) true).run Tryz.prog w'=.ok (.tuple #[.agg #[.int .i64 4,.int .i64 2,.func (.func 181) #[] #[],.func (.func 182) #[] #[],.func (.func 183) #[] #[]],.bool true]) w'):=Lib.hid (fun r w' h=>by have:=proto_lookup p (.inr (.inr hp)) r w' h;rwa [show protoOf p=protoIcmp by rcases hp with rfl|rfl<;>rfl] at this)
 have HP:Hid (∀w',Calls Tryz.prog 181 #[.agg #[.int .u8 p,.int .u16 0,.int .u16 0,.int .u32 0,.int .u32 0,.int .u8 0,.int .u16 0,.int .u16 0,.slice none 0 0,.int .u8 ty,.int .u8 cd,.slice oD n cD]] w' (RetAt w' (.agg #[.int .u8 0,.int .u16 0,.int .u16 0,.int .u32 0,.int .u32 0,.int .u8 0,.int .u16 0,.int .u16 0,.slice none 0 0,.int .u8 ty,.int .u8 cd,.slice none 0 0]))):=Lib.hid (fun w'=>proto1_any p 0 0 0 ty cd oD n cD w')
 have HSM:Hid (∀w',Reads w' oD n cD l→Calls Tryz.prog 195 #[.agg #[.int .u8 p,.int .u16 0,.int .u16 0,.int .u32 0,.int .u32 0,.int .u8 0,.int .u16 0,.int .u16 0,.slice none 0 0,.int .u8 ty,.int .u8 cd,.slice oD n cD],.agg #[.int .u8 p,.int .u16 0,.int .u16 0,.int .u32 0,.int .u32 0,.int .u8 0,.int .u16 0,.int .u16 0,.slice none 0 0,.int .u8 ty,.int .u8 cd,.slice oD n cD]] w' (RetAt w' (.bool true))):=Lib.hid (fun w' h=>tsame_any p 0 0 0 ty cd oD n cD l w' h)
 have HTL:Hid (∀w',Calls Tryz.prog 138 #[.agg #[.int .i64 4,.int .i64 2,.func (.func 181) #[] #[],.func (.func 182) #[] #[],.func (.func 183) #[] #[]],.agg #[.int .u8 p,.int .u16 0,.int .u16 0,.int .u32 0,.int .u32 0,.int .u8 0,.int .u16 0,.int .u16 0,.slice none 0 0,.int .u8 ty,.int .u8 cd,.slice oD n cD]] w' (RetAt w' (.int .i64 (4+(n:Int))))):=Lib.hid (fun w'=>tlength_any 4 _ _ _ _ p 0 0 0 ty cd oD n cD w' (by decide) (by omega))
 have hx:=heap_alloc_new w (.cells (segV p 0 0 0 ty cd oD n cD) 149)
 have hB:Below w.heap.size w (w.alloc (.cells (segV p 0 0 0 ty cd oD n cD) 149)):=Below.all (Below.refl _ _) _
 unfold segV at hx hB⊢
 have hle:decide ((4:Int)+(n:Int)≤65535)=true:=by simp;omega
 clear hr hp
 go_enter Tryz.func152,Tryz.ntmps152
 go_wp2_with fail
 obtain⟨b0,hb0e⟩:∃b,b=w.heap.size:=⟨_,rfl⟩
 rw[←hb0e] at hx⊢
 have HE0:=Lib.hid hb0e
 clear hb0e
 generalize hy:w.alloc (.cells #[.int .u8 p,.int .u16 0,.int .u16 0,.int .u32 0,.int .u32 0,.int .u8 0,.int .u16 0,.int .u16 0,.slice none 0 0,.int .u8 ty,.int .u8 cd,.slice oD n cD] 149)=y at*
 have hb0:b0<y.heap.size:=(Array.getElem?_eq_some_iff.1 hx).1
 have hc0:y.cell? ⟨b0,0,none⟩=some (.int .u8 p):=cell_of_row _ _ 0 _ _ (0,0) hx
 have HX:=Lib.hid hx
 have HB:=Lib.hid hB
 clear hx hB hy
 refine wp_region_fl [.w,.h,.h] [(1,1,0),(2,1,0)] (fun _ w'=>w'.cell? ⟨b0,0,none⟩=some (.int .u8 p)) [1] [(.w,0),(.w,3),(.q,4),(.q,5),(.q,6)] [(.w,8),(.q,9)] 7 (.cells #[.int .i64 0,.int .i64 0,.nilFunc,.nilFunc,.nilFunc] 222) (by kernel_rfl) (by kernel_rfl) rfl rfl ⟨fun _=>rfl,fun _ _=>by kernel_rfl⟩ (by kernel_rfl) (by kernel_rfl) ?_
 apply Exists.intro
 refine⟨fun wx hbx=>?_,?_,?_⟩
 ·have hcx:wx.cell? ⟨b0,0,none⟩=some (.int .u8 p):=(below_cell hbx hb0 _ rfl).trans hc0
  have hbx2:b0<wx.heap.size:=Nat.lt_of_lt_of_le hb0 hbx.size
  simp only[headsL]
  repeat go_big_quiet_step (fail)
  exact wpQuiet_nil rfl
 ·intro q hq oi hoi
  simp only[List.mem_cons,List.not_mem_nil,or_false] at hq
  rcases hq with rfl|rfl
  ·cases hoi;exact⟨_,rfl,rfl,fun w2 hw=>by kernel_rfl⟩
  ·cases hoi;exact⟨_,rfl,rfl,fun w2 hw=>by simp[execOp,go_sem,hw]⟩
 simp only[opsAt,List.getElem?_cons_succ,List.getElem?_cons_zero]
 refine⟨fun v fl w2=>∃r,v=.map (some r)∧ProtoSt y r fl w2,?_,?_,?_,?_⟩
 ·rintro fl-
  refine⟨rfl,fun w' hw'=>.inr ⟨136,#[],by kernel_rfl,?_⟩⟩
  obtain⟨⟨x,rfl⟩,hfb⟩:=hw'
  refine(protocols_any x.world).mono ?_
  rintro e w2 ⟨r,rfl,hr1,hr2,hb2⟩
  refine⟨_,rfl,r,rfl,Below.via x.below hb2,Nat.le_trans x.below.size hr1,hr2,fun b hb'=>⟨(hfb b hb').1,?_⟩⟩
  have:=(hfb b hb').2
  exact(hb2.block b (Array.getElem?_eq_some_iff.1 this).1).trans this
 ·rintro v fl g-w2 ⟨r,-,hst⟩
  exact(below_cell hst.1 hb0 _ rfl).trans hc0
 ·rintro-v w2 ⟨r,rfl,h1,h2,h3,-⟩
  exact⟨r,rfl,Below.all h1 _,h2,(heap_alloc_old _ _ (Array.getElem?_eq_some_iff.1 h3).1).trans h3,fun b hb'=>by cases hb';exact⟨h1.size,heap_alloc_new _ _⟩⟩
 rintro v ⟨fl0,w20,r,rfl,-⟩
 refine⟨fun v fl w2=>v=.tuple #[.agg #[.int .i64 4,.int .i64 2,.func (.func 181) #[] #[],.func (.func 182) #[] #[],.func (.func 183) #[] #[]],.bool true]∧ProtoSt y r fl w2,?_,fun _ _=>kept_top rfl,?_,?_⟩
 ·rintro fl-
  refine SeqRun.made rfl ?_
  rintro w' ⟨r',hr',hst⟩
  cases hr'
  exact⟨.tuple #[.agg #[.int .i64 4,.int .i64 2,.func (.func 181) #[] #[],.func (.func 182) #[] #[],.func (.func 183) #[] #[]],.bool true],w',exec_lookup _ _ (vm:=.map (some r)) (vx:=.int .u8 p) (by kernel_rfl) (by kernel_rfl) (HLK.out r w' hst.2.2.1),rfl,hst⟩
 ·rintro-v w2 ⟨h0,h1,h2,h3,-⟩
  exact⟨h0,Below.all h1 _,h2,(heap_alloc_old _ _ (Array.getElem?_eq_some_iff.1 h3).1).trans h3,fun b hb'=>by cases hb';exact⟨h1.size,heap_alloc_new _ _⟩⟩
 rintro v ⟨fl1,w21,rfl,-⟩
 refine⟨.tuple #[.agg #[.int .i64 4,.int .i64 2,.func (.func 181) #[] #[],.func (.func 182) #[] #[],.func (.func 183) #[] #[]],.bool true],⟨rfl,fun _=>by kernel_rfl⟩,?_⟩
 refine⟨.agg #[.int .i64 4,.int .i64 2,.func (.func 181) #[] #[],.func (.func 182) #[] #[],.func (.func 183) #[] #[]],⟨rfl,fun _=>by kernel_rfl⟩,?_⟩
 refine⟨.bool true,⟨rfl,fun _=>by kernel_rfl⟩,?_⟩
 intro bp
 refine⟨fun v fl w2=>v=undef∧Below y.heap.size y w2∧y.heap.size≤bp∧w2.heap[bp]? =some (.cells #[.int .i64 4,.int .i64 2,.func (.func 181) #[] #[],.func (.func 182) #[] #[],.func (.func 183) #[] #[]] 222 (0,0)),?_,fun _ _=>kept_top rfl,(fun h=>by cases h),?_⟩
 ·rintro fl rfl
  refine SeqRun.skip rfl ?_
  rintro w' ⟨-,hst⟩
  obtain⟨hbge,hbx⟩:=hst.2.2.2 bp rfl
  exact⟨_,do_store_pro _ w' bp #[.int .i64 4,.int .i64 2,.func (.func 181) #[] #[],.func (.func 182) #[] #[],.func (.func 183) #[] #[]] (by kernel_rfl) (by kernel_rfl) (by rw[rowFree_row _ _ _ _ _ hbx];rfl) rfl rfl,hst.1.trans (setRow_below _ hbge),hbge,setRow_row hbx⟩
 rintro v ⟨fl2,w22,rfl,-⟩
 refine⟨.bool true,⟨rfl,fun _=>by kernel_rfl⟩,?_⟩
 rintro zz ⟨-,hzz,hbge,hpz⟩
 have HZ:=Lib.hid (Below.via HB.out hzz)
 have HXZ:=Lib.hid ((hzz.block b0 hb0).trans HX.out)
 have HPZ:=Lib.hid hpz
 have hRZ:=Lib.hid ((HR.out.below HB.out).below hzz)
 have hbpz:bp<zz.heap.size:=(Array.getElem?_eq_some_iff.1 hpz).1
 have hb0z:b0<zz.heap.size:=Nat.lt_of_lt_of_le hb0 hzz.size
 have hne:bp≠b0:=by omega
 have hc2:zz.cell? ⟨bp,2,none⟩=some (.func (.func 181) #[] #[]):=cell_of_row _ _ 2 _ _ (0,0) hpz
 have hpt:partOf zz b0 0 12=#[.int .u8 p,.int .u16 0,.int .u16 0,.int .u32 0,.int .u32 0,.int .u8 0,.int .u16 0,.int .u16 0,.slice none 0 0,.int .u8 ty,.int .u8 cd,.slice oD n cD]:=partOf_all HXZ.out rfl
 clear hzz hpz hbge hc0 hb0 w20 w21 w22 fl0 fl1 fl2 HX HB HR HLK
 unfold ptrTo
 go_wp2_with fail
 refine Calls.mono (HP.out zz) ?_
 rintro e y2 ⟨rfl,hb2⟩
 have HZ2:=Lib.hid (Below.via HZ.out hb2)
 have HXZ2:=Lib.hid ((hb2.block b0 hb0z).trans HXZ.out)
 have HPZ2:=Lib.hid ((hb2.block bp hbpz).trans HPZ.out)
 have HRZ2:=Lib.hid (hRZ.out.below hb2)
 clear hb2 hpt hc2 hbpz hb0z HZ HXZ HPZ hRZ HP
 go_wp2_with fail
 have hx5:=heap_alloc_new y2 (.cells #[.int .u8 0,.int .u16 0,.int .u16 0,.int .u32 0,.int .u32 0,.int .u8 0,.int .u16 0,.int .u16 0,.slice none 0 0,.int .u8 ty,.int .u8 cd,.slice none 0 0] 149)
 have hB5:Below y2.heap.size y2 (y2.alloc (.cells #[.int .u8 0,.int .u16 0,.int .u16 0,.int .u32 0,.int .u32 0,.int .u8 0,.int .u16 0,.int .u16 0,.slice none 0 0,.int .u8 ty,.int .u8 cd,.slice none 0 0] 149)):=Below.all (Below.refl _ _) _
 have hb02:b0<y2.heap.size:=(Array.getElem?_eq_some_iff.1 HXZ2.out).1
 have hbp2:bp<y2.heap.size:=(Array.getElem?_eq_some_iff.1 HPZ2.out).1
 obtain⟨b5,hb5⟩:∃b,b=y2.heap.size:=⟨_,rfl⟩
 rw[←hb5] at hx5 hB5 hb02 hbp2⊢
 have HB5:=Lib.hid hB5
 have HZ3:=Lib.hid (HZ2.out.trans (hB5.mono (by rw[hb5];exact HZ2.out.size)))
 have HXZ3:=Lib.hid ((hB5.block b0 hb02).trans HXZ2.out)
 have HPZ3:=Lib.hid ((hB5.block bp hbp2).trans HPZ2.out)
 have HRZ3:=Lib.hid (HRZ2.out.below (by rw[←hb5];exact hB5))
 have hs5:w.heap.size≤b5:=by rw[hb5];exact HZ2.out.size
 generalize y2.alloc (.cells #[.int .u8 0,.int .u16 0,.int .u16 0,.int .u32 0,.int .u32 0,.int .u8 0,.int .u16 0,.int .u16 0,.slice none 0 0,.int .u8 ty,.int .u8 cd,.slice none 0 0] 149)=y3 at*
 have HX5:=Lib.hid hx5
 clear hx5 hB5 HB5 HXZ2 HPZ2 HRZ2 HZ2 hb5 y2
 have hc0:y3.cell? ⟨b0,0,none⟩=some (.int .u8 p):=cell_of_row _ _ 0 _ _ (0,0) HXZ3.out
 have hc11:y3.cell? ⟨b0,11,none⟩=some (.slice oD n cD):=cell_of_row _ _ 11 _ _ (0,0) HXZ3.out
 have hb03:b0<y3.heap.size:=(Array.getElem?_eq_some_iff.1 HXZ3.out).1
 have hb53:b5<y3.heap.size:=(Array.getElem?_eq_some_iff.1 HX5.out).1
 refine wp_region_sc [.h,.h,.h,.h] [(2,1,0),(3,1,0)] (fun _ w'=>w'.cell? ⟨b0,11,none⟩=some (.slice oD n cD)) [1] [(.q,4),(.w,5),(.q,6),(.w,7)] (by kernel_rfl) (by kernel_rfl) (by kernel_rfl) (by kernel_rfl) ?_
 apply Exists.intro
 refine⟨fun wx hbx=>?_,?_,?_⟩
 ·have hcx:wx.cell? ⟨b0,0,none⟩=some (.int .u8 p):=(below_cell hbx hb03 _ rfl).trans hc0
  have hcx11:wx.cell? ⟨b0,11,none⟩=some (.slice oD n cD):=(below_cell hbx hb03 _ rfl).trans hc11
  have hbx2:b0<wx.heap.size:=Nat.lt_of_lt_of_le hb03 hbx.size
  simp only[headsL]
  repeat go_big_quiet_step (fail)
  exact wpQuiet_nil rfl
 ·intro q hq oi hoi
  simp only[List.mem_cons,List.not_mem_nil,or_false] at hq
  rcases hq with rfl|rfl
  ·cases hoi;exact⟨_,rfl,rfl,fun w2 hw=>by kernel_rfl⟩
  ·cases hoi;exact⟨_,rfl,rfl,fun w2 hw=>by simp[execOp,go_sem,hw]⟩
 simp only[opsAt,List.getElem?_cons_succ,List.getElem?_cons_zero]
 refine⟨.pointer (some ⟨b5,0,none⟩),⟨rfl,fun _=>by kernel_rfl⟩,?_⟩
 refine⟨fun v fl w2=>v=undef∧Below b5 y3 w2∧w2.heap[b5]? =some (.cells #[.int .u8 p,.int .u16 0,.int .u16 0,.int .u32 0,.int .u32 0,.int .u8 0,.int .u16 0,.int .u16 0,.slice none 0 0,.int .u8 ty,.int .u8 cd,.slice none 0 0] 149 (0,0)),?_,?_,(fun h=>by cases h),?_⟩
 ·rintro fl rfl
  refine SeqRun.skip rfl ?_
  rintro w' ⟨⟨x,rfl⟩,-⟩
  have hx':=(x.below.block b5 hb53).trans HX5.out
  have q1:=cell_of_row _ _ 0 _ _ (0,0) hx'
  have q2:=frozen_of_row _ _ 0 _ _ hx'
  refine⟨_,?_,((x.below.mono (Nat.le_of_lt hb53)).setCell (Nat.le_refl _) (.int .u8 p)),seg_set0 (.int .u8 p) hx'⟩
  simp[execOp,go_sem,q1,q2]
 ·rintro v fl g-w2 ⟨-,hb,-⟩
  exact(World.cell?_of_block (a:=⟨b0,11,none⟩) (hb.block b0 hb02)).trans hc11
 rintro v ⟨fl3,w23,rfl,-⟩
 refine⟨.pointer (some ⟨b5,11,none⟩),⟨rfl,fun _=>by kernel_rfl⟩,?_⟩
 refine⟨fun v fl w2=>v=undef∧Below b5 y3 w2∧w2.heap[b5]? =some (.cells #[.int .u8 p,.int .u16 0,.int .u16 0,.int .u32 0,.int .u32 0,.int .u8 0,.int .u16 0,.int .u16 0,.slice none 0 0,.int .u8 ty,.int .u8 cd,.slice oD n cD] 149 (0,0)),?_,fun _ _=>kept_top rfl,(fun h=>by cases h),?_⟩
 ·rintro fl rfl
  refine SeqRun.skip rfl ?_
  rintro w' ⟨-,hb,hx'⟩
  have q1:=cell_of_row _ _ 11 _ _ (0,0) hx'
  have q2:=frozen_of_row _ _ 11 _ _ hx'
  refine⟨_,?_,hb.setCell (Nat.le_refl _) (.slice oD n cD),seg_set11 (.slice oD n cD) hx'⟩
  simp[execOp,go_sem,q1,q2]
 rintro v ⟨fl4,w24,rfl,-⟩
 rintro y4 ⟨-,hb4,hx4⟩
 have HZ4:=Lib.hid (HZ3.out.trans (hb4.mono hs5))
 have HXZ4:=Lib.hid ((hb4.block b0 hb02).trans HXZ3.out)
 have HPZ4:=Lib.hid ((hb4.block bp hbp2).trans HPZ3.out)
 have HX54:=Lib.hid hx4
 have HR4:=Lib.hid (hR0.out.below HZ4.out)
 have hpt0:partOf y4 b0 0 12=#[.int .u8 p,.int .u16 0,.int .u16 0,.int .u32 0,.int .u32 0,.int .u8 0,.int .u16 0,.int .u16 0,.slice none 0 0,.int .u8 ty,.int .u8 cd,.slice oD n cD]:=partOf_all HXZ4.out rfl
 have hpt5:partOf y4 b5 0 12=#[.int .u8 p,.int .u16 0,.int .u16 0,.int .u32 0,.int .u32 0,.int .u8 0,.int .u16 0,.int .u16 0,.slice none 0 0,.int .u8 ty,.int .u8 cd,.slice oD n cD]:=partOf_all hx4 rfl
 clear hb4 hx4 hc0 hc11 hb03 hb53 HXZ3 HPZ3 HZ3 HRZ3 HX5 hs5
 go_wp2_with fail
 refine Calls.mono (HSM.out y4 HR4.out) ?_
 rintro e y5 ⟨rfl,hb⟩
 have HZ5:=Lib.hid (Below.via HZ4.out hb)
 have hxz:=(hb.block b0 (Array.getElem?_eq_some_iff.1 HXZ4.out).1).trans HXZ4.out
 have hpz:=(hb.block bp (Array.getElem?_eq_some_iff.1 HPZ4.out).1).trans HPZ4.out
 have hc8:y5.cell? ⟨b0,8,none⟩=some (.slice none 0 0):=cell_of_row _ _ 8 _ _ (0,0) hxz
 have hpt0:partOf y5 b0 0 12=#[.int .u8 p,.int .u16 0,.int .u16 0,.int .u32 0,.int .u32 0,.int .u8 0,.int .u16 0,.int .u16 0,.slice none 0 0,.int .u8 ty,.int .u8 cd,.slice oD n cD]:=partOf_all hxz rfl
 have hptp:partOf y5 bp 0 5=#[.int .i64 4,.int .i64 2,.func (.func 181) #[] #[],.func (.func 182) #[] #[],.func (.func 183) #[] #[]]:=partOf_all hpz rfl
 clear hb hxz hpz HXZ4 HPZ4 HX54 HZ4 HR4
 go_wp2_with fail
 refine Calls.mono (HTL.out y5) ?_
 rintro e y6 ⟨rfl,hb⟩
 have HZ6:=Lib.hid (Below.via HZ5.out hb)
 clear hb hpt0 hptp hc8
 go_wp2_with fail
 go_ret
 exact .mk rfl HZ6.out
end
end Go.Proofs.YtkgjbipfhhjlpaaGreatDoor
