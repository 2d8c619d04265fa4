import Derived.Test.YtkgjbipfhhjlpaaGreatDoorMp12
set_option linter.unusedVariables false
set_option linter.unusedSimpArgs false
set_option maxRecDepth 100000
set_option maxHeartbeats 32000000
namespace Go.Proofs.YtkgjbipfhhjlpaaGreatDoor
section
open Go.RowKit Bits
theorem rbit_any (b:Bool)(v:Int)(w:World):Calls Tryz.prog 157 #[.bool b,.int .u64 v] w (RetAt w (.int .u64 (if b then v else 0))):=by
 cases b
 ·go_enter Tryz.func157,Tryz.ntmps157
  go_wp2_with fail
  go_ret
  exact .mk (val_int rfl) (Below.refl _ _)
 ·go_enter Tryz.func157,Tryz.ntmps157
  go_wp2_with fail
  go_ret
  exact .mk (val_int rfl) (Below.refl _ _)
def ripV (h:IpH):Array Value:=#[.int .u8 h.tos,.int .u16 h.total,.int .u16 h.id,.bool h.df,.bool h.mf,.int .u16 h.frag,.int .u8 h.ttl,.int .u8 h.proto,.string (strOfNums h.src),.string (strOfNums h.dst),.string (strOfNums h.opt)]
theorem ripright_any (h:IpH)(w:World)(hn:h.opt.length≤100000)(ht:0≤h.total∧h.total<65536):Calls Tryz.prog 102 #[.agg (ripV h)] w (RetAt w (.bool (ipRight h))):=by
 have HV:Hid (ipRight h=(decide (h.frag≤8191)&&(decide (h.opt.length%4=0)&&(decide (h.opt.length≤40)&&decide (20+(h.opt.length:Int)≤h.total))))):=Lib.hid rfl
 have hsz:(strOfNums h.opt).size=h.opt.length:=strOfNums_size _
 generalize ipRight h=R at*
 unfold ripV
 generalize strOfNums h.opt=S at*
 generalize strOfNums h.src=S1 at*
 generalize strOfNums h.dst=S2 at*
 generalize h.opt.length=n at*
 generalize h.frag=fr at*
 generalize h.total=tot at*
 by_cases h1:fr≤8191
 ·have d1:decide (fr<8192)=true:=by simp;omega
  by_cases h2:n%4=0
  ·have hm:(Int.tmod (n:Int) 4==0)=true:=by rw[Int.tmod_eq_emod_of_nonneg (by omega)];simp;omega
   have hm2:((n:Int)%4==0)=true:=by simp;omega
   by_cases h3:n≤40
   ·have h3':decide ((n:Int)≤40)=true:=by simp;omega
    have HE:Hid (R=decide (20+(n:Int)≤tot)):=Lib.hid (by rw[HV.out,decide_eq_true h1,decide_eq_true h2,decide_eq_true h3];rfl)
    clear HV
    go_enter Tryz.func102,Tryz.ntmps102
    go_wp2_with fail
    go_ret
    refine .mk (val_bool ?_) (Below.all (Below.refl _ _) _)
    rw[HE.out]
   ·have h3':decide ((n:Int)≤40)=false:=by simp;omega
    have HE:Hid (R=false):=Lib.hid (by rw[HV.out,decide_eq_true h1,decide_eq_true h2,decide_eq_false h3];rfl)
    clear HV
    go_enter Tryz.func102,Tryz.ntmps102
    go_wp2_with fail
    go_ret
    exact .mk (val_bool HE.out.symm) (Below.all (Below.refl _ _) _)
  ·have hm:(Int.tmod (n:Int) 4==0)=false:=by rw[Int.tmod_eq_emod_of_nonneg (by omega)];simp;omega
   have hm2:((n:Int)%4==0)=false:=by simp;omega
   have HE:Hid (R=false):=Lib.hid (by rw[HV.out,decide_eq_true h1,decide_eq_false h2];rfl)
   clear HV
   go_enter Tryz.func102,Tryz.ntmps102
   go_wp2_with fail
   go_ret
   exact .mk (val_bool HE.out.symm) (Below.all (Below.refl _ _) _)
 ·have d1:decide (fr<8192)=false:=by simp;omega
  have HE:Hid (R=false):=Lib.hid (by rw[HV.out,decide_eq_false h1];rfl)
  clear HV
  go_enter Tryz.func102,Tryz.ntmps102
  go_wp2_with fail
  go_ret
  exact .mk (val_bool HE.out.symm) (Below.all (Below.refl _ _) _)
structure RowBox (w:World)(b0:Nat)(ob:Obj)(y:World)(oa:Option Addr)(n cap:Nat)(L:List Int):Prop where
 own:Owns y (b0+1) 1 oa n cap (L.map (.int .u8))
 box:y.heap[b0]? =some ob
 byte:IsBytes L
 out:Below w.heap.size w y
 lo:w.heap.size≤b0
theorem RowBox.lt {w:World}{b0:Nat}{ob:Obj}{y:World}{oa:Option Addr}{n cap:Nat}{L:List Int}(h:RowBox w b0 ob y oa n cap L):b0<y.heap.size:=(Array.getElem?_eq_some_iff.1 h.box).1
theorem RowBox.below {w:World}{b0:Nat}{ob:Obj}{y y':World}{oa:Option Addr}{n cap:Nat}{L:List Int}(h:RowBox w b0 ob y oa n cap L)(hb:Below y.heap.size y y'):RowBox w b0 ob y' oa n cap L:=
 ⟨h.own.below hb,(hb.block _ h.lt).trans h.box,h.byte,Below.via h.out hb,h.lo⟩
theorem RowBox.reads {w:World}{b0:Nat}{ob:Obj}{y:World}{oa:Option Addr}{n cap:Nat}{L:List Int}(h:RowBox w b0 ob y oa n cap L):Reads y oa n cap L:=h.own.reads h.byte
theorem RowBox.len {w:World}{b0:Nat}{ob:Obj}{y:World}{oa:Option Addr}{n cap:Nat}{L:List Int}(h:RowBox w b0 ob y oa n cap L):L.length=n:=h.reads.len
theorem RowBox.anew {w:World}{b0:Nat}{ob:Obj}{y y':World}{oa oa':Option Addr}{n n' cap cap':Nat}{L L':List Int}(h:RowBox w b0 ob y oa n cap L)(hb:Below y.heap.size y y')(ho:Owns y' y.heap.size 1 oa' n' cap' (L'.map (.int .u8)))(hl:IsBytes L'):RowBox w b0 ob y' oa' n' cap' L':=
 ⟨ho.mono h.lt,(hb.block _ h.lt).trans h.box,hl,Below.via h.out hb,h.lo⟩
theorem RowBox.start {w y y':World}{ob:Obj}{b0:Nat}(hy:y.heap[b0]? =some ob)(hw:Below w.heap.size w y)(hlo:w.heap.size≤b0){oa:Option Addr}{n cap:Nat}{L:List Int}(hb:Below y.heap.size y y')(ho:Owns y' y.heap.size 1 oa n cap (L.map (.int .u8)))(hl:IsBytes L):RowBox w b0 ob y' oa n cap L:=
 have hlt:b0<y.heap.size:=(Array.getElem?_eq_some_iff.1 hy).1
 ⟨ho.mono hlt,(hb.block _ hlt).trans hy,hl,Below.via hw hb,hlo⟩
theorem RowBox.app {w:World}{b0:Nat}{ob:Obj}{y y':World}{oa oa':Option Addr}{n n' cap cap':Nat}{L l:List Int}(h:RowBox w b0 ob y oa n cap L)(ho:Owns y' (b0+1) 1 oa' n' cap' (L.map (.int .u8)++l.map (.int .u8)))(hg:y.grownBy y' (oa.map Addr.block))(hl:IsBytes l):RowBox w b0 ob y' oa' n' cap' (L++l):=by
 have hb:Below (b0+1) y y':=Below.appended (Below.refl _ _) h.own (Nat.le_refl _) hg h.lt
 exact⟨by rw[List.map_append];exact ho,(hb.block _ (Nat.lt_succ_self _)).trans h.box,isBytes_app h.byte hl,h.out.trans (hb.mono (Nat.le_succ_of_le h.lo)),h.lo⟩
theorem refPut1 (v:Int)(h:0≤v∧v<256):refPut v 1=[v]:=by
 simp[refPut];omega
theorem refPut2 (v:Int):refPut v 2=be2 v:=by simp[refPut,be2]
def BodyPost (w:World)(L:List Int)(err:Int):Ending→World→Prop:=fun e w'=>∃oa cap,e=.returned (.tuple #[.slice oa L.length cap,.int .i64 err])∧Reads w' oa L.length cap L∧Below w.heap.size w w'
theorem BodyPost.mk {w w':World}{L:List Int}{err:Int}{oa:Option Addr}{n cap:Nat}(hr:Reads w' oa n cap L)(hb:Below w.heap.size w w'):BodyPost w L err (.returned (.tuple #[.slice oa n cap,.int .i64 err])) w':=by
 obtain rfl:=hr.len
 exact⟨oa,cap,rfl,hr,hb⟩
structure SxH where
 cls:Int
 flow:Int
 len:Int
 nxt:Int
 hops:Int
 src:List Int
 dst:List Int
structure SxOk (h:SxH):Prop where
 cls:0≤h.cls∧h.cls<256
 flow:0≤h.flow∧h.flow<4294967296
 len:0≤h.len∧h.len<65536
 nxt:0≤h.nxt∧h.nxt<256
 hops:0≤h.hops∧h.hops<256
 src:h.src.length=16∧IsBytes h.src
 dst:h.dst.length=16∧IsBytes h.dst
def sxF (c f l n o:Int)(S D:Nat→Int):Array Value:=#[.int .u8 c,.int .u32 f,.int .u16 l,.int .u8 n,.int .u8 o,.int .u8 (S 0),.int .u8 (S 1),.int .u8 (S 2),.int .u8 (S 3),.int .u8 (S 4),.int .u8 (S 5),.int .u8 (S 6),.int .u8 (S 7),.int .u8 (S 8),.int .u8 (S 9),.int .u8 (S 10),.int .u8 (S 11),.int .u8 (S 12),.int .u8 (S 13),.int .u8 (S 14),.int .u8 (S 15),.int .u8 (D 0),.int .u8 (D 1),.int .u8 (D 2),.int .u8 (D 3),.int .u8 (D 4),.int .u8 (D 5),.int .u8 (D 6),.int .u8 (D 7),.int .u8 (D 8),.int .u8 (D 9),.int .u8 (D 10),.int .u8 (D 11),.int .u8 (D 12),.int .u8 (D 13),.int .u8 (D 14),.int .u8 (D 15)]
def sxV (h:SxH):Array Value:=sxF h.cls h.flow h.len h.nxt h.hops (fun i=>h.src.getD i 0) (fun i=>h.dst.getD i 0)
def sxPutErr (h:SxH):Int:=if h.flow<1048576 then 0 else 51
def sxBytes (h:SxH):List Int:=be4 (1610612736+h.cls*1048576+h.flow)++be2 h.len++[h.nxt,h.hops]++h.src++h.dst
def sxPutL (h:SxH):List Int:=if h.flow<1048576 then sxBytes h else []
structure BoxWr (w:World)(b0:Nat)(ob:Obj)(p:Nat)(y:World)(L:List Int):Prop where
 wr:Wr y p L
 box:y.heap[b0]? =some ob
 out:Below w.heap.size w y
 lo:w.heap.size≤b0
 lt0:b0<p
theorem BoxWr.below {w:World}{b0:Nat}{ob:Obj}{p:Nat}{y y':World}{L:List Int}(h:BoxWr w b0 ob p y L)(hb:Below y.heap.size y y'):BoxWr w b0 ob p y' L:=
 ⟨h.wr.below hb,(hb.block _ (Nat.lt_trans h.lt0 h.wr.lt)).trans h.box,Below.via h.out hb,h.lo,h.lt0⟩
theorem BoxWr.belowP {w:World}{b0:Nat}{ob:Obj}{p:Nat}{y y':World}{L L':List Int}(h:BoxWr w b0 ob p y L)(hb:Below p y y')(hw:Wr y' p L'):BoxWr w b0 ob p y' L':=
 ⟨hw,(hb.block _ h.lt0).trans h.box,h.out.trans (hb.mono (Nat.le_trans h.lo (Nat.le_of_lt h.lt0))),h.lo,h.lt0⟩
theorem Wr.new {w:World}{p:Nat}(hc:w.cell? ⟨p,0,none⟩=some (.slice none 0 0))(hf:w.frozen? ⟨p,0,none⟩=false)(hlt:p<w.heap.size):Wr w p []:=
 ⟨⟨none,0,hc,Owns.nil _ _ _⟩,hf,hlt,by simp⟩
theorem be4_bytes (v:Int):IsBytes (be4 v):=be4_byte v
theorem bits_or_six (c f:Int)(hc:0≤c∧c<256)(hf:0≤f∧f<1048576):bits .or .u64 (bits .or .u64 1610612736 (c*1048576)) f=1610612736+c*1048576+f:=by
 obtain⟨a,rfl⟩:∃a:Nat,c=a:=⟨c.toNat,by omega⟩
 obtain⟨b,rfl⟩:∃b:Nat,f=b:=⟨f.toNat,by omega⟩
 have h1:=bits_or_at 28 6 (a*1048576) (by omega) (by omega)
 rw[show(((2^28*6:Nat)):Int)=1610612736 by decide,show((a*1048576:Nat):Int)=(a:Int)*1048576 by omega] at h1
 rw[h1]
 have h2:=bits_or_at 20 (6*256+a) b (by omega) (by omega)
 rw[show((2^20*(6*256+a):Nat):Int)=((2^28*6+a*1048576:Nat):Int) by omega] at h2
 rw[h2];omega
theorem sxput_any (h:SxH)(w:World)(hk:SxOk h):Calls Tryz.prog 55 #[.agg (sxV h)] w (BytesErr w (sxPutL h) (sxPutErr h)):=by
 have HK:=Lib.hid hk
 have bc:=hk.cls
 have bl:=hk.len
 have bn:=hk.nxt
 have bh:=hk.hops
 have bf:=hk.flow
 have HSR:Hid (∀(y:World) (b:Nat) (t:TypeId),y.heap[b]? =some (.cells (sxV h) t (0,0))→Reads y (some ⟨b,5,none⟩) 16 16 h.src):=Lib.hid (fun y b t hy=>box_reads hy 5 16 h.src hk.src.1 hk.src.2 (by decide) (fun j hj=>by
  rcases j with _|_|_|_|_|_|_|_|_|_|_|_|_|_|_|_|j
  all_goals first|rfl|omega))
 have HDR:Hid (∀(y:World) (b:Nat) (t:TypeId),y.heap[b]? =some (.cells (sxV h) t (0,0))→Reads y (some ⟨b,21,none⟩) 16 16 h.dst):=Lib.hid (fun y b t hy=>box_reads hy 21 16 h.dst hk.dst.1 hk.dst.2 (by decide) (fun j hj=>by
  rcases j with _|_|_|_|_|_|_|_|_|_|_|_|_|_|_|_|j
  all_goals first|rfl|omega))
 clear hk
 by_cases hfl:h.flow<1048576
 rotate_left
 ·have HF:Hid (BytesErr w (sxPutL h) (sxPutErr h)=BytesErr w [] 51):=Lib.hid (by unfold sxPutL sxPutErr;rw[if_neg hfl,if_neg hfl])
  have hd:decide (1048576≤h.flow)=true:=by simp;omega
  clear HK HSR HDR
  unfold sxV
  generalize (fun i=>h.src.getD i 0)=S at*
  generalize (fun i=>h.dst.getD i 0)=D at*
  unfold sxF
  go_enter Tryz.func55,Tryz.ntmps55
  go_wp2_with fail
  go_ret2
  show BytesErr w (sxPutL h) (sxPutErr h) _ _
  rw[HF.out]
  exact⟨none,0,rfl,Owns.nil _ _ _,Below.all (Below.refl _ _) _⟩
 have HF:Hid (BytesErr w (sxPutL h) (sxPutErr h)=BytesErr w (sxBytes h) 0):=Lib.hid (by unfold sxPutL sxPutErr;rw[if_pos hfl,if_pos hfl])
 have HBY:Hid (sxBytes h=be4 (1610612736+h.cls*1048576+h.flow)++be2 h.len++[h.nxt,h.hops]++h.src++h.dst):=Lib.hid rfl
 have HOR:=Lib.hid (bits_or_six h.cls h.flow bc ⟨bf.1,hfl⟩)
 have hd:decide (1048576≤h.flow)=false:=by simp;omega
 obtain⟨ob,hob⟩:∃ob,ob=Obj.cells (sxV h) 118:=⟨_,rfl⟩
 have hbox:(w.alloc (.cells (sxV h) 118)).heap[w.heap.size]? =some (.cells (sxV h) 118 (0,0)):=heap_alloc_new w _
 have ST0:Hid (BoxWr w w.heap.size (.cells (sxV h) 118 (0,0)) (w.heap.size+1) ((w.alloc (.cells (sxV h) 118)).alloc (.cells #[.slice none 0 0] 137)) []):=Lib.hid ⟨Wr.new (by have:=World.size_alloc w (.cells (sxV h) 118);go_cell) (by go_cell) (by simp),(heap_alloc_old _ _ (by simp)).trans hbox,Below.all (Below.all (Below.refl _ _) _) _,Nat.le_refl _,by omega⟩
 clear hbox hob
 clear ob
 unfold sxV at*
 generalize (fun i=>h.src.getD i 0)=S at*
 generalize (fun i=>h.dst.getD i 0)=D at*
 unfold sxF at*
 go_enter Tryz.func55,Tryz.ntmps55
 go_wp2_with fail
 rw[HOR.out]
 generalize hy0:((w.alloc (.cells #[.int .u8 h.cls,.int .u32 h.flow,.int .u16 h.len,.int .u8 h.nxt,.int .u8 h.hops,.int .u8 (S 0),.int .u8 (S 1),.int .u8 (S 2),.int .u8 (S 3),.int .u8 (S 4),.int .u8 (S 5),.int .u8 (S 6),.int .u8 (S 7),.int .u8 (S 8),.int .u8 (S 9),.int .u8 (S 10),.int .u8 (S 11),.int .u8 (S 12),.int .u8 (S 13),.int .u8 (S 14),.int .u8 (S 15),.int .u8 (D 0),.int .u8 (D 1),.int .u8 (D 2),.int .u8 (D 3),.int .u8 (D 4),.int .u8 (D 5),.int .u8 (D 6),.int .u8 (D 7),.int .u8 (D 8),.int .u8 (D 9),.int .u8 (D 10),.int .u8 (D 11),.int .u8 (D 12),.int .u8 (D 13),.int .u8 (D 14),.int .u8 (D 15)] 118)).alloc (.cells #[.slice none 0 0] 137))=y0 at*
 clear hy0
 refine Calls.mono (put4_any _ [] _ (by omega) (by omega) _ ST0.out.wr (by decide)) ?_
 rintro e y1 ⟨rfl,hw1,hb1⟩
 have ST1:=Lib.hid (ST0.out.belowP hb1 hw1)
 have hr:=ST1.out.box
 have hc2:y1.cell? ⟨w.heap.size,2,none⟩=some (.int .u16 h.len):=cell_of_row _ _ 2 _ _ (0,0) hr
 clear hr hb1 hw1 ST0
 go_wp2_with fail
 refine Calls.mono (put2_any _ _ _ (by omega) (by omega) _ ST1.out.wr (by simp[be4])) ?_
 rintro e y2 ⟨rfl,hw2,hb2⟩
 have ST2:=Lib.hid (ST1.out.belowP hb2 hw2)
 have hr:=ST2.out.box
 have hc3:y2.cell? ⟨w.heap.size,3,none⟩=some (.int .u8 h.nxt):=cell_of_row _ _ 3 _ _ (0,0) hr
 have hc4:y2.cell? ⟨w.heap.size,4,none⟩=some (.int .u8 h.hops):=cell_of_row _ _ 4 _ _ (0,0) hr
 clear hr hb2 hw2 ST1 hc2
 have hlt2:w.heap.size+1<y2.heap.size:=ST2.out.wr.lt
 go_wp2_with fail
 have HRL:=Lib.hid (box_reads (heap_alloc_new y2 (.cells #[.int .u8 h.nxt,.int .u8 h.hops] 5)) 0 2 [h.nxt,h.hops] rfl (by intro v hv;simp only[List.mem_cons,List.not_mem_nil,or_false] at hv;rcases hv with rfl|rfl;exact bn;exact bh) (by decide) (fun j hj=>by
  rcases j with _|_|j
  ·rfl
  ·rfl
  ·omega))
 have st2:=ST2.out.below (Below.all (Below.refl _ _) (.cells #[.int .u8 h.nxt,.int .u8 h.hops] 5))
 refine Calls.mono (raw_any _ _ _ _ _ [h.nxt,h.hops] _ st2.wr HRL.out (by simp[be4,be2])) ?_
 rintro e y3 ⟨rfl,hw3,hb3⟩
 have ST3:=Lib.hid (st2.belowP hb3 hw3)
 clear hb3 hw3 ST2 st2 hc3 hc4 hlt2 HRL
 go_wp2_with fail
 refine Calls.mono (raw_any _ _ _ _ _ h.src _ ST3.out.wr (HSR.out _ _ _ ST3.out.box) (by simp[be4,be2,HK.out.src.1])) ?_
 rintro e y4 ⟨rfl,hw4,hb4⟩
 have ST4:=Lib.hid (ST3.out.belowP hb4 hw4)
 clear hb4 hw4 ST3
 go_wp2_with fail
 refine Calls.mono (raw_any _ _ _ _ _ h.dst _ ST4.out.wr (HDR.out _ _ _ ST4.out.box) (by simp[be4,be2,HK.out.src.1,HK.out.dst.1])) ?_
 rintro e y5 ⟨rfl,hw5,hb5⟩
 have ST5:=Lib.hid (ST4.out.belowP hb5 hw5)
 clear hb5 hw5 ST4
 go_wp2_with fail
 refine Calls.mono (Bits.bytes_any _ _ _ ST5.out.wr (by simp[be4,be2,HK.out.src.1,HK.out.dst.1])) ?_
 rintro e y6 ⟨oa,cap,rfl,ho,hb⟩
 have HO:=Lib.hid (ho.mono ST5.out.out.size)
 have HB:Hid (Below w.heap.size w y6):=Lib.hid (Below.via ST5.out.out hb)
 clear ho hb ST5
 rw[List.nil_append,←HBY.out] at HO⊢
 generalize hlf:(sxBytes h).length=lf at*
 go_wp2_with fail
 go_ret2
 show BytesErr w (sxPutL h) (sxPutErr h) _ _
 rw[HF.out]
 exact⟨oa,cap,by rw[hlf];rfl,by rw[hlf];exact HO.out,HB.out⟩
def rsxV (h:SxH):Array Value:=#[.int .u8 h.cls,.int .u32 h.flow,.int .u16 h.len,.int .u8 h.nxt,.int .u8 h.hops,.string (strOfNums h.src),.string (strOfNums h.dst)]
theorem rsxput_any (h:SxH)(w:World)(hk:SxOk h):Calls Tryz.prog 50 #[.agg (rsxV h)] w (BytesErr w (sxPutL h) (sxPutErr h)):=by
 have HK:=Lib.hid hk
 have bc:=hk.cls
 have bl:=hk.len
 have bn:=hk.nxt
 have bh:=hk.hops
 have bf:=hk.flow
 have HP2:Hid (∀(v:Int) (w:World),0≤v→v<65536→Calls Tryz.prog 67 #[.int .u64 v,.int .i64 2] w (NewBytes w (be2 v))):=Lib.hid (fun v w h0 h1=>by
  have:=refput_any 2 v w (by decide) h0 (by omega)
  rwa [refPut2] at this)
 have HP4:Hid (∀(v:Int) (w:World),0≤v→v<4294967296→Calls Tryz.prog 67 #[.int .u64 v,.int .i64 4] w (NewBytes w (be4 v))):=Lib.hid (fun v w h0 h1=>by
  have:=refput_any 4 v w (by decide) h0 (by omega)
  rwa [refPut4] at this)
 clear hk
 unfold rsxV
 by_cases hfl:h.flow<1048576
 rotate_left
 ·have HF:Hid (BytesErr w (sxPutL h) (sxPutErr h)=BytesErr w [] 51):=Lib.hid (by unfold sxPutL sxPutErr;rw[if_neg hfl,if_neg hfl])
  have hd:decide (1048576≤h.flow)=true:=by simp;omega
  generalize strOfNums h.src=S1 at*
  generalize strOfNums h.dst=S2 at*
  clear HK HP2 HP4
  go_enter Tryz.func50,Tryz.ntmps50
  go_wp2_with fail
  go_ret2
  show BytesErr w (sxPutL h) (sxPutErr h) _ _
  rw[HF.out]
  exact⟨none,0,rfl,Owns.nil _ _ _,Below.all (Below.refl _ _) _⟩
 have HF:Hid (BytesErr w (sxPutL h) (sxPutErr h)=BytesErr w (sxBytes h) 0):=Lib.hid (by unfold sxPutL sxPutErr;rw[if_pos hfl,if_pos hfl])
 have HBY:Hid (sxBytes h=be4 (1610612736+h.cls*1048576+h.flow)++be2 h.len++[h.nxt,h.hops]++h.src++h.dst):=Lib.hid rfl
 have hd:decide (1048576≤h.flow)=false:=by simp;omega
 obtain⟨S1,hS1⟩:∃S,strOfNums h.src=S:=⟨_,rfl⟩
 obtain⟨S2,hS2⟩:∃S,strOfNums h.dst=S:=⟨_,rfl⟩
 have HS1:=Lib.hid hS1
 have HS2:=Lib.hid hS2
 rw[hS1,hS2]
 clear hS1 hS2
 go_enter Tryz.func50,Tryz.ntmps50
 go_wp2_with fail
 refine Calls.mono (HP4.out _ _ (by omega) (by omega)) ?_
 rintro e y1 ⟨oa1,c1,rfl,ho,hb⟩
 have hrb:=RowBox.start (w:=w) (heap_alloc_new w _) (Below.all (Below.refl _ _) _) (Nat.le_refl _) hb ho (be4_bytes _)
 have RB1:=Lib.hid hrb
 have hr:=hrb.box
 have hc2:y1.cell? ⟨w.heap.size,2,none⟩=some (.int .u16 h.len):=cell_of_row _ _ 2 _ _ (0,0) hr
 clear hrb ho hb hr
 rw[show(be4 (1610612736+h.cls*1048576+h.flow)).length=4 from rfl] at RB1⊢
 go_wp2_with fail
 refine Calls.mono (HP2.out _ _ (by omega) (by omega)) ?_
 rintro e y2 ⟨oa2,c2,rfl,ho,hb⟩
 have RB2:=Lib.hid (RB1.out.below hb)
 have HR2:=Lib.hid (ho.reads (be2_bytes _))
 have hlt2:=RB2.out.lt
 clear ho hb RB1 hc2
 go_wp2_with (at_builtin;refine Stopped.of ?_)
 refine Stopped.mk ?_
 refine wpList_append_reads _ rfl _ _ 22 rfl 5 (w.heap.size+1) Tryz.underlying22 infoU8 oa1 4 c1 _ rfl RB2.out.own oa2 _ c2 (be2 h.len) rfl HR2.out (by simp[be2]) hlt2 ?_
 intro oa3 c3 y3 ho hg _
 have RB3:=Lib.hid (RB2.out.app ho hg (be2_bytes _))
 have hr:=RB3.out.box
 have hc3:y3.cell? ⟨w.heap.size,3,none⟩=some (.int .u8 h.nxt):=cell_of_row _ _ 3 _ _ (0,0) hr
 have hc4:y3.cell? ⟨w.heap.size,4,none⟩=some (.int .u8 h.hops):=cell_of_row _ _ 4 _ _ (0,0) hr
 have hlt3:=RB3.out.lt
 clear ho hg hr RB2 HR2 hlt2
 rw[show 4+(be2 h.len).length=6 from rfl] at RB3⊢
 have HRL:=Lib.hid (box_reads (heap_alloc_new y3 (.cells #[.int .u8 h.nxt,.int .u8 h.hops] 5)) 0 2 [h.nxt,h.hops] rfl (by intro v hv;simp only[List.mem_cons,List.not_mem_nil,or_false] at hv;rcases hv with rfl|rfl;exact bn;exact bh) (by decide) (fun j hj=>by
  rcases j with _|_|j
  ·rfl
  ·rfl
  ·omega))
 go_wp2_with (at_builtin;refine Stopped.of ?_)
 refine Stopped.mk ?_
 refine wpList_append_reads _ rfl _ _ 22 rfl 5 (w.heap.size+1) Tryz.underlying22 infoU8 oa3 6 c3 _ rfl (RB3.out.below (Below.all (Below.refl _ _) _)).own (some ⟨y3.heap.size,0,none⟩) 2 2 [h.nxt,h.hops] rfl HRL.out (by omega) (by simp;omega) ?_
 intro oa4 c4 y4 ho hg _
 have RB4:=Lib.hid ((RB3.out.below (Below.all (Below.refl _ _) _)).app ho hg (by intro v hv;simp only[List.mem_cons,List.not_mem_nil,or_false] at hv;rcases hv with rfl|rfl;exact bn;exact bh))
 have hr:=RB4.out.box
 have hc5:y4.cell? ⟨w.heap.size,5,none⟩=some (.string S1):=cell_of_row _ _ 5 _ _ (0,0) hr
 clear ho hg hr RB3 HRL hc3 hc4 hlt3
 go_wp2_with (with_reducible refine stop_tmp 34 ?_)
 refine Stopped.mk ?_
 refine wpList_tobytes _ rfl 9 22 _ rfl 5 Tryz.underlying9 Tryz.underlying22 Tryz.underlying5 h.src (by show Value.string S1=_;rw[HS1.out]) HK.out.src.2 (by rw[HK.out.src.1];decide) ?_
 intro c5 y5 hb hr5
 rw[HK.out.src.1] at hr5⊢
 have RB5:=Lib.hid (RB4.out.below hb)
 have HR5:=Lib.hid hr5
 have hlt5:=RB5.out.lt
 clear hb hr5 hc5 RB4
 go_wp2_with (at_builtin;refine Stopped.of ?_)
 refine Stopped.mk ?_
 refine wpList_append_reads _ rfl _ _ 22 rfl 5 (w.heap.size+1) Tryz.underlying22 infoU8 oa4 8 c4 _ rfl RB5.out.own _ 16 c5 h.src rfl HR5.out (by omega) hlt5 ?_
 intro oa6 c6 y6 ho hg _
 have RB6:=Lib.hid (RB5.out.app ho hg HK.out.src.2)
 have hr:=RB6.out.box
 have hc6:y6.cell? ⟨w.heap.size,6,none⟩=some (.string S2):=cell_of_row _ _ 6 _ _ (0,0) hr
 clear ho hg hr RB5 HR5 hlt5
 go_wp2_with (with_reducible refine stop_tmp 39 ?_)
 refine Stopped.mk ?_
 refine wpList_tobytes _ rfl 9 22 _ rfl 5 Tryz.underlying9 Tryz.underlying22 Tryz.underlying5 h.dst (by show Value.string S2=_;rw[HS2.out]) HK.out.dst.2 (by rw[HK.out.dst.1];decide) ?_
 intro c7 y7 hb hr7
 rw[HK.out.dst.1] at hr7⊢
 have RB7:=Lib.hid (RB6.out.below hb)
 have HR7:=Lib.hid hr7
 have hlt7:=RB7.out.lt
 clear hb hr7 hc6 RB6
 go_wp2_with (at_builtin;refine Stopped.of ?_)
 refine Stopped.mk ?_
 refine wpList_append_reads _ rfl _ _ 22 rfl 5 (w.heap.size+1) Tryz.underlying22 infoU8 oa6 24 c6 _ rfl RB7.out.own _ 16 c7 h.dst rfl HR7.out (by omega) hlt7 ?_
 intro oa8 c8 y8 ho hg _
 have RB8:=Lib.hid (RB7.out.app ho hg HK.out.dst.2)
 clear ho hg RB7 HR7 hlt7
 rw[←HBY.out] at RB8
 go_wp2_with fail
 go_ret2
 show BytesErr w (sxPutL h) (sxPutErr h) _ _
 rw[HF.out]
 have hln:(sxBytes h).length=40:=RB8.out.len
 exact⟨oa8,c8,by rw[hln];rfl,by rw[hln];exact RB8.out.own.mono (Nat.le_succ _),RB8.out.out⟩
theorem below_cell {w w':World}{b:Nat}(h:Below w.heap.size w w')(hb:b<w.heap.size)(q:Addr)(e:q.block=b):w'.cell? q=w.cell? q:=h.cell (p:=q) (by omega)
structure ExtRec where
 k:Int
 a:Option Addr
 m:Nat
 c:Nat
def extCells (es:List ExtRec):List Value:=es.flatMap fun e=>[.int .u8 e.k,.slice e.a e.m e.c]
theorem extCells_get:∀(es:List ExtRec) (i:Nat) (e:ExtRec),es[i]? =some e→(extCells es)[2*i]? =some (.int .u8 e.k)∧(extCells es)[2*i+1]? =some (.slice e.a e.m e.c)
 |[],i,e,h=>by simp at h
 |x::es,0,e,h=>by
  obtain rfl:x=e:=by simpa using h
  exact⟨rfl,rfl⟩
 |x::es,i+1,e,h=>by
  have:=extCells_get es i e (by simpa using h)
  have hc:extCells (x::es)=.int .u8 x.k::.slice x.a x.m x.c::extCells es:=by simp[extCells]
  rw[hc]
  exact⟨by rw[show 2*(i+1)=2*i+1+1 by omega];simpa using this.1,by rw[show 2*(i+1)+1=(2*i+1)+1+1 by omega];simpa using this.2⟩
structure ExtAt (w:World)(lo:Nat)(oe:Option Addr)(e:ExtRec)(x:Int×List Int):Prop where
 k:e.k=x.1
 rd:Reads w e.a e.m e.c x.2
 blk:∀a,e.a=some a→lo≤a.block∧a.block<w.heap.size∧∀b,oe=some b→b.block≠a.block
structure ExtsAt (w:World)(lo:Nat)(oe:Option Addr)(ce:Nat)(xs:ExtL)(es:List ExtRec):Prop where
 own:Owns w lo 2 oe xs.length ce (extCells es)
 len:es.length=xs.length
 each:∀(i:Nat) e x,es[i]? =some e→xs[i]? =some x→ExtAt w lo oe e x
theorem ExtAt.keep {w w':World}{lo:Nat}{oe:Option Addr}{e:ExtRec}{x:Int×List Int}(h:ExtAt w lo oe e x)(hs:w.heap.size≤w'.heap.size)(hk:∀a,e.a=some a→w'.heap[a.block]? =w.heap[a.block]?):ExtAt w' lo oe e x:=
 ⟨h.k,h.rd.keep hs (fun a ha _=>hk a ha),fun a ha=>⟨(h.blk a ha).1,Nat.lt_of_lt_of_le (h.blk a ha).2.1 hs,(h.blk a ha).2.2⟩⟩
theorem ExtsAt.below {w w':World}{lo:Nat}{oe:Option Addr}{ce:Nat}{xs:ExtL}{es:List ExtRec}(h:ExtsAt w lo oe ce xs es)(hb:Below w.heap.size w w'):ExtsAt w' lo oe ce xs es:=
 ⟨h.own.below hb,h.len,fun i e x h1 h2=>(h.each i e x h1 h2).keep hb.size (fun a ha=>hb.block _ ((h.each i e x h1 h2).blk a ha).2.1)⟩
theorem kept_none {G:Nat→World→Prop}{k:Nat}{C:World→Prop}:Kept G [] (k+1) C:=by
 intro g hg w _
 simp at hg
end
end Go.Proofs.YtkgjbipfhhjlpaaGreatDoor
