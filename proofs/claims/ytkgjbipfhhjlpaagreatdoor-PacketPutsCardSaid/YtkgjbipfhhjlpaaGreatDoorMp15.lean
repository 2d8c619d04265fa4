import Derived.Test.YtkgjbipfhhjlpaaGreatDoorMp14
set_option linter.unusedVariables false
set_option linter.unusedSimpArgs false
set_option maxRecDepth 100000
set_option maxHeartbeats 32000000
namespace Go.Proofs.YtkgjbipfhhjlpaaGreatDoor
section
open Go.RowKit Bits
theorem pseudo_bytes (p n:Int)(src dst:List Int)(h1:IsBytes src)(h2:IsBytes dst)(hp:0≤p∧p<256):IsBytes (pseudoL p n src dst):=by
 have hpp:IsBytes [0,p]:=by intro v hv;simp only[List.mem_cons,List.not_mem_nil,or_false] at hv;rcases hv with rfl|rfl;decide;exact hp
 have hp4:IsBytes [0,0,0,p]:=by intro v hv;simp only[List.mem_cons,List.not_mem_nil,or_false] at hv;rcases hv with rfl|rfl|rfl|rfl;decide;decide;decide;exact hp
 have hz2:IsBytes [0,0]:=by intro v hv;simp only[List.mem_cons,List.not_mem_nil,or_false] at hv;rcases hv with rfl|rfl<;>decide
 unfold pseudoL
 split
 ·intro v hv;cases hv
 ·split
  ·exact isBytes_app (isBytes_app (isBytes_app h1 h2) hpp) (be2_bytes _)
  ·exact isBytes_app (isBytes_app (isBytes_app (isBytes_app h1 h2) hz2) (be2_bytes _)) hp4
theorem tput_udp (a b:Int)(oD:Option Addr)(n cD:Nat)(l:List Int)(o1 o2:Option Addr)(k c1 c2:Nat)(src dst:List Int)(w:World)(hr:Reads w oD n cD l)(h1:Reads w o1 k c1 src)(h2:Reads w o2 k c2 dst)(hk:k=4∨k=16)(hn:n≤60000)(ha:0≤a∧a<65536)(hb:0≤b∧b<65536):
 Calls Tryz.prog 94 #[.agg (segV 17 a b 0 0 0 oD n cD),.slice o1 k c1,.slice o2 k c2] w (BytesErr w (tPut 17 a b 0 l src dst) 0):=by
 have hR0:=Lib.hid hr
 have hnl:=hr.len
 have hnl':=hr.len
 have HLK:Hid (∀r w',w'.heap[r]? =some (.map protoRows 4)→(Instr.lookup 224 (.map (some r)) (.int .u8 17) true).run Tryz.prog w'=.ok (.tuple #[.agg #[.int .i64 8,.int .i64 6,.func (.func 187) #[] #[],.func (.func 188) #[] #[],.func (.func 189) #[] #[]],.bool true]) w'):=Lib.hid (fun r w' h=>proto_lookup 17 (.inr (.inl rfl)) r w' h)
 have HRT:Hid (∀w',Reads w' oD n cD l→Calls Tryz.prog 152 #[.agg #[.int .u8 17,.int .u16 a,.int .u16 b,.int .u32 0,.int .u32 0,.int .u8 0,.int .u16 0,.int .u16 0,.slice none 0 0,.int .u8 0,.int .u8 0,.slice oD n cD]] w' (RetAt w' (.bool true))):=Lib.hid (fun w' h=>by have:=tright_udp a b oD n cD l w' h hn;unfold segV at this;exact this)
 have HTL:Hid (∀w',Calls Tryz.prog 138 #[.agg #[.int .i64 8,.int .i64 6,.func (.func 187) #[] #[],.func (.func 188) #[] #[],.func (.func 189) #[] #[]],.agg #[.int .u8 17,.int .u16 a,.int .u16 b,.int .u32 0,.int .u32 0,.int .u8 0,.int .u16 0,.int .u16 0,.slice none 0 0,.int .u8 0,.int .u8 0,.slice oD n cD]] w' (RetAt w' (.int .i64 (8+(n:Int))))):=Lib.hid (fun w'=>tlength_any 8 _ _ _ _ 17 a b 0 0 0 oD n cD w' (by decide) (by omega))
 have HPS:Hid (∀w',Below w.heap.size w w'→Calls Tryz.prog 139 #[.int .u8 17,.int .i64 (8+(n:Int)),.slice o1 k c1,.slice o2 k c2] w' (PseudoPost w' (pseudoL 17 (8+(n:Int)) src dst))):=Lib.hid (fun w' hb=>by
  have g1:=h1.below hb
  have g2:=h2.below hb
  rcases hk with rfl|rfl
  ·exact pseudo_four 17 _ o1 o2 c1 c2 src dst w' g1 g2 (by omega) (by omega)
  ·exact pseudo_six 17 _ o1 o2 c1 c2 src dst w' g1 g2 (by omega) (by omega))
 have HPB:Hid (IsBytes (pseudoL 17 (8+(n:Int)) src dst)):=Lib.hid (pseudo_bytes _ _ _ _ h1.byte h2.byte (by omega))
 have HPL:Hid ((pseudoL 17 (8+(n:Int)) src dst).length≤100):=Lib.hid (by
  have e1:=h1.len
  have e2:=h2.len
  unfold pseudoL
  split
  ·simp
  ·split<;>simp only[List.length_append,be2,List.length_cons,List.length_nil]<;>omega)
 have HPUT:Hid (∀p0 w',WrK w' p0 (fun _=>False) []→Calls Tryz.prog 188 #[.pointer (some ⟨p0,0,none⟩),.agg #[.int .u8 17,.int .u16 a,.int .u16 b,.int .u32 0,.int .u32 0,.int .u8 0,.int .u16 0,.int .u16 0,.slice none 0 0,.int .u8 0,.int .u8 0,.slice oD n cD]] w' (PutsPost w' p0 (fun _=>False) (putsW 2 [a,b,8+(n:Int),0]))):=Lib.hid (fun p0 w' h=>by
  have:=by have:=putudp_any p0 _ 17 a b 0 0 0 oD n cD [] w' h ha hb (by omega) (by simp);unfold segV at this;exact this
  simpa[List.nil_append] using this)
 have HST:Hid ((putsW 2 [a,b,8+(n:Int),0])++l=tStands 17 a b 0 (8+(n:Int)) 0 l):=Lib.hid (by unfold tStands;simp[putsW,putW,be2])
 have HLL:Hid ((putsW 2 [a,b,8+(n:Int),0]).length=8):=Lib.hid (by simp[putsW,putW,be2,be4])
 have HLN:Hid (∀c:Int,(tStands 17 a b 0 (8+(n:Int)) c l).length=8+n):=Lib.hid (fun c=>by unfold tStands;simp[be2,hnl];omega)
 have HSB:Hid (IsBytes (tStands 17 a b 0 (8+(n:Int)) 0 l)):=Lib.hid (by unfold tStands;simp only[if_neg (show¬(17:Int)=6 by decide),if_true];exact isBytes_app (isBytes_app (isBytes_app (isBytes_app (be2_bytes _) (be2_bytes _)) (be2_bytes _)) (be2_bytes _)) hr.byte)
 have HSET:Hid (∀c:Nat,(tStands 17 a b 0 (8+(n:Int)) 0 l).take 6++be2 (c:Int)++(tStands 17 a b 0 (8+(n:Int)) 0 l).drop (6+2)=tStands 17 a b 0 (8+(n:Int)) (c:Int) l):=Lib.hid (fun c=>by unfold tStands;simp[be2])
 have HFIN:Hid (tPut 17 a b 0 l src dst=tStands 17 a b 0 (8+(n:Int)) (if sumOf (pseudoL 17 (8+(n:Int)) src dst++tStands 17 a b 0 (8+(n:Int)) 0 l)=0∧17=17 then 65535 else (sumOf (pseudoL 17 (8+(n:Int)) src dst++tStands 17 a b 0 (8+(n:Int)) 0 l):Int)) l):=Lib.hid (by
  unfold tPut tSum
  rw[show((tHead 17+l.length:Nat):Int)=8+(n:Int) by rw[hnl];unfold tHead;simp]
  simp)
 have hx:=heap_alloc_new w (.cells (segV 17 a b 0 0 0 oD n cD) 149)
 have hB:Below w.heap.size w (w.alloc (.cells (segV 17 a b 0 0 0 oD n cD) 149)):=Below.all (Below.refl _ _) _
 unfold segV at hx hB⊢
 clear hr h1 h2 hk hnl
 go_enter Tryz.func94,Tryz.ntmps94
 go_wp2_with fail
 obtain⟨b0,hb0e⟩:∃b,b=w.heap.size:=⟨_,rfl⟩
 rw[←hb0e] at hx⊢
 have HE0:=Lib.hid hb0e
 clear hb0e
 generalize hy:w.alloc (.cells #[.int .u8 17,.int .u16 a,.int .u16 b,.int .u32 0,.int .u32 0,.int .u8 0,.int .u16 0,.int .u16 0,.slice none 0 0,.int .u8 0,.int .u8 0,.slice oD n cD] 149)=y at*
 have hb0:b0<y.heap.size:=(Array.getElem?_eq_some_iff.1 hx).1
 have hc0:y.cell? ⟨b0,0,none⟩=some (.int .u8 17):=cell_of_row _ _ 0 _ _ (0,0) hx
 have HX:=Lib.hid hx
 have HB:=Lib.hid hB
 clear hx hB hy
 refine wp_region_fl [.w,.h,.h] [(1,1,0),(2,1,0)] (fun _ w'=>w'.cell? ⟨b0,0,none⟩=some (.int .u8 17)) [1] [(.w,0),(.w,3),(.q,4),(.q,5),(.q,6)] [(.w,8),(.q,9)] 7 (.cells #[.int .i64 0,.int .i64 0,.nilFunc,.nilFunc,.nilFunc] 222) (by kernel_rfl) (by kernel_rfl) rfl rfl ⟨fun _=>rfl,fun _ _=>by kernel_rfl⟩ (by kernel_rfl) (by kernel_rfl) ?_
 apply Exists.intro
 refine⟨fun wx hbx=>?_,?_,?_⟩
 ·have hcx:wx.cell? ⟨b0,0,none⟩=some (.int .u8 17):=(below_cell hbx hb0 _ rfl).trans hc0
  have hbx2:b0<wx.heap.size:=Nat.lt_of_lt_of_le hb0 hbx.size
  simp only[headsL]
  repeat go_big_quiet_step (fail)
  exact wpQuiet_nil rfl
 ·intro q hq oi hoi
  simp only[List.mem_cons,List.not_mem_nil,or_false] at hq
  rcases hq with rfl|rfl
  ·cases hoi;exact⟨_,rfl,rfl,fun w2 hw=>by kernel_rfl⟩
  ·cases hoi;exact⟨_,rfl,rfl,fun w2 hw=>by simp[execOp,go_sem,hw]⟩
 simp only[opsAt,List.getElem?_cons_succ,List.getElem?_cons_zero]
 refine⟨fun v fl w2=>∃r,v=.map (some r)∧ProtoSt y r fl w2,?_,?_,?_,?_⟩
 ·rintro fl-
  refine⟨rfl,fun w' hw'=>.inr ⟨136,#[],by kernel_rfl,?_⟩⟩
  obtain⟨⟨x,rfl⟩,hfb⟩:=hw'
  refine(protocols_any x.world).mono ?_
  rintro e w2 ⟨r,rfl,hr1,hr2,hb2⟩
  refine⟨_,rfl,r,rfl,Below.via x.below hb2,Nat.le_trans x.below.size hr1,hr2,fun b hb'=>⟨(hfb b hb').1,?_⟩⟩
  have:=(hfb b hb').2
  exact(hb2.block b (Array.getElem?_eq_some_iff.1 this).1).trans this
 ·rintro v fl g-w2 ⟨r,-,hst⟩
  exact(below_cell hst.1 hb0 _ rfl).trans hc0
 ·rintro-v w2 ⟨r,rfl,h1,h2,h3,-⟩
  exact⟨r,rfl,Below.all h1 _,h2,(heap_alloc_old _ _ (Array.getElem?_eq_some_iff.1 h3).1).trans h3,fun b hb'=>by cases hb';exact⟨h1.size,heap_alloc_new _ _⟩⟩
 rintro v ⟨fl0,w20,r,rfl,-⟩
 refine⟨fun v fl w2=>v=.tuple #[.agg #[.int .i64 8,.int .i64 6,.func (.func 187) #[] #[],.func (.func 188) #[] #[],.func (.func 189) #[] #[]],.bool true]∧ProtoSt y r fl w2,?_,fun _ _=>kept_top rfl,?_,?_⟩
 ·rintro fl-
  refine SeqRun.made rfl ?_
  rintro w' ⟨r',hr',hst⟩
  cases hr'
  exact⟨.tuple #[.agg #[.int .i64 8,.int .i64 6,.func (.func 187) #[] #[],.func (.func 188) #[] #[],.func (.func 189) #[] #[]],.bool true],w',exec_lookup _ _ (vm:=.map (some r)) (vx:=.int .u8 17) (by kernel_rfl) (by kernel_rfl) (HLK.out r w' hst.2.2.1),rfl,hst⟩
 ·rintro-v w2 ⟨h0,h1,h2,h3,-⟩
  exact⟨h0,Below.all h1 _,h2,(heap_alloc_old _ _ (Array.getElem?_eq_some_iff.1 h3).1).trans h3,fun b hb'=>by cases hb';exact⟨h1.size,heap_alloc_new _ _⟩⟩
 rintro v ⟨fl1,w21,rfl,-⟩
 refine⟨.tuple #[.agg #[.int .i64 8,.int .i64 6,.func (.func 187) #[] #[],.func (.func 188) #[] #[],.func (.func 189) #[] #[]],.bool true],⟨rfl,fun _=>by kernel_rfl⟩,?_⟩
 refine⟨.agg #[.int .i64 8,.int .i64 6,.func (.func 187) #[] #[],.func (.func 188) #[] #[],.func (.func 189) #[] #[]],⟨rfl,fun _=>by kernel_rfl⟩,?_⟩
 refine⟨.bool true,⟨rfl,fun _=>by kernel_rfl⟩,?_⟩
 intro bp
 refine⟨fun v fl w2=>v=undef∧Below y.heap.size y w2∧y.heap.size≤bp∧w2.heap[bp]? =some (.cells #[.int .i64 8,.int .i64 6,.func (.func 187) #[] #[],.func (.func 188) #[] #[],.func (.func 189) #[] #[]] 222 (0,0)),?_,fun _ _=>kept_top rfl,(fun h=>by cases h),?_⟩
 ·rintro fl rfl
  refine SeqRun.skip rfl ?_
  rintro w' ⟨-,hst⟩
  obtain⟨hbge,hbx⟩:=hst.2.2.2 bp rfl
  exact⟨_,do_store_pro _ w' bp #[.int .i64 8,.int .i64 6,.func (.func 187) #[] #[],.func (.func 188) #[] #[],.func (.func 189) #[] #[]] (by kernel_rfl) (by kernel_rfl) (by rw[rowFree_row _ _ _ _ _ hbx];rfl) rfl rfl,hst.1.trans (setRow_below _ hbge),hbge,setRow_row hbx⟩
 rintro v ⟨fl2,w22,rfl,-⟩
 refine⟨.bool true,⟨rfl,fun _=>by kernel_rfl⟩,?_⟩
 rintro zz ⟨-,hzz,hbge,hpz⟩
 have HZ:=Lib.hid (Below.via HB.out hzz)
 have HXZ:=Lib.hid ((hzz.block b0 hb0).trans HX.out)
 have HPZ:=Lib.hid hpz
 have hbpz:bp<zz.heap.size:=(Array.getElem?_eq_some_iff.1 hpz).1
 have hb0z:b0<zz.heap.size:=Nat.lt_of_lt_of_le hb0 hzz.size
 have hne:bp≠b0:=by omega
 have hpt:partOf zz b0 0 12=#[.int .u8 17,.int .u16 a,.int .u16 b,.int .u32 0,.int .u32 0,.int .u8 0,.int .u16 0,.int .u16 0,.slice none 0 0,.int .u8 0,.int .u8 0,.slice oD n cD]:=partOf_all HXZ.out rfl
 clear hzz hpz hbge hc0 hb0 w20 w21 w22 fl0 fl1 fl2 HX HB HLK
 unfold ptrTo
 go_wp2_with fail
 refine Calls.mono (HRT.out zz (hR0.out.below HZ.out)) ?_
 rintro e y2 ⟨rfl,hb2⟩
 have HZ2:=Lib.hid (Below.via HZ.out hb2)
 have HXZ2:=Lib.hid ((hb2.block b0 hb0z).trans HXZ.out)
 have HPZ2:=Lib.hid ((hb2.block bp hbpz).trans HPZ.out)
 clear hb2 hpt hbpz hb0z HZ HXZ HPZ HRT
 go_wp2_with fail
 have hb02:b0<y2.heap.size:=(Array.getElem?_eq_some_iff.1 HXZ2.out).1
 have hbp2:bp<y2.heap.size:=(Array.getElem?_eq_some_iff.1 HPZ2.out).1
 refine wp_region_sc [.h,.h,.h,.h,.h,.h,.h] [] (fun _ _=>True) [] [(.w,7),(.q,8),(.q,9),(.q,10),(.q,11),(.q,12)] (by kernel_rfl) (by kernel_rfl) (by kernel_rfl) (by kernel_rfl) ?_
 apply Exists.intro
 refine⟨fun wx hbx=>?_,by simp,?_⟩
 ·have hbx2:b0<wx.heap.size:=Nat.lt_of_lt_of_le hb02 hbx.size
  have hbx3:bp<wx.heap.size:=Nat.lt_of_lt_of_le hbp2 hbx.size
  have hxx:=(hbx.block b0 hb02).trans HXZ2.out
  have hcx:wx.cell? ⟨b0,0,none⟩=some (.int .u8 17):=cell_of_row _ _ 0 _ _ (0,0) hxx
  have hpt0:partOf wx b0 0 12=#[.int .u8 17,.int .u16 a,.int .u16 b,.int .u32 0,.int .u32 0,.int .u8 0,.int .u16 0,.int .u16 0,.slice none 0 0,.int .u8 0,.int .u8 0,.slice oD n cD]:=partOf_all hxx rfl
  have hptp:partOf wx bp 0 5=#[.int .i64 8,.int .i64 6,.func (.func 187) #[] #[],.func (.func 188) #[] #[],.func (.func 189) #[] #[]]:=partOf_all ((hbx.block bp hbp2).trans HPZ2.out) rfl
  have hld:∀x:Later wx,ldRun Tryz.prog 149 x.world (.pointer (some ⟨b0,0,none⟩))=.ok (.value (.agg #[.int .u8 17,.int .u16 a,.int .u16 b,.int .u32 0,.int .u32 0,.int .u8 0,.int .u16 0,.int .u16 0,.slice none 0 0,.int .u8 0,.int .u8 0,.slice oD n cD])) x.world:=fun x=>by
   have e:partOf x.world b0 0 12=_:=(Later.part x b0 0 12 hbx2).trans hpt0
   rw[run_load_seg x.world b0 0 (by rw[e];rfl),e]
  have hldp:∀x:Later wx,ldRun Tryz.prog 222 x.world (.pointer (some ⟨bp,0,none⟩))=.ok (.value (.agg #[.int .i64 8,.int .i64 6,.func (.func 187) #[] #[],.func (.func 188) #[] #[],.func (.func 189) #[] #[]])) x.world:=fun x=>by
   have e:partOf x.world bp 0 5=_:=(Later.part x bp 0 5 hbx3).trans hptp
   rw[run_load_pro x.world bp 0 (by rw[e];rfl),e]
  clear hxx hbx
  simp only[headsL]
  repeat go_big_quiet_step ((go_at_call 138;exact later_call (HTL.out _)))
  exact wpQuiet_nil rfl
 simp only[opsAt,List.getElem?_cons_succ,List.getElem?_cons_zero]
 generalize hPL:pseudoL 17 (8+(n:Int)) src dst=PL at*
 clear hPL
 refine⟨fun v fl w2=>∃oP cP,v=.tuple #[.slice oP PL.length cP,.bool true]∧Owns w2 y2.heap.size 1 oP PL.length cP (PL.map (.int .u8))∧Below y2.heap.size y2 w2,?_,fun _ _=>kept_none,(fun h=>by cases h),?_⟩
 ·rintro fl rfl
  refine⟨rfl,fun w' hw'=>.inr ⟨139,#[.int .u8 17,.int .i64 (8+(n:Int)),.slice o1 k c1,.slice o2 k c2],by kernel_rfl,?_⟩⟩
  obtain⟨⟨x,rfl⟩,-⟩:=hw'
  refine(HPS.out x.world (Below.via HZ2.out x.below)).mono ?_
  rintro e w2 ⟨oP,cP,rfl,ho,hb⟩
  exact⟨_,rfl,oP,cP,rfl,ho.mono x.below.size,Below.via x.below hb⟩
 rintro v ⟨fl3,w23,oP,cP,rfl,-⟩
 refine⟨.tuple #[.slice oP PL.length cP,.bool true],⟨rfl,fun _=>by kernel_rfl⟩,?_⟩
 refine⟨.slice oP PL.length cP,⟨rfl,fun _=>by kernel_rfl⟩,?_⟩
 refine⟨.bool true,⟨rfl,fun _=>by kernel_rfl⟩,?_⟩
 refine⟨.slice oP PL.length cP,⟨rfl,fun _=>by kernel_rfl⟩,?_⟩
 refine⟨.bool true,⟨rfl,fun _=>by kernel_rfl⟩,?_⟩
 rintro y3 ⟨oP',cP',he,hoP,hb3⟩
 obtain⟨rfl,rfl⟩:oP=oP'∧cP=cP':=by simpa using he
 clear he w23 fl3
 have HZ3:=Lib.hid (Below.via HZ2.out hb3)
 have hx3:=(hb3.block b0 hb02).trans HXZ2.out
 have hp3:=(hb3.block bp hbp2).trans HPZ2.out
 have hb03:b0<y3.heap.size:=(Array.getElem?_eq_some_iff.1 hx3).1
 have hbp3:bp<y3.heap.size:=(Array.getElem?_eq_some_iff.1 hp3).1
 have HOP:=Lib.hid hoP
 have HXZ3:=Lib.hid hx3
 have HPZ3:=Lib.hid hp3
 obtain⟨p0,hp0⟩:∃p0,p0=y3.heap.size:=⟨_,rfl⟩
 have hW:WrK (y3.alloc (.cells #[.slice none 0 0] 137)) y3.heap.size (fun _=>False) []:=by
  refine WrK.new ?_ ?_ ?_ ?_
  ·simp
  ·simp
  ·simp
  ·intro b hb;cases hb
 have HW:=Lib.hid hW
 have hBA:Below y3.heap.size y3 (y3.alloc (.cells #[.slice none 0 0] 137)):=Below.all (Below.refl _ _) _
 have hc3:(y3.alloc (.cells #[.slice none 0 0] 137)).cell? ⟨bp,3,none⟩=some (.func (.func 188) #[] #[]):=(World.cell?_of_block (a:=⟨bp,3,none⟩) (hBA.block bp hbp3)).trans (cell_of_row _ _ 3 _ _ (0,0) hp3)
 have hc3':y3.cell? ⟨bp,3,none⟩=some (.func (.func 188) #[] #[]):=cell_of_row _ _ 3 _ _ (0,0) hp3
 have hpt:partOf (y3.alloc (.cells #[.slice none 0 0] 137)) b0 0 12=#[.int .u8 17,.int .u16 a,.int .u16 b,.int .u32 0,.int .u32 0,.int .u8 0,.int .u16 0,.int .u16 0,.slice none 0 0,.int .u8 0,.int .u8 0,.slice oD n cD]:=partOf_all ((hBA.block b0 hb03).trans hx3) rfl
 have hpt':partOf y3 b0 0 12=#[.int .u8 17,.int .u16 a,.int .u16 b,.int .u32 0,.int .u32 0,.int .u8 0,.int .u16 0,.int .u16 0,.slice none 0 0,.int .u8 0,.int .u8 0,.slice oD n cD]:=partOf_all hx3 rfl
 have HBA:=Lib.hid hBA
 clear hW hBA hb3 hoP hx3 hp3 HXZ2 HPZ2 HZ2 hb02 hbp2 HPS
 go_wp2_with fail
 rw[←hp0] at HW HBA⊢
 generalize y3.alloc (.cells #[.slice none 0 0] 137)=y4 at*
 refine Calls.mono (HPUT.out p0 y4 HW.out) ?_
 rintro e y5 ⟨rfl,hw5,hb5,-⟩
 have hb35:=HBA.out.trans hb5
 rw[←hp0] at hb03 hbp3
 have hwp:w.heap.size≤p0:=by rw[hp0];exact HZ3.out.size
 have HZ5:=Lib.hid (HZ3.out.trans (hb35.mono hwp))
 have HXZ5:=Lib.hid ((hb35.block b0 hb03).trans HXZ3.out)
 have HPZ5:=Lib.hid ((hb35.block bp hbp3).trans HPZ3.out)
 have HRP:=Lib.hid ((HOP.out.reads HPB.out).belowB hb35 (fun a e=>by rw[hp0];exact(HOP.out.lt e).2))
 have HAP:Hid (∀a,oP=some a→a.block<p0):=Lib.hid (fun a e=>by rw[hp0];exact(HOP.out.lt e).2)
 have HW5:=Lib.hid hw5
 have hc11:y5.cell? ⟨b0,11,none⟩=some (.slice oD n cD):=cell_of_row _ _ 11 _ _ (0,0) HXZ5.out
 clear hw5 hb5 hb35 hc3 hc3' hpt hpt' HW HBA HXZ3 HPZ3 HOP HZ3 HPUT hp0
 go_wp2_with fail
 refine Calls.mono (raw_keep p0 _ _ oD n cD l y5 HW5.out (hR0.out.below HZ5.out) (by rw[HLL.out,hnl'];omega)) ?_
 rintro e y6 ⟨rfl,hw6,hb6,-⟩
 rw[HST.out] at hw6
 have HW6:=Lib.hid hw6
 have HZ6:=Lib.hid (HZ5.out.trans (hb6.mono hwp))
 have HXZ6:=Lib.hid ((hb6.block b0 hb03).trans HXZ5.out)
 have HPZ6:=Lib.hid ((hb6.block bp hbp3).trans HPZ5.out)
 have HRP6:=Lib.hid (HRP.out.belowB hb6 HAP.out)
 clear hw6 hb6 HW5 HZ5 HXZ5 HPZ5 HRP hc11
 go_wp2_with fail
 refine Calls.mono (Bits.bytes_any p0 _ y6 HW6.out.wr (by have:=HLN.out 0;omega)) ?_
 rintro e y7 ⟨ob,cb,rfl,ho7,hb7⟩
 have hbx:=hb7.mono (Nat.le_of_lt HW6.out.lt)
 have HR7:=Lib.hid (ho7.reads HSB.out)
 have HA7:Hid (∀a,ob=some a→a.block<y7.heap.size):=Lib.hid (fun a e=>(ho7.lt e).2)
 have HW7:=Lib.hid (HW6.out.below hb7)
 have HZ7:=Lib.hid (HZ6.out.trans (hbx.mono hwp))
 have HXZ7:=Lib.hid ((hbx.block b0 hb03).trans HXZ6.out)
 have HPZ7:=Lib.hid ((hbx.block bp hbp3).trans HPZ6.out)
 have HRP7:=Lib.hid (HRP6.out.below hb7)
 have hp07:p0<y7.heap.size:=Nat.lt_of_lt_of_le HW6.out.lt hb7.size
 have HLS:=Lib.hid (HLN.out 0)
 have HRU:=Lib.hid (rows_two 22 HRP7.out HR7.out (by have:=HPL.out;omega) (by have:=HLS.out;omega) (fun a e=>Nat.lt_trans (HAP.out a e) hp07) HA7.out)
 clear ho7 hb7 hbx HW6 HZ6 HXZ6 HPZ6 HRP6
 go_wp2_with fail
 refine Calls.mono (sumof_any _ 2 2 _ _ HRU.out (by decide)) ?_
 rintro e y8 ⟨rfl,hb8⟩
 have hb78:=Below.via (Below.all (Below.refl y7.heap.size y7) (.cells #[.slice oP PL.length cP,.slice ob (tStands 17 a b 0 (8+(n:Int)) 0 l).length cb] 22)) hb8
 have HW8:=Lib.hid (HW7.out.below hb78)
 have HZ8:=Lib.hid (Below.via HZ7.out hb78)
 have HXZ8:=Lib.hid ((hb78.block b0 (Nat.lt_trans hb03 hp07)).trans HXZ7.out)
 have HPZ8:=Lib.hid ((hb78.block bp (Nat.lt_trans hbp3 hp07)).trans HPZ7.out)
 rw[show[PL,tStands 17 a b 0 (8+(n:Int)) 0 l].flatten=PL++tStands 17 a b 0 (8+(n:Int)) 0 l by simp]
 have hsm:=sumOf_le (PL++tStands 17 a b 0 (8+(n:Int)) 0 l)
 generalize sumOf (PL++tStands 17 a b 0 (8+(n:Int)) 0 l)=sm at*
 have hc0:y8.cell? ⟨b0,0,none⟩=some (.int .u8 17):=cell_of_row _ _ 0 _ _ (0,0) HXZ8.out
 have hc1:y8.cell? ⟨bp,1,none⟩=some (.int .i64 6):=cell_of_row _ _ 1 _ _ (0,0) HPZ8.out
 clear hb8 hb78 HRU HW7 HZ7 HXZ7 HPZ7 HRP7 HR7 HA7
 have hsm0:(0:Int)≤(sm:Int):=Int.natCast_nonneg _
 have hsm1:(sm:Int)<65536:=by omega
 by_cases hz:sm=0
 ·subst hz
  have HF2:Hid (tPut 17 a b 0 l src dst=tStands 17 a b 0 (8+(n:Int)) ((65535:Nat):Int) l):=Lib.hid (by rw[HFIN.out];simp)
  go_wp2_with fail
  refine Calls.mono (set2_any p0 _ 6 65535 (by decide) (by decide) y8 HW8.out.wr (by have:=HLS.out;omega) (by have:=HLS.out;omega)) ?_
  rintro e y9 ⟨rfl,hw9,hb9⟩
  have hw9':Wr y9 p0 (tStands 17 a b 0 (8+(n:Int)) ((65535:Nat):Int) l):=by
   have e:=HSET.out 65535
   rw[show((65535:Nat):Int)=65535 from rfl] at e⊢
   rw[e] at hw9
   exact hw9
  have HW9:=Lib.hid hw9'
  clear hw9'
  have HB9:=Lib.hid (HZ8.out.trans (hb9.mono hwp))
  clear hw9 hb9 HW8
  go_wp2_with fail
  refine Calls.mono (Bits.bytes_any p0 _ y9 HW9.out (by have:=HLN.out ((65535:Nat):Int);omega)) ?_
  rintro e y10 ⟨oz,cz,rfl,hoz,hbz⟩
  have HOZ:=Lib.hid (hoz.mono HB9.out.size)
  have HBZ:=Lib.hid (Below.via HB9.out hbz)
  clear hoz hbz
  go_wp2_with fail
  go_ret2
  rw[HF2.out]
  exact⟨oz,cz,rfl,HOZ.out,HBZ.out⟩
 ·have hz1:((sm:Int)==0)=false:=by simpa using hz
  have hz2:decide ((sm:Int)=0)=false:=by simpa using hz
  have HF2:Hid (tPut 17 a b 0 l src dst=tStands 17 a b 0 (8+(n:Int)) (sm:Int) l):=Lib.hid (by rw[HFIN.out,if_neg (fun h=>hz h.1)])
  go_wp2_with fail
  refine Calls.mono (set2_any p0 _ 6 sm hsm0 hsm1 y8 HW8.out.wr (by have:=HLS.out;omega) (by have:=HLS.out;omega)) ?_
  rintro e y9 ⟨rfl,hw9,hb9⟩
  rw[HSET.out sm] at hw9
  have HW9:=Lib.hid hw9
  have HB9:=Lib.hid (HZ8.out.trans (hb9.mono hwp))
  clear hw9 hb9 HW8
  go_wp2_with fail
  refine Calls.mono (Bits.bytes_any p0 _ y9 HW9.out (by have:=HLN.out (sm:Int);omega)) ?_
  rintro e y10 ⟨oz,cz,rfl,hoz,hbz⟩
  have HOZ:=Lib.hid (hoz.mono HB9.out.size)
  have HBZ:=Lib.hid (Below.via HB9.out hbz)
  clear hoz hbz
  go_wp2_with fail
  go_ret2
  rw[HF2.out]
  exact⟨oz,cz,rfl,HOZ.out,HBZ.out⟩
theorem tput_tcp (a b f:Int)(oD:Option Addr)(n cD:Nat)(l:List Int)(o1 o2:Option Addr)(k c1 c2:Nat)(src dst:List Int)(w:World)(hr:Reads w oD n cD l)(h1:Reads w o1 k c1 src)(h2:Reads w o2 k c2 dst)(hk:k=4∨k=16)(hn:n≤60000)(ha:0≤a∧a<65536)(hb:0≤b∧b<65536)(hf:0≤f∧f<256):
 Calls Tryz.prog 94 #[.agg (segV 6 a b f 0 0 oD n cD),.slice o1 k c1,.slice o2 k c2] w (BytesErr w (tPut 6 a b f l src dst) 0):=by
 have hR0:=Lib.hid hr
 have hnl:=hr.len
 have hnl':=hr.len
 have HLK:Hid (∀r w',w'.heap[r]? =some (.map protoRows 4)→(Instr.lookup 224 (.map (some r)) (.int .u8 6) true).run Tryz.prog w'=.ok (.tuple #[.agg #[.int .i64 20,.int .i64 16,.func (.func 184) #[] #[],.func (.func 185) #[] #[],.func (.func 186) #[] #[]],.bool true]) w'):=Lib.hid (fun r w' h=>proto_lookup 6 (.inl rfl) r w' h)
 have HRT:Hid (∀w',Reads w' oD n cD l→Calls Tryz.prog 152 #[.agg #[.int .u8 6,.int .u16 a,.int .u16 b,.int .u32 0,.int .u32 0,.int .u8 f,.int .u16 0,.int .u16 0,.slice none 0 0,.int .u8 0,.int .u8 0,.slice oD n cD]] w' (RetAt w' (.bool true))):=Lib.hid (fun w' h=>by have:=tright_tcp a b f oD n cD l w' h hn;unfold segV at this;exact this)
 have HTL:Hid (∀w',Calls Tryz.prog 138 #[.agg #[.int .i64 20,.int .i64 16,.func (.func 184) #[] #[],.func (.func 185) #[] #[],.func (.func 186) #[] #[]],.agg #[.int .u8 6,.int .u16 a,.int .u16 b,.int .u32 0,.int .u32 0,.int .u8 f,.int .u16 0,.int .u16 0,.slice none 0 0,.int .u8 0,.int .u8 0,.slice oD n cD]] w' (RetAt w' (.int .i64 (20+(n:Int))))):=Lib.hid (fun w'=>tlength_any 20 _ _ _ _ 6 a b f 0 0 oD n cD w' (by decide) (by omega))
 have HPS:Hid (∀w',Below w.heap.size w w'→Calls Tryz.prog 139 #[.int .u8 6,.int .i64 (20+(n:Int)),.slice o1 k c1,.slice o2 k c2] w' (PseudoPost w' (pseudoL 6 (20+(n:Int)) src dst))):=Lib.hid (fun w' hb=>by
  have g1:=h1.below hb
  have g2:=h2.below hb
  rcases hk with rfl|rfl
  ·exact pseudo_four 6 _ o1 o2 c1 c2 src dst w' g1 g2 (by omega) (by omega)
  ·exact pseudo_six 6 _ o1 o2 c1 c2 src dst w' g1 g2 (by omega) (by omega))
 have HPB:Hid (IsBytes (pseudoL 6 (20+(n:Int)) src dst)):=Lib.hid (pseudo_bytes _ _ _ _ h1.byte h2.byte (by omega))
 have HPL:Hid ((pseudoL 6 (20+(n:Int)) src dst).length≤100):=Lib.hid (by
  have e1:=h1.len
  have e2:=h2.len
  unfold pseudoL
  split
  ·simp
  ·split<;>simp only[List.length_append,be2,List.length_cons,List.length_nil]<;>omega)
 have HPUT:Hid (∀p0 w',WrK w' p0 (fun _=>False) []→Calls Tryz.prog 185 #[.pointer (some ⟨p0,0,none⟩),.agg #[.int .u8 6,.int .u16 a,.int .u16 b,.int .u32 0,.int .u32 0,.int .u8 f,.int .u16 0,.int .u16 0,.slice none 0 0,.int .u8 0,.int .u8 0,.slice oD n cD]] w' (PutsPost w' p0 (fun _=>False) (putsW 2 [a,b]++putsW 4 [0,0]++putsW 1 [80,f]++putsW 2 [0,0,0]))):=Lib.hid (fun p0 w' h=>by
  have:=by have:=puttcp_any p0 _ 6 a b f 0 0 oD n cD [] w' h ha hb hf (by simp);unfold segV at this;exact this
  simpa[List.nil_append] using this)
 have HST:Hid ((putsW 2 [a,b]++putsW 4 [0,0]++putsW 1 [80,f]++putsW 2 [0,0,0])++l=tStands 6 a b f (20+(n:Int)) 0 l):=Lib.hid (by unfold tStands;simp[putsW,putW,be2,be4])
 have HLL:Hid ((putsW 2 [a,b]++putsW 4 [0,0]++putsW 1 [80,f]++putsW 2 [0,0,0]).length=20):=Lib.hid (by simp[putsW,putW,be2,be4])
 have HLN:Hid (∀c:Int,(tStands 6 a b f (20+(n:Int)) c l).length=20+n):=Lib.hid (fun c=>by unfold tStands;simp[be2,hnl];omega)
 have HSB:Hid (IsBytes (tStands 6 a b f (20+(n:Int)) 0 l)):=Lib.hid (by unfold tStands;simp only[if_true];refine isBytes_app (isBytes_app (isBytes_app (isBytes_app (isBytes_app (be2_bytes _) (be2_bytes _)) ?_) (be2_bytes _)) ?_) hr.byte;(intro v hv;simp only[List.mem_cons,List.not_mem_nil,or_false] at hv;omega);(intro v hv;simp only[List.mem_cons,List.not_mem_nil,or_false] at hv;omega))
 have HSET:Hid (∀c:Nat,(tStands 6 a b f (20+(n:Int)) 0 l).take 16++be2 (c:Int)++(tStands 6 a b f (20+(n:Int)) 0 l).drop (16+2)=tStands 6 a b f (20+(n:Int)) (c:Int) l):=Lib.hid (fun c=>by unfold tStands;simp[be2])
 have HFIN:Hid (tPut 6 a b f l src dst=tStands 6 a b f (20+(n:Int)) (if sumOf (pseudoL 6 (20+(n:Int)) src dst++tStands 6 a b f (20+(n:Int)) 0 l)=0∧6=17 then 65535 else (sumOf (pseudoL 6 (20+(n:Int)) src dst++tStands 6 a b f (20+(n:Int)) 0 l):Int)) l):=Lib.hid (by
  unfold tPut tSum
  rw[show((tHead 6+l.length:Nat):Int)=20+(n:Int) by rw[hnl];unfold tHead;simp]
  simp)
 have hx:=heap_alloc_new w (.cells (segV 6 a b f 0 0 oD n cD) 149)
 have hB:Below w.heap.size w (w.alloc (.cells (segV 6 a b f 0 0 oD n cD) 149)):=Below.all (Below.refl _ _) _
 unfold segV at hx hB⊢
 clear hr h1 h2 hk hnl
 go_enter Tryz.func94,Tryz.ntmps94
 go_wp2_with fail
 obtain⟨b0,hb0e⟩:∃b,b=w.heap.size:=⟨_,rfl⟩
 rw[←hb0e] at hx⊢
 have HE0:=Lib.hid hb0e
 clear hb0e
 generalize hy:w.alloc (.cells #[.int .u8 6,.int .u16 a,.int .u16 b,.int .u32 0,.int .u32 0,.int .u8 f,.int .u16 0,.int .u16 0,.slice none 0 0,.int .u8 0,.int .u8 0,.slice oD n cD] 149)=y at*
 have hb0:b0<y.heap.size:=(Array.getElem?_eq_some_iff.1 hx).1
 have hc0:y.cell? ⟨b0,0,none⟩=some (.int .u8 6):=cell_of_row _ _ 0 _ _ (0,0) hx
 have HX:=Lib.hid hx
 have HB:=Lib.hid hB
 clear hx hB hy
 refine wp_region_fl [.w,.h,.h] [(1,1,0),(2,1,0)] (fun _ w'=>w'.cell? ⟨b0,0,none⟩=some (.int .u8 6)) [1] [(.w,0),(.w,3),(.q,4),(.q,5),(.q,6)] [(.w,8),(.q,9)] 7 (.cells #[.int .i64 0,.int .i64 0,.nilFunc,.nilFunc,.nilFunc] 222) (by kernel_rfl) (by kernel_rfl) rfl rfl ⟨fun _=>rfl,fun _ _=>by kernel_rfl⟩ (by kernel_rfl) (by kernel_rfl) ?_
 apply Exists.intro
 refine⟨fun wx hbx=>?_,?_,?_⟩
 ·have hcx:wx.cell? ⟨b0,0,none⟩=some (.int .u8 6):=(below_cell hbx hb0 _ rfl).trans hc0
  have hbx2:b0<wx.heap.size:=Nat.lt_of_lt_of_le hb0 hbx.size
  simp only[headsL]
  repeat go_big_quiet_step (fail)
  exact wpQuiet_nil rfl
 ·intro q hq oi hoi
  simp only[List.mem_cons,List.not_mem_nil,or_false] at hq
  rcases hq with rfl|rfl
  ·cases hoi;exact⟨_,rfl,rfl,fun w2 hw=>by kernel_rfl⟩
  ·cases hoi;exact⟨_,rfl,rfl,fun w2 hw=>by simp[execOp,go_sem,hw]⟩
 simp only[opsAt,List.getElem?_cons_succ,List.getElem?_cons_zero]
 refine⟨fun v fl w2=>∃r,v=.map (some r)∧ProtoSt y r fl w2,?_,?_,?_,?_⟩
 ·rintro fl-
  refine⟨rfl,fun w' hw'=>.inr ⟨136,#[],by kernel_rfl,?_⟩⟩
  obtain⟨⟨x,rfl⟩,hfb⟩:=hw'
  refine(protocols_any x.world).mono ?_
  rintro e w2 ⟨r,rfl,hr1,hr2,hb2⟩
  refine⟨_,rfl,r,rfl,Below.via x.below hb2,Nat.le_trans x.below.size hr1,hr2,fun b hb'=>⟨(hfb b hb').1,?_⟩⟩
  have:=(hfb b hb').2
  exact(hb2.block b (Array.getElem?_eq_some_iff.1 this).1).trans this
 ·rintro v fl g-w2 ⟨r,-,hst⟩
  exact(below_cell hst.1 hb0 _ rfl).trans hc0
 ·rintro-v w2 ⟨r,rfl,h1,h2,h3,-⟩
  exact⟨r,rfl,Below.all h1 _,h2,(heap_alloc_old _ _ (Array.getElem?_eq_some_iff.1 h3).1).trans h3,fun b hb'=>by cases hb';exact⟨h1.size,heap_alloc_new _ _⟩⟩
 rintro v ⟨fl0,w20,r,rfl,-⟩
 refine⟨fun v fl w2=>v=.tuple #[.agg #[.int .i64 20,.int .i64 16,.func (.func 184) #[] #[],.func (.func 185) #[] #[],.func (.func 186) #[] #[]],.bool true]∧ProtoSt y r fl w2,?_,fun _ _=>kept_top rfl,?_,?_⟩
 ·rintro fl-
  refine SeqRun.made rfl ?_
  rintro w' ⟨r',hr',hst⟩
  cases hr'
  exact⟨.tuple #[.agg #[.int .i64 20,.int .i64 16,.func (.func 184) #[] #[],.func (.func 185) #[] #[],.func (.func 186) #[] #[]],.bool true],w',exec_lookup _ _ (vm:=.map (some r)) (vx:=.int .u8 6) (by kernel_rfl) (by kernel_rfl) (HLK.out r w' hst.2.2.1),rfl,hst⟩
 ·rintro-v w2 ⟨h0,h1,h2,h3,-⟩
  exact⟨h0,Below.all h1 _,h2,(heap_alloc_old _ _ (Array.getElem?_eq_some_iff.1 h3).1).trans h3,fun b hb'=>by cases hb';exact⟨h1.size,heap_alloc_new _ _⟩⟩
 rintro v ⟨fl1,w21,rfl,-⟩
 refine⟨.tuple #[.agg #[.int .i64 20,.int .i64 16,.func (.func 184) #[] #[],.func (.func 185) #[] #[],.func (.func 186) #[] #[]],.bool true],⟨rfl,fun _=>by kernel_rfl⟩,?_⟩
 refine⟨.agg #[.int .i64 20,.int .i64 16,.func (.func 184) #[] #[],.func (.func 185) #[] #[],.func (.func 186) #[] #[]],⟨rfl,fun _=>by kernel_rfl⟩,?_⟩
 refine⟨.bool true,⟨rfl,fun _=>by kernel_rfl⟩,?_⟩
 intro bp
 refine⟨fun v fl w2=>v=undef∧Below y.heap.size y w2∧y.heap.size≤bp∧w2.heap[bp]? =some (.cells #[.int .i64 20,.int .i64 16,.func (.func 184) #[] #[],.func (.func 185) #[] #[],.func (.func 186) #[] #[]] 222 (0,0)),?_,fun _ _=>kept_top rfl,(fun h=>by cases h),?_⟩
 ·rintro fl rfl
  refine SeqRun.skip rfl ?_
  rintro w' ⟨-,hst⟩
  obtain⟨hbge,hbx⟩:=hst.2.2.2 bp rfl
  exact⟨_,do_store_pro _ w' bp #[.int .i64 20,.int .i64 16,.func (.func 184) #[] #[],.func (.func 185) #[] #[],.func (.func 186) #[] #[]] (by kernel_rfl) (by kernel_rfl) (by rw[rowFree_row _ _ _ _ _ hbx];rfl) rfl rfl,hst.1.trans (setRow_below _ hbge),hbge,setRow_row hbx⟩
 rintro v ⟨fl2,w22,rfl,-⟩
 refine⟨.bool true,⟨rfl,fun _=>by kernel_rfl⟩,?_⟩
 rintro zz ⟨-,hzz,hbge,hpz⟩
 have HZ:=Lib.hid (Below.via HB.out hzz)
 have HXZ:=Lib.hid ((hzz.block b0 hb0).trans HX.out)
 have HPZ:=Lib.hid hpz
 have hbpz:bp<zz.heap.size:=(Array.getElem?_eq_some_iff.1 hpz).1
 have hb0z:b0<zz.heap.size:=Nat.lt_of_lt_of_le hb0 hzz.size
 have hne:bp≠b0:=by omega
 have hpt:partOf zz b0 0 12=#[.int .u8 6,.int .u16 a,.int .u16 b,.int .u32 0,.int .u32 0,.int .u8 f,.int .u16 0,.int .u16 0,.slice none 0 0,.int .u8 0,.int .u8 0,.slice oD n cD]:=partOf_all HXZ.out rfl
 clear hzz hpz hbge hc0 hb0 w20 w21 w22 fl0 fl1 fl2 HX HB HLK
 unfold ptrTo
 go_wp2_with fail
 refine Calls.mono (HRT.out zz (hR0.out.below HZ.out)) ?_
 rintro e y2 ⟨rfl,hb2⟩
 have HZ2:=Lib.hid (Below.via HZ.out hb2)
 have HXZ2:=Lib.hid ((hb2.block b0 hb0z).trans HXZ.out)
 have HPZ2:=Lib.hid ((hb2.block bp hbpz).trans HPZ.out)
 clear hb2 hpt hbpz hb0z HZ HXZ HPZ HRT
 go_wp2_with fail
 have hb02:b0<y2.heap.size:=(Array.getElem?_eq_some_iff.1 HXZ2.out).1
 have hbp2:bp<y2.heap.size:=(Array.getElem?_eq_some_iff.1 HPZ2.out).1
 refine wp_region_sc [.h,.h,.h,.h,.h,.h,.h] [] (fun _ _=>True) [] [(.w,7),(.q,8),(.q,9),(.q,10),(.q,11),(.q,12)] (by kernel_rfl) (by kernel_rfl) (by kernel_rfl) (by kernel_rfl) ?_
 apply Exists.intro
 refine⟨fun wx hbx=>?_,by simp,?_⟩
 ·have hbx2:b0<wx.heap.size:=Nat.lt_of_lt_of_le hb02 hbx.size
  have hbx3:bp<wx.heap.size:=Nat.lt_of_lt_of_le hbp2 hbx.size
  have hxx:=(hbx.block b0 hb02).trans HXZ2.out
  have hcx:wx.cell? ⟨b0,0,none⟩=some (.int .u8 6):=cell_of_row _ _ 0 _ _ (0,0) hxx
  have hpt0:partOf wx b0 0 12=#[.int .u8 6,.int .u16 a,.int .u16 b,.int .u32 0,.int .u32 0,.int .u8 f,.int .u16 0,.int .u16 0,.slice none 0 0,.int .u8 0,.int .u8 0,.slice oD n cD]:=partOf_all hxx rfl
  have hptp:partOf wx bp 0 5=#[.int .i64 20,.int .i64 16,.func (.func 184) #[] #[],.func (.func 185) #[] #[],.func (.func 186) #[] #[]]:=partOf_all ((hbx.block bp hbp2).trans HPZ2.out) rfl
  have hld:∀x:Later wx,ldRun Tryz.prog 149 x.world (.pointer (some ⟨b0,0,none⟩))=.ok (.value (.agg #[.int .u8 6,.int .u16 a,.int .u16 b,.int .u32 0,.int .u32 0,.int .u8 f,.int .u16 0,.int .u16 0,.slice none 0 0,.int .u8 0,.int .u8 0,.slice oD n cD])) x.world:=fun x=>by
   have e:partOf x.world b0 0 12=_:=(Later.part x b0 0 12 hbx2).trans hpt0
   rw[run_load_seg x.world b0 0 (by rw[e];rfl),e]
  have hldp:∀x:Later wx,ldRun Tryz.prog 222 x.world (.pointer (some ⟨bp,0,none⟩))=.ok (.value (.agg #[.int .i64 20,.int .i64 16,.func (.func 184) #[] #[],.func (.func 185) #[] #[],.func (.func 186) #[] #[]])) x.world:=fun x=>by
   have e:partOf x.world bp 0 5=_:=(Later.part x bp 0 5 hbx3).trans hptp
   rw[run_load_pro x.world bp 0 (by rw[e];rfl),e]
  clear hxx hbx
  simp only[headsL]
  repeat go_big_quiet_step ((go_at_call 138;exact later_call (HTL.out _)))
  exact wpQuiet_nil rfl
 simp only[opsAt,List.getElem?_cons_succ,List.getElem?_cons_zero]
 generalize hPL:pseudoL 6 (20+(n:Int)) src dst=PL at*
 clear hPL
 refine⟨fun v fl w2=>∃oP cP,v=.tuple #[.slice oP PL.length cP,.bool true]∧Owns w2 y2.heap.size 1 oP PL.length cP (PL.map (.int .u8))∧Below y2.heap.size y2 w2,?_,fun _ _=>kept_none,(fun h=>by cases h),?_⟩
 ·rintro fl rfl
  refine⟨rfl,fun w' hw'=>.inr ⟨139,#[.int .u8 6,.int .i64 (20+(n:Int)),.slice o1 k c1,.slice o2 k c2],by kernel_rfl,?_⟩⟩
  obtain⟨⟨x,rfl⟩,-⟩:=hw'
  refine(HPS.out x.world (Below.via HZ2.out x.below)).mono ?_
  rintro e w2 ⟨oP,cP,rfl,ho,hb⟩
  exact⟨_,rfl,oP,cP,rfl,ho.mono x.below.size,Below.via x.below hb⟩
 rintro v ⟨fl3,w23,oP,cP,rfl,-⟩
 refine⟨.tuple #[.slice oP PL.length cP,.bool true],⟨rfl,fun _=>by kernel_rfl⟩,?_⟩
 refine⟨.slice oP PL.length cP,⟨rfl,fun _=>by kernel_rfl⟩,?_⟩
 refine⟨.bool true,⟨rfl,fun _=>by kernel_rfl⟩,?_⟩
 refine⟨.slice oP PL.length cP,⟨rfl,fun _=>by kernel_rfl⟩,?_⟩
 refine⟨.bool true,⟨rfl,fun _=>by kernel_rfl⟩,?_⟩
 rintro y3 ⟨oP',cP',he,hoP,hb3⟩
 obtain⟨rfl,rfl⟩:oP=oP'∧cP=cP':=by simpa using he
 clear he w23 fl3
 have HZ3:=Lib.hid (Below.via HZ2.out hb3)
 have hx3:=(hb3.block b0 hb02).trans HXZ2.out
 have hp3:=(hb3.block bp hbp2).trans HPZ2.out
 have hb03:b0<y3.heap.size:=(Array.getElem?_eq_some_iff.1 hx3).1
 have hbp3:bp<y3.heap.size:=(Array.getElem?_eq_some_iff.1 hp3).1
 have HOP:=Lib.hid hoP
 have HXZ3:=Lib.hid hx3
 have HPZ3:=Lib.hid hp3
 obtain⟨p0,hp0⟩:∃p0,p0=y3.heap.size:=⟨_,rfl⟩
 have hW:WrK (y3.alloc (.cells #[.slice none 0 0] 137)) y3.heap.size (fun _=>False) []:=by
  refine WrK.new ?_ ?_ ?_ ?_
  ·simp
  ·simp
  ·simp
  ·intro b hb;cases hb
 have HW:=Lib.hid hW
 have hBA:Below y3.heap.size y3 (y3.alloc (.cells #[.slice none 0 0] 137)):=Below.all (Below.refl _ _) _
 have hc3:(y3.alloc (.cells #[.slice none 0 0] 137)).cell? ⟨bp,3,none⟩=some (.func (.func 185) #[] #[]):=(World.cell?_of_block (a:=⟨bp,3,none⟩) (hBA.block bp hbp3)).trans (cell_of_row _ _ 3 _ _ (0,0) hp3)
 have hc3':y3.cell? ⟨bp,3,none⟩=some (.func (.func 185) #[] #[]):=cell_of_row _ _ 3 _ _ (0,0) hp3
 have hpt:partOf (y3.alloc (.cells #[.slice none 0 0] 137)) b0 0 12=#[.int .u8 6,.int .u16 a,.int .u16 b,.int .u32 0,.int .u32 0,.int .u8 f,.int .u16 0,.int .u16 0,.slice none 0 0,.int .u8 0,.int .u8 0,.slice oD n cD]:=partOf_all ((hBA.block b0 hb03).trans hx3) rfl
 have hpt':partOf y3 b0 0 12=#[.int .u8 6,.int .u16 a,.int .u16 b,.int .u32 0,.int .u32 0,.int .u8 f,.int .u16 0,.int .u16 0,.slice none 0 0,.int .u8 0,.int .u8 0,.slice oD n cD]:=partOf_all hx3 rfl
 have HBA:=Lib.hid hBA
 clear hW hBA hb3 hoP hx3 hp3 HXZ2 HPZ2 HZ2 hb02 hbp2 HPS
 go_wp2_with fail
 rw[←hp0] at HW HBA⊢
 generalize y3.alloc (.cells #[.slice none 0 0] 137)=y4 at*
 refine Calls.mono (HPUT.out p0 y4 HW.out) ?_
 rintro e y5 ⟨rfl,hw5,hb5,-⟩
 have hb35:=HBA.out.trans hb5
 rw[←hp0] at hb03 hbp3
 have hwp:w.heap.size≤p0:=by rw[hp0];exact HZ3.out.size
 have HZ5:=Lib.hid (HZ3.out.trans (hb35.mono hwp))
 have HXZ5:=Lib.hid ((hb35.block b0 hb03).trans HXZ3.out)
 have HPZ5:=Lib.hid ((hb35.block bp hbp3).trans HPZ3.out)
 have HRP:=Lib.hid ((HOP.out.reads HPB.out).belowB hb35 (fun a e=>by rw[hp0];exact(HOP.out.lt e).2))
 have HAP:Hid (∀a,oP=some a→a.block<p0):=Lib.hid (fun a e=>by rw[hp0];exact(HOP.out.lt e).2)
 have HW5:=Lib.hid hw5
 have hc11:y5.cell? ⟨b0,11,none⟩=some (.slice oD n cD):=cell_of_row _ _ 11 _ _ (0,0) HXZ5.out
 clear hw5 hb5 hb35 hc3 hc3' hpt hpt' HW HBA HXZ3 HPZ3 HOP HZ3 HPUT hp0
 go_wp2_with fail
 refine Calls.mono (raw_keep p0 _ _ oD n cD l y5 HW5.out (hR0.out.below HZ5.out) (by rw[HLL.out,hnl'];omega)) ?_
 rintro e y6 ⟨rfl,hw6,hb6,-⟩
 rw[HST.out] at hw6
 have HW6:=Lib.hid hw6
 have HZ6:=Lib.hid (HZ5.out.trans (hb6.mono hwp))
 have HXZ6:=Lib.hid ((hb6.block b0 hb03).trans HXZ5.out)
 have HPZ6:=Lib.hid ((hb6.block bp hbp3).trans HPZ5.out)
 have HRP6:=Lib.hid (HRP.out.belowB hb6 HAP.out)
 clear hw6 hb6 HW5 HZ5 HXZ5 HPZ5 HRP hc11
 go_wp2_with fail
 refine Calls.mono (Bits.bytes_any p0 _ y6 HW6.out.wr (by have:=HLN.out 0;omega)) ?_
 rintro e y7 ⟨ob,cb,rfl,ho7,hb7⟩
 have hbx:=hb7.mono (Nat.le_of_lt HW6.out.lt)
 have HR7:=Lib.hid (ho7.reads HSB.out)
 have HA7:Hid (∀a,ob=some a→a.block<y7.heap.size):=Lib.hid (fun a e=>(ho7.lt e).2)
 have HW7:=Lib.hid (HW6.out.below hb7)
 have HZ7:=Lib.hid (HZ6.out.trans (hbx.mono hwp))
 have HXZ7:=Lib.hid ((hbx.block b0 hb03).trans HXZ6.out)
 have HPZ7:=Lib.hid ((hbx.block bp hbp3).trans HPZ6.out)
 have HRP7:=Lib.hid (HRP6.out.below hb7)
 have hp07:p0<y7.heap.size:=Nat.lt_of_lt_of_le HW6.out.lt hb7.size
 have HLS:=Lib.hid (HLN.out 0)
 have HRU:=Lib.hid (rows_two 22 HRP7.out HR7.out (by have:=HPL.out;omega) (by have:=HLS.out;omega) (fun a e=>Nat.lt_trans (HAP.out a e) hp07) HA7.out)
 clear ho7 hb7 hbx HW6 HZ6 HXZ6 HPZ6 HRP6
 go_wp2_with fail
 refine Calls.mono (sumof_any _ 2 2 _ _ HRU.out (by decide)) ?_
 rintro e y8 ⟨rfl,hb8⟩
 have hb78:=Below.via (Below.all (Below.refl y7.heap.size y7) (.cells #[.slice oP PL.length cP,.slice ob (tStands 6 a b f (20+(n:Int)) 0 l).length cb] 22)) hb8
 have HW8:=Lib.hid (HW7.out.below hb78)
 have HZ8:=Lib.hid (Below.via HZ7.out hb78)
 have HXZ8:=Lib.hid ((hb78.block b0 (Nat.lt_trans hb03 hp07)).trans HXZ7.out)
 have HPZ8:=Lib.hid ((hb78.block bp (Nat.lt_trans hbp3 hp07)).trans HPZ7.out)
 rw[show[PL,tStands 6 a b f (20+(n:Int)) 0 l].flatten=PL++tStands 6 a b f (20+(n:Int)) 0 l by simp]
 have hsm:=sumOf_le (PL++tStands 6 a b f (20+(n:Int)) 0 l)
 generalize sumOf (PL++tStands 6 a b f (20+(n:Int)) 0 l)=sm at*
 have hc0:y8.cell? ⟨b0,0,none⟩=some (.int .u8 6):=cell_of_row _ _ 0 _ _ (0,0) HXZ8.out
 have hc1:y8.cell? ⟨bp,1,none⟩=some (.int .i64 16):=cell_of_row _ _ 1 _ _ (0,0) HPZ8.out
 clear hb8 hb78 HRU HW7 HZ7 HXZ7 HPZ7 HRP7 HR7 HA7
 have hsm0:(0:Int)≤(sm:Int):=Int.natCast_nonneg _
 have hsm1:(sm:Int)<65536:=by omega
 by_cases hz:sm=0
 ·subst hz
  have HF2:Hid (tPut 6 a b f l src dst=tStands 6 a b f (20+(n:Int)) ((0:Nat):Int) l):=Lib.hid (by rw[HFIN.out];simp)
  go_wp2_with fail
  refine Calls.mono (set2_any p0 _ 16 0 (by decide) (by decide) y8 HW8.out.wr (by have:=HLS.out;omega) (by have:=HLS.out;omega)) ?_
  rintro e y9 ⟨rfl,hw9,hb9⟩
  have hw9':Wr y9 p0 (tStands 6 a b f (20+(n:Int)) ((0:Nat):Int) l):=by
   have e:=HSET.out 0
   rw[show((0:Nat):Int)=0 from rfl] at e⊢
   rw[e] at hw9
   exact hw9
  have HW9:=Lib.hid hw9'
  clear hw9'
  have HB9:=Lib.hid (HZ8.out.trans (hb9.mono hwp))
  clear hw9 hb9 HW8
  go_wp2_with fail
  refine Calls.mono (Bits.bytes_any p0 _ y9 HW9.out (by have:=HLN.out ((0:Nat):Int);omega)) ?_
  rintro e y10 ⟨oz,cz,rfl,hoz,hbz⟩
  have HOZ:=Lib.hid (hoz.mono HB9.out.size)
  have HBZ:=Lib.hid (Below.via HB9.out hbz)
  clear hoz hbz
  go_wp2_with fail
  go_ret2
  rw[HF2.out]
  exact⟨oz,cz,rfl,HOZ.out,HBZ.out⟩
 ·have hz1:((sm:Int)==0)=false:=by simpa using hz
  have hz2:decide ((sm:Int)=0)=false:=by simpa using hz
  have HF2:Hid (tPut 6 a b f l src dst=tStands 6 a b f (20+(n:Int)) (sm:Int) l):=Lib.hid (by rw[HFIN.out,if_neg (fun h=>hz h.1)])
  go_wp2_with fail
  refine Calls.mono (set2_any p0 _ 16 sm hsm0 hsm1 y8 HW8.out.wr (by have:=HLS.out;omega) (by have:=HLS.out;omega)) ?_
  rintro e y9 ⟨rfl,hw9,hb9⟩
  rw[HSET.out sm] at hw9
  have HW9:=Lib.hid hw9
  have HB9:=Lib.hid (HZ8.out.trans (hb9.mono hwp))
  clear hw9 hb9 HW8
  go_wp2_with fail
  refine Calls.mono (Bits.bytes_any p0 _ y9 HW9.out (by have:=HLN.out (sm:Int);omega)) ?_
  rintro e y10 ⟨oz,cz,rfl,hoz,hbz⟩
  have HOZ:=Lib.hid (hoz.mono HB9.out.size)
  have HBZ:=Lib.hid (Below.via HB9.out hbz)
  clear hoz hbz
  go_wp2_with fail
  go_ret2
  rw[HF2.out]
  exact⟨oz,cz,rfl,HOZ.out,HBZ.out⟩
theorem tput_icmp (p ty cd:Int)(oD:Option Addr)(n cD:Nat)(l:List Int)(o1 o2:Option Addr)(k c1 c2:Nat)(src dst:List Int)(w:World)(hr:Reads w oD n cD l)(h1:Reads w o1 k c1 src)(h2:Reads w o2 k c2 dst)(hk:k=4∨k=16)(hn:n≤60000)(ha:0≤ty∧ty<256)(hb:0≤cd∧cd<256)(hp:p=1∨p=58):
 Calls Tryz.prog 94 #[.agg (segV p 0 0 0 ty cd oD n cD),.slice o1 k c1,.slice o2 k c2] w (BytesErr w (tPut p ty cd 0 l src dst) 0):=by
 have hR0:=Lib.hid hr
 have hnl:=hr.len
 have hnl':=hr.len
 have hp6:¬p=6:=by omega
 have hp17:¬p=17:=by omega
 have hp17b:(p==17)=false:=by simpa using hp17
 have hp17c:decide (p=17)=false:=by simpa using hp17
 have hpr:0≤p∧p<256:=by omega
 have HLK:Hid (∀r w',w'.heap[r]? =some (.map protoRows 4)→(Instr.lookup 224 (.map (some r)) (.int .u8 p) true).run Tryz.prog w'=.ok (.tuple #[.agg #[.int .i64 4,.int .i64 2,.func (.func 181) #[] #[],.func (.func 182) #[] #[],.func (.func 183) #[] #[]],.bool true]) w'):=Lib.hid (fun r w' h=>by have:=proto_lookup p (.inr (.inr hp)) r w' h;rwa [show protoOf p=protoIcmp by rcases hp with rfl|rfl<;>rfl] at this)
 have HRT:Hid (∀w',Reads w' oD n cD l→Calls Tryz.prog 152 #[.agg #[.int .u8 p,.int .u16 0,.int .u16 0,.int .u32 0,.int .u32 0,.int .u8 0,.int .u16 0,.int .u16 0,.slice none 0 0,.int .u8 ty,.int .u8 cd,.slice oD n cD]] w' (RetAt w' (.bool true))):=Lib.hid (fun w' h=>by have:=tright_icmp p ty cd oD n cD l w' h hn hp;unfold segV at this;exact this)
 have HTL:Hid (∀w',Calls Tryz.prog 138 #[.agg #[.int .i64 4,.int .i64 2,.func (.func 181) #[] #[],.func (.func 182) #[] #[],.func (.func 183) #[] #[]],.agg #[.int .u8 p,.int .u16 0,.int .u16 0,.int .u32 0,.int .u32 0,.int .u8 0,.int .u16 0,.int .u16 0,.slice none 0 0,.int .u8 ty,.int .u8 cd,.slice oD n cD]] w' (RetAt w' (.int .i64 (4+(n:Int))))):=Lib.hid (fun w'=>tlength_any 4 _ _ _ _ p 0 0 0 ty cd oD n cD w' (by decide) (by omega))
 have HPS:Hid (∀w',Below w.heap.size w w'→Calls Tryz.prog 139 #[.int .u8 p,.int .i64 (4+(n:Int)),.slice o1 k c1,.slice o2 k c2] w' (PseudoPost w' (pseudoL p (4+(n:Int)) src dst))):=Lib.hid (fun w' hb=>by
  have g1:=h1.below hb
  have g2:=h2.below hb
  rcases hk with rfl|rfl
  ·exact pseudo_four p _ o1 o2 c1 c2 src dst w' g1 g2 (by omega) (by omega)
  ·exact pseudo_six p _ o1 o2 c1 c2 src dst w' g1 g2 (by omega) (by omega))
 have HPB:Hid (IsBytes (pseudoL p (4+(n:Int)) src dst)):=Lib.hid (pseudo_bytes _ _ _ _ h1.byte h2.byte (by omega))
 have HPL:Hid ((pseudoL p (4+(n:Int)) src dst).length≤100):=Lib.hid (by
  have e1:=h1.len
  have e2:=h2.len
  unfold pseudoL
  split
  ·simp
  ·split<;>simp only[List.length_append,be2,List.length_cons,List.length_nil]<;>omega)
 have HPUT:Hid (∀p0 w',WrK w' p0 (fun _=>False) []→Calls Tryz.prog 182 #[.pointer (some ⟨p0,0,none⟩),.agg #[.int .u8 p,.int .u16 0,.int .u16 0,.int .u32 0,.int .u32 0,.int .u8 0,.int .u16 0,.int .u16 0,.slice none 0 0,.int .u8 ty,.int .u8 cd,.slice oD n cD]] w' (PutsPost w' p0 (fun _=>False) (putsW 1 [ty,cd]++putsW 2 [0]))):=Lib.hid (fun p0 w' h=>by
  have:=by have:=puticmp_any p0 _ p 0 0 0 ty cd oD n cD [] w' h ha hb (by simp);unfold segV at this;exact this
  simpa[List.nil_append] using this)
 have HST:Hid ((putsW 1 [ty,cd]++putsW 2 [0])++l=tStands p ty cd 0 (4+(n:Int)) 0 l):=Lib.hid (by unfold tStands;simp[putsW,putW,be2,be4,hp6,hp17])
 have HLL:Hid ((putsW 1 [ty,cd]++putsW 2 [0]).length=4):=Lib.hid (by simp[putsW,putW,be2,be4])
 have HLN:Hid (∀c:Int,(tStands p ty cd 0 (4+(n:Int)) c l).length=4+n):=Lib.hid (fun c=>by unfold tStands;simp[be2,hnl,hp6,hp17];omega)
 have HSB:Hid (IsBytes (tStands p ty cd 0 (4+(n:Int)) 0 l)):=Lib.hid (by unfold tStands;simp only[if_neg hp6,if_neg hp17];refine isBytes_app (isBytes_app ?_ (be2_bytes _)) hr.byte;(intro v hv;simp only[List.mem_cons,List.not_mem_nil,or_false] at hv;omega))
 have HSET:Hid (∀c:Nat,(tStands p ty cd 0 (4+(n:Int)) 0 l).take 2++be2 (c:Int)++(tStands p ty cd 0 (4+(n:Int)) 0 l).drop (2+2)=tStands p ty cd 0 (4+(n:Int)) (c:Int) l):=Lib.hid (fun c=>by unfold tStands;simp[be2,hp6,hp17])
 have HFIN:Hid (tPut p ty cd 0 l src dst=tStands p ty cd 0 (4+(n:Int)) (if sumOf (pseudoL p (4+(n:Int)) src dst++tStands p ty cd 0 (4+(n:Int)) 0 l)=0∧p=17 then 65535 else (sumOf (pseudoL p (4+(n:Int)) src dst++tStands p ty cd 0 (4+(n:Int)) 0 l):Int)) l):=Lib.hid (by
  unfold tPut tSum
  rw[show((tHead p+l.length:Nat):Int)=4+(n:Int) by rw[hnl];unfold tHead;simp[hp6,hp17,hp]]
  simp)
 have hx:=heap_alloc_new w (.cells (segV p 0 0 0 ty cd oD n cD) 149)
 have hB:Below w.heap.size w (w.alloc (.cells (segV p 0 0 0 ty cd oD n cD) 149)):=Below.all (Below.refl _ _) _
 unfold segV at hx hB⊢
 clear hr h1 h2 hk hp hnl
 go_enter Tryz.func94,Tryz.ntmps94
 go_wp2_with fail
 obtain⟨b0,hb0e⟩:∃b,b=w.heap.size:=⟨_,rfl⟩
 rw[←hb0e] at hx⊢
 have HE0:=Lib.hid hb0e
 clear hb0e
 generalize hy:w.alloc (.cells #[.int .u8 p,.int .u16 0,.int .u16 0,.int .u32 0,.int .u32 0,.int .u8 0,.int .u16 0,.int .u16 0,.slice none 0 0,.int .u8 ty,.int .u8 cd,.slice oD n cD] 149)=y at*
 have hb0:b0<y.heap.size:=(Array.getElem?_eq_some_iff.1 hx).1
 have hc0:y.cell? ⟨b0,0,none⟩=some (.int .u8 p):=cell_of_row _ _ 0 _ _ (0,0) hx
 have HX:=Lib.hid hx
 have HB:=Lib.hid hB
 clear hx hB hy
 refine wp_region_fl [.w,.h,.h] [(1,1,0),(2,1,0)] (fun _ w'=>w'.cell? ⟨b0,0,none⟩=some (.int .u8 p)) [1] [(.w,0),(.w,3),(.q,4),(.q,5),(.q,6)] [(.w,8),(.q,9)] 7 (.cells #[.int .i64 0,.int .i64 0,.nilFunc,.nilFunc,.nilFunc] 222) (by kernel_rfl) (by kernel_rfl) rfl rfl ⟨fun _=>rfl,fun _ _=>by kernel_rfl⟩ (by kernel_rfl) (by kernel_rfl) ?_
 apply Exists.intro
 refine⟨fun wx hbx=>?_,?_,?_⟩
 ·have hcx:wx.cell? ⟨b0,0,none⟩=some (.int .u8 p):=(below_cell hbx hb0 _ rfl).trans hc0
  have hbx2:b0<wx.heap.size:=Nat.lt_of_lt_of_le hb0 hbx.size
  simp only[headsL]
  repeat go_big_quiet_step (fail)
  exact wpQuiet_nil rfl
 ·intro q hq oi hoi
  simp only[List.mem_cons,List.not_mem_nil,or_false] at hq
  rcases hq with rfl|rfl
  ·cases hoi;exact⟨_,rfl,rfl,fun w2 hw=>by kernel_rfl⟩
  ·cases hoi;exact⟨_,rfl,rfl,fun w2 hw=>by simp[execOp,go_sem,hw]⟩
 simp only[opsAt,List.getElem?_cons_succ,List.getElem?_cons_zero]
 refine⟨fun v fl w2=>∃r,v=.map (some r)∧ProtoSt y r fl w2,?_,?_,?_,?_⟩
 ·rintro fl-
  refine⟨rfl,fun w' hw'=>.inr ⟨136,#[],by kernel_rfl,?_⟩⟩
  obtain⟨⟨x,rfl⟩,hfb⟩:=hw'
  refine(protocols_any x.world).mono ?_
  rintro e w2 ⟨r,rfl,hr1,hr2,hb2⟩
  refine⟨_,rfl,r,rfl,Below.via x.below hb2,Nat.le_trans x.below.size hr1,hr2,fun b hb'=>⟨(hfb b hb').1,?_⟩⟩
  have:=(hfb b hb').2
  exact(hb2.block b (Array.getElem?_eq_some_iff.1 this).1).trans this
 ·rintro v fl g-w2 ⟨r,-,hst⟩
  exact(below_cell hst.1 hb0 _ rfl).trans hc0
 ·rintro-v w2 ⟨r,rfl,h1,h2,h3,-⟩
  exact⟨r,rfl,Below.all h1 _,h2,(heap_alloc_old _ _ (Array.getElem?_eq_some_iff.1 h3).1).trans h3,fun b hb'=>by cases hb';exact⟨h1.size,heap_alloc_new _ _⟩⟩
 rintro v ⟨fl0,w20,r,rfl,-⟩
 refine⟨fun v fl w2=>v=.tuple #[.agg #[.int .i64 4,.int .i64 2,.func (.func 181) #[] #[],.func (.func 182) #[] #[],.func (.func 183) #[] #[]],.bool true]∧ProtoSt y r fl w2,?_,fun _ _=>kept_top rfl,?_,?_⟩
 ·rintro fl-
  refine SeqRun.made rfl ?_
  rintro w' ⟨r',hr',hst⟩
  cases hr'
  exact⟨.tuple #[.agg #[.int .i64 4,.int .i64 2,.func (.func 181) #[] #[],.func (.func 182) #[] #[],.func (.func 183) #[] #[]],.bool true],w',exec_lookup _ _ (vm:=.map (some r)) (vx:=.int .u8 p) (by kernel_rfl) (by kernel_rfl) (HLK.out r w' hst.2.2.1),rfl,hst⟩
 ·rintro-v w2 ⟨h0,h1,h2,h3,-⟩
  exact⟨h0,Below.all h1 _,h2,(heap_alloc_old _ _ (Array.getElem?_eq_some_iff.1 h3).1).trans h3,fun b hb'=>by cases hb';exact⟨h1.size,heap_alloc_new _ _⟩⟩
 rintro v ⟨fl1,w21,rfl,-⟩
 refine⟨.tuple #[.agg #[.int .i64 4,.int .i64 2,.func (.func 181) #[] #[],.func (.func 182) #[] #[],.func (.func 183) #[] #[]],.bool true],⟨rfl,fun _=>by kernel_rfl⟩,?_⟩
 refine⟨.agg #[.int .i64 4,.int .i64 2,.func (.func 181) #[] #[],.func (.func 182) #[] #[],.func (.func 183) #[] #[]],⟨rfl,fun _=>by kernel_rfl⟩,?_⟩
 refine⟨.bool true,⟨rfl,fun _=>by kernel_rfl⟩,?_⟩
 intro bp
 refine⟨fun v fl w2=>v=undef∧Below y.heap.size y w2∧y.heap.size≤bp∧w2.heap[bp]? =some (.cells #[.int .i64 4,.int .i64 2,.func (.func 181) #[] #[],.func (.func 182) #[] #[],.func (.func 183) #[] #[]] 222 (0,0)),?_,fun _ _=>kept_top rfl,(fun h=>by cases h),?_⟩
 ·rintro fl rfl
  refine SeqRun.skip rfl ?_
  rintro w' ⟨-,hst⟩
  obtain⟨hbge,hbx⟩:=hst.2.2.2 bp rfl
  exact⟨_,do_store_pro _ w' bp #[.int .i64 4,.int .i64 2,.func (.func 181) #[] #[],.func (.func 182) #[] #[],.func (.func 183) #[] #[]] (by kernel_rfl) (by kernel_rfl) (by rw[rowFree_row _ _ _ _ _ hbx];rfl) rfl rfl,hst.1.trans (setRow_below _ hbge),hbge,setRow_row hbx⟩
 rintro v ⟨fl2,w22,rfl,-⟩
 refine⟨.bool true,⟨rfl,fun _=>by kernel_rfl⟩,?_⟩
 rintro zz ⟨-,hzz,hbge,hpz⟩
 have HZ:=Lib.hid (Below.via HB.out hzz)
 have HXZ:=Lib.hid ((hzz.block b0 hb0).trans HX.out)
 have HPZ:=Lib.hid hpz
 have hbpz:bp<zz.heap.size:=(Array.getElem?_eq_some_iff.1 hpz).1
 have hb0z:b0<zz.heap.size:=Nat.lt_of_lt_of_le hb0 hzz.size
 have hne:bp≠b0:=by omega
 have hpt:partOf zz b0 0 12=#[.int .u8 p,.int .u16 0,.int .u16 0,.int .u32 0,.int .u32 0,.int .u8 0,.int .u16 0,.int .u16 0,.slice none 0 0,.int .u8 ty,.int .u8 cd,.slice oD n cD]:=partOf_all HXZ.out rfl
 clear hzz hpz hbge hc0 hb0 w20 w21 w22 fl0 fl1 fl2 HX HB HLK
 unfold ptrTo
 go_wp2_with fail
 refine Calls.mono (HRT.out zz (hR0.out.below HZ.out)) ?_
 rintro e y2 ⟨rfl,hb2⟩
 have HZ2:=Lib.hid (Below.via HZ.out hb2)
 have HXZ2:=Lib.hid ((hb2.block b0 hb0z).trans HXZ.out)
 have HPZ2:=Lib.hid ((hb2.block bp hbpz).trans HPZ.out)
 clear hb2 hpt hbpz hb0z HZ HXZ HPZ HRT
 go_wp2_with fail
 have hb02:b0<y2.heap.size:=(Array.getElem?_eq_some_iff.1 HXZ2.out).1
 have hbp2:bp<y2.heap.size:=(Array.getElem?_eq_some_iff.1 HPZ2.out).1
 refine wp_region_sc [.h,.h,.h,.h,.h,.h,.h] [] (fun _ _=>True) [] [(.w,7),(.q,8),(.q,9),(.q,10),(.q,11),(.q,12)] (by kernel_rfl) (by kernel_rfl) (by kernel_rfl) (by kernel_rfl) ?_
 apply Exists.intro
 refine⟨fun wx hbx=>?_,by simp,?_⟩
 ·have hbx2:b0<wx.heap.size:=Nat.lt_of_lt_of_le hb02 hbx.size
  have hbx3:bp<wx.heap.size:=Nat.lt_of_lt_of_le hbp2 hbx.size
  have hxx:=(hbx.block b0 hb02).trans HXZ2.out
  have hcx:wx.cell? ⟨b0,0,none⟩=some (.int .u8 p):=cell_of_row _ _ 0 _ _ (0,0) hxx
  have hpt0:partOf wx b0 0 12=#[.int .u8 p,.int .u16 0,.int .u16 0,.int .u32 0,.int .u32 0,.int .u8 0,.int .u16 0,.int .u16 0,.slice none 0 0,.int .u8 ty,.int .u8 cd,.slice oD n cD]:=partOf_all hxx rfl
  have hptp:partOf wx bp 0 5=#[.int .i64 4,.int .i64 2,.func (.func 181) #[] #[],.func (.func 182) #[] #[],.func (.func 183) #[] #[]]:=partOf_all ((hbx.block bp hbp2).trans HPZ2.out) rfl
  have hld:∀x:Later wx,ldRun Tryz.prog 149 x.world (.pointer (some ⟨b0,0,none⟩))=.ok (.value (.agg #[.int .u8 p,.int .u16 0,.int .u16 0,.int .u32 0,.int .u32 0,.int .u8 0,.int .u16 0,.int .u16 0,.slice none 0 0,.int .u8 ty,.int .u8 cd,.slice oD n cD])) x.world:=fun x=>by
   have e:partOf x.world b0 0 12=_:=(Later.part x b0 0 12 hbx2).trans hpt0
   rw[run_load_seg x.world b0 0 (by rw[e];rfl),e]
  have hldp:∀x:Later wx,ldRun Tryz.prog 222 x.world (.pointer (some ⟨bp,0,none⟩))=.ok (.value (.agg #[.int .i64 4,.int .i64 2,.func (.func 181) #[] #[],.func (.func 182) #[] #[],.func (.func 183) #[] #[]])) x.world:=fun x=>by
   have e:partOf x.world bp 0 5=_:=(Later.part x bp 0 5 hbx3).trans hptp
   rw[run_load_pro x.world bp 0 (by rw[e];rfl),e]
  clear hxx hbx
  simp only[headsL]
  repeat go_big_quiet_step ((go_at_call 138;exact later_call (HTL.out _)))
  exact wpQuiet_nil rfl
 simp only[opsAt,List.getElem?_cons_succ,List.getElem?_cons_zero]
 generalize hPL:pseudoL p (4+(n:Int)) src dst=PL at*
 clear hPL
 refine⟨fun v fl w2=>∃oP cP,v=.tuple #[.slice oP PL.length cP,.bool true]∧Owns w2 y2.heap.size 1 oP PL.length cP (PL.map (.int .u8))∧Below y2.heap.size y2 w2,?_,fun _ _=>kept_none,(fun h=>by cases h),?_⟩
 ·rintro fl rfl
  refine⟨rfl,fun w' hw'=>.inr ⟨139,#[.int .u8 p,.int .i64 (4+(n:Int)),.slice o1 k c1,.slice o2 k c2],by kernel_rfl,?_⟩⟩
  obtain⟨⟨x,rfl⟩,-⟩:=hw'
  refine(HPS.out x.world (Below.via HZ2.out x.below)).mono ?_
  rintro e w2 ⟨oP,cP,rfl,ho,hb⟩
  exact⟨_,rfl,oP,cP,rfl,ho.mono x.below.size,Below.via x.below hb⟩
 rintro v ⟨fl3,w23,oP,cP,rfl,-⟩
 refine⟨.tuple #[.slice oP PL.length cP,.bool true],⟨rfl,fun _=>by kernel_rfl⟩,?_⟩
 refine⟨.slice oP PL.length cP,⟨rfl,fun _=>by kernel_rfl⟩,?_⟩
 refine⟨.bool true,⟨rfl,fun _=>by kernel_rfl⟩,?_⟩
 refine⟨.slice oP PL.length cP,⟨rfl,fun _=>by kernel_rfl⟩,?_⟩
 refine⟨.bool true,⟨rfl,fun _=>by kernel_rfl⟩,?_⟩
 rintro y3 ⟨oP',cP',he,hoP,hb3⟩
 obtain⟨rfl,rfl⟩:oP=oP'∧cP=cP':=by simpa using he
 clear he w23 fl3
 have HZ3:=Lib.hid (Below.via HZ2.out hb3)
 have hx3:=(hb3.block b0 hb02).trans HXZ2.out
 have hp3:=(hb3.block bp hbp2).trans HPZ2.out
 have hb03:b0<y3.heap.size:=(Array.getElem?_eq_some_iff.1 hx3).1
 have hbp3:bp<y3.heap.size:=(Array.getElem?_eq_some_iff.1 hp3).1
 have HOP:=Lib.hid hoP
 have HXZ3:=Lib.hid hx3
 have HPZ3:=Lib.hid hp3
 obtain⟨p0,hp0⟩:∃p0,p0=y3.heap.size:=⟨_,rfl⟩
 have hW:WrK (y3.alloc (.cells #[.slice none 0 0] 137)) y3.heap.size (fun _=>False) []:=by
  refine WrK.new ?_ ?_ ?_ ?_
  ·simp
  ·simp
  ·simp
  ·intro b hb;cases hb
 have HW:=Lib.hid hW
 have hBA:Below y3.heap.size y3 (y3.alloc (.cells #[.slice none 0 0] 137)):=Below.all (Below.refl _ _) _
 have hc3:(y3.alloc (.cells #[.slice none 0 0] 137)).cell? ⟨bp,3,none⟩=some (.func (.func 182) #[] #[]):=(World.cell?_of_block (a:=⟨bp,3,none⟩) (hBA.block bp hbp3)).trans (cell_of_row _ _ 3 _ _ (0,0) hp3)
 have hc3':y3.cell? ⟨bp,3,none⟩=some (.func (.func 182) #[] #[]):=cell_of_row _ _ 3 _ _ (0,0) hp3
 have hpt:partOf (y3.alloc (.cells #[.slice none 0 0] 137)) b0 0 12=#[.int .u8 p,.int .u16 0,.int .u16 0,.int .u32 0,.int .u32 0,.int .u8 0,.int .u16 0,.int .u16 0,.slice none 0 0,.int .u8 ty,.int .u8 cd,.slice oD n cD]:=partOf_all ((hBA.block b0 hb03).trans hx3) rfl
 have hpt':partOf y3 b0 0 12=#[.int .u8 p,.int .u16 0,.int .u16 0,.int .u32 0,.int .u32 0,.int .u8 0,.int .u16 0,.int .u16 0,.slice none 0 0,.int .u8 ty,.int .u8 cd,.slice oD n cD]:=partOf_all hx3 rfl
 have HBA:=Lib.hid hBA
 clear hW hBA hb3 hoP hx3 hp3 HXZ2 HPZ2 HZ2 hb02 hbp2 HPS
 go_wp2_with fail
 rw[←hp0] at HW HBA⊢
 generalize y3.alloc (.cells #[.slice none 0 0] 137)=y4 at*
 refine Calls.mono (HPUT.out p0 y4 HW.out) ?_
 rintro e y5 ⟨rfl,hw5,hb5,-⟩
 have hb35:=HBA.out.trans hb5
 rw[←hp0] at hb03 hbp3
 have hwp:w.heap.size≤p0:=by rw[hp0];exact HZ3.out.size
 have HZ5:=Lib.hid (HZ3.out.trans (hb35.mono hwp))
 have HXZ5:=Lib.hid ((hb35.block b0 hb03).trans HXZ3.out)
 have HPZ5:=Lib.hid ((hb35.block bp hbp3).trans HPZ3.out)
 have HRP:=Lib.hid ((HOP.out.reads HPB.out).belowB hb35 (fun a e=>by rw[hp0];exact(HOP.out.lt e).2))
 have HAP:Hid (∀a,oP=some a→a.block<p0):=Lib.hid (fun a e=>by rw[hp0];exact(HOP.out.lt e).2)
 have HW5:=Lib.hid hw5
 have hc11:y5.cell? ⟨b0,11,none⟩=some (.slice oD n cD):=cell_of_row _ _ 11 _ _ (0,0) HXZ5.out
 clear hw5 hb5 hb35 hc3 hc3' hpt hpt' HW HBA HXZ3 HPZ3 HOP HZ3 HPUT hp0
 go_wp2_with fail
 refine Calls.mono (raw_keep p0 _ _ oD n cD l y5 HW5.out (hR0.out.below HZ5.out) (by rw[HLL.out,hnl'];omega)) ?_
 rintro e y6 ⟨rfl,hw6,hb6,-⟩
 rw[HST.out] at hw6
 have HW6:=Lib.hid hw6
 have HZ6:=Lib.hid (HZ5.out.trans (hb6.mono hwp))
 have HXZ6:=Lib.hid ((hb6.block b0 hb03).trans HXZ5.out)
 have HPZ6:=Lib.hid ((hb6.block bp hbp3).trans HPZ5.out)
 have HRP6:=Lib.hid (HRP.out.belowB hb6 HAP.out)
 clear hw6 hb6 HW5 HZ5 HXZ5 HPZ5 HRP hc11
 go_wp2_with fail
 refine Calls.mono (Bits.bytes_any p0 _ y6 HW6.out.wr (by have:=HLN.out 0;omega)) ?_
 rintro e y7 ⟨ob,cb,rfl,ho7,hb7⟩
 have hbx:=hb7.mono (Nat.le_of_lt HW6.out.lt)
 have HR7:=Lib.hid (ho7.reads HSB.out)
 have HA7:Hid (∀a,ob=some a→a.block<y7.heap.size):=Lib.hid (fun a e=>(ho7.lt e).2)
 have HW7:=Lib.hid (HW6.out.below hb7)
 have HZ7:=Lib.hid (HZ6.out.trans (hbx.mono hwp))
 have HXZ7:=Lib.hid ((hbx.block b0 hb03).trans HXZ6.out)
 have HPZ7:=Lib.hid ((hbx.block bp hbp3).trans HPZ6.out)
 have HRP7:=Lib.hid (HRP6.out.below hb7)
 have hp07:p0<y7.heap.size:=Nat.lt_of_lt_of_le HW6.out.lt hb7.size
 have HLS:=Lib.hid (HLN.out 0)
 have HRU:=Lib.hid (rows_two 22 HRP7.out HR7.out (by have:=HPL.out;omega) (by have:=HLS.out;omega) (fun a e=>Nat.lt_trans (HAP.out a e) hp07) HA7.out)
 clear ho7 hb7 hbx HW6 HZ6 HXZ6 HPZ6 HRP6
 go_wp2_with fail
 refine Calls.mono (sumof_any _ 2 2 _ _ HRU.out (by decide)) ?_
 rintro e y8 ⟨rfl,hb8⟩
 have hb78:=Below.via (Below.all (Below.refl y7.heap.size y7) (.cells #[.slice oP PL.length cP,.slice ob (tStands p ty cd 0 (4+(n:Int)) 0 l).length cb] 22)) hb8
 have HW8:=Lib.hid (HW7.out.below hb78)
 have HZ8:=Lib.hid (Below.via HZ7.out hb78)
 have HXZ8:=Lib.hid ((hb78.block b0 (Nat.lt_trans hb03 hp07)).trans HXZ7.out)
 have HPZ8:=Lib.hid ((hb78.block bp (Nat.lt_trans hbp3 hp07)).trans HPZ7.out)
 rw[show[PL,tStands p ty cd 0 (4+(n:Int)) 0 l].flatten=PL++tStands p ty cd 0 (4+(n:Int)) 0 l by simp]
 have hsm:=sumOf_le (PL++tStands p ty cd 0 (4+(n:Int)) 0 l)
 generalize sumOf (PL++tStands p ty cd 0 (4+(n:Int)) 0 l)=sm at*
 have hc0:y8.cell? ⟨b0,0,none⟩=some (.int .u8 p):=cell_of_row _ _ 0 _ _ (0,0) HXZ8.out
 have hc1:y8.cell? ⟨bp,1,none⟩=some (.int .i64 2):=cell_of_row _ _ 1 _ _ (0,0) HPZ8.out
 clear hb8 hb78 HRU HW7 HZ7 HXZ7 HPZ7 HRP7 HR7 HA7
 have hsm0:(0:Int)≤(sm:Int):=Int.natCast_nonneg _
 have hsm1:(sm:Int)<65536:=by omega
 by_cases hz:sm=0
 ·subst hz
  have HF2:Hid (tPut p ty cd 0 l src dst=tStands p ty cd 0 (4+(n:Int)) ((0:Nat):Int) l):=Lib.hid (by rw[HFIN.out];simp[hp17])
  go_wp2_with fail
  refine Calls.mono (set2_any p0 _ 2 0 (by decide) (by decide) y8 HW8.out.wr (by have:=HLS.out;omega) (by have:=HLS.out;omega)) ?_
  rintro e y9 ⟨rfl,hw9,hb9⟩
  have hw9':Wr y9 p0 (tStands p ty cd 0 (4+(n:Int)) ((0:Nat):Int) l):=by
   have e:=HSET.out 0
   rw[show((0:Nat):Int)=0 from rfl] at e⊢
   rw[e] at hw9
   exact hw9
  have HW9:=Lib.hid hw9'
  clear hw9'
  have HB9:=Lib.hid (HZ8.out.trans (hb9.mono hwp))
  clear hw9 hb9 HW8
  go_wp2_with fail
  refine Calls.mono (Bits.bytes_any p0 _ y9 HW9.out (by have:=HLN.out ((0:Nat):Int);omega)) ?_
  rintro e y10 ⟨oz,cz,rfl,hoz,hbz⟩
  have HOZ:=Lib.hid (hoz.mono HB9.out.size)
  have HBZ:=Lib.hid (Below.via HB9.out hbz)
  clear hoz hbz
  go_wp2_with fail
  go_ret2
  rw[HF2.out]
  exact⟨oz,cz,rfl,HOZ.out,HBZ.out⟩
 ·have hz1:((sm:Int)==0)=false:=by simpa using hz
  have hz2:decide ((sm:Int)=0)=false:=by simpa using hz
  have HF2:Hid (tPut p ty cd 0 l src dst=tStands p ty cd 0 (4+(n:Int)) (sm:Int) l):=Lib.hid (by rw[HFIN.out,if_neg (fun h=>hz h.1)])
  go_wp2_with fail
  refine Calls.mono (set2_any p0 _ 2 sm hsm0 hsm1 y8 HW8.out.wr (by have:=HLS.out;omega) (by have:=HLS.out;omega)) ?_
  rintro e y9 ⟨rfl,hw9,hb9⟩
  rw[HSET.out sm] at hw9
  have HW9:=Lib.hid hw9
  have HB9:=Lib.hid (HZ8.out.trans (hb9.mono hwp))
  clear hw9 hb9 HW8
  go_wp2_with fail
  refine Calls.mono (Bits.bytes_any p0 _ y9 HW9.out (by have:=HLN.out (sm:Int);omega)) ?_
  rintro e y10 ⟨oz,cz,rfl,hoz,hbz⟩
  have HOZ:=Lib.hid (hoz.mono HB9.out.size)
  have HBZ:=Lib.hid (Below.via HB9.out hbz)
  clear hoz hbz
  go_wp2_with fail
  go_ret2
  rw[HF2.out]
  exact⟨oz,cz,rfl,HOZ.out,HBZ.out⟩
end
end Go.Proofs.YtkgjbipfhhjlpaaGreatDoor
