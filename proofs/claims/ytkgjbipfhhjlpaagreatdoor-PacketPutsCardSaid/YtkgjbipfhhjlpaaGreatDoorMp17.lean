import Derived.Test.YtkgjbipfhhjlpaaGreatDoorMp16
set_option linter.unusedVariables false
set_option linter.unusedSimpArgs false
set_option maxRecDepth 100000
set_option maxHeartbeats 32000000
namespace Go.Proofs.YtkgjbipfhhjlpaaGreatDoor
section
open Go.RowKit Bits
def TPost (w:World)(cs:Option Addr→Nat→Option Addr→Nat→Array Value)(err:Int):Ending→World→Prop:=fun e w'=>(∃oO cO oD cD,e=.returned (.tuple #[.agg (cs oO cO oD cD),.int .i64 err]))∧Below w.heap.size w w'
theorem tparse_read_tcp (p hd sm:Int)(oa:Option Addr)(n cap:Nat)(l:List Int)(w:World)(hr:Reads w oa n cap l)(h1:hd≤(n:Int))(h2:n≤65535)
 (HLK:∀r w',w'.heap[r]? =some (.map protoRows 4)→(Instr.lookup 224 (.map (some r)) (.int .u8 p) true).run Tryz.prog w'=.ok (.tuple #[.agg #[.int .i64 hd,.int .i64 sm,.func (.func 184) #[] #[],.func (.func 185) #[] #[],.func (.func 186) #[] #[]],.bool true]) w')
 (s d q a f wi u:Int)(nO:Nat)(ty cd:Int)(nD:Nat)(err:Int)
 (HRD:∀y b pr,Rd y b pr l 0→Calls Tryz.prog 186 #[.pointer (some ⟨pr,0,none⟩)] y (ReadPost y pr s d q a f wi u nO ty cd nD err)):
 Calls Tryz.prog 77 #[.int .u8 p,.slice oa n cap] w (TPost w (fun oO cO oD cD=>if err=0 then #[.int .u8 p,.int .u16 s,.int .u16 d,.int .u32 q,.int .u32 a,.int .u8 f,.int .u16 wi,.int .u16 u,.slice oO nO cO,.int .u8 ty,.int .u8 cd,.slice oD nD cD] else segZC) err):=by
 have HR:=Lib.hid hr
 have HLKH:=Lib.hid HLK
 have HRDH:=Lib.hid HRD
 have hx:=heap_alloc_new w (.cells segZC 149)
 have hB:Below w.heap.size w (w.alloc (.cells segZC 149)):=Below.all (Below.refl _ _) _
 have hlt1:decide ((n:Int)<hd)=false:=by simp;omega
 have hlt2:decide ((n:Int)>65535)=false:=by simp;omega
 clear hr HLK HRD
 unfold segZC at hx hB
 have HX:=Lib.hid hx
 have HB:=Lib.hid hB
 clear hx hB
 go_enter Tryz.func77,Tryz.ntmps77
 go_wp2_with fail
 refine Calls.mono (protocols_any _) ?_
 rintro e y1 ⟨r,rfl,hr1,hr2,hb⟩
 have HB1:=Lib.hid (Below.via HB.out hb)
 have HX1:=Lib.hid ((hb.block w.heap.size (by simp)).trans HX.out)
 have hlk:=HLKH.out r y1 hr2
 have hw1:w.heap.size<y1.heap.size:=(Array.getElem?_eq_some_iff.1 HX1.out).1
 obtain⟨b4,hb4⟩:∃b,b=w.heap.size:=⟨_,rfl⟩
 have hBA:Below y1.heap.size y1 (y1.alloc (.cells #[.int .i64 hd,.int .i64 sm,.func (.func 184) #[] #[],.func (.func 185) #[] #[],.func (.func 186) #[] #[]] 222)):=Below.all (Below.refl _ _) _
 have hx6:=heap_alloc_new y1 (.cells #[.int .i64 hd,.int .i64 sm,.func (.func 184) #[] #[],.func (.func 185) #[] #[],.func (.func 186) #[] #[]] 222)
 have HXA:=Lib.hid ((hBA.block _ hw1).trans HX1.out)
 have HBA:=Lib.hid (Below.via HB1.out hBA)
 have HX6:=Lib.hid hx6
 have hc0:(y1.alloc (.cells #[.int .i64 hd,.int .i64 sm,.func (.func 184) #[] #[],.func (.func 185) #[] #[],.func (.func 186) #[] #[]] 222)).cell? ⟨y1.heap.size,0,none⟩=some (.int .i64 hd):=cell_of_row _ _ 0 _ _ (0,0) hx6
 clear hb hr2 HX HB hBA hx6 HX1 HB1
 go_wp2_with fail
 obtain⟨b6,hb6⟩:∃b,b=y1.heap.size:=⟨_,rfl⟩
 obtain⟨b4,hb4⟩:∃b,b=w.heap.size:=⟨_,rfl⟩
 rw[←hb6] at HX6⊢
 rw[←hb4] at HXA⊢
 have HR6:=Lib.hid (HR.out.below HBA.out)
 have HB4:=Lib.hid hb4
 clear hc0 hb6 hb4 hw1 hlk hr1
 generalize (y1.alloc (.cells #[.int .i64 hd,.int .i64 sm,.func (.func 184) #[] #[],.func (.func 185) #[] #[],.func (.func 186) #[] #[]] 222))=y at*
 have hb6y:b6<y.heap.size:=(Array.getElem?_eq_some_iff.1 HX6.out).1
 have hb4y:b4<y.heap.size:=(Array.getElem?_eq_some_iff.1 HXA.out).1
 have hc4:y.cell? ⟨b6,4,none⟩=some (.func (.func 186) #[] #[]):=cell_of_row _ _ 4 _ _ (0,0) HX6.out
 refine wp_region_fl [.h,.h,.h] [(0,1,0),(1,1,0)] (fun _ w'=>w'.cell? ⟨b6,4,none⟩=some (.func (.func 186) #[] #[])) [1] [(.w,3),(.w,4),(.q,5),(.q,6),(.q,7)] [(.w,9),(.q,10)] 8 (.cells segZC 149) (by kernel_rfl) (by kernel_rfl) rfl rfl ⟨fun _=>rfl,fun _ _=>by kernel_rfl⟩ (by kernel_rfl) (by kernel_rfl) ?_
 apply Exists.intro
 refine⟨fun wx hbx=>?_,?_,?_⟩
 ·have hcx:wx.cell? ⟨b6,4,none⟩=some (.func (.func 186) #[] #[]):=(below_cell hbx hb6y _ rfl).trans hc4
  have hbx2:b6<wx.heap.size:=Nat.lt_of_lt_of_le hb6y hbx.size
  simp only[headsL]
  repeat go_big_quiet_step (fail)
  exact wpQuiet_nil rfl
 ·intro q hq oi hoi
  simp only[List.mem_cons,List.not_mem_nil,or_false] at hq
  rcases hq with rfl|rfl
  ·cases hoi;exact⟨_,rfl,rfl,fun w2 hw=>by kernel_rfl⟩
  ·cases hoi;exact⟨_,rfl,rfl,fun w2 hw=>by simp[execOp,go_sem,hw]⟩
 simp only[opsAt,List.getElem?_cons_succ,List.getElem?_cons_zero]
 refine⟨fun v fl w2=>∃pr,v=.pointer (some ⟨pr,0,none⟩)∧y.heap.size≤pr∧(∃b,Rd w2 b pr l 0)∧Below y.heap.size y w2∧∀bb,fl=some bb→y.heap.size≤bb∧bb≠pr∧w2.heap[bb]? =some (.cells segZC 149 (0,0)),?_,?_,?_,?_⟩
 ·rintro fl-
  refine⟨rfl,fun w' hw'=>.inr ⟨137,#[.slice oa n cap],by kernel_rfl,?_⟩⟩
  obtain⟨⟨x,rfl⟩,hfb⟩:=hw'
  refine(read_any oa n cap l x.world (HR6.out.below x.below) (by omega)).mono ?_
  rintro e w2 ⟨pr,rfl,hpr,hrd,hb2⟩
  refine⟨_,rfl,pr,rfl,Nat.le_trans x.below.size hpr,⟨_,hrd⟩,Below.via x.below hb2,fun bb hbb=>⟨(hfb bb hbb).1,?_,?_⟩⟩
  ·have:=(Array.getElem?_eq_some_iff.1 (hfb bb hbb).2).1;omega
  ·have:=(hfb bb hbb).2
   exact(hb2.block bb (Array.getElem?_eq_some_iff.1 this).1).trans this
 ·rintro v fl g-w2 ⟨pr,-,-,-,hb,-⟩
  exact(below_cell hb hb6y _ rfl).trans hc4
 ·rintro-v w2 ⟨pr,h1,h2,⟨b,hrd⟩,h3,-⟩
  exact⟨pr,h1,h2,⟨b,hrd.below (Below.all (Below.refl _ _) _)⟩,Below.all h3 _,fun bb hbb=>by cases hbb;exact⟨h3.size,fun e=>by have:=hrd.lt;omega,heap_alloc_new _ _⟩⟩
 rintro v ⟨fl0,w20,pr,rfl,-⟩
 refine⟨fun v fl w2=>(∃oO cO oD cD,v=.tuple #[.agg (readC s d q a f wi u oO nO cO ty cd oD nD cD),.int .i64 err])∧Below y.heap.size y w2∧∀bb,fl=some bb→y.heap.size≤bb∧w2.heap[bb]? =some (.cells segZC 149 (0,0)),?_,fun _ _=>kept_top rfl,?_,?_⟩
 ·rintro fl-
  refine⟨rfl,fun w' hw'=>.inr ⟨186,#[.pointer (some ⟨pr,0,none⟩)],by kernel_rfl,?_⟩⟩
  obtain⟨pr',he,hpr,⟨b,hrd⟩,hb1,hfb⟩:=hw'
  cases he
  refine(HRDH.out w' b pr hrd).mono ?_
  rintro e w2 ⟨⟨oO,cO,oD,cD,rfl⟩,ho⟩
  refine⟨_,rfl,⟨oO,cO,oD,cD,rfl⟩,hb1.trans (ho.below.mono hpr),fun bb hbb=>⟨(hfb bb hbb).1,?_⟩⟩
  have h2:=(hfb bb hbb).2
  exact(ho.keep bb h2.1 (Array.getElem?_eq_some_iff.1 h2.2).1).trans h2.2
 ·rintro-v w2 ⟨h1,h3,-⟩
  exact⟨h1,Below.all h3 _,fun bb hbb=>by cases hbb;exact⟨h3.size,heap_alloc_new _ _⟩⟩
 rintro v ⟨fl1,w21,⟨oO,cO,oD,cD,rfl⟩,-⟩
 refine⟨.tuple #[.agg (readC s d q a f wi u oO nO cO ty cd oD nD cD),.int .i64 err],⟨rfl,fun _=>by kernel_rfl⟩,?_⟩
 refine⟨.agg (readC s d q a f wi u oO nO cO ty cd oD nD cD),⟨rfl,fun _=>by kernel_rfl⟩,?_⟩
 refine⟨.int .i64 err,⟨rfl,fun _=>by kernel_rfl⟩,?_⟩
 intro bp
 refine⟨fun v fl w2=>v=undef∧Below y.heap.size y w2∧y.heap.size≤bp∧w2.heap[bp]? =some (.cells (readC s d q a f wi u oO nO cO ty cd oD nD cD) 149 (0,0)),?_,fun _ _=>kept_top rfl,(fun h=>by cases h),?_⟩
 ·rintro fl rfl
  refine SeqRun.skip rfl ?_
  rintro w' ⟨-,hb1,hst⟩
  obtain⟨hbge,hbx⟩:=hst bp rfl
  exact⟨_,do_store_seg _ w' bp (readC s d q a f wi u oO nO cO ty cd oD nD cD) (by kernel_rfl) (by kernel_rfl) (by rw[rowFree_row _ _ _ _ _ hbx];rfl) rfl rfl,hb1.trans (setRow_below _ hbge),hbge,setRow_row hbx⟩
 rintro v ⟨fl2,w22,rfl,-⟩
 refine⟨.int .i64 err,⟨rfl,fun _=>by kernel_rfl⟩,?_⟩
 rintro zz ⟨-,hzz,hbge,hpz⟩
 have HZ:=Lib.hid (HBA.out.trans (hzz.mono HBA.out.size))
 have hx4:zz.heap[b4]? =some (.cells #[.int .u8 0,.int .u16 0,.int .u16 0,.int .u32 0,.int .u32 0,.int .u8 0,.int .u16 0,.int .u16 0,.slice none 0 0,.int .u8 0,.int .u8 0,.slice none 0 0] 149 (0,0)):=(hzz.block b4 hb4y).trans HXA.out
 have HX4:=Lib.hid hx4
 unfold readC at hpz⊢
 have HPZ:=Lib.hid hpz
 have hb4p:b4≠bp:=by omega
 have hb4w:w.heap.size≤b4:=by have:=HB4.out;omega
 have hbpw:w.heap.size≤bp:=by omega
 have hb4l:b4<zz.heap.size:=(Array.getElem?_eq_some_iff.1 hx4).1
 clear hzz hpz hc4 w20 w21 w22 fl0 fl1 fl2 HXA HBA HX6 HR6
 unfold ptrTo
 by_cases he:err=0
 ·subst he
  have hc0:zz.cell? ⟨bp,0,none⟩=some (.int .u8 0):=cell_of_row _ _ 0 _ _ (0,0) HPZ.out
  have hf0:=frozen_of_row _ _ 0 _ _ HPZ.out
  have HP2:=Lib.hid (seg_set0 (.int .u8 p) HPZ.out)
  have HX42:Hid ((zz.setCell ⟨bp,0,none⟩ (.int .u8 p)).heap[b4]? =some (.cells #[.int .u8 0,.int .u16 0,.int .u16 0,.int .u32 0,.int .u32 0,.int .u8 0,.int .u16 0,.int .u16 0,.slice none 0 0,.int .u8 0,.int .u8 0,.slice none 0 0] 149 (0,0))):=Lib.hid ((Below.heap_setCell _ _ _ _ hb4p).trans HX4.out)
  have hpt:partOf (zz.setCell ⟨bp,0,none⟩ (.int .u8 p)) bp 0 12=#[.int .u8 p,.int .u16 s,.int .u16 d,.int .u32 q,.int .u32 a,.int .u8 f,.int .u16 wi,.int .u16 u,.slice oO nO cO,.int .u8 ty,.int .u8 cd,.slice oD nD cD]:=partOf_all HP2.out rfl
  have hrf:rowFree (zz.setCell ⟨bp,0,none⟩ (.int .u8 p)) b4 12=true:=by rw[rowFree_row _ _ _ _ _ HX42.out];rfl
  clear hx4
  go_wp2_with fail
  refine bodyPost_ret (seg_ret2 rfl _ _ b4 _ _ _ (0,0) rfl rfl (setRow_row HX42.out) rfl) rfl ?_
  exact⟨⟨oO,cO,oD,cD,rfl⟩,(HZ.out.setCell hbpw _).trans (setRow_below _ hb4w)⟩
 ·have her:(err != 0)=true:=by simpa using he
  have her2:decide (err=0)=false:=by simpa using he
  have hrf:rowFree zz b4 12=true:=by rw[rowFree_row _ _ _ _ _ HX4.out];rfl
  clear hx4
  go_wp2_with fail
  refine bodyPost_ret (seg_ret2 rfl _ _ b4 _ _ _ (0,0) rfl rfl (setRow_row HX4.out) rfl) rfl ?_
  exact⟨⟨none,0,none,0,rfl⟩,HZ.out.trans (setRow_below _ hb4w)⟩
theorem tparse_read_udp (p hd sm:Int)(oa:Option Addr)(n cap:Nat)(l:List Int)(w:World)(hr:Reads w oa n cap l)(h1:hd≤(n:Int))(h2:n≤65535)
 (HLK:∀r w',w'.heap[r]? =some (.map protoRows 4)→(Instr.lookup 224 (.map (some r)) (.int .u8 p) true).run Tryz.prog w'=.ok (.tuple #[.agg #[.int .i64 hd,.int .i64 sm,.func (.func 187) #[] #[],.func (.func 188) #[] #[],.func (.func 189) #[] #[]],.bool true]) w')
 (s d q a f wi u:Int)(nO:Nat)(ty cd:Int)(nD:Nat)(err:Int)
 (HRD:∀y b pr,Rd y b pr l 0→Calls Tryz.prog 189 #[.pointer (some ⟨pr,0,none⟩)] y (ReadPost y pr s d q a f wi u nO ty cd nD err)):
 Calls Tryz.prog 77 #[.int .u8 p,.slice oa n cap] w (TPost w (fun oO cO oD cD=>if err=0 then #[.int .u8 p,.int .u16 s,.int .u16 d,.int .u32 q,.int .u32 a,.int .u8 f,.int .u16 wi,.int .u16 u,.slice oO nO cO,.int .u8 ty,.int .u8 cd,.slice oD nD cD] else segZC) err):=by
 have HR:=Lib.hid hr
 have HLKH:=Lib.hid HLK
 have HRDH:=Lib.hid HRD
 have hx:=heap_alloc_new w (.cells segZC 149)
 have hB:Below w.heap.size w (w.alloc (.cells segZC 149)):=Below.all (Below.refl _ _) _
 have hlt1:decide ((n:Int)<hd)=false:=by simp;omega
 have hlt2:decide ((n:Int)>65535)=false:=by simp;omega
 clear hr HLK HRD
 unfold segZC at hx hB
 have HX:=Lib.hid hx
 have HB:=Lib.hid hB
 clear hx hB
 go_enter Tryz.func77,Tryz.ntmps77
 go_wp2_with fail
 refine Calls.mono (protocols_any _) ?_
 rintro e y1 ⟨r,rfl,hr1,hr2,hb⟩
 have HB1:=Lib.hid (Below.via HB.out hb)
 have HX1:=Lib.hid ((hb.block w.heap.size (by simp)).trans HX.out)
 have hlk:=HLKH.out r y1 hr2
 have hw1:w.heap.size<y1.heap.size:=(Array.getElem?_eq_some_iff.1 HX1.out).1
 obtain⟨b4,hb4⟩:∃b,b=w.heap.size:=⟨_,rfl⟩
 have hBA:Below y1.heap.size y1 (y1.alloc (.cells #[.int .i64 hd,.int .i64 sm,.func (.func 187) #[] #[],.func (.func 188) #[] #[],.func (.func 189) #[] #[]] 222)):=Below.all (Below.refl _ _) _
 have hx6:=heap_alloc_new y1 (.cells #[.int .i64 hd,.int .i64 sm,.func (.func 187) #[] #[],.func (.func 188) #[] #[],.func (.func 189) #[] #[]] 222)
 have HXA:=Lib.hid ((hBA.block _ hw1).trans HX1.out)
 have HBA:=Lib.hid (Below.via HB1.out hBA)
 have HX6:=Lib.hid hx6
 have hc0:(y1.alloc (.cells #[.int .i64 hd,.int .i64 sm,.func (.func 187) #[] #[],.func (.func 188) #[] #[],.func (.func 189) #[] #[]] 222)).cell? ⟨y1.heap.size,0,none⟩=some (.int .i64 hd):=cell_of_row _ _ 0 _ _ (0,0) hx6
 clear hb hr2 HX HB hBA hx6 HX1 HB1
 go_wp2_with fail
 obtain⟨b6,hb6⟩:∃b,b=y1.heap.size:=⟨_,rfl⟩
 obtain⟨b4,hb4⟩:∃b,b=w.heap.size:=⟨_,rfl⟩
 rw[←hb6] at HX6⊢
 rw[←hb4] at HXA⊢
 have HR6:=Lib.hid (HR.out.below HBA.out)
 have HB4:=Lib.hid hb4
 clear hc0 hb6 hb4 hw1 hlk hr1
 generalize (y1.alloc (.cells #[.int .i64 hd,.int .i64 sm,.func (.func 187) #[] #[],.func (.func 188) #[] #[],.func (.func 189) #[] #[]] 222))=y at*
 have hb6y:b6<y.heap.size:=(Array.getElem?_eq_some_iff.1 HX6.out).1
 have hb4y:b4<y.heap.size:=(Array.getElem?_eq_some_iff.1 HXA.out).1
 have hc4:y.cell? ⟨b6,4,none⟩=some (.func (.func 189) #[] #[]):=cell_of_row _ _ 4 _ _ (0,0) HX6.out
 refine wp_region_fl [.h,.h,.h] [(0,1,0),(1,1,0)] (fun _ w'=>w'.cell? ⟨b6,4,none⟩=some (.func (.func 189) #[] #[])) [1] [(.w,3),(.w,4),(.q,5),(.q,6),(.q,7)] [(.w,9),(.q,10)] 8 (.cells segZC 149) (by kernel_rfl) (by kernel_rfl) rfl rfl ⟨fun _=>rfl,fun _ _=>by kernel_rfl⟩ (by kernel_rfl) (by kernel_rfl) ?_
 apply Exists.intro
 refine⟨fun wx hbx=>?_,?_,?_⟩
 ·have hcx:wx.cell? ⟨b6,4,none⟩=some (.func (.func 189) #[] #[]):=(below_cell hbx hb6y _ rfl).trans hc4
  have hbx2:b6<wx.heap.size:=Nat.lt_of_lt_of_le hb6y hbx.size
  simp only[headsL]
  repeat go_big_quiet_step (fail)
  exact wpQuiet_nil rfl
 ·intro q hq oi hoi
  simp only[List.mem_cons,List.not_mem_nil,or_false] at hq
  rcases hq with rfl|rfl
  ·cases hoi;exact⟨_,rfl,rfl,fun w2 hw=>by kernel_rfl⟩
  ·cases hoi;exact⟨_,rfl,rfl,fun w2 hw=>by simp[execOp,go_sem,hw]⟩
 simp only[opsAt,List.getElem?_cons_succ,List.getElem?_cons_zero]
 refine⟨fun v fl w2=>∃pr,v=.pointer (some ⟨pr,0,none⟩)∧y.heap.size≤pr∧(∃b,Rd w2 b pr l 0)∧Below y.heap.size y w2∧∀bb,fl=some bb→y.heap.size≤bb∧bb≠pr∧w2.heap[bb]? =some (.cells segZC 149 (0,0)),?_,?_,?_,?_⟩
 ·rintro fl-
  refine⟨rfl,fun w' hw'=>.inr ⟨137,#[.slice oa n cap],by kernel_rfl,?_⟩⟩
  obtain⟨⟨x,rfl⟩,hfb⟩:=hw'
  refine(read_any oa n cap l x.world (HR6.out.below x.below) (by omega)).mono ?_
  rintro e w2 ⟨pr,rfl,hpr,hrd,hb2⟩
  refine⟨_,rfl,pr,rfl,Nat.le_trans x.below.size hpr,⟨_,hrd⟩,Below.via x.below hb2,fun bb hbb=>⟨(hfb bb hbb).1,?_,?_⟩⟩
  ·have:=(Array.getElem?_eq_some_iff.1 (hfb bb hbb).2).1;omega
  ·have:=(hfb bb hbb).2
   exact(hb2.block bb (Array.getElem?_eq_some_iff.1 this).1).trans this
 ·rintro v fl g-w2 ⟨pr,-,-,-,hb,-⟩
  exact(below_cell hb hb6y _ rfl).trans hc4
 ·rintro-v w2 ⟨pr,h1,h2,⟨b,hrd⟩,h3,-⟩
  exact⟨pr,h1,h2,⟨b,hrd.below (Below.all (Below.refl _ _) _)⟩,Below.all h3 _,fun bb hbb=>by cases hbb;exact⟨h3.size,fun e=>by have:=hrd.lt;omega,heap_alloc_new _ _⟩⟩
 rintro v ⟨fl0,w20,pr,rfl,-⟩
 refine⟨fun v fl w2=>(∃oO cO oD cD,v=.tuple #[.agg (readC s d q a f wi u oO nO cO ty cd oD nD cD),.int .i64 err])∧Below y.heap.size y w2∧∀bb,fl=some bb→y.heap.size≤bb∧w2.heap[bb]? =some (.cells segZC 149 (0,0)),?_,fun _ _=>kept_top rfl,?_,?_⟩
 ·rintro fl-
  refine⟨rfl,fun w' hw'=>.inr ⟨189,#[.pointer (some ⟨pr,0,none⟩)],by kernel_rfl,?_⟩⟩
  obtain⟨pr',he,hpr,⟨b,hrd⟩,hb1,hfb⟩:=hw'
  cases he
  refine(HRDH.out w' b pr hrd).mono ?_
  rintro e w2 ⟨⟨oO,cO,oD,cD,rfl⟩,ho⟩
  refine⟨_,rfl,⟨oO,cO,oD,cD,rfl⟩,hb1.trans (ho.below.mono hpr),fun bb hbb=>⟨(hfb bb hbb).1,?_⟩⟩
  have h2:=(hfb bb hbb).2
  exact(ho.keep bb h2.1 (Array.getElem?_eq_some_iff.1 h2.2).1).trans h2.2
 ·rintro-v w2 ⟨h1,h3,-⟩
  exact⟨h1,Below.all h3 _,fun bb hbb=>by cases hbb;exact⟨h3.size,heap_alloc_new _ _⟩⟩
 rintro v ⟨fl1,w21,⟨oO,cO,oD,cD,rfl⟩,-⟩
 refine⟨.tuple #[.agg (readC s d q a f wi u oO nO cO ty cd oD nD cD),.int .i64 err],⟨rfl,fun _=>by kernel_rfl⟩,?_⟩
 refine⟨.agg (readC s d q a f wi u oO nO cO ty cd oD nD cD),⟨rfl,fun _=>by kernel_rfl⟩,?_⟩
 refine⟨.int .i64 err,⟨rfl,fun _=>by kernel_rfl⟩,?_⟩
 intro bp
 refine⟨fun v fl w2=>v=undef∧Below y.heap.size y w2∧y.heap.size≤bp∧w2.heap[bp]? =some (.cells (readC s d q a f wi u oO nO cO ty cd oD nD cD) 149 (0,0)),?_,fun _ _=>kept_top rfl,(fun h=>by cases h),?_⟩
 ·rintro fl rfl
  refine SeqRun.skip rfl ?_
  rintro w' ⟨-,hb1,hst⟩
  obtain⟨hbge,hbx⟩:=hst bp rfl
  exact⟨_,do_store_seg _ w' bp (readC s d q a f wi u oO nO cO ty cd oD nD cD) (by kernel_rfl) (by kernel_rfl) (by rw[rowFree_row _ _ _ _ _ hbx];rfl) rfl rfl,hb1.trans (setRow_below _ hbge),hbge,setRow_row hbx⟩
 rintro v ⟨fl2,w22,rfl,-⟩
 refine⟨.int .i64 err,⟨rfl,fun _=>by kernel_rfl⟩,?_⟩
 rintro zz ⟨-,hzz,hbge,hpz⟩
 have HZ:=Lib.hid (HBA.out.trans (hzz.mono HBA.out.size))
 have hx4:zz.heap[b4]? =some (.cells #[.int .u8 0,.int .u16 0,.int .u16 0,.int .u32 0,.int .u32 0,.int .u8 0,.int .u16 0,.int .u16 0,.slice none 0 0,.int .u8 0,.int .u8 0,.slice none 0 0] 149 (0,0)):=(hzz.block b4 hb4y).trans HXA.out
 have HX4:=Lib.hid hx4
 unfold readC at hpz⊢
 have HPZ:=Lib.hid hpz
 have hb4p:b4≠bp:=by omega
 have hb4w:w.heap.size≤b4:=by have:=HB4.out;omega
 have hbpw:w.heap.size≤bp:=by omega
 have hb4l:b4<zz.heap.size:=(Array.getElem?_eq_some_iff.1 hx4).1
 clear hzz hpz hc4 w20 w21 w22 fl0 fl1 fl2 HXA HBA HX6 HR6
 unfold ptrTo
 by_cases he:err=0
 ·subst he
  have hc0:zz.cell? ⟨bp,0,none⟩=some (.int .u8 0):=cell_of_row _ _ 0 _ _ (0,0) HPZ.out
  have hf0:=frozen_of_row _ _ 0 _ _ HPZ.out
  have HP2:=Lib.hid (seg_set0 (.int .u8 p) HPZ.out)
  have HX42:Hid ((zz.setCell ⟨bp,0,none⟩ (.int .u8 p)).heap[b4]? =some (.cells #[.int .u8 0,.int .u16 0,.int .u16 0,.int .u32 0,.int .u32 0,.int .u8 0,.int .u16 0,.int .u16 0,.slice none 0 0,.int .u8 0,.int .u8 0,.slice none 0 0] 149 (0,0))):=Lib.hid ((Below.heap_setCell _ _ _ _ hb4p).trans HX4.out)
  have hpt:partOf (zz.setCell ⟨bp,0,none⟩ (.int .u8 p)) bp 0 12=#[.int .u8 p,.int .u16 s,.int .u16 d,.int .u32 q,.int .u32 a,.int .u8 f,.int .u16 wi,.int .u16 u,.slice oO nO cO,.int .u8 ty,.int .u8 cd,.slice oD nD cD]:=partOf_all HP2.out rfl
  have hrf:rowFree (zz.setCell ⟨bp,0,none⟩ (.int .u8 p)) b4 12=true:=by rw[rowFree_row _ _ _ _ _ HX42.out];rfl
  clear hx4
  go_wp2_with fail
  refine bodyPost_ret (seg_ret2 rfl _ _ b4 _ _ _ (0,0) rfl rfl (setRow_row HX42.out) rfl) rfl ?_
  exact⟨⟨oO,cO,oD,cD,rfl⟩,(HZ.out.setCell hbpw _).trans (setRow_below _ hb4w)⟩
 ·have her:(err != 0)=true:=by simpa using he
  have her2:decide (err=0)=false:=by simpa using he
  have hrf:rowFree zz b4 12=true:=by rw[rowFree_row _ _ _ _ _ HX4.out];rfl
  clear hx4
  go_wp2_with fail
  refine bodyPost_ret (seg_ret2 rfl _ _ b4 _ _ _ (0,0) rfl rfl (setRow_row HX4.out) rfl) rfl ?_
  exact⟨⟨none,0,none,0,rfl⟩,HZ.out.trans (setRow_below _ hb4w)⟩
theorem tparse_read_icmp (p hd sm:Int)(oa:Option Addr)(n cap:Nat)(l:List Int)(w:World)(hr:Reads w oa n cap l)(h1:hd≤(n:Int))(h2:n≤65535)
 (HLK:∀r w',w'.heap[r]? =some (.map protoRows 4)→(Instr.lookup 224 (.map (some r)) (.int .u8 p) true).run Tryz.prog w'=.ok (.tuple #[.agg #[.int .i64 hd,.int .i64 sm,.func (.func 181) #[] #[],.func (.func 182) #[] #[],.func (.func 183) #[] #[]],.bool true]) w')
 (s d q a f wi u:Int)(nO:Nat)(ty cd:Int)(nD:Nat)(err:Int)
 (HRD:∀y b pr,Rd y b pr l 0→Calls Tryz.prog 183 #[.pointer (some ⟨pr,0,none⟩)] y (ReadPost y pr s d q a f wi u nO ty cd nD err)):
 Calls Tryz.prog 77 #[.int .u8 p,.slice oa n cap] w (TPost w (fun oO cO oD cD=>if err=0 then #[.int .u8 p,.int .u16 s,.int .u16 d,.int .u32 q,.int .u32 a,.int .u8 f,.int .u16 wi,.int .u16 u,.slice oO nO cO,.int .u8 ty,.int .u8 cd,.slice oD nD cD] else segZC) err):=by
 have HR:=Lib.hid hr
 have HLKH:=Lib.hid HLK
 have HRDH:=Lib.hid HRD
 have hx:=heap_alloc_new w (.cells segZC 149)
 have hB:Below w.heap.size w (w.alloc (.cells segZC 149)):=Below.all (Below.refl _ _) _
 have hlt1:decide ((n:Int)<hd)=false:=by simp;omega
 have hlt2:decide ((n:Int)>65535)=false:=by simp;omega
 clear hr HLK HRD
 unfold segZC at hx hB
 have HX:=Lib.hid hx
 have HB:=Lib.hid hB
 clear hx hB
 go_enter Tryz.func77,Tryz.ntmps77
 go_wp2_with fail
 refine Calls.mono (protocols_any _) ?_
 rintro e y1 ⟨r,rfl,hr1,hr2,hb⟩
 have HB1:=Lib.hid (Below.via HB.out hb)
 have HX1:=Lib.hid ((hb.block w.heap.size (by simp)).trans HX.out)
 have hlk:=HLKH.out r y1 hr2
 have hw1:w.heap.size<y1.heap.size:=(Array.getElem?_eq_some_iff.1 HX1.out).1
 obtain⟨b4,hb4⟩:∃b,b=w.heap.size:=⟨_,rfl⟩
 have hBA:Below y1.heap.size y1 (y1.alloc (.cells #[.int .i64 hd,.int .i64 sm,.func (.func 181) #[] #[],.func (.func 182) #[] #[],.func (.func 183) #[] #[]] 222)):=Below.all (Below.refl _ _) _
 have hx6:=heap_alloc_new y1 (.cells #[.int .i64 hd,.int .i64 sm,.func (.func 181) #[] #[],.func (.func 182) #[] #[],.func (.func 183) #[] #[]] 222)
 have HXA:=Lib.hid ((hBA.block _ hw1).trans HX1.out)
 have HBA:=Lib.hid (Below.via HB1.out hBA)
 have HX6:=Lib.hid hx6
 have hc0:(y1.alloc (.cells #[.int .i64 hd,.int .i64 sm,.func (.func 181) #[] #[],.func (.func 182) #[] #[],.func (.func 183) #[] #[]] 222)).cell? ⟨y1.heap.size,0,none⟩=some (.int .i64 hd):=cell_of_row _ _ 0 _ _ (0,0) hx6
 clear hb hr2 HX HB hBA hx6 HX1 HB1
 go_wp2_with fail
 obtain⟨b6,hb6⟩:∃b,b=y1.heap.size:=⟨_,rfl⟩
 obtain⟨b4,hb4⟩:∃b,b=w.heap.size:=⟨_,rfl⟩
 rw[←hb6] at HX6⊢
 rw[←hb4] at HXA⊢
 have HR6:=Lib.hid (HR.out.below HBA.out)
 have HB4:=Lib.hid hb4
 clear hc0 hb6 hb4 hw1 hlk hr1
 generalize (y1.alloc (.cells #[.int .i64 hd,.int .i64 sm,.func (.func 181) #[] #[],.func (.func 182) #[] #[],.func (.func 183) #[] #[]] 222))=y at*
 have hb6y:b6<y.heap.size:=(Array.getElem?_eq_some_iff.1 HX6.out).1
 have hb4y:b4<y.heap.size:=(Array.getElem?_eq_some_iff.1 HXA.out).1
 have hc4:y.cell? ⟨b6,4,none⟩=some (.func (.func 183) #[] #[]):=cell_of_row _ _ 4 _ _ (0,0) HX6.out
 refine wp_region_fl [.h,.h,.h] [(0,1,0),(1,1,0)] (fun _ w'=>w'.cell? ⟨b6,4,none⟩=some (.func (.func 183) #[] #[])) [1] [(.w,3),(.w,4),(.q,5),(.q,6),(.q,7)] [(.w,9),(.q,10)] 8 (.cells segZC 149) (by kernel_rfl) (by kernel_rfl) rfl rfl ⟨fun _=>rfl,fun _ _=>by kernel_rfl⟩ (by kernel_rfl) (by kernel_rfl) ?_
 apply Exists.intro
 refine⟨fun wx hbx=>?_,?_,?_⟩
 ·have hcx:wx.cell? ⟨b6,4,none⟩=some (.func (.func 183) #[] #[]):=(below_cell hbx hb6y _ rfl).trans hc4
  have hbx2:b6<wx.heap.size:=Nat.lt_of_lt_of_le hb6y hbx.size
  simp only[headsL]
  repeat go_big_quiet_step (fail)
  exact wpQuiet_nil rfl
 ·intro q hq oi hoi
  simp only[List.mem_cons,List.not_mem_nil,or_false] at hq
  rcases hq with rfl|rfl
  ·cases hoi;exact⟨_,rfl,rfl,fun w2 hw=>by kernel_rfl⟩
  ·cases hoi;exact⟨_,rfl,rfl,fun w2 hw=>by simp[execOp,go_sem,hw]⟩
 simp only[opsAt,List.getElem?_cons_succ,List.getElem?_cons_zero]
 refine⟨fun v fl w2=>∃pr,v=.pointer (some ⟨pr,0,none⟩)∧y.heap.size≤pr∧(∃b,Rd w2 b pr l 0)∧Below y.heap.size y w2∧∀bb,fl=some bb→y.heap.size≤bb∧bb≠pr∧w2.heap[bb]? =some (.cells segZC 149 (0,0)),?_,?_,?_,?_⟩
 ·rintro fl-
  refine⟨rfl,fun w' hw'=>.inr ⟨137,#[.slice oa n cap],by kernel_rfl,?_⟩⟩
  obtain⟨⟨x,rfl⟩,hfb⟩:=hw'
  refine(read_any oa n cap l x.world (HR6.out.below x.below) (by omega)).mono ?_
  rintro e w2 ⟨pr,rfl,hpr,hrd,hb2⟩
  refine⟨_,rfl,pr,rfl,Nat.le_trans x.below.size hpr,⟨_,hrd⟩,Below.via x.below hb2,fun bb hbb=>⟨(hfb bb hbb).1,?_,?_⟩⟩
  ·have:=(Array.getElem?_eq_some_iff.1 (hfb bb hbb).2).1;omega
  ·have:=(hfb bb hbb).2
   exact(hb2.block bb (Array.getElem?_eq_some_iff.1 this).1).trans this
 ·rintro v fl g-w2 ⟨pr,-,-,-,hb,-⟩
  exact(below_cell hb hb6y _ rfl).trans hc4
 ·rintro-v w2 ⟨pr,h1,h2,⟨b,hrd⟩,h3,-⟩
  exact⟨pr,h1,h2,⟨b,hrd.below (Below.all (Below.refl _ _) _)⟩,Below.all h3 _,fun bb hbb=>by cases hbb;exact⟨h3.size,fun e=>by have:=hrd.lt;omega,heap_alloc_new _ _⟩⟩
 rintro v ⟨fl0,w20,pr,rfl,-⟩
 refine⟨fun v fl w2=>(∃oO cO oD cD,v=.tuple #[.agg (readC s d q a f wi u oO nO cO ty cd oD nD cD),.int .i64 err])∧Below y.heap.size y w2∧∀bb,fl=some bb→y.heap.size≤bb∧w2.heap[bb]? =some (.cells segZC 149 (0,0)),?_,fun _ _=>kept_top rfl,?_,?_⟩
 ·rintro fl-
  refine⟨rfl,fun w' hw'=>.inr ⟨183,#[.pointer (some ⟨pr,0,none⟩)],by kernel_rfl,?_⟩⟩
  obtain⟨pr',he,hpr,⟨b,hrd⟩,hb1,hfb⟩:=hw'
  cases he
  refine(HRDH.out w' b pr hrd).mono ?_
  rintro e w2 ⟨⟨oO,cO,oD,cD,rfl⟩,ho⟩
  refine⟨_,rfl,⟨oO,cO,oD,cD,rfl⟩,hb1.trans (ho.below.mono hpr),fun bb hbb=>⟨(hfb bb hbb).1,?_⟩⟩
  have h2:=(hfb bb hbb).2
  exact(ho.keep bb h2.1 (Array.getElem?_eq_some_iff.1 h2.2).1).trans h2.2
 ·rintro-v w2 ⟨h1,h3,-⟩
  exact⟨h1,Below.all h3 _,fun bb hbb=>by cases hbb;exact⟨h3.size,heap_alloc_new _ _⟩⟩
 rintro v ⟨fl1,w21,⟨oO,cO,oD,cD,rfl⟩,-⟩
 refine⟨.tuple #[.agg (readC s d q a f wi u oO nO cO ty cd oD nD cD),.int .i64 err],⟨rfl,fun _=>by kernel_rfl⟩,?_⟩
 refine⟨.agg (readC s d q a f wi u oO nO cO ty cd oD nD cD),⟨rfl,fun _=>by kernel_rfl⟩,?_⟩
 refine⟨.int .i64 err,⟨rfl,fun _=>by kernel_rfl⟩,?_⟩
 intro bp
 refine⟨fun v fl w2=>v=undef∧Below y.heap.size y w2∧y.heap.size≤bp∧w2.heap[bp]? =some (.cells (readC s d q a f wi u oO nO cO ty cd oD nD cD) 149 (0,0)),?_,fun _ _=>kept_top rfl,(fun h=>by cases h),?_⟩
 ·rintro fl rfl
  refine SeqRun.skip rfl ?_
  rintro w' ⟨-,hb1,hst⟩
  obtain⟨hbge,hbx⟩:=hst bp rfl
  exact⟨_,do_store_seg _ w' bp (readC s d q a f wi u oO nO cO ty cd oD nD cD) (by kernel_rfl) (by kernel_rfl) (by rw[rowFree_row _ _ _ _ _ hbx];rfl) rfl rfl,hb1.trans (setRow_below _ hbge),hbge,setRow_row hbx⟩
 rintro v ⟨fl2,w22,rfl,-⟩
 refine⟨.int .i64 err,⟨rfl,fun _=>by kernel_rfl⟩,?_⟩
 rintro zz ⟨-,hzz,hbge,hpz⟩
 have HZ:=Lib.hid (HBA.out.trans (hzz.mono HBA.out.size))
 have hx4:zz.heap[b4]? =some (.cells #[.int .u8 0,.int .u16 0,.int .u16 0,.int .u32 0,.int .u32 0,.int .u8 0,.int .u16 0,.int .u16 0,.slice none 0 0,.int .u8 0,.int .u8 0,.slice none 0 0] 149 (0,0)):=(hzz.block b4 hb4y).trans HXA.out
 have HX4:=Lib.hid hx4
 unfold readC at hpz⊢
 have HPZ:=Lib.hid hpz
 have hb4p:b4≠bp:=by omega
 have hb4w:w.heap.size≤b4:=by have:=HB4.out;omega
 have hbpw:w.heap.size≤bp:=by omega
 have hb4l:b4<zz.heap.size:=(Array.getElem?_eq_some_iff.1 hx4).1
 clear hzz hpz hc4 w20 w21 w22 fl0 fl1 fl2 HXA HBA HX6 HR6
 unfold ptrTo
 by_cases he:err=0
 ·subst he
  have hc0:zz.cell? ⟨bp,0,none⟩=some (.int .u8 0):=cell_of_row _ _ 0 _ _ (0,0) HPZ.out
  have hf0:=frozen_of_row _ _ 0 _ _ HPZ.out
  have HP2:=Lib.hid (seg_set0 (.int .u8 p) HPZ.out)
  have HX42:Hid ((zz.setCell ⟨bp,0,none⟩ (.int .u8 p)).heap[b4]? =some (.cells #[.int .u8 0,.int .u16 0,.int .u16 0,.int .u32 0,.int .u32 0,.int .u8 0,.int .u16 0,.int .u16 0,.slice none 0 0,.int .u8 0,.int .u8 0,.slice none 0 0] 149 (0,0))):=Lib.hid ((Below.heap_setCell _ _ _ _ hb4p).trans HX4.out)
  have hpt:partOf (zz.setCell ⟨bp,0,none⟩ (.int .u8 p)) bp 0 12=#[.int .u8 p,.int .u16 s,.int .u16 d,.int .u32 q,.int .u32 a,.int .u8 f,.int .u16 wi,.int .u16 u,.slice oO nO cO,.int .u8 ty,.int .u8 cd,.slice oD nD cD]:=partOf_all HP2.out rfl
  have hrf:rowFree (zz.setCell ⟨bp,0,none⟩ (.int .u8 p)) b4 12=true:=by rw[rowFree_row _ _ _ _ _ HX42.out];rfl
  clear hx4
  go_wp2_with fail
  refine bodyPost_ret (seg_ret2 rfl _ _ b4 _ _ _ (0,0) rfl rfl (setRow_row HX42.out) rfl) rfl ?_
  exact⟨⟨oO,cO,oD,cD,rfl⟩,(HZ.out.setCell hbpw _).trans (setRow_below _ hb4w)⟩
 ·have her:(err != 0)=true:=by simpa using he
  have her2:decide (err=0)=false:=by simpa using he
  have hrf:rowFree zz b4 12=true:=by rw[rowFree_row _ _ _ _ _ HX4.out];rfl
  clear hx4
  go_wp2_with fail
  refine bodyPost_ret (seg_ret2 rfl _ _ b4 _ _ _ (0,0) rfl rfl (setRow_row HX4.out) rfl) rfl ?_
  exact⟨⟨none,0,none,0,rfl⟩,HZ.out.trans (setRow_below _ hb4w)⟩
theorem tparse_short (p hd sm:Int)(F G RD:FuncId)(oa:Option Addr)(n cap:Nat)(l:List Int)(w:World)(hr:Reads w oa n cap l)(h1:(n:Int)<hd)
 (HLK:∀r w',w'.heap[r]? =some (.map protoRows 4)→(Instr.lookup 224 (.map (some r)) (.int .u8 p) true).run Tryz.prog w'=.ok (.tuple #[.agg #[.int .i64 hd,.int .i64 sm,.func (.func F) #[] #[],.func (.func G) #[] #[],.func (.func RD) #[] #[]],.bool true]) w'):
 Calls Tryz.prog 77 #[.int .u8 p,.slice oa n cap] w (TPost w (fun _ _ _ _=>segZC) 10):=by
 have HR:=Lib.hid hr
 have HLKH:=Lib.hid HLK
 have hx:=heap_alloc_new w (.cells segZC 149)
 have hB:Below w.heap.size w (w.alloc (.cells segZC 149)):=Below.all (Below.refl _ _) _
 have hlt1:decide ((n:Int)<hd)=true:=by simp;omega
 clear hr HLK
 unfold segZC at hx hB
 have HX:=Lib.hid hx
 have HB:=Lib.hid hB
 clear hx hB
 go_enter Tryz.func77,Tryz.ntmps77
 go_wp2_with fail
 refine Calls.mono (protocols_any _) ?_
 rintro e y1 ⟨r,rfl,hr1,hr2,hb⟩
 have HB1:=Lib.hid (Below.via HB.out hb)
 have HX1:=Lib.hid ((hb.block w.heap.size (by simp)).trans HX.out)
 have hlk:=HLKH.out r y1 hr2
 have hw1:w.heap.size<y1.heap.size:=(Array.getElem?_eq_some_iff.1 HX1.out).1
 obtain⟨b4,hb4⟩:∃b,b=w.heap.size:=⟨_,rfl⟩
 have hBA:Below y1.heap.size y1 (y1.alloc (.cells #[.int .i64 hd,.int .i64 sm,.func (.func F) #[] #[],.func (.func G) #[] #[],.func (.func RD) #[] #[]] 222)):=Below.all (Below.refl _ _) _
 have hx6:=heap_alloc_new y1 (.cells #[.int .i64 hd,.int .i64 sm,.func (.func F) #[] #[],.func (.func G) #[] #[],.func (.func RD) #[] #[]] 222)
 have HXA:=Lib.hid ((hBA.block _ hw1).trans HX1.out)
 have HBA:=Lib.hid (Below.via HB1.out hBA)
 have HX6:=Lib.hid hx6
 have hc0:(y1.alloc (.cells #[.int .i64 hd,.int .i64 sm,.func (.func F) #[] #[],.func (.func G) #[] #[],.func (.func RD) #[] #[]] 222)).cell? ⟨y1.heap.size,0,none⟩=some (.int .i64 hd):=cell_of_row _ _ 0 _ _ (0,0) hx6
 clear hb hr2 HX HB hBA hx6
 have hrf:rowFree (y1.alloc (.cells #[.int .i64 hd,.int .i64 sm,.func (.func F) #[] #[],.func (.func G) #[] #[],.func (.func RD) #[] #[]] 222)) w.heap.size 12=true:=by rw[rowFree_row _ _ _ _ _ HXA.out];rfl
 go_wp2_with fail
 refine bodyPost_ret (seg_ret2 rfl _ _ w.heap.size _ _ _ (0,0) rfl rfl ((heap_alloc_old _ _ (by simpa using hw1)).trans (setRow_row HX1.out)) rfl) rfl ?_
 exact⟨⟨none,0,none,0,rfl⟩,Below.all (HB1.out.trans (setRow_below _ (Nat.le_refl _))) _⟩
theorem tparse_long (p hd sm:Int)(F G RD:FuncId)(oa:Option Addr)(n cap:Nat)(l:List Int)(w:World)(hr:Reads w oa n cap l)(h1:hd≤(n:Int))(h2:65535<n)
 (HLK:∀r w',w'.heap[r]? =some (.map protoRows 4)→(Instr.lookup 224 (.map (some r)) (.int .u8 p) true).run Tryz.prog w'=.ok (.tuple #[.agg #[.int .i64 hd,.int .i64 sm,.func (.func F) #[] #[],.func (.func G) #[] #[],.func (.func RD) #[] #[]],.bool true]) w'):
 Calls Tryz.prog 77 #[.int .u8 p,.slice oa n cap] w (TPost w (fun _ _ _ _=>segZC) 51):=by
 have HR:=Lib.hid hr
 have HLKH:=Lib.hid HLK
 have hx:=heap_alloc_new w (.cells segZC 149)
 have hB:Below w.heap.size w (w.alloc (.cells segZC 149)):=Below.all (Below.refl _ _) _
 have hlt1:decide ((n:Int)<hd)=false:=by simp;omega
 have hlt2:decide ((n:Int)>65535)=true:=by simp;omega
 clear hr HLK
 unfold segZC at hx hB
 have HX:=Lib.hid hx
 have HB:=Lib.hid hB
 clear hx hB
 go_enter Tryz.func77,Tryz.ntmps77
 go_wp2_with fail
 refine Calls.mono (protocols_any _) ?_
 rintro e y1 ⟨r,rfl,hr1,hr2,hb⟩
 have HB1:=Lib.hid (Below.via HB.out hb)
 have HX1:=Lib.hid ((hb.block w.heap.size (by simp)).trans HX.out)
 have hlk:=HLKH.out r y1 hr2
 have hw1:w.heap.size<y1.heap.size:=(Array.getElem?_eq_some_iff.1 HX1.out).1
 obtain⟨b4,hb4⟩:∃b,b=w.heap.size:=⟨_,rfl⟩
 have hBA:Below y1.heap.size y1 (y1.alloc (.cells #[.int .i64 hd,.int .i64 sm,.func (.func F) #[] #[],.func (.func G) #[] #[],.func (.func RD) #[] #[]] 222)):=Below.all (Below.refl _ _) _
 have hx6:=heap_alloc_new y1 (.cells #[.int .i64 hd,.int .i64 sm,.func (.func F) #[] #[],.func (.func G) #[] #[],.func (.func RD) #[] #[]] 222)
 have HXA:=Lib.hid ((hBA.block _ hw1).trans HX1.out)
 have HBA:=Lib.hid (Below.via HB1.out hBA)
 have HX6:=Lib.hid hx6
 have hc0:(y1.alloc (.cells #[.int .i64 hd,.int .i64 sm,.func (.func F) #[] #[],.func (.func G) #[] #[],.func (.func RD) #[] #[]] 222)).cell? ⟨y1.heap.size,0,none⟩=some (.int .i64 hd):=cell_of_row _ _ 0 _ _ (0,0) hx6
 clear hb hr2 HX HB hBA hx6
 have hrf:rowFree (y1.alloc (.cells #[.int .i64 hd,.int .i64 sm,.func (.func F) #[] #[],.func (.func G) #[] #[],.func (.func RD) #[] #[]] 222)) w.heap.size 12=true:=by rw[rowFree_row _ _ _ _ _ HXA.out];rfl
 go_wp2_with fail
 refine bodyPost_ret (seg_ret2 rfl _ _ w.heap.size _ _ _ (0,0) rfl rfl ((heap_alloc_old _ _ (by simpa using hw1)).trans (setRow_row HX1.out)) rfl) rfl ?_
 exact⟨⟨none,0,none,0,rfl⟩,Below.all (HB1.out.trans (setRow_below _ (Nat.le_refl _))) _⟩
theorem numAt_one (l:List Int)(i:Nat)(h:i+1≤l.length):Bits.numAt l i 1=l.getD i 0:=by
 rw[Bits.numAt_snoc l i 0 (by omega),show Bits.numAt l i 0=0 from rfl,Nat.add_zero];omega
theorem tgetD_bd {l:List Int}(h:IsBytes l)(i:Nat):0≤l.getD i 0∧l.getD i 0<256:=by
 rw[List.getD_eq_getElem?_getD]
 cases hx:l[i]? with
 |none=>simp
 |some v=>exact h v (List.mem_of_getElem? hx)
def tCells (s:Seg)(oO:Option Addr)(cO:Nat)(oD:Option Addr)(cD:Nat):Array Value:=
 #[.int .u8 s.proto,.int .u16 s.src,.int .u16 s.dst,.int .u32 s.seq,.int .u32 s.ack,.int .u8 s.flags,.int .u16 s.win,.int .u16 s.urg,.slice oO s.opt.length cO,.int .u8 s.type,.int .u8 s.code,.slice oD s.data.length cD]
theorem TPost.mono {w:World}{cs cs':Option Addr→Nat→Option Addr→Nat→Array Value}{err err':Int}(he:err=err')(hc:∀oO cO oD cD,∃a b c d,cs oO cO oD cD=cs' a b c d){e:Ending}{w':World}(h:TPost w cs err e w'):TPost w cs' err' e w':=by
 obtain⟨⟨oO,cO,oD,cD,rfl⟩,hb⟩:=h
 obtain⟨a,b,c,d,hh⟩:=hc oO cO oD cD
 subst he
 exact⟨⟨a,b,c,d,by rw[hh]⟩,hb⟩
theorem tparse_icmp (p:Int)(hp:p=1∨p=58)(oa:Option Addr)(n cap:Nat)(l:List Int)(w:World)(hr:Reads w oa n cap l)(hn:n≤100000):
 Calls Tryz.prog 77 #[.int .u8 p,.slice oa n cap] w (TPost w (tCells (tParse p l)) (tErr p l)):=by
 have hlk:=fun r w' h=>(proto_lookup p (.inr (.inr hp)) r w' h)
 rw[show protoOf p=protoIcmp by rcases hp with rfl|rfl<;>rfl] at hlk
 have hlen:=hr.len
 have hth:tHead p=4:=by rcases hp with rfl|rfl<;>rfl
 have h6:¬p=6:=by omega
 have h17:¬p=17:=by omega
 by_cases h1:n<4
 ·have he:tErr p l=10:=by unfold tErr;rw[hth,if_neg (by decide),if_pos (by omega)]
  refine(tparse_short p 4 2 _ _ _ oa n cap l w hr (by omega) hlk).mono fun e w' h=>TPost.mono he.symm (fun _ _ _ _=>⟨none,0,none,0,?_⟩) h
  unfold tParse;rw[he,if_neg (by decide)];rfl
 by_cases h2:65535<n
 ·have he:tErr p l=51:=by unfold tErr;rw[hth,if_neg (by decide),if_neg (by omega),if_pos (by omega)]
  refine(tparse_long p 4 2 _ _ _ oa n cap l w hr (by omega) h2 hlk).mono fun e w' h=>TPost.mono he.symm (fun _ _ _ _=>⟨none,0,none,0,?_⟩) h
  unfold tParse;rw[he,if_neg (by decide)];rfl
 ·have he:tErr p l=0:=by unfold tErr;rw[hth,if_neg (by decide),if_neg (by omega),if_neg (by omega),if_neg h6,if_neg h17]
  refine(tparse_read_icmp p 4 2 oa n cap l w hr (by omega) (by omega) hlk 0 0 0 0 0 0 0 0 _ _ _ 0 (fun y b pr h=>ricmp_any b pr l y h (by omega) (by omega))).mono fun e w' h=>TPost.mono he.symm (fun oO cO oD cD=>⟨oO,cO,oD,cD,?_⟩) h
  have g0:=tgetD_bd hr.byte 0
  have g1:=tgetD_bd hr.byte 1
  unfold tParse tSeg tCells
  rw[he,if_pos rfl,if_pos rfl,if_neg h6,if_neg h17,numAt_one l 0 (by omega),numAt_one l 1 (by omega),Int.emod_eq_of_lt g0.1 g0.2,Int.emod_eq_of_lt g1.1 g1.2]
  simp
theorem tparse_udp (oa:Option Addr)(n cap:Nat)(l:List Int)(w:World)(hr:Reads w oa n cap l)(hn:n≤100000):
 Calls Tryz.prog 77 #[.int .u8 17,.slice oa n cap] w (TPost w (tCells (tParse 17 l)) (tErr 17 l)):=by
 have hlk:=fun r w' h=>(proto_lookup 17 (.inr (.inl rfl)) r w' h)
 have hlen:=hr.len
 have hth:tHead 17=8:=rfl
 by_cases h1:n<8
 ·have he:tErr 17 l=10:=by unfold tErr;rw[hth,if_neg (by decide),if_pos (by omega)]
  refine(tparse_short 17 8 6 _ _ _ oa n cap l w hr (by omega) hlk).mono fun e w' h=>TPost.mono he.symm (fun _ _ _ _=>⟨none,0,none,0,?_⟩) h
  unfold tParse;rw[he,if_neg (by decide)];rfl
 by_cases h2:65535<n
 ·have he:tErr 17 l=51:=by unfold tErr;rw[hth,if_neg (by decide),if_neg (by omega),if_pos (by omega)]
  refine(tparse_long 17 8 6 _ _ _ oa n cap l w hr (by omega) h2 hlk).mono fun e w' h=>TPost.mono he.symm (fun _ _ _ _=>⟨none,0,none,0,?_⟩) h
  unfold tParse;rw[he,if_neg (by decide)];rfl
 have hw:=w2_bd hr.byte 4
 obtain⟨N,hN⟩:∃N:Nat,(N:Int)=w2 l 4:=⟨(w2 l 4).toNat,by omega⟩
 have hNa:numAt l 4 2=(N:Int):=by rw[numAt_two l 4 (by omega)];exact hN.symm
 have hT:tErr 17 l=if w2 l 4<8 then 51 else if (l.length:Int)<w2 l 4 then 10 else 0:=by unfold tErr;rw[hth,if_neg (by decide),if_neg (by omega),if_neg (by omega),if_neg (by decide),if_pos rfl]
 by_cases h3:N<8
 ·have he:tErr 17 l=51:=by rw[hT,if_pos (by omega)]
  refine(tparse_read_udp 17 8 6 oa n cap l w hr (by omega) (by omega) hlk 0 0 0 0 0 0 0 0 0 0 0 51 (fun y b pr h=>rudp_bad b pr l y h (by omega) (by omega) N hNa (by omega) h3)).mono fun e w' h=>TPost.mono he.symm (fun oO cO oD cD=>⟨none,0,none,0,?_⟩) h
  unfold tParse;rw[he,if_neg (by decide),if_neg (by decide)];rfl
 by_cases h4:l.length<N
 ·have he:tErr 17 l=10:=by rw[hT,if_neg (by omega),if_pos (by omega)]
  refine(tparse_read_udp 17 8 6 oa n cap l w hr (by omega) (by omega) hlk 0 0 0 0 0 0 0 0 0 0 0 10 (fun y b pr h=>rudp_short b pr l y h (by omega) (by omega) N hNa (by omega) (by omega) h4)).mono fun e w' h=>TPost.mono he.symm (fun oO cO oD cD=>⟨none,0,none,0,?_⟩) h
  unfold tParse;rw[he,if_neg (by decide),if_neg (by decide)];rfl
 ·have he:tErr 17 l=0:=by rw[hT,if_neg (by omega),if_neg (by omega)]
  refine(tparse_read_udp 17 8 6 oa n cap l w hr (by omega) (by omega) hlk _ _ 0 0 0 0 0 0 0 0 _ 0 (fun y b pr h=>rudp_ok b pr l y h (by omega) (by omega) N hNa (by omega) (by omega) (by omega))).mono fun e w' h=>TPost.mono he.symm (fun oO cO oD cD=>⟨oO,cO,oD,cD,?_⟩) h
  have g0:=w2_bd hr.byte 0
  have g1:=w2_bd hr.byte 2
  unfold tParse tSeg tCells
  rw[he,if_pos rfl,if_pos rfl,if_neg (by decide),if_pos rfl,numAt_two l 0 (by omega),numAt_two l 2 (by omega),Int.emod_eq_of_lt g0.1 g0.2,Int.emod_eq_of_lt g1.1 g1.2]
  have hd:((l.take (w2 l 4).toNat).drop 8).length=N-8:=by rw[List.length_drop,List.length_take];omega
  simp only[hd]
  rfl
theorem tparse_tcp (oa:Option Addr)(n cap:Nat)(l:List Int)(w:World)(hr:Reads w oa n cap l)(hn:n≤100000):
 Calls Tryz.prog 77 #[.int .u8 6,.slice oa n cap] w (TPost w (tCells (tParse 6 l)) (tErr 6 l)):=by
 have hlk:=fun r w' h=>(proto_lookup 6 (.inl rfl) r w' h)
 have hlen:=hr.len
 have hth:tHead 6=20:=rfl
 by_cases h1:n<20
 ·have he:tErr 6 l=10:=by unfold tErr;rw[hth,if_neg (by decide),if_pos (by omega)]
  refine(tparse_short 6 20 16 _ _ _ oa n cap l w hr (by omega) hlk).mono fun e w' h=>TPost.mono he.symm (fun _ _ _ _=>⟨none,0,none,0,?_⟩) h
  unfold tParse;rw[he,if_neg (by decide)];rfl
 by_cases h2:65535<n
 ·have he:tErr 6 l=51:=by unfold tErr;rw[hth,if_neg (by decide),if_neg (by omega),if_pos (by omega)]
  refine(tparse_long 6 20 16 _ _ _ oa n cap l w hr (by omega) h2 hlk).mono fun e w' h=>TPost.mono he.symm (fun _ _ _ _=>⟨none,0,none,0,?_⟩) h
  unfold tParse;rw[he,if_neg (by decide)];rfl
 have hw:=tgetD_bd hr.byte 12
 obtain⟨V,hV⟩:∃V:Nat,(V:Int)=l.getD 12 0:=⟨(l.getD 12 0).toNat,by omega⟩
 have hVa:numAt l 12 1=(V:Int):=by rw[numAt_one l 12 (by omega)];exact hV.symm
 have hq:tcpN l=V/16*4:=by unfold tcpN;rw[←hV];omega
 have hT:tErr 6 l=if tcpN l<20 then 51 else if l.length<tcpN l then 10 else 0:=by unfold tErr;rw[hth,if_neg (by decide),if_neg (by omega),if_neg (by omega),if_pos rfl]
 rw[hq] at hT
 by_cases h3:V/16<5
 ·have he:tErr 6 l=51:=by rw[hT,if_pos (by omega)]
  refine(tparse_read_tcp 6 20 16 oa n cap l w hr (by omega) (by omega) hlk 0 0 0 0 0 0 0 0 0 0 0 51 (fun y b pr h=>rtcp_bad b pr l y h (by omega) (by omega) V hVa (by omega) h3)).mono fun e w' h=>TPost.mono he.symm (fun oO cO oD cD=>⟨none,0,none,0,?_⟩) h
  unfold tParse;rw[he,if_neg (by decide),if_neg (by decide)];rfl
 by_cases h4:l.length<V/16*4
 ·have he:tErr 6 l=10:=by rw[hT,if_neg (by omega),if_pos (by omega)]
  refine(tparse_read_tcp 6 20 16 oa n cap l w hr (by omega) (by omega) hlk 0 0 0 0 0 0 0 0 0 0 0 10 (fun y b pr h=>rtcp_short b pr l y h (by omega) (by omega) V hVa (by omega) (by omega) h4)).mono fun e w' h=>TPost.mono he.symm (fun oO cO oD cD=>⟨none,0,none,0,?_⟩) h
  unfold tParse;rw[he,if_neg (by decide),if_neg (by decide)];rfl
 ·have he:tErr 6 l=0:=by rw[hT,if_neg (by omega),if_neg (by omega)]
  refine(tparse_read_tcp 6 20 16 oa n cap l w hr (by omega) (by omega) hlk _ _ _ _ _ _ _ _ 0 0 _ 0 (fun y b pr h=>rtcp_ok b pr l y h (by omega) (by omega) V hVa (by omega) (by omega) (by omega))).mono fun e w' h=>TPost.mono he.symm (fun oO cO oD cD=>⟨oO,cO,oD,cD,?_⟩) h
  have g0:=w2_bd hr.byte 0
  have g1:=w2_bd hr.byte 2
  have g2:=w4_bd hr.byte 4
  have g3:=w4_bd hr.byte 8
  have g4:=tgetD_bd hr.byte 13
  have g5:=w2_bd hr.byte 14
  have g6:=w2_bd hr.byte 18
  unfold tParse tSeg tCells
  rw[he,if_pos rfl,if_pos rfl,if_pos rfl,numAt_two l 0 (by omega),numAt_two l 2 (by omega),numAt_four l 4 (by omega),numAt_four l 8 (by omega),numAt_one l 13 (by omega),numAt_two l 14 (by omega),numAt_two l 18 (by omega),Int.emod_eq_of_lt g0.1 g0.2,Int.emod_eq_of_lt g1.1 g1.2,Int.emod_eq_of_lt g2.1 g2.2,Int.emod_eq_of_lt g3.1 g3.2,Int.emod_eq_of_lt g4.1 g4.2,Int.emod_eq_of_lt g5.1 g5.2,Int.emod_eq_of_lt g6.1 g6.2]
  have hd:((l.take (tcpN l)).drop 20).length=V/16*4-20:=by rw[List.length_drop,List.length_take,hq];omega
  have hd2:(l.drop (tcpN l)).length=l.length-V/16*4:=by rw[List.length_drop,hq]
  simp only[hd,hd2]
theorem tparse_any (p:Int)(hp:p=6∨p=17∨p=1∨p=58)(oa:Option Addr)(n cap:Nat)(l:List Int)(w:World)(hr:Reads w oa n cap l)(hn:n≤100000):
 Calls Tryz.prog 77 #[.int .u8 p,.slice oa n cap] w (TPost w (tCells (tParse p l)) (tErr p l)):=by
 rcases hp with rfl|rfl|hp
 ·exact tparse_tcp oa n cap l w hr hn
 ·exact tparse_udp oa n cap l w hr hn
 ·exact tparse_icmp p hp oa n cap l w hr hn
def verOf (k:Int):Value:=if k=4 then .agg #[.func (.func 79) #[] #[]] else .agg #[.func (.func 80) #[] #[]]
def verRows:Array MapEntry:=#[⟨.int .u8 4,.agg #[.func (.func 79) #[] #[]],0⟩,⟨.int .u8 6,.agg #[.func (.func 80) #[] #[]],1⟩]
def verZ:Value:=.agg #[.nilFunc]
theorem ver_zero:((Tryz.prog.info? 79).bind (·.zero))=some verZ:=by kernel_rfl
def VersPost (w:World):Ending→World→Prop:=fun e w'=>∃r,e=.returned (.map (some r))∧w.heap.size≤r∧w'.heap[r]? =some (.map verRows 2)∧Below w.heap.size w w'
theorem versions_any (w:World):Calls Tryz.prog 34 #[] w (VersPost w):=by
 have hmm:=@run_makeMap Tryz.prog
 have hmp:=heap_alloc_new w (.map #[] 0)
 have hB:Below w.heap.size w (w.alloc (.map #[] 0)):=Below.all (Below.refl _ _) _
 go_enter Tryz.func34,Tryz.ntmps34
 go_wp2_with (first|(with_reducible refine wpList_insert_at _ w.heap.size _ _ verOf 5 79 ?_ ?_ hmp ?_ ?_ ?_ ?_;(kernel_rfl);(kernel_rfl);(kernel_rfl);(kernel_rfl);(kernel_rfl);intro w1 hmp hlow hsz hoth;have hB:=below_mapped hB (Nat.le_refl _) hlow))
 go_ret
 exact⟨_,rfl,Nat.le_refl _,hmp.trans (by kernel_rfl),hB⟩
theorem ver_lookup_four (r:Nat)(w:World)(h:w.heap[r]? =some (.map verRows 2)):(Instr.lookup 81 (.map (some r)) (.int .u8 4) true).run Tryz.prog w=.ok (.tuple #[.agg #[.func (.func 79) #[] #[]],.bool true]) w:=
 run_lookup_num (P:=Tryz.prog) 81 5 79 r 2 verRows .u8 4 verZ true w Tryz.underlying81 Tryz.underlying5 h (some (0,.agg #[.func (.func 79) #[] #[]])) rfl ver_zero
theorem ports_any (p:Int)(w:World):Calls Tryz.prog 35 #[.int .u8 p] w (RetAt w (.bool (isPorts p))):=by
 by_cases h6:p=6
 ·subst h6
  go_enter Tryz.func35,Tryz.ntmps35
  go_wp2_with fail
  go_ret
  exact .mk rfl (Below.refl _ _)
 ·have hb:(p==6)=false:=by simpa using h6
  have hd:decide (p=6)=false:=by simpa using h6
  have hi:isPorts p=(p==17):=by unfold isPorts;rw[hb];rfl
  rw[hi]
  go_enter Tryz.func35,Tryz.ntmps35
  go_wp2_with fail
  go_ret
  exact .mk rfl (Below.refl _ _)
theorem icmp_any (p:Int)(w:World):Calls Tryz.prog 36 #[.int .u8 p] w (RetAt w (.bool (isIcmp p))):=by
 by_cases h6:p=1
 ·subst h6
  go_enter Tryz.func36,Tryz.ntmps36
  go_wp2_with fail
  go_ret
  exact .mk rfl (Below.refl _ _)
 ·have hb:(p==1)=false:=by simpa using h6
  have hd:decide (p=1)=false:=by simpa using h6
  have hi:isIcmp p=(p==58):=by unfold isIcmp;rw[hb];rfl
  rw[hi]
  go_enter Tryz.func36,Tryz.ntmps36
  go_wp2_with fail
  go_ret
  exact .mk rfl (Below.refl _ _)
open Go.RowKit
theorem kright_ports (s:Bool)(S:Nat→Int)(t:Bool)(T:Nat→Int)(p a b:Int)(hip:isPorts p=true)(w:World):
 Calls Tryz.prog 26 #[.agg (kyC s S t T p a b)] w (RetAt w (.bool (kyRight ⟨s,S,t,T,p,a,b⟩))):=by
 have HV:Hid (kyRight ⟨s,S,t,T,p,a,b⟩=(rightB s S&&(rightB t T&&(s==t&&true)))):=Lib.hid (by
  have:kyPlain p a b=true:=by unfold kyPlain;rw[hip];rfl
  unfold kyRight;simp only[this])
 have HR1:∀w,Calls Tryz.prog 68 #[adV s S] w (RetAt w (.bool (rightB s S))):=fun w=>right_any s S w
 have HR2:∀w,Calls Tryz.prog 68 #[adV t T] w (RetAt w (.bool (rightB t T))):=fun w=>right_any t T w
 have HP:=fun w=>ports_any p w
 have HI:=fun w=>icmp_any p w
 rw[hip] at HP
 clear hip HI
 generalize rightB s S=r1 at*
 generalize rightB t T=r2 at*
 generalize kyRight ⟨s,S,t,T,p,a,b⟩=res at*
 have hV:=HV.out
 clear HV
 unfold adV kyC at*
 cases r1
 ·have hV:=Lib.hid (show res=false from hV)
  go_enter Tryz.func26,Tryz.ntmps26
  go_wp2_with fail
  refine Calls.later (HP _) ?_
  intro x
  go_wp2_with fail
  refine Calls.later1 (HR1 _) ?_
  intro y0
  go_wp2_with fail
  go_ret
  exact .mk (val_bool hV.out.symm) (by with_reducible repeat' (first|assumption|exact Below.refl _ _|apply Below.lat|apply Below.all|(apply below_setCell_new;omega)))
 cases r2
 ·have hV:=Lib.hid (show res=false from hV)
  go_enter Tryz.func26,Tryz.ntmps26
  go_wp2_with fail
  refine Calls.later (HP _) ?_
  intro x
  go_wp2_with fail
  refine Calls.later1 (HR1 _) ?_
  intro y0
  go_wp2_with fail
  refine Calls.later1 (HR2 _) ?_
  intro y1
  go_wp2_with fail
  go_ret
  exact .mk (val_bool hV.out.symm) (by with_reducible repeat' (first|assumption|exact Below.refl _ _|apply Below.lat|apply Below.all|(apply below_setCell_new;omega)))
 by_cases hst:s=t
 rotate_left
 ·have hV:Hid (res=false):=Lib.hid (by rw[hV];simp[hst])
  have hst':(s==t)=false:=by simpa using hst
  go_enter Tryz.func26,Tryz.ntmps26
  go_wp2_with fail
  refine Calls.later (HP _) ?_
  intro x
  go_wp2_with fail
  refine Calls.later1 (HR1 _) ?_
  intro y0
  go_wp2_with fail
  refine Calls.later1 (HR2 _) ?_
  intro y1
  go_wp2_with fail
  go_ret
  exact .mk (val_bool hV.out.symm) (by with_reducible repeat' (first|assumption|exact Below.refl _ _|apply Below.lat|apply Below.all|(apply below_setCell_new;omega)))
 subst hst
 have hV:Hid (res=(true)):=Lib.hid (by rw[hV];simp)
 ·go_enter Tryz.func26,Tryz.ntmps26
  go_wp2_with fail
  refine Calls.later (HP _) ?_
  intro x
  go_wp2_with fail
  refine Calls.later1 (HR1 _) ?_
  intro y0
  go_wp2_with fail
  refine Calls.later1 (HR2 _) ?_
  intro y1
  go_wp2_with fail
  go_ret
  exact .mk (val_bool hV.out.symm) (by with_reducible repeat' (first|assumption|exact Below.refl _ _|apply Below.lat|apply Below.all|(apply below_setCell_new;omega)))
open Go.RowKit
theorem kright_icmp (s:Bool)(S:Nat→Int)(t:Bool)(T:Nat→Int)(p a b:Int)(hip:isPorts p=false)(hii:isIcmp p=true)(w:World):
 Calls Tryz.prog 26 #[.agg (kyC s S t T p a b)] w (RetAt w (.bool (kyRight ⟨s,S,t,T,p,a,b⟩))):=by
 have HV:Hid (kyRight ⟨s,S,t,T,p,a,b⟩=(rightB s S&&(rightB t T&&(s==t&&decide (a=0))))):=Lib.hid (by
  have:kyPlain p a b=decide (a=0):=by unfold kyPlain;rw[hip,hii,Bool.false_or,Bool.true_or,Bool.and_true];rfl
  unfold kyRight;simp only[this])
 have HR1:∀w,Calls Tryz.prog 68 #[adV s S] w (RetAt w (.bool (rightB s S))):=fun w=>right_any s S w
 have HR2:∀w,Calls Tryz.prog 68 #[adV t T] w (RetAt w (.bool (rightB t T))):=fun w=>right_any t T w
 have HP:=fun w=>ports_any p w
 have HI:=fun w=>icmp_any p w
 rw[hip] at HP
 rw[hii] at HI
 clear hip hii
 generalize rightB s S=r1 at*
 generalize rightB t T=r2 at*
 generalize kyRight ⟨s,S,t,T,p,a,b⟩=res at*
 have hV:=HV.out
 clear HV
 unfold adV at*
 unfold kyC
 go_enter Tryz.func26,Tryz.ntmps26
 go_wp2_with fail
 refine Calls.later (HP _) ?_
 intro x
 go_wp2_with fail
 refine Calls.mono (HI _) ?_
 rintro e w2 ⟨rfl,hb⟩
 have h1:x.world.heap[w.heap.size]? =some (.cells (kyC s S t T p a b) 30 (0,0)):=(x.below.block _ (by simp;omega)).trans (heap_alloc2_old w (.cells (kyC s S t T p a b) 30) (.cells (kyC s S t T p a b) 30))
 have h3:x.world.heap[w.heap.size+1]? =some (.cells (kyC s S t T p a b) 30 (0,0)):=(x.below.block _ (by simp)).trans (heap_alloc2_new w (.cells (kyC s S t T p a b) 30) (.cells (kyC s S t T p a b) 30))
 have hl1:w.heap.size<x.world.heap.size:=(Array.getElem?_eq_some_iff.1 h1).1
 have hl3:w.heap.size+1<x.world.heap.size:=(Array.getElem?_eq_some_iff.1 h3).1
 have HB0:Below w.heap.size w x.world:=Below.lat (Below.all (Below.all (Below.refl _ _) _) _)
 have k1:w2.heap[w.heap.size]? =some (.cells (kyC s S t T p a b) 30 (0,0)):=(hb.block _ (by simpa using hl1)).trans ((heap_setCell_other _ _ _ _ (by simp)).trans h1)
 have k3:w2.heap[w.heap.size+1]? =some (.cells (kyC s S t T p 0 b) 30 (0,0)):=(hb.block _ (by simpa using hl3)).trans (heap_setCell_same _ _ _ _ _ _ h3)
 have HB2:Hid (Below w.heap.size w w2):=Lib.hid ((HB0.setCell (by simp) _).trans (hb.mono (by simpa using Nat.le_of_lt hl1)))
 have p1:partOf w2 w.heap.size 0 17=#[.bool s,.int .u8 (S 0),.int .u8 (S 1),.int .u8 (S 2),.int .u8 (S 3),.int .u8 (S 4),.int .u8 (S 5),.int .u8 (S 6),.int .u8 (S 7),.int .u8 (S 8),.int .u8 (S 9),.int .u8 (S 10),.int .u8 (S 11),.int .u8 (S 12),.int .u8 (S 13),.int .u8 (S 14),.int .u8 (S 15)]:=by rw[partOf_row _ _ _ _ _ _ _ k1];simp[kyC]
 have p2:partOf w2 w.heap.size 17 17=#[.bool t,.int .u8 (T 0),.int .u8 (T 1),.int .u8 (T 2),.int .u8 (T 3),.int .u8 (T 4),.int .u8 (T 5),.int .u8 (T 6),.int .u8 (T 7),.int .u8 (T 8),.int .u8 (T 9),.int .u8 (T 10),.int .u8 (T 11),.int .u8 (T 12),.int .u8 (T 13),.int .u8 (T 14),.int .u8 (T 15)]:=by rw[partOf_row _ _ _ _ _ _ _ k1];simp[kyC]
 have c1:w2.cell? ⟨w.heap.size,0,none⟩=some (.bool s):=by rw[cell_of_row _ _ _ _ _ _ k1];rfl
 have c2:w2.cell? ⟨w.heap.size,17,none⟩=some (.bool t):=by rw[cell_of_row _ _ _ _ _ _ k1];rfl
 have p3:partOf w2 w.heap.size 0 37=#[.bool s,.int .u8 (S 0),.int .u8 (S 1),.int .u8 (S 2),.int .u8 (S 3),.int .u8 (S 4),.int .u8 (S 5),.int .u8 (S 6),.int .u8 (S 7),.int .u8 (S 8),.int .u8 (S 9),.int .u8 (S 10),.int .u8 (S 11),.int .u8 (S 12),.int .u8 (S 13),.int .u8 (S 14),.int .u8 (S 15),.bool t,.int .u8 (T 0),.int .u8 (T 1),.int .u8 (T 2),.int .u8 (T 3),.int .u8 (T 4),.int .u8 (T 5),.int .u8 (T 6),.int .u8 (T 7),.int .u8 (T 8),.int .u8 (T 9),.int .u8 (T 10),.int .u8 (T 11),.int .u8 (T 12),.int .u8 (T 13),.int .u8 (T 14),.int .u8 (T 15),.int .u8 p,.int .u16 a,.int .u16 b]:=partOf_all k1 rfl
 have p4:partOf w2 (w.heap.size+1) 0 37=#[.bool s,.int .u8 (S 0),.int .u8 (S 1),.int .u8 (S 2),.int .u8 (S 3),.int .u8 (S 4),.int .u8 (S 5),.int .u8 (S 6),.int .u8 (S 7),.int .u8 (S 8),.int .u8 (S 9),.int .u8 (S 10),.int .u8 (S 11),.int .u8 (S 12),.int .u8 (S 13),.int .u8 (S 14),.int .u8 (S 15),.bool t,.int .u8 (T 0),.int .u8 (T 1),.int .u8 (T 2),.int .u8 (T 3),.int .u8 (T 4),.int .u8 (T 5),.int .u8 (T 6),.int .u8 (T 7),.int .u8 (T 8),.int .u8 (T 9),.int .u8 (T 10),.int .u8 (T 11),.int .u8 (T 12),.int .u8 (T 13),.int .u8 (T 14),.int .u8 (T 15),.int .u8 p,.int .u16 0,.int .u16 b]:=partOf_all k3 rfl
 have g1:w.heap.size<w2.heap.size:=(Array.getElem?_eq_some_iff.1 k1).1
 have g3:w.heap.size+1<w2.heap.size:=(Array.getElem?_eq_some_iff.1 k3).1
 clear k1 k3 hl1 hl3 HB0 h1 h3 hb
 cases r1
 ·have hV:=Lib.hid (show res=false from hV)
  go_wp2_with fail
  refine Calls.later (HR1 _) ?_
  intro y0
  go_wp2_with fail
  go_ret
  exact .mk (val_bool hV.out.symm) (Below.lat HB2.out)
 cases r2
 ·have hV:=Lib.hid (show res=false from hV)
  go_wp2_with fail
  refine Calls.later (HR1 _) ?_
  intro y0
  go_wp2_with fail
  refine Calls.later1 (HR2 _) ?_
  intro y1
  go_wp2_with fail
  go_ret
  exact .mk (val_bool hV.out.symm) (Below.lat HB2.out)
 by_cases hst:s=t
 rotate_left
 ·have hV:Hid (res=false):=Lib.hid (by rw[hV];simp[hst])
  have hst':(s==t)=false:=by simpa using hst
  go_wp2_with fail
  refine Calls.later (HR1 _) ?_
  intro y0
  go_wp2_with fail
  refine Calls.later1 (HR2 _) ?_
  intro y1
  go_wp2_with fail
  go_ret
  exact .mk (val_bool hV.out.symm) (Below.lat HB2.out)
 subst hst
 have hV:Hid (res=decide (a=0)):=Lib.hid (by rw[hV];simp)
 go_wp2_with fail
 refine Calls.later (HR1 _) ?_
 intro y0
 go_wp2_with fail
 refine Calls.later1 (HR2 _) ?_
 intro y1
 go_wp2_with fail
 go_ret
 exact .mk (val_bool hV.out.symm) (Below.lat HB2.out)
open Go.RowKit
theorem kright_else (s:Bool)(S:Nat→Int)(t:Bool)(T:Nat→Int)(p a b:Int)(hip:isPorts p=false)(hii:isIcmp p=false)(w:World):
 Calls Tryz.prog 26 #[.agg (kyC s S t T p a b)] w (RetAt w (.bool (kyRight ⟨s,S,t,T,p,a,b⟩))):=by
 have HV:Hid (kyRight ⟨s,S,t,T,p,a,b⟩=(rightB s S&&(rightB t T&&(s==t&&(decide (a=0)&&decide (b=0)))))):=Lib.hid (by
  have:kyPlain p a b=(decide (a=0)&&decide (b=0)):=by unfold kyPlain;rw[hip,hii,Bool.false_or,Bool.false_or];rfl
  unfold kyRight;simp only[this])
 have HR1:∀w,Calls Tryz.prog 68 #[adV s S] w (RetAt w (.bool (rightB s S))):=fun w=>right_any s S w
 have HR2:∀w,Calls Tryz.prog 68 #[adV t T] w (RetAt w (.bool (rightB t T))):=fun w=>right_any t T w
 have HP:=fun w=>ports_any p w
 have HI:=fun w=>icmp_any p w
 rw[hip] at HP
 rw[hii] at HI
 clear hip hii
 generalize rightB s S=r1 at*
 generalize rightB t T=r2 at*
 generalize kyRight ⟨s,S,t,T,p,a,b⟩=res at*
 have hV:=HV.out
 clear HV
 unfold adV at*
 unfold kyC
 go_enter Tryz.func26,Tryz.ntmps26
 go_wp2_with fail
 refine Calls.later (HP _) ?_
 intro x
 go_wp2_with fail
 refine Calls.mono (HI _) ?_
 rintro e w2 ⟨rfl,hb⟩
 have h1:x.world.heap[w.heap.size]? =some (.cells (kyC s S t T p a b) 30 (0,0)):=(x.below.block _ (by simp;omega)).trans (heap_alloc2_old w (.cells (kyC s S t T p a b) 30) (.cells (kyC s S t T p a b) 30))
 have h3:x.world.heap[w.heap.size+1]? =some (.cells (kyC s S t T p a b) 30 (0,0)):=(x.below.block _ (by simp)).trans (heap_alloc2_new w (.cells (kyC s S t T p a b) 30) (.cells (kyC s S t T p a b) 30))
 have hl1:w.heap.size<x.world.heap.size:=(Array.getElem?_eq_some_iff.1 h1).1
 have hl3:w.heap.size+1<x.world.heap.size:=(Array.getElem?_eq_some_iff.1 h3).1
 have HB0:Below w.heap.size w x.world:=Below.lat (Below.all (Below.all (Below.refl _ _) _) _)
 have k1:w2.heap[w.heap.size]? =some (.cells (kyC s S t T p a b) 30 (0,0)):=(hb.block _ (by simpa using hl1)).trans ((heap_setCell_other _ _ _ _ (by simp)).trans h1)
 have k3:w2.heap[w.heap.size+1]? =some (.cells (kyC s S t T p 0 b) 30 (0,0)):=(hb.block _ (by simpa using hl3)).trans (heap_setCell_same _ _ _ _ _ _ h3)
 have g1:w.heap.size<w2.heap.size:=(Array.getElem?_eq_some_iff.1 k1).1
 have g3:w.heap.size+1<w2.heap.size:=(Array.getElem?_eq_some_iff.1 k3).1
 have HBw:Below w.heap.size w w2:=(HB0.setCell (by simp) _).trans (hb.mono (by simpa using Nat.le_of_lt hl1))
 have c3:w2.cell? ⟨w.heap.size+1,36,none⟩=some (.int .u16 b):=by rw[cell_of_row _ _ _ _ _ _ k3];rfl
 have f3:w2.frozen? ⟨w.heap.size+1,36,none⟩=false:=frozen_of_row _ _ _ _ _ k3
 have HB2:Hid (Below w.heap.size w (w2.setCell ⟨w.heap.size+1,36,none⟩ (.int .u16 0))):=Lib.hid (HBw.setCell (by simp) _)
 have m1:(w2.setCell ⟨w.heap.size+1,36,none⟩ (.int .u16 0)).heap[w.heap.size]? =some (.cells (kyC s S t T p a b) 30 (0,0)):=(heap_setCell_other _ _ _ _ (by simp)).trans k1
 have m3:(w2.setCell ⟨w.heap.size+1,36,none⟩ (.int .u16 0)).heap[w.heap.size+1]? =some (.cells (kyC s S t T p 0 0) 30 (0,0)):=heap_setCell_same _ _ _ _ _ _ k3
 have p1:partOf (w2.setCell ⟨w.heap.size+1,36,none⟩ (.int .u16 0)) w.heap.size 0 17=#[.bool s,.int .u8 (S 0),.int .u8 (S 1),.int .u8 (S 2),.int .u8 (S 3),.int .u8 (S 4),.int .u8 (S 5),.int .u8 (S 6),.int .u8 (S 7),.int .u8 (S 8),.int .u8 (S 9),.int .u8 (S 10),.int .u8 (S 11),.int .u8 (S 12),.int .u8 (S 13),.int .u8 (S 14),.int .u8 (S 15)]:=by rw[partOf_row _ _ _ _ _ _ _ m1];simp[kyC]
 have p2:partOf (w2.setCell ⟨w.heap.size+1,36,none⟩ (.int .u16 0)) w.heap.size 17 17=#[.bool t,.int .u8 (T 0),.int .u8 (T 1),.int .u8 (T 2),.int .u8 (T 3),.int .u8 (T 4),.int .u8 (T 5),.int .u8 (T 6),.int .u8 (T 7),.int .u8 (T 8),.int .u8 (T 9),.int .u8 (T 10),.int .u8 (T 11),.int .u8 (T 12),.int .u8 (T 13),.int .u8 (T 14),.int .u8 (T 15)]:=by rw[partOf_row _ _ _ _ _ _ _ m1];simp[kyC]
 have c1:(w2.setCell ⟨w.heap.size+1,36,none⟩ (.int .u16 0)).cell? ⟨w.heap.size,0,none⟩=some (.bool s):=by rw[cell_of_row _ _ _ _ _ _ m1];rfl
 have c2:(w2.setCell ⟨w.heap.size+1,36,none⟩ (.int .u16 0)).cell? ⟨w.heap.size,17,none⟩=some (.bool t):=by rw[cell_of_row _ _ _ _ _ _ m1];rfl
 have d1:w2.cell? ⟨w.heap.size,0,none⟩=some (.bool s):=by rw[cell_of_row _ _ _ _ _ _ k1];rfl
 have d2:w2.cell? ⟨w.heap.size,17,none⟩=some (.bool t):=by rw[cell_of_row _ _ _ _ _ _ k1];rfl
 have p3:partOf (w2.setCell ⟨w.heap.size+1,36,none⟩ (.int .u16 0)) w.heap.size 0 37=#[.bool s,.int .u8 (S 0),.int .u8 (S 1),.int .u8 (S 2),.int .u8 (S 3),.int .u8 (S 4),.int .u8 (S 5),.int .u8 (S 6),.int .u8 (S 7),.int .u8 (S 8),.int .u8 (S 9),.int .u8 (S 10),.int .u8 (S 11),.int .u8 (S 12),.int .u8 (S 13),.int .u8 (S 14),.int .u8 (S 15),.bool t,.int .u8 (T 0),.int .u8 (T 1),.int .u8 (T 2),.int .u8 (T 3),.int .u8 (T 4),.int .u8 (T 5),.int .u8 (T 6),.int .u8 (T 7),.int .u8 (T 8),.int .u8 (T 9),.int .u8 (T 10),.int .u8 (T 11),.int .u8 (T 12),.int .u8 (T 13),.int .u8 (T 14),.int .u8 (T 15),.int .u8 p,.int .u16 a,.int .u16 b]:=partOf_all m1 rfl
 have p4:partOf (w2.setCell ⟨w.heap.size+1,36,none⟩ (.int .u16 0)) (w.heap.size+1) 0 37=#[.bool s,.int .u8 (S 0),.int .u8 (S 1),.int .u8 (S 2),.int .u8 (S 3),.int .u8 (S 4),.int .u8 (S 5),.int .u8 (S 6),.int .u8 (S 7),.int .u8 (S 8),.int .u8 (S 9),.int .u8 (S 10),.int .u8 (S 11),.int .u8 (S 12),.int .u8 (S 13),.int .u8 (S 14),.int .u8 (S 15),.bool t,.int .u8 (T 0),.int .u8 (T 1),.int .u8 (T 2),.int .u8 (T 3),.int .u8 (T 4),.int .u8 (T 5),.int .u8 (T 6),.int .u8 (T 7),.int .u8 (T 8),.int .u8 (T 9),.int .u8 (T 10),.int .u8 (T 11),.int .u8 (T 12),.int .u8 (T 13),.int .u8 (T 14),.int .u8 (T 15),.int .u8 p,.int .u16 0,.int .u16 0]:=partOf_all m3 rfl
 clear k1 k3 m1 m3 hl1 hl3 HB0 HBw h1 h3 hb
 cases r1
 ·have hV:=Lib.hid (show res=false from hV)
  go_wp2_with fail
  refine Calls.later (HR1 _) ?_
  intro y0
  go_wp2_with fail
  go_ret
  exact .mk (val_bool hV.out.symm) (Below.lat HB2.out)
 cases r2
 ·have hV:=Lib.hid (show res=false from hV)
  go_wp2_with fail
  refine Calls.later (HR1 _) ?_
  intro y0
  go_wp2_with fail
  refine Calls.later1 (HR2 _) ?_
  intro y1
  go_wp2_with fail
  go_ret
  exact .mk (val_bool hV.out.symm) (Below.lat HB2.out)
 by_cases hst:s=t
 rotate_left
 ·have hV:Hid (res=false):=Lib.hid (by rw[hV];simp[hst])
  have hst':(s==t)=false:=by simpa using hst
  go_wp2_with fail
  refine Calls.later (HR1 _) ?_
  intro y0
  go_wp2_with fail
  refine Calls.later1 (HR2 _) ?_
  intro y1
  go_wp2_with fail
  go_ret
  exact .mk (val_bool hV.out.symm) (Below.lat HB2.out)
 subst hst
 have hV:Hid (res=(decide (a=0)&&decide (b=0))):=Lib.hid (by rw[hV];simp)
 go_wp2_with fail
 refine Calls.later (HR1 _) ?_
 intro y0
 go_wp2_with fail
 refine Calls.later1 (HR2 _) ?_
 intro y1
 go_wp2_with fail
 go_ret
 exact .mk (val_bool hV.out.symm) (Below.lat HB2.out)
theorem kright_any (s:Bool)(S:Nat→Int)(t:Bool)(T:Nat→Int)(p a b:Int)(w:World):
 Calls Tryz.prog 26 #[.agg (kyC s S t T p a b)] w (RetAt w (.bool (kyRight ⟨s,S,t,T,p,a,b⟩))):=by
 cases hip:isPorts p
 ·cases hii:isIcmp p
  ·exact kright_else s S t T p a b hip hii w
  ·exact kright_icmp s S t T p a b hip hii w
 ·exact kright_ports s S t T p a b hip w
end
end Go.Proofs.YtkgjbipfhhjlpaaGreatDoor
