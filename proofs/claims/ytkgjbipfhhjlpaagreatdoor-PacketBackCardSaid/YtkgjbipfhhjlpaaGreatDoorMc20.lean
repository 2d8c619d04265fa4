import Derived.Test.YtkgjbipfhhjlpaaGreatDoorMc19
set_option linter.unusedVariables false
set_option linter.unusedSimpArgs false
set_option maxRecDepth 100000
set_option maxHeartbeats 32000000
namespace Go.Proofs.YtkgjbipfhhjlpaaGreatDoor
section
open Go.RowKit Bits
def XO (w:World)(cs:Option Addr→Nat→Option Addr→Nat→Array Value)(err:Int):Ending→World→Prop:=fun e w'=>(∃oO cO oD cD,e=.returned (.tuple #[.agg (cs oO cO oD cD),.int .i64 err]))∧Below w.heap.size w w'
theorem Zt (p hd sm:Int)(oa:Option Addr)(n cap:Nat)(l:List Int)(w:World)(hr:Jg w oa n cap l)(h1:hd≤(n:Int))(h2:n≤65535)
 (HLK:∀r w',w'.heap[r]? =some (.map JU 4)→(Instr.lookup 224 (.map (some r)) (.int .u8 p) true).run Tryz.prog w'=.ok (.tuple #[.agg #[.int .i64 hd,.int .i64 sm,.func (.func 184) #[] #[],.func (.func 185) #[] #[],.func (.func 186) #[] #[]],true]) w')
 (s d q a f wi u:Int)(nO:Nat)(ty cd:Int)(nD:Nat)(err:Int)
 (HRD:∀y b pr,Rd y b pr l 0→Calls Tryz.prog 186 #[.pointer (some ⟨pr,0,none⟩)] y (X5 y pr s d q a f wi u nO ty cd nD err)):
 Calls Tryz.prog 77 #[p,.slice oa n cap] w (XO w (fun oO cO oD cD=>if err=0 then (Jo6 p (.int .u16 s) (.int .u16 d) (.int .u32 q) (.int .u32 a) f (.int .u16 wi) (.int .u16 u) (.slice oO nO cO) ty cd (.slice oD nD cD)) else Qp) err):=by
 have HR:=JoL hr
 have HLKH:=JoL HLK
 have HRDH:=JoL HRD
 have hx:=heap_alloc_new w (.cells Qp 149)
 have hB:Below w.heap.size w (w.alloc (.cells Qp 149)):=Below.all (JoO _ _) _
 have hlt1:decide ((n:Int)<hd)=false:=by simp;omega
 have hlt2:decide ((n:Int)>65535)=false:=by simp;omega
 clear hr HLK HRD
 unfold Qp at hx hB
 have HX:=JoL hx
 have HB:=JoL hB
 clear hx hB
 go_enter Tryz.func77,Tryz.ntmps77
 go_wp2_with fail
 refine JoN (J5 _) ?_
 rintro e y1 ⟨r,rfl,hr1,hr2,hb⟩
 have HB1:=JoL (JoE HB.out hb)
 have HX1:=JoL ((hb.block w.heap.size (by simp)).trans HX.out)
 have hlk:=HLKH.out r y1 hr2
 have hw1:w.heap.size<y1.heap.size:=(JoM HX1.out).1
 obtain⟨b4,hb4⟩:∃b,b=w.heap.size:=⟨_,rfl⟩
 have hBA:Below y1.heap.size y1 (y1.alloc (.cells #[.int .i64 hd,.int .i64 sm,.func (.func 184) #[] #[],.func (.func 185) #[] #[],.func (.func 186) #[] #[]] 222)):=Below.all (JoO _ _) _
 have hx6:=heap_alloc_new y1 (.cells #[.int .i64 hd,.int .i64 sm,.func (.func 184) #[] #[],.func (.func 185) #[] #[],.func (.func 186) #[] #[]] 222)
 have HXA:=JoL ((hBA.block _ hw1).trans HX1.out)
 have HBA:=JoL (JoE HB1.out hBA)
 have HX6:=JoL hx6
 have hc0:(y1.alloc (.cells #[.int .i64 hd,.int .i64 sm,.func (.func 184) #[] #[],.func (.func 185) #[] #[],.func (.func 186) #[] #[]] 222)).cell? ⟨y1.heap.size,0,none⟩=some (.int .i64 hd):=cell_of_row _ _ 0 _ _ (0,0) hx6
 clear hb hr2 HX HB hBA hx6 HX1 HB1
 go_wp2_with fail
 obtain⟨b6,hb6⟩:∃b,b=y1.heap.size:=⟨_,rfl⟩
 obtain⟨b4,hb4⟩:∃b,b=w.heap.size:=⟨_,rfl⟩
 rw[←hb6] at HX6⊢
 rw[←hb4] at HXA⊢
 have HR6:=JoL (HR.out.below HBA.out)
 have HB4:=JoL hb4
 clear hc0 hb6 hb4 hw1 hlk hr1
 generalize (y1.alloc (.cells #[.int .i64 hd,.int .i64 sm,.func (.func 184) #[] #[],.func (.func 185) #[] #[],.func (.func 186) #[] #[]] 222))=y at*
 have hb6y:b6<y.heap.size:=(JoM HX6.out).1
 have hb4y:b4<y.heap.size:=(JoM HXA.out).1
 have hc4:y.cell? ⟨b6,4,none⟩=some (.func (.func 186) #[] #[]):=cell_of_row _ _ 4 _ _ (0,0) HX6.out
 refine JM [.h,.h,.h] [(0,1,0),(1,1,0)] (fun _ w'=>w'.cell? ⟨b6,4,none⟩=some (.func (.func 186) #[] #[])) [1] [(.w,3),(.w,4),(.q,5),(.q,6),(.q,7)] [(.w,9),(.q,10)] 8 (.cells Qp 149) (by kernel_rfl) (by kernel_rfl) rfl rfl ⟨fun _=>rfl,fun _ _=>by kernel_rfl⟩ (by kernel_rfl) (by kernel_rfl) ?_
 apply Exists.intro
 refine⟨fun wx hbx=>?_,?_,?_⟩
 ·have hcx:wx.cell? ⟨b6,4,none⟩=some (.func (.func 186) #[] #[]):=(Jf hbx hb6y _ rfl).trans hc4
  have hbx2:b6<wx.heap.size:=JoP hb6y hbx.size
  simp only[Jx]
  repeat go_big_quiet_step (fail)
  exact wpQuiet_nil rfl
 ·intro q hq oi hoi
  simp only[List.mem_cons,List.not_mem_nil,or_false] at hq
  rcases hq with rfl|rfl
  ·cases hoi;exact⟨_,rfl,rfl,fun w2 hw=>by kernel_rfl⟩
  ·cases hoi;exact⟨_,rfl,rfl,fun w2 hw=>by simp[execOp,go_sem,hw]⟩
 simp only[J2,List.getElem?_cons_succ,List.getElem?_cons_zero]
 refine⟨fun v fl w2=>∃pr,v=.pointer (some ⟨pr,0,none⟩)∧y.heap.size≤pr∧(∃b,Rd w2 b pr l 0)∧Below y.heap.size y w2∧∀bb,fl=some bb→y.heap.size≤bb∧bb≠pr∧w2.heap[bb]? =some (.cells Qp 149 (0,0)),?_,?_,?_,?_⟩
 ·rintro fl-
  refine⟨rfl,fun w' hw'=>.inr ⟨137,#[.slice oa n cap],by kernel_rfl,?_⟩⟩
  obtain⟨⟨x,rfl⟩,hfb⟩:=hw'
  refine(JfX oa n cap l x.world (HR6.out.below x.below) (by omega)).mono ?_
  rintro e w2 ⟨pr,rfl,hpr,hrd,hb2⟩
  refine⟨_,rfl,pr,rfl,Nat.le_trans x.below.size hpr,⟨_,hrd⟩,JoE x.below hb2,fun bb hbb=>⟨(hfb bb hbb).1,?_,?_⟩⟩
  ·have:=(JoM (hfb bb hbb).2).1;omega
  ·have:=(hfb bb hbb).2
   exact(hb2.block bb (JoM this).1).trans this
 ·rintro v fl g-w2 ⟨pr,-,-,-,hb,-⟩
  exact(Jf hb hb6y _ rfl).trans hc4
 ·rintro-v w2 ⟨pr,h1,h2,⟨b,hrd⟩,h3,-⟩
  exact⟨pr,h1,h2,⟨b,hrd.below (Below.all (JoO _ _) _)⟩,Below.all h3 _,fun bb hbb=>by cases hbb;exact⟨h3.size,fun e=>by have:=hrd.lt;omega,heap_alloc_new _ _⟩⟩
 rintro v ⟨fl0,w20,pr,rfl,-⟩
 refine⟨fun v fl w2=>(∃oO cO oD cD,v=.tuple #[.agg (Jao s d q a f wi u oO nO cO ty cd oD nD cD),.int .i64 err])∧Below y.heap.size y w2∧∀bb,fl=some bb→y.heap.size≤bb∧w2.heap[bb]? =some (.cells Qp 149 (0,0)),?_,fun _ _=>Jz rfl,?_,?_⟩
 ·rintro fl-
  refine⟨rfl,fun w' hw'=>.inr ⟨186,#[.pointer (some ⟨pr,0,none⟩)],by kernel_rfl,?_⟩⟩
  obtain⟨pr',he,hpr,⟨b,hrd⟩,hb1,hfb⟩:=hw'
  cases he
  refine(HRDH.out w' b pr hrd).mono ?_
  rintro e w2 ⟨⟨oO,cO,oD,cD,rfl⟩,ho⟩
  refine⟨_,rfl,⟨oO,cO,oD,cD,rfl⟩,hb1.trans (ho.below.mono hpr),fun bb hbb=>⟨(hfb bb hbb).1,?_⟩⟩
  have h2:=(hfb bb hbb).2
  exact(ho.keep bb h2.1 (JoM h2.2).1).trans h2.2
 ·rintro-v w2 ⟨h1,h3,-⟩
  exact⟨h1,Below.all h3 _,fun bb hbb=>by cases hbb;exact⟨h3.size,heap_alloc_new _ _⟩⟩
 rintro v ⟨fl1,w21,⟨oO,cO,oD,cD,rfl⟩,-⟩
 refine⟨.tuple #[.agg (Jao s d q a f wi u oO nO cO ty cd oD nD cD),.int .i64 err],⟨rfl,fun _=>by kernel_rfl⟩,?_⟩
 refine⟨.agg (Jao s d q a f wi u oO nO cO ty cd oD nD cD),⟨rfl,fun _=>by kernel_rfl⟩,?_⟩
 refine⟨.int .i64 err,⟨rfl,fun _=>by kernel_rfl⟩,?_⟩
 intro bp
 refine⟨fun v fl w2=>v=undef∧Below y.heap.size y w2∧y.heap.size≤bp∧w2.heap[bp]? =some (.cells (Jao s d q a f wi u oO nO cO ty cd oD nD cD) 149 (0,0)),?_,fun _ _=>Jz rfl,(fun h=>by cases h),?_⟩
 ·rintro fl rfl
  refine JA.skip rfl ?_
  rintro w' ⟨-,hb1,hst⟩
  obtain⟨hbge,hbx⟩:=hst bp rfl
  exact⟨_,Q1 _ w' bp (Jao s d q a f wi u oO nO cO ty cd oD nD cD) (by kernel_rfl) (by kernel_rfl) (by rw[Jd _ _ _ _ _ hbx];rfl) rfl rfl,hb1.trans (Je _ hbge),hbge,Ji hbx⟩
 rintro v ⟨fl2,w22,rfl,-⟩
 refine⟨.int .i64 err,⟨rfl,fun _=>by kernel_rfl⟩,?_⟩
 rintro zz ⟨-,hzz,hbge,hpz⟩
 have HZ:=JoL (HBA.out.trans (hzz.mono HBA.out.size))
 have hx4:zz.heap[b4]? =some (.cells Jpd 149 (0,0)):=(hzz.block b4 hb4y).trans HXA.out
 have HX4:=JoL hx4
 unfold Jao at hpz⊢
 have HPZ:=JoL hpz
 have hb4p:b4≠bp:=by omega
 have hb4w:w.heap.size≤b4:=by have:=HB4.out;omega
 have hbpw:w.heap.size≤bp:=by omega
 have hb4l:b4<zz.heap.size:=(JoM hx4).1
 clear hzz hpz hc4 w20 w21 w22 fl0 fl1 fl2 HXA HBA HX6 HR6
 unfold QV
 by_cases he:err=0
 ·subst he
  have hc0:zz.cell? ⟨bp,0,none⟩=some (.int .u8 0):=cell_of_row _ _ 0 _ _ (0,0) HPZ.out
  have hf0:=frozen_of_row _ _ 0 _ _ HPZ.out
  have HP2:=JoL (Jbo (.int .u8 p) HPZ.out)
  have HX42:Hid ((zz.setCell ⟨bp,0,none⟩ (.int .u8 p)).heap[b4]? =some (.cells Jpd 149 (0,0))):=JoL ((Below.heap_setCell _ _ _ _ hb4p).trans HX4.out)
  have hpt:Jb (zz.setCell ⟨bp,0,none⟩ (.int .u8 p)) bp 0 12=(Jo6 p (.int .u16 s) (.int .u16 d) (.int .u32 q) (.int .u32 a) f (.int .u16 wi) (.int .u16 u) (.slice oO nO cO) ty cd (.slice oD nD cD):Array Value):=Ja HP2.out rfl
  have hrf:Jk (zz.setCell ⟨bp,0,none⟩ (.int .u8 p)) b4 12=true:=by rw[Jd _ _ _ _ _ HX42.out];rfl
  clear hx4
  go_wp2_with fail
  refine bodyPost_ret (QN rfl _ _ b4 _ _ _ (0,0) rfl rfl (Ji HX42.out) rfl) rfl ?_
  exact⟨⟨oO,cO,oD,cD,rfl⟩,(HZ.out.setCell hbpw _).trans (Je _ hb4w)⟩
 ·have her:(err != 0)=true:=by simpa using he
  have her2:decide (err=0)=false:=by simpa using he
  have hrf:Jk zz b4 12=true:=by rw[Jd _ _ _ _ _ HX4.out];rfl
  clear hx4
  go_wp2_with fail
  refine bodyPost_ret (QN rfl _ _ b4 _ _ _ (0,0) rfl rfl (Ji HX4.out) rfl) rfl ?_
  exact⟨⟨none,0,none,0,rfl⟩,HZ.out.trans (Je _ hb4w)⟩
theorem Zu (p hd sm:Int)(oa:Option Addr)(n cap:Nat)(l:List Int)(w:World)(hr:Jg w oa n cap l)(h1:hd≤(n:Int))(h2:n≤65535)
 (HLK:∀r w',w'.heap[r]? =some (.map JU 4)→(Instr.lookup 224 (.map (some r)) (.int .u8 p) true).run Tryz.prog w'=.ok (.tuple #[.agg #[.int .i64 hd,.int .i64 sm,.func (.func 187) #[] #[],.func (.func 188) #[] #[],.func (.func 189) #[] #[]],true]) w')
 (s d q a f wi u:Int)(nO:Nat)(ty cd:Int)(nD:Nat)(err:Int)
 (HRD:∀y b pr,Rd y b pr l 0→Calls Tryz.prog 189 #[.pointer (some ⟨pr,0,none⟩)] y (X5 y pr s d q a f wi u nO ty cd nD err)):
 Calls Tryz.prog 77 #[p,.slice oa n cap] w (XO w (fun oO cO oD cD=>if err=0 then (Jo6 p (.int .u16 s) (.int .u16 d) (.int .u32 q) (.int .u32 a) f (.int .u16 wi) (.int .u16 u) (.slice oO nO cO) ty cd (.slice oD nD cD)) else Qp) err):=by
 have HR:=JoL hr
 have HLKH:=JoL HLK
 have HRDH:=JoL HRD
 have hx:=heap_alloc_new w (.cells Qp 149)
 have hB:Below w.heap.size w (w.alloc (.cells Qp 149)):=Below.all (JoO _ _) _
 have hlt1:decide ((n:Int)<hd)=false:=by simp;omega
 have hlt2:decide ((n:Int)>65535)=false:=by simp;omega
 clear hr HLK HRD
 unfold Qp at hx hB
 have HX:=JoL hx
 have HB:=JoL hB
 clear hx hB
 go_enter Tryz.func77,Tryz.ntmps77
 go_wp2_with fail
 refine JoN (J5 _) ?_
 rintro e y1 ⟨r,rfl,hr1,hr2,hb⟩
 have HB1:=JoL (JoE HB.out hb)
 have HX1:=JoL ((hb.block w.heap.size (by simp)).trans HX.out)
 have hlk:=HLKH.out r y1 hr2
 have hw1:w.heap.size<y1.heap.size:=(JoM HX1.out).1
 obtain⟨b4,hb4⟩:∃b,b=w.heap.size:=⟨_,rfl⟩
 have hBA:Below y1.heap.size y1 (y1.alloc (.cells #[.int .i64 hd,.int .i64 sm,.func (.func 187) #[] #[],.func (.func 188) #[] #[],.func (.func 189) #[] #[]] 222)):=Below.all (JoO _ _) _
 have hx6:=heap_alloc_new y1 (.cells #[.int .i64 hd,.int .i64 sm,.func (.func 187) #[] #[],.func (.func 188) #[] #[],.func (.func 189) #[] #[]] 222)
 have HXA:=JoL ((hBA.block _ hw1).trans HX1.out)
 have HBA:=JoL (JoE HB1.out hBA)
 have HX6:=JoL hx6
 have hc0:(y1.alloc (.cells #[.int .i64 hd,.int .i64 sm,.func (.func 187) #[] #[],.func (.func 188) #[] #[],.func (.func 189) #[] #[]] 222)).cell? ⟨y1.heap.size,0,none⟩=some (.int .i64 hd):=cell_of_row _ _ 0 _ _ (0,0) hx6
 clear hb hr2 HX HB hBA hx6 HX1 HB1
 go_wp2_with fail
 obtain⟨b6,hb6⟩:∃b,b=y1.heap.size:=⟨_,rfl⟩
 obtain⟨b4,hb4⟩:∃b,b=w.heap.size:=⟨_,rfl⟩
 rw[←hb6] at HX6⊢
 rw[←hb4] at HXA⊢
 have HR6:=JoL (HR.out.below HBA.out)
 have HB4:=JoL hb4
 clear hc0 hb6 hb4 hw1 hlk hr1
 generalize (y1.alloc (.cells #[.int .i64 hd,.int .i64 sm,.func (.func 187) #[] #[],.func (.func 188) #[] #[],.func (.func 189) #[] #[]] 222))=y at*
 have hb6y:b6<y.heap.size:=(JoM HX6.out).1
 have hb4y:b4<y.heap.size:=(JoM HXA.out).1
 have hc4:y.cell? ⟨b6,4,none⟩=some (.func (.func 189) #[] #[]):=cell_of_row _ _ 4 _ _ (0,0) HX6.out
 refine JM [.h,.h,.h] [(0,1,0),(1,1,0)] (fun _ w'=>w'.cell? ⟨b6,4,none⟩=some (.func (.func 189) #[] #[])) [1] [(.w,3),(.w,4),(.q,5),(.q,6),(.q,7)] [(.w,9),(.q,10)] 8 (.cells Qp 149) (by kernel_rfl) (by kernel_rfl) rfl rfl ⟨fun _=>rfl,fun _ _=>by kernel_rfl⟩ (by kernel_rfl) (by kernel_rfl) ?_
 apply Exists.intro
 refine⟨fun wx hbx=>?_,?_,?_⟩
 ·have hcx:wx.cell? ⟨b6,4,none⟩=some (.func (.func 189) #[] #[]):=(Jf hbx hb6y _ rfl).trans hc4
  have hbx2:b6<wx.heap.size:=JoP hb6y hbx.size
  simp only[Jx]
  repeat go_big_quiet_step (fail)
  exact wpQuiet_nil rfl
 ·intro q hq oi hoi
  simp only[List.mem_cons,List.not_mem_nil,or_false] at hq
  rcases hq with rfl|rfl
  ·cases hoi;exact⟨_,rfl,rfl,fun w2 hw=>by kernel_rfl⟩
  ·cases hoi;exact⟨_,rfl,rfl,fun w2 hw=>by simp[execOp,go_sem,hw]⟩
 simp only[J2,List.getElem?_cons_succ,List.getElem?_cons_zero]
 refine⟨fun v fl w2=>∃pr,v=.pointer (some ⟨pr,0,none⟩)∧y.heap.size≤pr∧(∃b,Rd w2 b pr l 0)∧Below y.heap.size y w2∧∀bb,fl=some bb→y.heap.size≤bb∧bb≠pr∧w2.heap[bb]? =some (.cells Qp 149 (0,0)),?_,?_,?_,?_⟩
 ·rintro fl-
  refine⟨rfl,fun w' hw'=>.inr ⟨137,#[.slice oa n cap],by kernel_rfl,?_⟩⟩
  obtain⟨⟨x,rfl⟩,hfb⟩:=hw'
  refine(JfX oa n cap l x.world (HR6.out.below x.below) (by omega)).mono ?_
  rintro e w2 ⟨pr,rfl,hpr,hrd,hb2⟩
  refine⟨_,rfl,pr,rfl,Nat.le_trans x.below.size hpr,⟨_,hrd⟩,JoE x.below hb2,fun bb hbb=>⟨(hfb bb hbb).1,?_,?_⟩⟩
  ·have:=(JoM (hfb bb hbb).2).1;omega
  ·have:=(hfb bb hbb).2
   exact(hb2.block bb (JoM this).1).trans this
 ·rintro v fl g-w2 ⟨pr,-,-,-,hb,-⟩
  exact(Jf hb hb6y _ rfl).trans hc4
 ·rintro-v w2 ⟨pr,h1,h2,⟨b,hrd⟩,h3,-⟩
  exact⟨pr,h1,h2,⟨b,hrd.below (Below.all (JoO _ _) _)⟩,Below.all h3 _,fun bb hbb=>by cases hbb;exact⟨h3.size,fun e=>by have:=hrd.lt;omega,heap_alloc_new _ _⟩⟩
 rintro v ⟨fl0,w20,pr,rfl,-⟩
 refine⟨fun v fl w2=>(∃oO cO oD cD,v=.tuple #[.agg (Jao s d q a f wi u oO nO cO ty cd oD nD cD),.int .i64 err])∧Below y.heap.size y w2∧∀bb,fl=some bb→y.heap.size≤bb∧w2.heap[bb]? =some (.cells Qp 149 (0,0)),?_,fun _ _=>Jz rfl,?_,?_⟩
 ·rintro fl-
  refine⟨rfl,fun w' hw'=>.inr ⟨189,#[.pointer (some ⟨pr,0,none⟩)],by kernel_rfl,?_⟩⟩
  obtain⟨pr',he,hpr,⟨b,hrd⟩,hb1,hfb⟩:=hw'
  cases he
  refine(HRDH.out w' b pr hrd).mono ?_
  rintro e w2 ⟨⟨oO,cO,oD,cD,rfl⟩,ho⟩
  refine⟨_,rfl,⟨oO,cO,oD,cD,rfl⟩,hb1.trans (ho.below.mono hpr),fun bb hbb=>⟨(hfb bb hbb).1,?_⟩⟩
  have h2:=(hfb bb hbb).2
  exact(ho.keep bb h2.1 (JoM h2.2).1).trans h2.2
 ·rintro-v w2 ⟨h1,h3,-⟩
  exact⟨h1,Below.all h3 _,fun bb hbb=>by cases hbb;exact⟨h3.size,heap_alloc_new _ _⟩⟩
 rintro v ⟨fl1,w21,⟨oO,cO,oD,cD,rfl⟩,-⟩
 refine⟨.tuple #[.agg (Jao s d q a f wi u oO nO cO ty cd oD nD cD),.int .i64 err],⟨rfl,fun _=>by kernel_rfl⟩,?_⟩
 refine⟨.agg (Jao s d q a f wi u oO nO cO ty cd oD nD cD),⟨rfl,fun _=>by kernel_rfl⟩,?_⟩
 refine⟨.int .i64 err,⟨rfl,fun _=>by kernel_rfl⟩,?_⟩
 intro bp
 refine⟨fun v fl w2=>v=undef∧Below y.heap.size y w2∧y.heap.size≤bp∧w2.heap[bp]? =some (.cells (Jao s d q a f wi u oO nO cO ty cd oD nD cD) 149 (0,0)),?_,fun _ _=>Jz rfl,(fun h=>by cases h),?_⟩
 ·rintro fl rfl
  refine JA.skip rfl ?_
  rintro w' ⟨-,hb1,hst⟩
  obtain⟨hbge,hbx⟩:=hst bp rfl
  exact⟨_,Q1 _ w' bp (Jao s d q a f wi u oO nO cO ty cd oD nD cD) (by kernel_rfl) (by kernel_rfl) (by rw[Jd _ _ _ _ _ hbx];rfl) rfl rfl,hb1.trans (Je _ hbge),hbge,Ji hbx⟩
 rintro v ⟨fl2,w22,rfl,-⟩
 refine⟨.int .i64 err,⟨rfl,fun _=>by kernel_rfl⟩,?_⟩
 rintro zz ⟨-,hzz,hbge,hpz⟩
 have HZ:=JoL (HBA.out.trans (hzz.mono HBA.out.size))
 have hx4:zz.heap[b4]? =some (.cells Jpd 149 (0,0)):=(hzz.block b4 hb4y).trans HXA.out
 have HX4:=JoL hx4
 unfold Jao at hpz⊢
 have HPZ:=JoL hpz
 have hb4p:b4≠bp:=by omega
 have hb4w:w.heap.size≤b4:=by have:=HB4.out;omega
 have hbpw:w.heap.size≤bp:=by omega
 have hb4l:b4<zz.heap.size:=(JoM hx4).1
 clear hzz hpz hc4 w20 w21 w22 fl0 fl1 fl2 HXA HBA HX6 HR6
 unfold QV
 by_cases he:err=0
 ·subst he
  have hc0:zz.cell? ⟨bp,0,none⟩=some (.int .u8 0):=cell_of_row _ _ 0 _ _ (0,0) HPZ.out
  have hf0:=frozen_of_row _ _ 0 _ _ HPZ.out
  have HP2:=JoL (Jbo (.int .u8 p) HPZ.out)
  have HX42:Hid ((zz.setCell ⟨bp,0,none⟩ (.int .u8 p)).heap[b4]? =some (.cells Jpd 149 (0,0))):=JoL ((Below.heap_setCell _ _ _ _ hb4p).trans HX4.out)
  have hpt:Jb (zz.setCell ⟨bp,0,none⟩ (.int .u8 p)) bp 0 12=(Jo6 p (.int .u16 s) (.int .u16 d) (.int .u32 q) (.int .u32 a) f (.int .u16 wi) (.int .u16 u) (.slice oO nO cO) ty cd (.slice oD nD cD):Array Value):=Ja HP2.out rfl
  have hrf:Jk (zz.setCell ⟨bp,0,none⟩ (.int .u8 p)) b4 12=true:=by rw[Jd _ _ _ _ _ HX42.out];rfl
  clear hx4
  go_wp2_with fail
  refine bodyPost_ret (QN rfl _ _ b4 _ _ _ (0,0) rfl rfl (Ji HX42.out) rfl) rfl ?_
  exact⟨⟨oO,cO,oD,cD,rfl⟩,(HZ.out.setCell hbpw _).trans (Je _ hb4w)⟩
 ·have her:(err != 0)=true:=by simpa using he
  have her2:decide (err=0)=false:=by simpa using he
  have hrf:Jk zz b4 12=true:=by rw[Jd _ _ _ _ _ HX4.out];rfl
  clear hx4
  go_wp2_with fail
  refine bodyPost_ret (QN rfl _ _ b4 _ _ _ (0,0) rfl rfl (Ji HX4.out) rfl) rfl ?_
  exact⟨⟨none,0,none,0,rfl⟩,HZ.out.trans (Je _ hb4w)⟩
theorem Jde (p hd sm:Int)(oa:Option Addr)(n cap:Nat)(l:List Int)(w:World)(hr:Jg w oa n cap l)(h1:hd≤(n:Int))(h2:n≤65535)
 (HLK:∀r w',w'.heap[r]? =some (.map JU 4)→(Instr.lookup 224 (.map (some r)) (.int .u8 p) true).run Tryz.prog w'=.ok (.tuple #[.agg #[.int .i64 hd,.int .i64 sm,.func (.func 181) #[] #[],.func (.func 182) #[] #[],.func (.func 183) #[] #[]],true]) w')
 (s d q a f wi u:Int)(nO:Nat)(ty cd:Int)(nD:Nat)(err:Int)
 (HRD:∀y b pr,Rd y b pr l 0→Calls Tryz.prog 183 #[.pointer (some ⟨pr,0,none⟩)] y (X5 y pr s d q a f wi u nO ty cd nD err)):
 Calls Tryz.prog 77 #[p,.slice oa n cap] w (XO w (fun oO cO oD cD=>if err=0 then (Jo6 p (.int .u16 s) (.int .u16 d) (.int .u32 q) (.int .u32 a) f (.int .u16 wi) (.int .u16 u) (.slice oO nO cO) ty cd (.slice oD nD cD)) else Qp) err):=by
 have HR:=JoL hr
 have HLKH:=JoL HLK
 have HRDH:=JoL HRD
 have hx:=heap_alloc_new w (.cells Qp 149)
 have hB:Below w.heap.size w (w.alloc (.cells Qp 149)):=Below.all (JoO _ _) _
 have hlt1:decide ((n:Int)<hd)=false:=by simp;omega
 have hlt2:decide ((n:Int)>65535)=false:=by simp;omega
 clear hr HLK HRD
 unfold Qp at hx hB
 have HX:=JoL hx
 have HB:=JoL hB
 clear hx hB
 go_enter Tryz.func77,Tryz.ntmps77
 go_wp2_with fail
 refine JoN (J5 _) ?_
 rintro e y1 ⟨r,rfl,hr1,hr2,hb⟩
 have HB1:=JoL (JoE HB.out hb)
 have HX1:=JoL ((hb.block w.heap.size (by simp)).trans HX.out)
 have hlk:=HLKH.out r y1 hr2
 have hw1:w.heap.size<y1.heap.size:=(JoM HX1.out).1
 obtain⟨b4,hb4⟩:∃b,b=w.heap.size:=⟨_,rfl⟩
 have hBA:Below y1.heap.size y1 (y1.alloc (.cells #[.int .i64 hd,.int .i64 sm,.func (.func 181) #[] #[],.func (.func 182) #[] #[],.func (.func 183) #[] #[]] 222)):=Below.all (JoO _ _) _
 have hx6:=heap_alloc_new y1 (.cells #[.int .i64 hd,.int .i64 sm,.func (.func 181) #[] #[],.func (.func 182) #[] #[],.func (.func 183) #[] #[]] 222)
 have HXA:=JoL ((hBA.block _ hw1).trans HX1.out)
 have HBA:=JoL (JoE HB1.out hBA)
 have HX6:=JoL hx6
 have hc0:(y1.alloc (.cells #[.int .i64 hd,.int .i64 sm,.func (.func 181) #[] #[],.func (.func 182) #[] #[],.func (.func 183) #[] #[]] 222)).cell? ⟨y1.heap.size,0,none⟩=some (.int .i64 hd):=cell_of_row _ _ 0 _ _ (0,0) hx6
 clear hb hr2 HX HB hBA hx6 HX1 HB1
 go_wp2_with fail
 obtain⟨b6,hb6⟩:∃b,b=y1.heap.size:=⟨_,rfl⟩
 obtain⟨b4,hb4⟩:∃b,b=w.heap.size:=⟨_,rfl⟩
 rw[←hb6] at HX6⊢
 rw[←hb4] at HXA⊢
 have HR6:=JoL (HR.out.below HBA.out)
 have HB4:=JoL hb4
 clear hc0 hb6 hb4 hw1 hlk hr1
 generalize (y1.alloc (.cells #[.int .i64 hd,.int .i64 sm,.func (.func 181) #[] #[],.func (.func 182) #[] #[],.func (.func 183) #[] #[]] 222))=y at*
 have hb6y:b6<y.heap.size:=(JoM HX6.out).1
 have hb4y:b4<y.heap.size:=(JoM HXA.out).1
 have hc4:y.cell? ⟨b6,4,none⟩=some (.func (.func 183) #[] #[]):=cell_of_row _ _ 4 _ _ (0,0) HX6.out
 refine JM [.h,.h,.h] [(0,1,0),(1,1,0)] (fun _ w'=>w'.cell? ⟨b6,4,none⟩=some (.func (.func 183) #[] #[])) [1] [(.w,3),(.w,4),(.q,5),(.q,6),(.q,7)] [(.w,9),(.q,10)] 8 (.cells Qp 149) (by kernel_rfl) (by kernel_rfl) rfl rfl ⟨fun _=>rfl,fun _ _=>by kernel_rfl⟩ (by kernel_rfl) (by kernel_rfl) ?_
 apply Exists.intro
 refine⟨fun wx hbx=>?_,?_,?_⟩
 ·have hcx:wx.cell? ⟨b6,4,none⟩=some (.func (.func 183) #[] #[]):=(Jf hbx hb6y _ rfl).trans hc4
  have hbx2:b6<wx.heap.size:=JoP hb6y hbx.size
  simp only[Jx]
  repeat go_big_quiet_step (fail)
  exact wpQuiet_nil rfl
 ·intro q hq oi hoi
  simp only[List.mem_cons,List.not_mem_nil,or_false] at hq
  rcases hq with rfl|rfl
  ·cases hoi;exact⟨_,rfl,rfl,fun w2 hw=>by kernel_rfl⟩
  ·cases hoi;exact⟨_,rfl,rfl,fun w2 hw=>by simp[execOp,go_sem,hw]⟩
 simp only[J2,List.getElem?_cons_succ,List.getElem?_cons_zero]
 refine⟨fun v fl w2=>∃pr,v=.pointer (some ⟨pr,0,none⟩)∧y.heap.size≤pr∧(∃b,Rd w2 b pr l 0)∧Below y.heap.size y w2∧∀bb,fl=some bb→y.heap.size≤bb∧bb≠pr∧w2.heap[bb]? =some (.cells Qp 149 (0,0)),?_,?_,?_,?_⟩
 ·rintro fl-
  refine⟨rfl,fun w' hw'=>.inr ⟨137,#[.slice oa n cap],by kernel_rfl,?_⟩⟩
  obtain⟨⟨x,rfl⟩,hfb⟩:=hw'
  refine(JfX oa n cap l x.world (HR6.out.below x.below) (by omega)).mono ?_
  rintro e w2 ⟨pr,rfl,hpr,hrd,hb2⟩
  refine⟨_,rfl,pr,rfl,Nat.le_trans x.below.size hpr,⟨_,hrd⟩,JoE x.below hb2,fun bb hbb=>⟨(hfb bb hbb).1,?_,?_⟩⟩
  ·have:=(JoM (hfb bb hbb).2).1;omega
  ·have:=(hfb bb hbb).2
   exact(hb2.block bb (JoM this).1).trans this
 ·rintro v fl g-w2 ⟨pr,-,-,-,hb,-⟩
  exact(Jf hb hb6y _ rfl).trans hc4
 ·rintro-v w2 ⟨pr,h1,h2,⟨b,hrd⟩,h3,-⟩
  exact⟨pr,h1,h2,⟨b,hrd.below (Below.all (JoO _ _) _)⟩,Below.all h3 _,fun bb hbb=>by cases hbb;exact⟨h3.size,fun e=>by have:=hrd.lt;omega,heap_alloc_new _ _⟩⟩
 rintro v ⟨fl0,w20,pr,rfl,-⟩
 refine⟨fun v fl w2=>(∃oO cO oD cD,v=.tuple #[.agg (Jao s d q a f wi u oO nO cO ty cd oD nD cD),.int .i64 err])∧Below y.heap.size y w2∧∀bb,fl=some bb→y.heap.size≤bb∧w2.heap[bb]? =some (.cells Qp 149 (0,0)),?_,fun _ _=>Jz rfl,?_,?_⟩
 ·rintro fl-
  refine⟨rfl,fun w' hw'=>.inr ⟨183,#[.pointer (some ⟨pr,0,none⟩)],by kernel_rfl,?_⟩⟩
  obtain⟨pr',he,hpr,⟨b,hrd⟩,hb1,hfb⟩:=hw'
  cases he
  refine(HRDH.out w' b pr hrd).mono ?_
  rintro e w2 ⟨⟨oO,cO,oD,cD,rfl⟩,ho⟩
  refine⟨_,rfl,⟨oO,cO,oD,cD,rfl⟩,hb1.trans (ho.below.mono hpr),fun bb hbb=>⟨(hfb bb hbb).1,?_⟩⟩
  have h2:=(hfb bb hbb).2
  exact(ho.keep bb h2.1 (JoM h2.2).1).trans h2.2
 ·rintro-v w2 ⟨h1,h3,-⟩
  exact⟨h1,Below.all h3 _,fun bb hbb=>by cases hbb;exact⟨h3.size,heap_alloc_new _ _⟩⟩
 rintro v ⟨fl1,w21,⟨oO,cO,oD,cD,rfl⟩,-⟩
 refine⟨.tuple #[.agg (Jao s d q a f wi u oO nO cO ty cd oD nD cD),.int .i64 err],⟨rfl,fun _=>by kernel_rfl⟩,?_⟩
 refine⟨.agg (Jao s d q a f wi u oO nO cO ty cd oD nD cD),⟨rfl,fun _=>by kernel_rfl⟩,?_⟩
 refine⟨.int .i64 err,⟨rfl,fun _=>by kernel_rfl⟩,?_⟩
 intro bp
 refine⟨fun v fl w2=>v=undef∧Below y.heap.size y w2∧y.heap.size≤bp∧w2.heap[bp]? =some (.cells (Jao s d q a f wi u oO nO cO ty cd oD nD cD) 149 (0,0)),?_,fun _ _=>Jz rfl,(fun h=>by cases h),?_⟩
 ·rintro fl rfl
  refine JA.skip rfl ?_
  rintro w' ⟨-,hb1,hst⟩
  obtain⟨hbge,hbx⟩:=hst bp rfl
  exact⟨_,Q1 _ w' bp (Jao s d q a f wi u oO nO cO ty cd oD nD cD) (by kernel_rfl) (by kernel_rfl) (by rw[Jd _ _ _ _ _ hbx];rfl) rfl rfl,hb1.trans (Je _ hbge),hbge,Ji hbx⟩
 rintro v ⟨fl2,w22,rfl,-⟩
 refine⟨.int .i64 err,⟨rfl,fun _=>by kernel_rfl⟩,?_⟩
 rintro zz ⟨-,hzz,hbge,hpz⟩
 have HZ:=JoL (HBA.out.trans (hzz.mono HBA.out.size))
 have hx4:zz.heap[b4]? =some (.cells Jpd 149 (0,0)):=(hzz.block b4 hb4y).trans HXA.out
 have HX4:=JoL hx4
 unfold Jao at hpz⊢
 have HPZ:=JoL hpz
 have hb4p:b4≠bp:=by omega
 have hb4w:w.heap.size≤b4:=by have:=HB4.out;omega
 have hbpw:w.heap.size≤bp:=by omega
 have hb4l:b4<zz.heap.size:=(JoM hx4).1
 clear hzz hpz hc4 w20 w21 w22 fl0 fl1 fl2 HXA HBA HX6 HR6
 unfold QV
 by_cases he:err=0
 ·subst he
  have hc0:zz.cell? ⟨bp,0,none⟩=some (.int .u8 0):=cell_of_row _ _ 0 _ _ (0,0) HPZ.out
  have hf0:=frozen_of_row _ _ 0 _ _ HPZ.out
  have HP2:=JoL (Jbo (.int .u8 p) HPZ.out)
  have HX42:Hid ((zz.setCell ⟨bp,0,none⟩ (.int .u8 p)).heap[b4]? =some (.cells Jpd 149 (0,0))):=JoL ((Below.heap_setCell _ _ _ _ hb4p).trans HX4.out)
  have hpt:Jb (zz.setCell ⟨bp,0,none⟩ (.int .u8 p)) bp 0 12=(Jo6 p (.int .u16 s) (.int .u16 d) (.int .u32 q) (.int .u32 a) f (.int .u16 wi) (.int .u16 u) (.slice oO nO cO) ty cd (.slice oD nD cD):Array Value):=Ja HP2.out rfl
  have hrf:Jk (zz.setCell ⟨bp,0,none⟩ (.int .u8 p)) b4 12=true:=by rw[Jd _ _ _ _ _ HX42.out];rfl
  clear hx4
  go_wp2_with fail
  refine bodyPost_ret (QN rfl _ _ b4 _ _ _ (0,0) rfl rfl (Ji HX42.out) rfl) rfl ?_
  exact⟨⟨oO,cO,oD,cD,rfl⟩,(HZ.out.setCell hbpw _).trans (Je _ hb4w)⟩
 ·have her:(err != 0)=true:=by simpa using he
  have her2:decide (err=0)=false:=by simpa using he
  have hrf:Jk zz b4 12=true:=by rw[Jd _ _ _ _ _ HX4.out];rfl
  clear hx4
  go_wp2_with fail
  refine bodyPost_ret (QN rfl _ _ b4 _ _ _ (0,0) rfl rfl (Ji HX4.out) rfl) rfl ?_
  exact⟨⟨none,0,none,0,rfl⟩,HZ.out.trans (Je _ hb4w)⟩
theorem Ja0 (p hd sm:Int)(F G RD:FuncId)(oa:Option Addr)(n cap:Nat)(l:List Int)(w:World)(hr:Jg w oa n cap l)(h1:(n:Int)<hd)
 (HLK:∀r w',w'.heap[r]? =some (.map JU 4)→(Instr.lookup 224 (.map (some r)) (.int .u8 p) true).run Tryz.prog w'=.ok (.tuple #[.agg #[.int .i64 hd,.int .i64 sm,.func (.func F) #[] #[],.func (.func G) #[] #[],.func (.func RD) #[] #[]],true]) w'):
 Calls Tryz.prog 77 #[p,.slice oa n cap] w (XO w (fun _ _ _ _=>Qp) 10):=by
 have HR:=JoL hr
 have HLKH:=JoL HLK
 have hx:=heap_alloc_new w (.cells Qp 149)
 have hB:Below w.heap.size w (w.alloc (.cells Qp 149)):=Below.all (JoO _ _) _
 have hlt1:decide ((n:Int)<hd)=true:=by simp;omega
 clear hr HLK
 unfold Qp at hx hB
 have HX:=JoL hx
 have HB:=JoL hB
 clear hx hB
 go_enter Tryz.func77,Tryz.ntmps77
 go_wp2_with fail
 refine JoN (J5 _) ?_
 rintro e y1 ⟨r,rfl,hr1,hr2,hb⟩
 have HB1:=JoL (JoE HB.out hb)
 have HX1:=JoL ((hb.block w.heap.size (by simp)).trans HX.out)
 have hlk:=HLKH.out r y1 hr2
 have hw1:w.heap.size<y1.heap.size:=(JoM HX1.out).1
 obtain⟨b4,hb4⟩:∃b,b=w.heap.size:=⟨_,rfl⟩
 have hBA:Below y1.heap.size y1 (y1.alloc (.cells #[.int .i64 hd,.int .i64 sm,.func (.func F) #[] #[],.func (.func G) #[] #[],.func (.func RD) #[] #[]] 222)):=Below.all (JoO _ _) _
 have hx6:=heap_alloc_new y1 (.cells #[.int .i64 hd,.int .i64 sm,.func (.func F) #[] #[],.func (.func G) #[] #[],.func (.func RD) #[] #[]] 222)
 have HXA:=JoL ((hBA.block _ hw1).trans HX1.out)
 have HBA:=JoL (JoE HB1.out hBA)
 have HX6:=JoL hx6
 have hc0:(y1.alloc (.cells #[.int .i64 hd,.int .i64 sm,.func (.func F) #[] #[],.func (.func G) #[] #[],.func (.func RD) #[] #[]] 222)).cell? ⟨y1.heap.size,0,none⟩=some (.int .i64 hd):=cell_of_row _ _ 0 _ _ (0,0) hx6
 clear hb hr2 HX HB hBA hx6
 have hrf:Jk (y1.alloc (.cells #[.int .i64 hd,.int .i64 sm,.func (.func F) #[] #[],.func (.func G) #[] #[],.func (.func RD) #[] #[]] 222)) w.heap.size 12=true:=by rw[Jd _ _ _ _ _ HXA.out];rfl
 go_wp2_with fail
 refine bodyPost_ret (QN rfl _ _ w.heap.size _ _ _ (0,0) rfl rfl ((heap_alloc_old _ _ (by simpa using hw1)).trans (Ji HX1.out)) rfl) rfl ?_
 exact⟨⟨none,0,none,0,rfl⟩,Below.all (HB1.out.trans (Je _ (JoQ _))) _⟩
theorem JbN (p hd sm:Int)(F G RD:FuncId)(oa:Option Addr)(n cap:Nat)(l:List Int)(w:World)(hr:Jg w oa n cap l)(h1:hd≤(n:Int))(h2:65535<n)
 (HLK:∀r w',w'.heap[r]? =some (.map JU 4)→(Instr.lookup 224 (.map (some r)) (.int .u8 p) true).run Tryz.prog w'=.ok (.tuple #[.agg #[.int .i64 hd,.int .i64 sm,.func (.func F) #[] #[],.func (.func G) #[] #[],.func (.func RD) #[] #[]],true]) w'):
 Calls Tryz.prog 77 #[p,.slice oa n cap] w (XO w (fun _ _ _ _=>Qp) 51):=by
 have HR:=JoL hr
 have HLKH:=JoL HLK
 have hx:=heap_alloc_new w (.cells Qp 149)
 have hB:Below w.heap.size w (w.alloc (.cells Qp 149)):=Below.all (JoO _ _) _
 have hlt1:decide ((n:Int)<hd)=false:=by simp;omega
 have hlt2:decide ((n:Int)>65535)=true:=by simp;omega
 clear hr HLK
 unfold Qp at hx hB
 have HX:=JoL hx
 have HB:=JoL hB
 clear hx hB
 go_enter Tryz.func77,Tryz.ntmps77
 go_wp2_with fail
 refine JoN (J5 _) ?_
 rintro e y1 ⟨r,rfl,hr1,hr2,hb⟩
 have HB1:=JoL (JoE HB.out hb)
 have HX1:=JoL ((hb.block w.heap.size (by simp)).trans HX.out)
 have hlk:=HLKH.out r y1 hr2
 have hw1:w.heap.size<y1.heap.size:=(JoM HX1.out).1
 obtain⟨b4,hb4⟩:∃b,b=w.heap.size:=⟨_,rfl⟩
 have hBA:Below y1.heap.size y1 (y1.alloc (.cells #[.int .i64 hd,.int .i64 sm,.func (.func F) #[] #[],.func (.func G) #[] #[],.func (.func RD) #[] #[]] 222)):=Below.all (JoO _ _) _
 have hx6:=heap_alloc_new y1 (.cells #[.int .i64 hd,.int .i64 sm,.func (.func F) #[] #[],.func (.func G) #[] #[],.func (.func RD) #[] #[]] 222)
 have HXA:=JoL ((hBA.block _ hw1).trans HX1.out)
 have HBA:=JoL (JoE HB1.out hBA)
 have HX6:=JoL hx6
 have hc0:(y1.alloc (.cells #[.int .i64 hd,.int .i64 sm,.func (.func F) #[] #[],.func (.func G) #[] #[],.func (.func RD) #[] #[]] 222)).cell? ⟨y1.heap.size,0,none⟩=some (.int .i64 hd):=cell_of_row _ _ 0 _ _ (0,0) hx6
 clear hb hr2 HX HB hBA hx6
 have hrf:Jk (y1.alloc (.cells #[.int .i64 hd,.int .i64 sm,.func (.func F) #[] #[],.func (.func G) #[] #[],.func (.func RD) #[] #[]] 222)) w.heap.size 12=true:=by rw[Jd _ _ _ _ _ HXA.out];rfl
 go_wp2_with fail
 refine bodyPost_ret (QN rfl _ _ w.heap.size _ _ _ (0,0) rfl rfl ((heap_alloc_old _ _ (by simpa using hw1)).trans (Ji HX1.out)) rfl) rfl ?_
 exact⟨⟨none,0,none,0,rfl⟩,Below.all (HB1.out.trans (Je _ (JoQ _))) _⟩
theorem Jci (l:List Int)(i:Nat)(h:i+1≤l.length):Bits.numAt l i 1=l.getD i 0:=by
 rw[Bits.numAt_snoc l i 0 (by omega),show Bits.numAt l i 0=0 from rfl,Nat.add_zero];omega
theorem Jdr {l:List Int}(h:Jp l)(i:Nat):0≤l.getD i 0∧l.getD i 0<256:=by
 rw[List.getD_eq_getElem?_getD]
 cases hx:l[i]? with
 |none=>simp
 |some v=>exact h v (List.mem_of_getElem? hx)
def XQ (s:Seg)(oO:Option Addr)(cO:Nat)(oD:Option Addr)(cD:Nat):Array Value:=
 (Jo6 (.int .u8 s.proto) (.int .u16 s.src) (.int .u16 s.dst) (.int .u32 s.seq) (.int .u32 s.ack) (.int .u8 s.flags) (.int .u16 s.win) (.int .u16 s.urg) (.slice oO s.opt.length cO) (.int .u8 s.type) (.int .u8 s.code) (.slice oD s.data.length cD))
theorem XO.mono {w:World}{cs cs':Option Addr→Nat→Option Addr→Nat→Array Value}{err err':Int}(he:err=err')(hc:∀oO cO oD cD,∃a b c d,cs oO cO oD cD=cs' a b c d){e:Ending}{w':World}(h:XO w cs err e w'):XO w cs' err' e w':=by
 obtain⟨⟨oO,cO,oD,cD,rfl⟩,hb⟩:=h
 obtain⟨a,b,c,d,hh⟩:=hc oO cO oD cD
 subst he
 exact⟨⟨a,b,c,d,by rw[hh]⟩,hb⟩
theorem Jio (p:Int)(hp:p=1∨p=58)(oa:Option Addr)(n cap:Nat)(l:List Int)(w:World)(hr:Jg w oa n cap l)(hn:n≤100000):
 Calls Tryz.prog 77 #[p,.slice oa n cap] w (XO w (XQ (Qf p l)) (ZC p l)):=by
 have hlk:=fun r w' h=>(Qy p (.inr (.inr hp)) r w' h)
 rw[show Jea p=Xl by rcases hp with rfl|rfl<;>rfl] at hlk
 have hlen:=hr.len
 have hth:Zo p=4:=by rcases hp with rfl|rfl<;>rfl
 have h6:¬p=6:=by omega
 have h17:¬p=17:=by omega
 by_cases h1:n<4
 ·have he:ZC p l=10:=by unfold ZC;rw[hth,if_neg (by decide),if_pos (by omega)]
  refine(Ja0 p 4 2 _ _ _ oa n cap l w hr (by omega) hlk).mono fun e w' h=>XO.mono he.symm (fun _ _ _ _=>⟨none,0,none,0,?_⟩) h
  unfold Qf;rw[he,if_neg (by decide)];rfl
 by_cases h2:65535<n
 ·have he:ZC p l=51:=by unfold ZC;rw[hth,if_neg (by decide),if_neg (by omega),if_pos (by omega)]
  refine(JbN p 4 2 _ _ _ oa n cap l w hr (by omega) h2 hlk).mono fun e w' h=>XO.mono he.symm (fun _ _ _ _=>⟨none,0,none,0,?_⟩) h
  unfold Qf;rw[he,if_neg (by decide)];rfl
 ·have he:ZC p l=0:=by unfold ZC;rw[hth,if_neg (by decide),if_neg (by omega),if_neg (by omega),if_neg h6,if_neg h17]
  refine(Jde p 4 2 oa n cap l w hr (by omega) (by omega) hlk 0 0 0 0 0 0 0 0 _ _ _ 0 (fun y b pr h=>Jk5 b pr l y h (by omega) (by omega))).mono fun e w' h=>XO.mono he.symm (fun oO cO oD cD=>⟨oO,cO,oD,cD,?_⟩) h
  have g0:=Jdr hr.byte 0
  have g1:=Jdr hr.byte 1
  unfold Qf Jcw XQ
  rw[he,if_pos rfl,if_pos rfl,if_neg h6,if_neg h17,Jci l 0 (by omega),Jci l 1 (by omega),Int.emod_eq_of_lt g0.1 g0.2,Int.emod_eq_of_lt g1.1 g1.2]
  simp
theorem JjO (oa:Option Addr)(n cap:Nat)(l:List Int)(w:World)(hr:Jg w oa n cap l)(hn:n≤100000):
 Calls Tryz.prog 77 #[(17:Int),.slice oa n cap] w (XO w (XQ (Qf 17 l)) (ZC 17 l)):=by
 have hlk:=fun r w' h=>(Qy 17 (.inr (.inl rfl)) r w' h)
 have hlen:=hr.len
 have hth:Zo 17=8:=rfl
 by_cases h1:n<8
 ·have he:ZC 17 l=10:=by unfold ZC;rw[hth,if_neg (by decide),if_pos (by omega)]
  refine(Ja0 17 8 6 _ _ _ oa n cap l w hr (by omega) hlk).mono fun e w' h=>XO.mono he.symm (fun _ _ _ _=>⟨none,0,none,0,?_⟩) h
  unfold Qf;rw[he,if_neg (by decide)];rfl
 by_cases h2:65535<n
 ·have he:ZC 17 l=51:=by unfold ZC;rw[hth,if_neg (by decide),if_neg (by omega),if_pos (by omega)]
  refine(JbN 17 8 6 _ _ _ oa n cap l w hr (by omega) h2 hlk).mono fun e w' h=>XO.mono he.symm (fun _ _ _ _=>⟨none,0,none,0,?_⟩) h
  unfold Qf;rw[he,if_neg (by decide)];rfl
 have hw:=Zi hr.byte 4
 obtain⟨N,hN⟩:∃N:Nat,(N:Int)=w2 l 4:=⟨(w2 l 4).toNat,by omega⟩
 have hNa:numAt l 4 2=(N:Int):=by rw[QQ l 4 (by omega)];exact hN.symm
 have hT:ZC 17 l=if w2 l 4<8 then 51 else if (l.length:Int)<w2 l 4 then 10 else 0:=by unfold ZC;rw[hth,if_neg (by decide),if_neg (by omega),if_neg (by omega),if_neg (by decide),if_pos rfl]
 by_cases h3:N<8
 ·have he:ZC 17 l=51:=by rw[hT,if_pos (by omega)]
  refine(Zu 17 8 6 oa n cap l w hr (by omega) (by omega) hlk 0 0 0 0 0 0 0 0 0 0 0 51 (fun y b pr h=>Jmi b pr l y h (by omega) (by omega) N hNa (by omega) h3)).mono fun e w' h=>XO.mono he.symm (fun oO cO oD cD=>⟨none,0,none,0,?_⟩) h
  unfold Qf;rw[he,if_neg (by decide),if_neg (by decide)];rfl
 by_cases h4:l.length<N
 ·have he:ZC 17 l=10:=by rw[hT,if_neg (by omega),if_pos (by omega)]
  refine(Zu 17 8 6 oa n cap l w hr (by omega) (by omega) hlk 0 0 0 0 0 0 0 0 0 0 0 10 (fun y b pr h=>JjM b pr l y h (by omega) (by omega) N hNa (by omega) (by omega) h4)).mono fun e w' h=>XO.mono he.symm (fun oO cO oD cD=>⟨none,0,none,0,?_⟩) h
  unfold Qf;rw[he,if_neg (by decide),if_neg (by decide)];rfl
 ·have he:ZC 17 l=0:=by rw[hT,if_neg (by omega),if_neg (by omega)]
  refine(Zu 17 8 6 oa n cap l w hr (by omega) (by omega) hlk _ _ 0 0 0 0 0 0 0 0 _ 0 (fun y b pr h=>Jne b pr l y h (by omega) (by omega) N hNa (by omega) (by omega) (by omega))).mono fun e w' h=>XO.mono he.symm (fun oO cO oD cD=>⟨oO,cO,oD,cD,?_⟩) h
  have g0:=Zi hr.byte 0
  have g1:=Zi hr.byte 2
  unfold Qf Jcw XQ
  rw[he,if_pos rfl,if_pos rfl,if_neg (by decide),if_pos rfl,QQ l 0 (by omega),QQ l 2 (by omega),Int.emod_eq_of_lt g0.1 g0.2,Int.emod_eq_of_lt g1.1 g1.2]
  have hd:((l.take (w2 l 4).toNat).drop 8).length=N-8:=by rw[List.length_drop,List.length_take];omega
  simp only[hd]
  rfl
theorem JjP (oa:Option Addr)(n cap:Nat)(l:List Int)(w:World)(hr:Jg w oa n cap l)(hn:n≤100000):
 Calls Tryz.prog 77 #[(6:Int),.slice oa n cap] w (XO w (XQ (Qf 6 l)) (ZC 6 l)):=by
 have hlk:=fun r w' h=>(Qy 6 (.inl rfl) r w' h)
 have hlen:=hr.len
 have hth:Zo 6=20:=rfl
 by_cases h1:n<20
 ·have he:ZC 6 l=10:=by unfold ZC;rw[hth,if_neg (by decide),if_pos (by omega)]
  refine(Ja0 6 20 16 _ _ _ oa n cap l w hr (by omega) hlk).mono fun e w' h=>XO.mono he.symm (fun _ _ _ _=>⟨none,0,none,0,?_⟩) h
  unfold Qf;rw[he,if_neg (by decide)];rfl
 by_cases h2:65535<n
 ·have he:ZC 6 l=51:=by unfold ZC;rw[hth,if_neg (by decide),if_neg (by omega),if_pos (by omega)]
  refine(JbN 6 20 16 _ _ _ oa n cap l w hr (by omega) h2 hlk).mono fun e w' h=>XO.mono he.symm (fun _ _ _ _=>⟨none,0,none,0,?_⟩) h
  unfold Qf;rw[he,if_neg (by decide)];rfl
 have hw:=Jdr hr.byte 12
 obtain⟨V,hV⟩:∃V:Nat,(V:Int)=l.getD 12 0:=⟨(l.getD 12 0).toNat,by omega⟩
 have hVa:numAt l 12 1=(V:Int):=by rw[Jci l 12 (by omega)];exact hV.symm
 have hq:Jkc l=V/16*4:=by unfold Jkc;rw[←hV];omega
 have hT:ZC 6 l=if Jkc l<20 then 51 else if l.length<Jkc l then 10 else 0:=by unfold ZC;rw[hth,if_neg (by decide),if_neg (by omega),if_neg (by omega),if_pos rfl]
 rw[hq] at hT
 by_cases h3:V/16<5
 ·have he:ZC 6 l=51:=by rw[hT,if_pos (by omega)]
  refine(Zt 6 20 16 oa n cap l w hr (by omega) (by omega) hlk 0 0 0 0 0 0 0 0 0 0 0 51 (fun y b pr h=>Jmj b pr l y h (by omega) (by omega) V hVa (by omega) h3)).mono fun e w' h=>XO.mono he.symm (fun oO cO oD cD=>⟨none,0,none,0,?_⟩) h
  unfold Qf;rw[he,if_neg (by decide),if_neg (by decide)];rfl
 by_cases h4:l.length<V/16*4
 ·have he:ZC 6 l=10:=by rw[hT,if_neg (by omega),if_pos (by omega)]
  refine(Zt 6 20 16 oa n cap l w hr (by omega) (by omega) hlk 0 0 0 0 0 0 0 0 0 0 0 10 (fun y b pr h=>JjN b pr l y h (by omega) (by omega) V hVa (by omega) (by omega) h4)).mono fun e w' h=>XO.mono he.symm (fun oO cO oD cD=>⟨none,0,none,0,?_⟩) h
  unfold Qf;rw[he,if_neg (by decide),if_neg (by decide)];rfl
 ·have he:ZC 6 l=0:=by rw[hT,if_neg (by omega),if_neg (by omega)]
  refine(Zt 6 20 16 oa n cap l w hr (by omega) (by omega) hlk _ _ _ _ _ _ _ _ 0 0 _ 0 (fun y b pr h=>Jnf b pr l y h (by omega) (by omega) V hVa (by omega) (by omega) (by omega))).mono fun e w' h=>XO.mono he.symm (fun oO cO oD cD=>⟨oO,cO,oD,cD,?_⟩) h
  have g0:=Zi hr.byte 0
  have g1:=Zi hr.byte 2
  have g2:=JmP hr.byte 4
  have g3:=JmP hr.byte 8
  have g4:=Jdr hr.byte 13
  have g5:=Zi hr.byte 14
  have g6:=Zi hr.byte 18
  unfold Qf Jcw XQ
  rw[he,if_pos rfl,if_pos rfl,if_pos rfl,QQ l 0 (by omega),QQ l 2 (by omega),JcL l 4 (by omega),JcL l 8 (by omega),Jci l 13 (by omega),QQ l 14 (by omega),QQ l 18 (by omega),Int.emod_eq_of_lt g0.1 g0.2,Int.emod_eq_of_lt g1.1 g1.2,Int.emod_eq_of_lt g2.1 g2.2,Int.emod_eq_of_lt g3.1 g3.2,Int.emod_eq_of_lt g4.1 g4.2,Int.emod_eq_of_lt g5.1 g5.2,Int.emod_eq_of_lt g6.1 g6.2]
  have hd:((l.take (Jkc l)).drop 20).length=V/16*4-20:=by rw[List.length_drop,List.length_take,hq];omega
  have hd2:(l.drop (Jkc l)).length=l.length-V/16*4:=by rw[List.length_drop,hq]
  simp only[hd,hd2]
theorem Jbp (p:Int)(hp:p=6∨p=17∨p=1∨p=58)(oa:Option Addr)(n cap:Nat)(l:List Int)(w:World)(hr:Jg w oa n cap l)(hn:n≤100000):
 Calls Tryz.prog 77 #[p,.slice oa n cap] w (XO w (XQ (Qf p l)) (ZC p l)):=by
 rcases hp with rfl|rfl|hp
 ·exact JjP oa n cap l w hr hn
 ·exact JjO oa n cap l w hr hn
 ·exact Jio p hp oa n cap l w hr hn
def Jn5 (k:Int):Value:=if k=4 then .agg #[.func (.func 79) #[] #[]] else .agg #[.func (.func 80) #[] #[]]
def X9:Array MapEntry:=#[⟨.int .u8 4,.agg #[.func (.func 79) #[] #[]],0⟩,⟨.int .u8 6,.agg #[.func (.func 80) #[] #[]],1⟩]
def JnF:Value:=.agg #[.nilFunc]
theorem Jge:((Tryz.prog.info? 79).bind (·.zero))=some JnF:=by kernel_rfl
def Jmk (w:World):Ending→World→Prop:=fun e w'=>∃r,e=.returned (.map (some r))∧w.heap.size≤r∧w'.heap[r]? =some (.map X9 2)∧Below w.heap.size w w'
theorem Ja1 (w:World):Calls Tryz.prog 34 #[] w (Jmk w):=by
 have hmm:=@run_makeMap Tryz.prog
 have hmp:=heap_alloc_new w (.map #[] 0)
 have hB:Below w.heap.size w (w.alloc (.map #[] 0)):=Below.all (JoO _ _) _
 go_enter Tryz.func34,Tryz.ntmps34
 go_wp2_with (first|(with_reducible refine Jau _ w.heap.size _ _ Jn5 5 79 ?_ ?_ hmp ?_ ?_ ?_ ?_;(kernel_rfl);(kernel_rfl);(kernel_rfl);(kernel_rfl);(kernel_rfl);intro w1 hmp hlow hsz hoth;have hB:=Jc8 hB (JoQ _) hlow))
 go_ret
 exact⟨_,rfl,JoQ _,hmp.trans (by kernel_rfl),hB⟩
theorem Jee (r:Nat)(w:World)(h:w.heap[r]? =some (.map X9 2)):(Instr.lookup 81 (.map (some r)) (.int .u8 4) true).run Tryz.prog w=.ok (.tuple #[.agg #[.func (.func 79) #[] #[]],true]) w:=
 J4 (P:=Tryz.prog) 81 5 79 r 2 X9 .u8 4 JnF true w Tryz.underlying81 Tryz.underlying5 h (some (0,.agg #[.func (.func 79) #[] #[]])) rfl Jge
theorem JeO (r:Nat)(w:World)(h:w.heap[r]? =some (.map X9 2)):(Instr.lookup 81 (.map (some r)) (.int .u8 6) true).run Tryz.prog w=.ok (.tuple #[.agg #[.func (.func 80) #[] #[]],true]) w:=
 J4 (P:=Tryz.prog) 81 5 79 r 2 X9 .u8 6 JnF true w Tryz.underlying81 Tryz.underlying5 h (some (1,.agg #[.func (.func 80) #[] #[]])) rfl Jge
theorem Jef (k:Int)(h4:k≠4)(h6:k≠6)(r:Nat)(w:World)(h:w.heap[r]? =some (.map X9 2)):(Instr.lookup 81 (.map (some r)) (.int .u8 k) true).run Tryz.prog w=.ok (.tuple #[JnF,false]) w:=by
 refine J4 (P:=Tryz.prog) 81 5 79 r 2 X9 .u8 k JnF true w Tryz.underlying81 Tryz.underlying5 h none ?_ Jge
 have b4:(k==4)=false:=by simpa using h4
 have b6:(k==6)=false:=by simpa using h6
 simp[X9,Instr.findNow,Instr.sameNow,b4,b6]
theorem Xn (p:Int)(w:World):Calls Tryz.prog 35 #[p] w (Jj w (.bool (JS p))):=by
 by_cases h6:p=6
 ·subst h6
  go_enter Tryz.func35,Tryz.ntmps35
  go_wp2_with fail
  go_ret
  exact .mk rfl (JoO _ _)
 ·have hb:(p==6)=false:=by simpa using h6
  have hd:decide (p=6)=false:=by simpa using h6
  have hi:JS p=(p==17):=by unfold JS;rw[hb];rfl
  rw[hi]
  go_enter Tryz.func35,Tryz.ntmps35
  go_wp2_with fail
  go_ret
  exact .mk rfl (JoO _ _)
theorem QO (p:Int)(w:World):Calls Tryz.prog 36 #[p] w (Jj w (.bool (JY p))):=by
 by_cases h6:p=1
 ·subst h6
  go_enter Tryz.func36,Tryz.ntmps36
  go_wp2_with fail
  go_ret
  exact .mk rfl (JoO _ _)
 ·have hb:(p==1)=false:=by simpa using h6
  have hd:decide (p=1)=false:=by simpa using h6
  have hi:JY p=(p==58):=by unfold JY;rw[hb];rfl
  rw[hi]
  go_enter Tryz.func36,Tryz.ntmps36
  go_wp2_with fail
  go_ret
  exact .mk rfl (JoO _ _)
open Go.RowKit
theorem Jhn (s:Bool)(S:Nat→Int)(t:Bool)(T:Nat→Int)(p a b:Int)(hip:JS p=true)(w:World):
 Calls Tryz.prog 26 #[.agg (kyC s S t T p a b)] w (Jj w (.bool (Jv ⟨s,S,t,T,p,a,b⟩))):=by
 have HV:Hid (Jv ⟨s,S,t,T,p,a,b⟩=(JW s S&&(JW t T&&(s==t&&true)))):=JoL (by
  have:ZM p a b=true:=by unfold ZM;rw[hip];rfl
  unfold Jv;simp only[this])
 have HR1:∀w,Calls Tryz.prog 68 #[adV s S] w (Jj w (.bool (JW s S))):=fun w=>Qu s S w
 have HR2:∀w,Calls Tryz.prog 68 #[adV t T] w (Jj w (.bool (JW t T))):=fun w=>Qu t T w
 have HP:=fun w=>Xn p w
 have HI:=fun w=>QO p w
 rw[hip] at HP
 clear hip HI
 generalize JW s S=r1 at*
 generalize JW t T=r2 at*
 generalize Jv ⟨s,S,t,T,p,a,b⟩=res at*
 have hV:=HV.out
 clear HV
 unfold adV kyC at*
 cases r1
 ·have hV:=JoL (show res=false from hV)
  go_enter Tryz.func26,Tryz.ntmps26
  go_wp2_with fail
  refine Calls.later (HP _) ?_
  intro x
  go_wp2_with fail
  refine JoG (HR1 _) ?_
  intro y0
  go_wp2_with fail
  go_ret
  exact .mk (JV hV.out.symm) (by with_reducible repeat' (first|assumption|exact JoO _ _|apply JoD|apply Below.all|(apply below_setCell_new;omega)))
 cases r2
 ·have hV:=JoL (show res=false from hV)
  go_enter Tryz.func26,Tryz.ntmps26
  go_wp2_with fail
  refine Calls.later (HP _) ?_
  intro x
  go_wp2_with fail
  refine JoG (HR1 _) ?_
  intro y0
  go_wp2_with fail
  refine JoG (HR2 _) ?_
  intro y1
  go_wp2_with fail
  go_ret
  exact .mk (JV hV.out.symm) (by with_reducible repeat' (first|assumption|exact JoO _ _|apply JoD|apply Below.all|(apply below_setCell_new;omega)))
 by_cases hst:s=t
 rotate_left
 ·have hV:Hid (res=false):=JoL (by rw[hV];simp[hst])
  have hst':(s==t)=false:=by simpa using hst
  go_enter Tryz.func26,Tryz.ntmps26
  go_wp2_with fail
  refine Calls.later (HP _) ?_
  intro x
  go_wp2_with fail
  refine JoG (HR1 _) ?_
  intro y0
  go_wp2_with fail
  refine JoG (HR2 _) ?_
  intro y1
  go_wp2_with fail
  go_ret
  exact .mk (JV hV.out.symm) (by with_reducible repeat' (first|assumption|exact JoO _ _|apply JoD|apply Below.all|(apply below_setCell_new;omega)))
 subst hst
 have hV:Hid (res=(true)):=JoL (by rw[hV];simp)
 ·go_enter Tryz.func26,Tryz.ntmps26
  go_wp2_with fail
  refine Calls.later (HP _) ?_
  intro x
  go_wp2_with fail
  refine JoG (HR1 _) ?_
  intro y0
  go_wp2_with fail
  refine JoG (HR2 _) ?_
  intro y1
  go_wp2_with fail
  go_ret
  exact .mk (JV hV.out.symm) (by with_reducible repeat' (first|assumption|exact JoO _ _|apply JoD|apply Below.all|(apply below_setCell_new;omega)))
open Go.RowKit
theorem Jip (s:Bool)(S:Nat→Int)(t:Bool)(T:Nat→Int)(p a b:Int)(hip:JS p=false)(hii:JY p=true)(w:World):
 Calls Tryz.prog 26 #[.agg (kyC s S t T p a b)] w (Jj w (.bool (Jv ⟨s,S,t,T,p,a,b⟩))):=by
 have HV:Hid (Jv ⟨s,S,t,T,p,a,b⟩=(JW s S&&(JW t T&&(s==t&&decide (a=0))))):=JoL (by
  have:ZM p a b=decide (a=0):=by unfold ZM;rw[hip,hii,Bool.false_or,Bool.true_or,Bool.and_true];rfl
  unfold Jv;simp only[this])
 have HR1:∀w,Calls Tryz.prog 68 #[adV s S] w (Jj w (.bool (JW s S))):=fun w=>Qu s S w
 have HR2:∀w,Calls Tryz.prog 68 #[adV t T] w (Jj w (.bool (JW t T))):=fun w=>Qu t T w
 have HP:=fun w=>Xn p w
 have HI:=fun w=>QO p w
 rw[hip] at HP
 rw[hii] at HI
 clear hip hii
 generalize JW s S=r1 at*
 generalize JW t T=r2 at*
 generalize Jv ⟨s,S,t,T,p,a,b⟩=res at*
 have hV:=HV.out
 clear HV
 unfold adV at*
 unfold kyC
 go_enter Tryz.func26,Tryz.ntmps26
 go_wp2_with fail
 refine Calls.later (HP _) ?_
 intro x
 go_wp2_with fail
 refine JoN (HI _) ?_
 rintro e w2 ⟨rfl,hb⟩
 have h1:x.world.heap[w.heap.size]? =some (.cells (kyC s S t T p a b) 30 (0,0)):=(x.below.block _ (by simp;omega)).trans (heap_alloc2_old w (.cells (kyC s S t T p a b) 30) (.cells (kyC s S t T p a b) 30))
 have h3:x.world.heap[w.heap.size+1]? =some (.cells (kyC s S t T p a b) 30 (0,0)):=(x.below.block _ (by simp)).trans (heap_alloc2_new w (.cells (kyC s S t T p a b) 30) (.cells (kyC s S t T p a b) 30))
 have hl1:w.heap.size<x.world.heap.size:=(JoM h1).1
 have hl3:w.heap.size+1<x.world.heap.size:=(JoM h3).1
 have HB0:Below w.heap.size w x.world:=JoD (Below.all (Below.all (JoO _ _) _) _)
 have k1:w2.heap[w.heap.size]? =some (.cells (kyC s S t T p a b) 30 (0,0)):=(hb.block _ (by simpa using hl1)).trans ((heap_setCell_other _ _ _ _ (by simp)).trans h1)
 have k3:w2.heap[w.heap.size+1]? =some (.cells (kyC s S t T p 0 b) 30 (0,0)):=(hb.block _ (by simpa using hl3)).trans (heap_setCell_same _ _ _ _ _ _ h3)
 have HB2:Hid (Below w.heap.size w w2):=JoL ((HB0.setCell (by simp) _).trans (hb.mono (by simpa using Nat.le_of_lt hl1)))
 have p1:Jb w2 w.heap.size 0 17=(JoX s S:Array Value):=by rw[Jl _ _ _ _ _ _ _ k1];simp[kyC]
 have p2:Jb w2 w.heap.size 17 17=(JoX t T:Array Value):=by rw[Jl _ _ _ _ _ _ _ k1];simp[kyC]
 have c1:w2.cell? ⟨w.heap.size,0,none⟩=some (.bool s):=by rw[cell_of_row _ _ _ _ _ _ k1];rfl
 have c2:w2.cell? ⟨w.heap.size,17,none⟩=some (.bool t):=by rw[cell_of_row _ _ _ _ _ _ k1];rfl
 have p3:Jb w2 w.heap.size 0 37=(Jo3 s t p (.int .u16 a) (.int .u16 b) S T:Array Value):=Ja k1 rfl
 have p4:Jb w2 (w.heap.size+1) 0 37=#[.bool s,.int .u8 (S 0),.int .u8 (S 1),.int .u8 (S 2),.int .u8 (S 3),.int .u8 (S 4),.int .u8 (S 5),.int .u8 (S 6),.int .u8 (S 7),.int .u8 (S 8),.int .u8 (S 9),.int .u8 (S 10),.int .u8 (S 11),.int .u8 (S 12),.int .u8 (S 13),.int .u8 (S 14),.int .u8 (S 15),.bool t,.int .u8 (T 0),.int .u8 (T 1),.int .u8 (T 2),.int .u8 (T 3),.int .u8 (T 4),.int .u8 (T 5),.int .u8 (T 6),.int .u8 (T 7),.int .u8 (T 8),.int .u8 (T 9),.int .u8 (T 10),.int .u8 (T 11),.int .u8 (T 12),.int .u8 (T 13),.int .u8 (T 14),.int .u8 (T 15),.int .u8 p,.int .u16 0,.int .u16 b]:=Ja k3 rfl
 have g1:w.heap.size<w2.heap.size:=(JoM k1).1
 have g3:w.heap.size+1<w2.heap.size:=(JoM k3).1
 clear k1 k3 hl1 hl3 HB0 h1 h3 hb
 cases r1
 ·have hV:=JoL (show res=false from hV)
  go_wp2_with fail
  refine Calls.later (HR1 _) ?_
  intro y0
  go_wp2_with fail
  go_ret
  exact .mk (JV hV.out.symm) (JoD HB2.out)
 cases r2
 ·have hV:=JoL (show res=false from hV)
  go_wp2_with fail
  refine Calls.later (HR1 _) ?_
  intro y0
  go_wp2_with fail
  refine JoG (HR2 _) ?_
  intro y1
  go_wp2_with fail
  go_ret
  exact .mk (JV hV.out.symm) (JoD HB2.out)
 by_cases hst:s=t
 rotate_left
 ·have hV:Hid (res=false):=JoL (by rw[hV];simp[hst])
  have hst':(s==t)=false:=by simpa using hst
  go_wp2_with fail
  refine Calls.later (HR1 _) ?_
  intro y0
  go_wp2_with fail
  refine JoG (HR2 _) ?_
  intro y1
  go_wp2_with fail
  go_ret
  exact .mk (JV hV.out.symm) (JoD HB2.out)
 subst hst
 have hV:Hid (res=decide (a=0)):=JoL (by rw[hV];simp)
 go_wp2_with fail
 refine Calls.later (HR1 _) ?_
 intro y0
 go_wp2_with fail
 refine JoG (HR2 _) ?_
 intro y1
 go_wp2_with fail
 go_ret
 exact .mk (JV hV.out.symm) (JoD HB2.out)
open Go.RowKit
theorem Jiq (s:Bool)(S:Nat→Int)(t:Bool)(T:Nat→Int)(p a b:Int)(hip:JS p=false)(hii:JY p=false)(w:World):
 Calls Tryz.prog 26 #[.agg (kyC s S t T p a b)] w (Jj w (.bool (Jv ⟨s,S,t,T,p,a,b⟩))):=by
 have HV:Hid (Jv ⟨s,S,t,T,p,a,b⟩=(JW s S&&(JW t T&&(s==t&&(decide (a=0)&&decide (b=0)))))):=JoL (by
  have:ZM p a b=(decide (a=0)&&decide (b=0)):=by unfold ZM;rw[hip,hii,Bool.false_or,Bool.false_or];rfl
  unfold Jv;simp only[this])
 have HR1:∀w,Calls Tryz.prog 68 #[adV s S] w (Jj w (.bool (JW s S))):=fun w=>Qu s S w
 have HR2:∀w,Calls Tryz.prog 68 #[adV t T] w (Jj w (.bool (JW t T))):=fun w=>Qu t T w
 have HP:=fun w=>Xn p w
 have HI:=fun w=>QO p w
 rw[hip] at HP
 rw[hii] at HI
 clear hip hii
 generalize JW s S=r1 at*
 generalize JW t T=r2 at*
 generalize Jv ⟨s,S,t,T,p,a,b⟩=res at*
 have hV:=HV.out
 clear HV
 unfold adV at*
 unfold kyC
 go_enter Tryz.func26,Tryz.ntmps26
 go_wp2_with fail
 refine Calls.later (HP _) ?_
 intro x
 go_wp2_with fail
 refine JoN (HI _) ?_
 rintro e w2 ⟨rfl,hb⟩
 have h1:x.world.heap[w.heap.size]? =some (.cells (kyC s S t T p a b) 30 (0,0)):=(x.below.block _ (by simp;omega)).trans (heap_alloc2_old w (.cells (kyC s S t T p a b) 30) (.cells (kyC s S t T p a b) 30))
 have h3:x.world.heap[w.heap.size+1]? =some (.cells (kyC s S t T p a b) 30 (0,0)):=(x.below.block _ (by simp)).trans (heap_alloc2_new w (.cells (kyC s S t T p a b) 30) (.cells (kyC s S t T p a b) 30))
 have hl1:w.heap.size<x.world.heap.size:=(JoM h1).1
 have hl3:w.heap.size+1<x.world.heap.size:=(JoM h3).1
 have HB0:Below w.heap.size w x.world:=JoD (Below.all (Below.all (JoO _ _) _) _)
 have k1:w2.heap[w.heap.size]? =some (.cells (kyC s S t T p a b) 30 (0,0)):=(hb.block _ (by simpa using hl1)).trans ((heap_setCell_other _ _ _ _ (by simp)).trans h1)
 have k3:w2.heap[w.heap.size+1]? =some (.cells (kyC s S t T p 0 b) 30 (0,0)):=(hb.block _ (by simpa using hl3)).trans (heap_setCell_same _ _ _ _ _ _ h3)
 have g1:w.heap.size<w2.heap.size:=(JoM k1).1
 have g3:w.heap.size+1<w2.heap.size:=(JoM k3).1
 have HBw:Below w.heap.size w w2:=(HB0.setCell (by simp) _).trans (hb.mono (by simpa using Nat.le_of_lt hl1))
 have c3:w2.cell? ⟨w.heap.size+1,36,none⟩=some (.int .u16 b):=by rw[cell_of_row _ _ _ _ _ _ k3];rfl
 have f3:w2.frozen? ⟨w.heap.size+1,36,none⟩=false:=frozen_of_row _ _ _ _ _ k3
 have HB2:Hid (Below w.heap.size w (w2.setCell ⟨w.heap.size+1,36,none⟩ (.int .u16 0))):=JoL (HBw.setCell (by simp) _)
 have m1:(w2.setCell ⟨w.heap.size+1,36,none⟩ (.int .u16 0)).heap[w.heap.size]? =some (.cells (kyC s S t T p a b) 30 (0,0)):=(heap_setCell_other _ _ _ _ (by simp)).trans k1
 have m3:(w2.setCell ⟨w.heap.size+1,36,none⟩ (.int .u16 0)).heap[w.heap.size+1]? =some (.cells (kyC s S t T p 0 0) 30 (0,0)):=heap_setCell_same _ _ _ _ _ _ k3
 have p1:Jb (w2.setCell ⟨w.heap.size+1,36,none⟩ (.int .u16 0)) w.heap.size 0 17=(JoX s S:Array Value):=by rw[Jl _ _ _ _ _ _ _ m1];simp[kyC]
 have p2:Jb (w2.setCell ⟨w.heap.size+1,36,none⟩ (.int .u16 0)) w.heap.size 17 17=(JoX t T:Array Value):=by rw[Jl _ _ _ _ _ _ _ m1];simp[kyC]
 have c1:(w2.setCell ⟨w.heap.size+1,36,none⟩ (.int .u16 0)).cell? ⟨w.heap.size,0,none⟩=some (.bool s):=by rw[cell_of_row _ _ _ _ _ _ m1];rfl
 have c2:(w2.setCell ⟨w.heap.size+1,36,none⟩ (.int .u16 0)).cell? ⟨w.heap.size,17,none⟩=some (.bool t):=by rw[cell_of_row _ _ _ _ _ _ m1];rfl
 have d1:w2.cell? ⟨w.heap.size,0,none⟩=some (.bool s):=by rw[cell_of_row _ _ _ _ _ _ k1];rfl
 have d2:w2.cell? ⟨w.heap.size,17,none⟩=some (.bool t):=by rw[cell_of_row _ _ _ _ _ _ k1];rfl
 have p3:Jb (w2.setCell ⟨w.heap.size+1,36,none⟩ (.int .u16 0)) w.heap.size 0 37=(Jo3 s t p (.int .u16 a) (.int .u16 b) S T:Array Value):=Ja m1 rfl
 have p4:Jb (w2.setCell ⟨w.heap.size+1,36,none⟩ (.int .u16 0)) (w.heap.size+1) 0 37=#[.bool s,.int .u8 (S 0),.int .u8 (S 1),.int .u8 (S 2),.int .u8 (S 3),.int .u8 (S 4),.int .u8 (S 5),.int .u8 (S 6),.int .u8 (S 7),.int .u8 (S 8),.int .u8 (S 9),.int .u8 (S 10),.int .u8 (S 11),.int .u8 (S 12),.int .u8 (S 13),.int .u8 (S 14),.int .u8 (S 15),.bool t,.int .u8 (T 0),.int .u8 (T 1),.int .u8 (T 2),.int .u8 (T 3),.int .u8 (T 4),.int .u8 (T 5),.int .u8 (T 6),.int .u8 (T 7),.int .u8 (T 8),.int .u8 (T 9),.int .u8 (T 10),.int .u8 (T 11),.int .u8 (T 12),.int .u8 (T 13),.int .u8 (T 14),.int .u8 (T 15),.int .u8 p,.int .u16 0,.int .u16 0]:=Ja m3 rfl
 clear k1 k3 m1 m3 hl1 hl3 HB0 HBw h1 h3 hb
 cases r1
 ·have hV:=JoL (show res=false from hV)
  go_wp2_with fail
  refine Calls.later (HR1 _) ?_
  intro y0
  go_wp2_with fail
  go_ret
  exact .mk (JV hV.out.symm) (JoD HB2.out)
 cases r2
 ·have hV:=JoL (show res=false from hV)
  go_wp2_with fail
  refine Calls.later (HR1 _) ?_
  intro y0
  go_wp2_with fail
  refine JoG (HR2 _) ?_
  intro y1
  go_wp2_with fail
  go_ret
  exact .mk (JV hV.out.symm) (JoD HB2.out)
 by_cases hst:s=t
 rotate_left
 ·have hV:Hid (res=false):=JoL (by rw[hV];simp[hst])
  have hst':(s==t)=false:=by simpa using hst
  go_wp2_with fail
  refine Calls.later (HR1 _) ?_
  intro y0
  go_wp2_with fail
  refine JoG (HR2 _) ?_
  intro y1
  go_wp2_with fail
  go_ret
  exact .mk (JV hV.out.symm) (JoD HB2.out)
 subst hst
 have hV:Hid (res=(decide (a=0)&&decide (b=0))):=JoL (by rw[hV];simp)
 go_wp2_with fail
 refine Calls.later (HR1 _) ?_
 intro y0
 go_wp2_with fail
 refine JoG (HR2 _) ?_
 intro y1
 go_wp2_with fail
 go_ret
 exact .mk (JV hV.out.symm) (JoD HB2.out)
theorem Q6 (s:Bool)(S:Nat→Int)(t:Bool)(T:Nat→Int)(p a b:Int)(w:World):
 Calls Tryz.prog 26 #[.agg (kyC s S t T p a b)] w (Jj w (.bool (Jv ⟨s,S,t,T,p,a,b⟩))):=by
 cases hip:JS p
 ·cases hii:JY p
  ·exact Jiq s S t T p a b hip hii w
  ·exact Jip s S t T p a b hip hii w
 ·exact Jhn s S t T p a b hip w
end
end Go.Proofs.YtkgjbipfhhjlpaaGreatDoor
