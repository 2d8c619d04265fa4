import Derived.Test.YtkgjbipfhhjlpaaGreatDoorMf18
set_option linter.unusedVariables false
set_option linter.unusedSimpArgs false
set_option maxRecDepth 100000
set_option maxHeartbeats 32000000
namespace Go.Proofs.YtkgjbipfhhjlpaaGreatDoor
section
open Go.RowKit Bits
def XY (w:World)(cs:Option Addr→Nat→Option Addr→Nat→Array Value)(err:Int):Ending→World→Prop:=fun e w'=>(∃oO cO oD cD,e=.returned (.tuple #[.agg (cs oO cO oD cD),.int .i64 err]))∧Below w.heap.size w w'
theorem Zm (p hd sm:Int)(oa:Option Addr)(n cap:Nat)(l:List Int)(w:World)(hr:Jj w oa n cap l)(h1:hd≤(n:Int))(h2:n≤65535)
 (HLK:∀r w',w'.heap[r]? =some (.map Qa 4)→(Instr.lookup 224 (.map (some r)) (.int .u8 p) true).run Tryz.prog w'=.ok (.tuple #[.agg #[.int .i64 hd,.int .i64 sm,.func (.func 184) #[] #[],.func (.func 185) #[] #[],.func (.func 186) #[] #[]],true]) w')
 (s d q a f wi u:Int)(nO:Nat)(ty cd:Int)(nD:Nat)(err:Int)
 (HRD:∀y b pr,Rd y b pr l 0→Calls Tryz.prog 186 #[.pointer (some ⟨pr,0,none⟩)] y (XT y pr s d q a f wi u nO ty cd nD err)):
 Calls Tryz.prog 77 #[p,.slice oa n cap] w (XY w (fun oO cO oD cD=>if err=0 then (JnT p (.int .u16 s) (.int .u16 d) (.int .u32 q) (.int .u32 a) f (.int .u16 wi) (.int .u16 u) (.slice oO nO cO) ty cd (.slice oD nD cD)) else Qo) err):=by
 have HR:=Jnv hr
 have HLKH:=Jnv HLK
 have HRDH:=Jnv HRD
 have hx:=heap_alloc_new w (.cells Qo 149)
 have hB:Below w.heap.size w (w.alloc (.cells Qo 149)):=Below.all (Jny _ _) _
 have hlt1:decide ((n:Int)<hd)=false:=by simp;omega
 have hlt2:decide ((n:Int)>65535)=false:=by simp;omega
 clear hr HLK HRD
 unfold Qo at hx hB
 have HX:=Jnv hx
 have HB:=Jnv hB
 clear hx hB
 go_enter Tryz.func77,Tryz.ntmps77
 go_wp2_with fail
 refine Jnx (J5 _) ?_
 rintro e y1 ⟨r,rfl,hr1,hr2,hb⟩
 have HB1:=Jnv (Jno HB.out hb)
 have HX1:=Jnv ((hb.block w.heap.size (by simp)).trans HX.out)
 have hlk:=HLKH.out r y1 hr2
 have hw1:w.heap.size<y1.heap.size:=(Jnw HX1.out).1
 obtain⟨b4,hb4⟩:∃b,b=w.heap.size:=⟨_,rfl⟩
 have hBA:Below y1.heap.size y1 (y1.alloc (.cells #[.int .i64 hd,.int .i64 sm,.func (.func 184) #[] #[],.func (.func 185) #[] #[],.func (.func 186) #[] #[]] 222)):=Below.all (Jny _ _) _
 have hx6:=heap_alloc_new y1 (.cells #[.int .i64 hd,.int .i64 sm,.func (.func 184) #[] #[],.func (.func 185) #[] #[],.func (.func 186) #[] #[]] 222)
 have HXA:=Jnv ((hBA.block _ hw1).trans HX1.out)
 have HBA:=Jnv (Jno HB1.out hBA)
 have HX6:=Jnv hx6
 have hc0:(y1.alloc (.cells #[.int .i64 hd,.int .i64 sm,.func (.func 184) #[] #[],.func (.func 185) #[] #[],.func (.func 186) #[] #[]] 222)).cell? ⟨y1.heap.size,0,none⟩=some (.int .i64 hd):=cell_of_row _ _ 0 _ _ (0,0) hx6
 clear hb hr2 HX HB hBA hx6 HX1 HB1
 go_wp2_with fail
 obtain⟨b6,hb6⟩:∃b,b=y1.heap.size:=⟨_,rfl⟩
 obtain⟨b4,hb4⟩:∃b,b=w.heap.size:=⟨_,rfl⟩
 rw[←hb6] at HX6⊢
 rw[←hb4] at HXA⊢
 have HR6:=Jnv (HR.out.below HBA.out)
 have HB4:=Jnv hb4
 clear hc0 hb6 hb4 hw1 hlk hr1
 generalize (y1.alloc (.cells #[.int .i64 hd,.int .i64 sm,.func (.func 184) #[] #[],.func (.func 185) #[] #[],.func (.func 186) #[] #[]] 222))=y at*
 have hb6y:b6<y.heap.size:=(Jnw HX6.out).1
 have hb4y:b4<y.heap.size:=(Jnw HXA.out).1
 have hc4:y.cell? ⟨b6,4,none⟩=some (.func (.func 186) #[] #[]):=cell_of_row _ _ 4 _ _ (0,0) HX6.out
 refine JG [.h,.h,.h] [(0,1,0),(1,1,0)] (fun _ w'=>w'.cell? ⟨b6,4,none⟩=some (.func (.func 186) #[] #[])) [1] [(.w,3),(.w,4),(.q,5),(.q,6),(.q,7)] [(.w,9),(.q,10)] 8 (.cells Qo 149) (by kernel_rfl) (by kernel_rfl) rfl rfl ⟨fun _=>rfl,fun _ _=>by kernel_rfl⟩ (by kernel_rfl) (by kernel_rfl) ?_
 apply Exists.intro
 refine⟨fun wx hbx=>?_,?_,?_⟩
 ·have hcx:wx.cell? ⟨b6,4,none⟩=some (.func (.func 186) #[] #[]):=(Jg hbx hb6y _ rfl).trans hc4
  have hbx2:b6<wx.heap.size:=Jnz hb6y hbx.size
  simp only[Ju]
  repeat go_big_quiet_step (fail)
  exact wpQuiet_nil rfl
 ·intro q hq oi hoi
  simp only[List.mem_cons,List.not_mem_nil,or_false] at hq
  rcases hq with rfl|rfl
  ·cases hoi;exact⟨_,rfl,rfl,fun w2 hw=>by kernel_rfl⟩
  ·cases hoi;exact⟨_,rfl,rfl,fun w2 hw=>by simp[execOp,go_sem,hw]⟩
 simp only[JY,List.getElem?_cons_succ,List.getElem?_cons_zero]
 refine⟨fun v fl w2=>∃pr,v=.pointer (some ⟨pr,0,none⟩)∧y.heap.size≤pr∧(∃b,Rd w2 b pr l 0)∧Below y.heap.size y w2∧∀bb,fl=some bb→y.heap.size≤bb∧bb≠pr∧w2.heap[bb]? =some (.cells Qo 149 (0,0)),?_,?_,?_,?_⟩
 ·rintro fl-
  refine⟨rfl,fun w' hw'=>.inr ⟨137,#[.slice oa n cap],by kernel_rfl,?_⟩⟩
  obtain⟨⟨x,rfl⟩,hfb⟩:=hw'
  refine(Jfb oa n cap l x.world (HR6.out.below x.below) (by omega)).mono ?_
  rintro e w2 ⟨pr,rfl,hpr,hrd,hb2⟩
  refine⟨_,rfl,pr,rfl,Nat.le_trans x.below.size hpr,⟨_,hrd⟩,Jno x.below hb2,fun bb hbb=>⟨(hfb bb hbb).1,?_,?_⟩⟩
  ·have:=(Jnw (hfb bb hbb).2).1;omega
  ·have:=(hfb bb hbb).2
   exact(hb2.block bb (Jnw this).1).trans this
 ·rintro v fl g-w2 ⟨pr,-,-,-,hb,-⟩
  exact(Jg hb hb6y _ rfl).trans hc4
 ·rintro-v w2 ⟨pr,h1,h2,⟨b,hrd⟩,h3,-⟩
  exact⟨pr,h1,h2,⟨b,hrd.below (Below.all (Jny _ _) _)⟩,Below.all h3 _,fun bb hbb=>by cases hbb;exact⟨h3.size,fun e=>by have:=hrd.lt;omega,heap_alloc_new _ _⟩⟩
 rintro v ⟨fl0,w20,pr,rfl,-⟩
 refine⟨fun v fl w2=>(∃oO cO oD cD,v=.tuple #[.agg (Z9 s d q a f wi u oO nO cO ty cd oD nD cD),.int .i64 err])∧Below y.heap.size y w2∧∀bb,fl=some bb→y.heap.size≤bb∧w2.heap[bb]? =some (.cells Qo 149 (0,0)),?_,fun _ _=>Jz rfl,?_,?_⟩
 ·rintro fl-
  refine⟨rfl,fun w' hw'=>.inr ⟨186,#[.pointer (some ⟨pr,0,none⟩)],by kernel_rfl,?_⟩⟩
  obtain⟨pr',he,hpr,⟨b,hrd⟩,hb1,hfb⟩:=hw'
  cases he
  refine(HRDH.out w' b pr hrd).mono ?_
  rintro e w2 ⟨⟨oO,cO,oD,cD,rfl⟩,ho⟩
  refine⟨_,rfl,⟨oO,cO,oD,cD,rfl⟩,hb1.trans (ho.below.mono hpr),fun bb hbb=>⟨(hfb bb hbb).1,?_⟩⟩
  have h2:=(hfb bb hbb).2
  exact(ho.keep bb h2.1 (Jnw h2.2).1).trans h2.2
 ·rintro-v w2 ⟨h1,h3,-⟩
  exact⟨h1,Below.all h3 _,fun bb hbb=>by cases hbb;exact⟨h3.size,heap_alloc_new _ _⟩⟩
 rintro v ⟨fl1,w21,⟨oO,cO,oD,cD,rfl⟩,-⟩
 refine⟨.tuple #[.agg (Z9 s d q a f wi u oO nO cO ty cd oD nD cD),.int .i64 err],⟨rfl,fun _=>by kernel_rfl⟩,?_⟩
 refine⟨.agg (Z9 s d q a f wi u oO nO cO ty cd oD nD cD),⟨rfl,fun _=>by kernel_rfl⟩,?_⟩
 refine⟨.int .i64 err,⟨rfl,fun _=>by kernel_rfl⟩,?_⟩
 intro bp
 refine⟨fun v fl w2=>v=undef∧Below y.heap.size y w2∧y.heap.size≤bp∧w2.heap[bp]? =some (.cells (Z9 s d q a f wi u oO nO cO ty cd oD nD cD) 149 (0,0)),?_,fun _ _=>Jz rfl,(fun h=>by cases h),?_⟩
 ·rintro fl rfl
  refine Jv.skip rfl ?_
  rintro w' ⟨-,hb1,hst⟩
  obtain⟨hbge,hbx⟩:=hst bp rfl
  exact⟨_,QX _ w' bp (Z9 s d q a f wi u oO nO cO ty cd oD nD cD) (by kernel_rfl) (by kernel_rfl) (by rw[Jd _ _ _ _ _ hbx];rfl) rfl rfl,hb1.trans (Jf _ hbge),hbge,Jh hbx⟩
 rintro v ⟨fl2,w22,rfl,-⟩
 refine⟨.int .i64 err,⟨rfl,fun _=>by kernel_rfl⟩,?_⟩
 rintro zz ⟨-,hzz,hbge,hpz⟩
 have HZ:=Jnv (HBA.out.trans (hzz.mono HBA.out.size))
 have hx4:zz.heap[b4]? =some (.cells JnV 149 (0,0)):=(hzz.block b4 hb4y).trans HXA.out
 have HX4:=Jnv hx4
 unfold Z9 at hpz⊢
 have HPZ:=Jnv hpz
 have hb4p:b4≠bp:=by omega
 have hb4w:w.heap.size≤b4:=by have:=HB4.out;omega
 have hbpw:w.heap.size≤bp:=by omega
 have hb4l:b4<zz.heap.size:=(Jnw hx4).1
 clear hzz hpz hc4 w20 w21 w22 fl0 fl1 fl2 HXA HBA HX6 HR6
 unfold QQ
 by_cases he:err=0
 ·subst he
  have hc0:zz.cell? ⟨bp,0,none⟩=some (.int .u8 0):=cell_of_row _ _ 0 _ _ (0,0) HPZ.out
  have hf0:=frozen_of_row _ _ 0 _ _ HPZ.out
  have HP2:=Jnv (JaZ (.int .u8 p) HPZ.out)
  have HX42:Hid ((zz.setCell ⟨bp,0,none⟩ (.int .u8 p)).heap[b4]? =some (.cells JnV 149 (0,0))):=Jnv ((Below.heap_setCell _ _ _ _ hb4p).trans HX4.out)
  have hpt:Jc (zz.setCell ⟨bp,0,none⟩ (.int .u8 p)) bp 0 12=(JnT p (.int .u16 s) (.int .u16 d) (.int .u32 q) (.int .u32 a) f (.int .u16 wi) (.int .u16 u) (.slice oO nO cO) ty cd (.slice oD nD cD):Array Value):=Jb HP2.out rfl
  have hrf:Jl (zz.setCell ⟨bp,0,none⟩ (.int .u8 p)) b4 12=true:=by rw[Jd _ _ _ _ _ HX42.out];rfl
  clear hx4
  go_wp2_with fail
  refine bodyPost_ret (QI rfl _ _ b4 _ _ _ (0,0) rfl rfl (Jh HX42.out) rfl) rfl ?_
  exact⟨⟨oO,cO,oD,cD,rfl⟩,(HZ.out.setCell hbpw _).trans (Jf _ hb4w)⟩
 ·have her:(err != 0)=true:=by simpa using he
  have her2:decide (err=0)=false:=by simpa using he
  have hrf:Jl zz b4 12=true:=by rw[Jd _ _ _ _ _ HX4.out];rfl
  clear hx4
  go_wp2_with fail
  refine bodyPost_ret (QI rfl _ _ b4 _ _ _ (0,0) rfl rfl (Jh HX4.out) rfl) rfl ?_
  exact⟨⟨none,0,none,0,rfl⟩,HZ.out.trans (Jf _ hb4w)⟩
theorem Zn (p hd sm:Int)(oa:Option Addr)(n cap:Nat)(l:List Int)(w:World)(hr:Jj w oa n cap l)(h1:hd≤(n:Int))(h2:n≤65535)
 (HLK:∀r w',w'.heap[r]? =some (.map Qa 4)→(Instr.lookup 224 (.map (some r)) (.int .u8 p) true).run Tryz.prog w'=.ok (.tuple #[.agg #[.int .i64 hd,.int .i64 sm,.func (.func 187) #[] #[],.func (.func 188) #[] #[],.func (.func 189) #[] #[]],true]) w')
 (s d q a f wi u:Int)(nO:Nat)(ty cd:Int)(nD:Nat)(err:Int)
 (HRD:∀y b pr,Rd y b pr l 0→Calls Tryz.prog 189 #[.pointer (some ⟨pr,0,none⟩)] y (XT y pr s d q a f wi u nO ty cd nD err)):
 Calls Tryz.prog 77 #[p,.slice oa n cap] w (XY w (fun oO cO oD cD=>if err=0 then (JnT p (.int .u16 s) (.int .u16 d) (.int .u32 q) (.int .u32 a) f (.int .u16 wi) (.int .u16 u) (.slice oO nO cO) ty cd (.slice oD nD cD)) else Qo) err):=by
 have HR:=Jnv hr
 have HLKH:=Jnv HLK
 have HRDH:=Jnv HRD
 have hx:=heap_alloc_new w (.cells Qo 149)
 have hB:Below w.heap.size w (w.alloc (.cells Qo 149)):=Below.all (Jny _ _) _
 have hlt1:decide ((n:Int)<hd)=false:=by simp;omega
 have hlt2:decide ((n:Int)>65535)=false:=by simp;omega
 clear hr HLK HRD
 unfold Qo at hx hB
 have HX:=Jnv hx
 have HB:=Jnv hB
 clear hx hB
 go_enter Tryz.func77,Tryz.ntmps77
 go_wp2_with fail
 refine Jnx (J5 _) ?_
 rintro e y1 ⟨r,rfl,hr1,hr2,hb⟩
 have HB1:=Jnv (Jno HB.out hb)
 have HX1:=Jnv ((hb.block w.heap.size (by simp)).trans HX.out)
 have hlk:=HLKH.out r y1 hr2
 have hw1:w.heap.size<y1.heap.size:=(Jnw HX1.out).1
 obtain⟨b4,hb4⟩:∃b,b=w.heap.size:=⟨_,rfl⟩
 have hBA:Below y1.heap.size y1 (y1.alloc (.cells #[.int .i64 hd,.int .i64 sm,.func (.func 187) #[] #[],.func (.func 188) #[] #[],.func (.func 189) #[] #[]] 222)):=Below.all (Jny _ _) _
 have hx6:=heap_alloc_new y1 (.cells #[.int .i64 hd,.int .i64 sm,.func (.func 187) #[] #[],.func (.func 188) #[] #[],.func (.func 189) #[] #[]] 222)
 have HXA:=Jnv ((hBA.block _ hw1).trans HX1.out)
 have HBA:=Jnv (Jno HB1.out hBA)
 have HX6:=Jnv hx6
 have hc0:(y1.alloc (.cells #[.int .i64 hd,.int .i64 sm,.func (.func 187) #[] #[],.func (.func 188) #[] #[],.func (.func 189) #[] #[]] 222)).cell? ⟨y1.heap.size,0,none⟩=some (.int .i64 hd):=cell_of_row _ _ 0 _ _ (0,0) hx6
 clear hb hr2 HX HB hBA hx6 HX1 HB1
 go_wp2_with fail
 obtain⟨b6,hb6⟩:∃b,b=y1.heap.size:=⟨_,rfl⟩
 obtain⟨b4,hb4⟩:∃b,b=w.heap.size:=⟨_,rfl⟩
 rw[←hb6] at HX6⊢
 rw[←hb4] at HXA⊢
 have HR6:=Jnv (HR.out.below HBA.out)
 have HB4:=Jnv hb4
 clear hc0 hb6 hb4 hw1 hlk hr1
 generalize (y1.alloc (.cells #[.int .i64 hd,.int .i64 sm,.func (.func 187) #[] #[],.func (.func 188) #[] #[],.func (.func 189) #[] #[]] 222))=y at*
 have hb6y:b6<y.heap.size:=(Jnw HX6.out).1
 have hb4y:b4<y.heap.size:=(Jnw HXA.out).1
 have hc4:y.cell? ⟨b6,4,none⟩=some (.func (.func 189) #[] #[]):=cell_of_row _ _ 4 _ _ (0,0) HX6.out
 refine JG [.h,.h,.h] [(0,1,0),(1,1,0)] (fun _ w'=>w'.cell? ⟨b6,4,none⟩=some (.func (.func 189) #[] #[])) [1] [(.w,3),(.w,4),(.q,5),(.q,6),(.q,7)] [(.w,9),(.q,10)] 8 (.cells Qo 149) (by kernel_rfl) (by kernel_rfl) rfl rfl ⟨fun _=>rfl,fun _ _=>by kernel_rfl⟩ (by kernel_rfl) (by kernel_rfl) ?_
 apply Exists.intro
 refine⟨fun wx hbx=>?_,?_,?_⟩
 ·have hcx:wx.cell? ⟨b6,4,none⟩=some (.func (.func 189) #[] #[]):=(Jg hbx hb6y _ rfl).trans hc4
  have hbx2:b6<wx.heap.size:=Jnz hb6y hbx.size
  simp only[Ju]
  repeat go_big_quiet_step (fail)
  exact wpQuiet_nil rfl
 ·intro q hq oi hoi
  simp only[List.mem_cons,List.not_mem_nil,or_false] at hq
  rcases hq with rfl|rfl
  ·cases hoi;exact⟨_,rfl,rfl,fun w2 hw=>by kernel_rfl⟩
  ·cases hoi;exact⟨_,rfl,rfl,fun w2 hw=>by simp[execOp,go_sem,hw]⟩
 simp only[JY,List.getElem?_cons_succ,List.getElem?_cons_zero]
 refine⟨fun v fl w2=>∃pr,v=.pointer (some ⟨pr,0,none⟩)∧y.heap.size≤pr∧(∃b,Rd w2 b pr l 0)∧Below y.heap.size y w2∧∀bb,fl=some bb→y.heap.size≤bb∧bb≠pr∧w2.heap[bb]? =some (.cells Qo 149 (0,0)),?_,?_,?_,?_⟩
 ·rintro fl-
  refine⟨rfl,fun w' hw'=>.inr ⟨137,#[.slice oa n cap],by kernel_rfl,?_⟩⟩
  obtain⟨⟨x,rfl⟩,hfb⟩:=hw'
  refine(Jfb oa n cap l x.world (HR6.out.below x.below) (by omega)).mono ?_
  rintro e w2 ⟨pr,rfl,hpr,hrd,hb2⟩
  refine⟨_,rfl,pr,rfl,Nat.le_trans x.below.size hpr,⟨_,hrd⟩,Jno x.below hb2,fun bb hbb=>⟨(hfb bb hbb).1,?_,?_⟩⟩
  ·have:=(Jnw (hfb bb hbb).2).1;omega
  ·have:=(hfb bb hbb).2
   exact(hb2.block bb (Jnw this).1).trans this
 ·rintro v fl g-w2 ⟨pr,-,-,-,hb,-⟩
  exact(Jg hb hb6y _ rfl).trans hc4
 ·rintro-v w2 ⟨pr,h1,h2,⟨b,hrd⟩,h3,-⟩
  exact⟨pr,h1,h2,⟨b,hrd.below (Below.all (Jny _ _) _)⟩,Below.all h3 _,fun bb hbb=>by cases hbb;exact⟨h3.size,fun e=>by have:=hrd.lt;omega,heap_alloc_new _ _⟩⟩
 rintro v ⟨fl0,w20,pr,rfl,-⟩
 refine⟨fun v fl w2=>(∃oO cO oD cD,v=.tuple #[.agg (Z9 s d q a f wi u oO nO cO ty cd oD nD cD),.int .i64 err])∧Below y.heap.size y w2∧∀bb,fl=some bb→y.heap.size≤bb∧w2.heap[bb]? =some (.cells Qo 149 (0,0)),?_,fun _ _=>Jz rfl,?_,?_⟩
 ·rintro fl-
  refine⟨rfl,fun w' hw'=>.inr ⟨189,#[.pointer (some ⟨pr,0,none⟩)],by kernel_rfl,?_⟩⟩
  obtain⟨pr',he,hpr,⟨b,hrd⟩,hb1,hfb⟩:=hw'
  cases he
  refine(HRDH.out w' b pr hrd).mono ?_
  rintro e w2 ⟨⟨oO,cO,oD,cD,rfl⟩,ho⟩
  refine⟨_,rfl,⟨oO,cO,oD,cD,rfl⟩,hb1.trans (ho.below.mono hpr),fun bb hbb=>⟨(hfb bb hbb).1,?_⟩⟩
  have h2:=(hfb bb hbb).2
  exact(ho.keep bb h2.1 (Jnw h2.2).1).trans h2.2
 ·rintro-v w2 ⟨h1,h3,-⟩
  exact⟨h1,Below.all h3 _,fun bb hbb=>by cases hbb;exact⟨h3.size,heap_alloc_new _ _⟩⟩
 rintro v ⟨fl1,w21,⟨oO,cO,oD,cD,rfl⟩,-⟩
 refine⟨.tuple #[.agg (Z9 s d q a f wi u oO nO cO ty cd oD nD cD),.int .i64 err],⟨rfl,fun _=>by kernel_rfl⟩,?_⟩
 refine⟨.agg (Z9 s d q a f wi u oO nO cO ty cd oD nD cD),⟨rfl,fun _=>by kernel_rfl⟩,?_⟩
 refine⟨.int .i64 err,⟨rfl,fun _=>by kernel_rfl⟩,?_⟩
 intro bp
 refine⟨fun v fl w2=>v=undef∧Below y.heap.size y w2∧y.heap.size≤bp∧w2.heap[bp]? =some (.cells (Z9 s d q a f wi u oO nO cO ty cd oD nD cD) 149 (0,0)),?_,fun _ _=>Jz rfl,(fun h=>by cases h),?_⟩
 ·rintro fl rfl
  refine Jv.skip rfl ?_
  rintro w' ⟨-,hb1,hst⟩
  obtain⟨hbge,hbx⟩:=hst bp rfl
  exact⟨_,QX _ w' bp (Z9 s d q a f wi u oO nO cO ty cd oD nD cD) (by kernel_rfl) (by kernel_rfl) (by rw[Jd _ _ _ _ _ hbx];rfl) rfl rfl,hb1.trans (Jf _ hbge),hbge,Jh hbx⟩
 rintro v ⟨fl2,w22,rfl,-⟩
 refine⟨.int .i64 err,⟨rfl,fun _=>by kernel_rfl⟩,?_⟩
 rintro zz ⟨-,hzz,hbge,hpz⟩
 have HZ:=Jnv (HBA.out.trans (hzz.mono HBA.out.size))
 have hx4:zz.heap[b4]? =some (.cells JnV 149 (0,0)):=(hzz.block b4 hb4y).trans HXA.out
 have HX4:=Jnv hx4
 unfold Z9 at hpz⊢
 have HPZ:=Jnv hpz
 have hb4p:b4≠bp:=by omega
 have hb4w:w.heap.size≤b4:=by have:=HB4.out;omega
 have hbpw:w.heap.size≤bp:=by omega
 have hb4l:b4<zz.heap.size:=(Jnw hx4).1
 clear hzz hpz hc4 w20 w21 w22 fl0 fl1 fl2 HXA HBA HX6 HR6
 unfold QQ
 by_cases he:err=0
 ·subst he
  have hc0:zz.cell? ⟨bp,0,none⟩=some (.int .u8 0):=cell_of_row _ _ 0 _ _ (0,0) HPZ.out
  have hf0:=frozen_of_row _ _ 0 _ _ HPZ.out
  have HP2:=Jnv (JaZ (.int .u8 p) HPZ.out)
  have HX42:Hid ((zz.setCell ⟨bp,0,none⟩ (.int .u8 p)).heap[b4]? =some (.cells JnV 149 (0,0))):=Jnv ((Below.heap_setCell _ _ _ _ hb4p).trans HX4.out)
  have hpt:Jc (zz.setCell ⟨bp,0,none⟩ (.int .u8 p)) bp 0 12=(JnT p (.int .u16 s) (.int .u16 d) (.int .u32 q) (.int .u32 a) f (.int .u16 wi) (.int .u16 u) (.slice oO nO cO) ty cd (.slice oD nD cD):Array Value):=Jb HP2.out rfl
  have hrf:Jl (zz.setCell ⟨bp,0,none⟩ (.int .u8 p)) b4 12=true:=by rw[Jd _ _ _ _ _ HX42.out];rfl
  clear hx4
  go_wp2_with fail
  refine bodyPost_ret (QI rfl _ _ b4 _ _ _ (0,0) rfl rfl (Jh HX42.out) rfl) rfl ?_
  exact⟨⟨oO,cO,oD,cD,rfl⟩,(HZ.out.setCell hbpw _).trans (Jf _ hb4w)⟩
 ·have her:(err != 0)=true:=by simpa using he
  have her2:decide (err=0)=false:=by simpa using he
  have hrf:Jl zz b4 12=true:=by rw[Jd _ _ _ _ _ HX4.out];rfl
  clear hx4
  go_wp2_with fail
  refine bodyPost_ret (QI rfl _ _ b4 _ _ _ (0,0) rfl rfl (Jh HX4.out) rfl) rfl ?_
  exact⟨⟨none,0,none,0,rfl⟩,HZ.out.trans (Jf _ hb4w)⟩
theorem JcL (p hd sm:Int)(oa:Option Addr)(n cap:Nat)(l:List Int)(w:World)(hr:Jj w oa n cap l)(h1:hd≤(n:Int))(h2:n≤65535)
 (HLK:∀r w',w'.heap[r]? =some (.map Qa 4)→(Instr.lookup 224 (.map (some r)) (.int .u8 p) true).run Tryz.prog w'=.ok (.tuple #[.agg #[.int .i64 hd,.int .i64 sm,.func (.func 181) #[] #[],.func (.func 182) #[] #[],.func (.func 183) #[] #[]],true]) w')
 (s d q a f wi u:Int)(nO:Nat)(ty cd:Int)(nD:Nat)(err:Int)
 (HRD:∀y b pr,Rd y b pr l 0→Calls Tryz.prog 183 #[.pointer (some ⟨pr,0,none⟩)] y (XT y pr s d q a f wi u nO ty cd nD err)):
 Calls Tryz.prog 77 #[p,.slice oa n cap] w (XY w (fun oO cO oD cD=>if err=0 then (JnT p (.int .u16 s) (.int .u16 d) (.int .u32 q) (.int .u32 a) f (.int .u16 wi) (.int .u16 u) (.slice oO nO cO) ty cd (.slice oD nD cD)) else Qo) err):=by
 have HR:=Jnv hr
 have HLKH:=Jnv HLK
 have HRDH:=Jnv HRD
 have hx:=heap_alloc_new w (.cells Qo 149)
 have hB:Below w.heap.size w (w.alloc (.cells Qo 149)):=Below.all (Jny _ _) _
 have hlt1:decide ((n:Int)<hd)=false:=by simp;omega
 have hlt2:decide ((n:Int)>65535)=false:=by simp;omega
 clear hr HLK HRD
 unfold Qo at hx hB
 have HX:=Jnv hx
 have HB:=Jnv hB
 clear hx hB
 go_enter Tryz.func77,Tryz.ntmps77
 go_wp2_with fail
 refine Jnx (J5 _) ?_
 rintro e y1 ⟨r,rfl,hr1,hr2,hb⟩
 have HB1:=Jnv (Jno HB.out hb)
 have HX1:=Jnv ((hb.block w.heap.size (by simp)).trans HX.out)
 have hlk:=HLKH.out r y1 hr2
 have hw1:w.heap.size<y1.heap.size:=(Jnw HX1.out).1
 obtain⟨b4,hb4⟩:∃b,b=w.heap.size:=⟨_,rfl⟩
 have hBA:Below y1.heap.size y1 (y1.alloc (.cells #[.int .i64 hd,.int .i64 sm,.func (.func 181) #[] #[],.func (.func 182) #[] #[],.func (.func 183) #[] #[]] 222)):=Below.all (Jny _ _) _
 have hx6:=heap_alloc_new y1 (.cells #[.int .i64 hd,.int .i64 sm,.func (.func 181) #[] #[],.func (.func 182) #[] #[],.func (.func 183) #[] #[]] 222)
 have HXA:=Jnv ((hBA.block _ hw1).trans HX1.out)
 have HBA:=Jnv (Jno HB1.out hBA)
 have HX6:=Jnv hx6
 have hc0:(y1.alloc (.cells #[.int .i64 hd,.int .i64 sm,.func (.func 181) #[] #[],.func (.func 182) #[] #[],.func (.func 183) #[] #[]] 222)).cell? ⟨y1.heap.size,0,none⟩=some (.int .i64 hd):=cell_of_row _ _ 0 _ _ (0,0) hx6
 clear hb hr2 HX HB hBA hx6 HX1 HB1
 go_wp2_with fail
 obtain⟨b6,hb6⟩:∃b,b=y1.heap.size:=⟨_,rfl⟩
 obtain⟨b4,hb4⟩:∃b,b=w.heap.size:=⟨_,rfl⟩
 rw[←hb6] at HX6⊢
 rw[←hb4] at HXA⊢
 have HR6:=Jnv (HR.out.below HBA.out)
 have HB4:=Jnv hb4
 clear hc0 hb6 hb4 hw1 hlk hr1
 generalize (y1.alloc (.cells #[.int .i64 hd,.int .i64 sm,.func (.func 181) #[] #[],.func (.func 182) #[] #[],.func (.func 183) #[] #[]] 222))=y at*
 have hb6y:b6<y.heap.size:=(Jnw HX6.out).1
 have hb4y:b4<y.heap.size:=(Jnw HXA.out).1
 have hc4:y.cell? ⟨b6,4,none⟩=some (.func (.func 183) #[] #[]):=cell_of_row _ _ 4 _ _ (0,0) HX6.out
 refine JG [.h,.h,.h] [(0,1,0),(1,1,0)] (fun _ w'=>w'.cell? ⟨b6,4,none⟩=some (.func (.func 183) #[] #[])) [1] [(.w,3),(.w,4),(.q,5),(.q,6),(.q,7)] [(.w,9),(.q,10)] 8 (.cells Qo 149) (by kernel_rfl) (by kernel_rfl) rfl rfl ⟨fun _=>rfl,fun _ _=>by kernel_rfl⟩ (by kernel_rfl) (by kernel_rfl) ?_
 apply Exists.intro
 refine⟨fun wx hbx=>?_,?_,?_⟩
 ·have hcx:wx.cell? ⟨b6,4,none⟩=some (.func (.func 183) #[] #[]):=(Jg hbx hb6y _ rfl).trans hc4
  have hbx2:b6<wx.heap.size:=Jnz hb6y hbx.size
  simp only[Ju]
  repeat go_big_quiet_step (fail)
  exact wpQuiet_nil rfl
 ·intro q hq oi hoi
  simp only[List.mem_cons,List.not_mem_nil,or_false] at hq
  rcases hq with rfl|rfl
  ·cases hoi;exact⟨_,rfl,rfl,fun w2 hw=>by kernel_rfl⟩
  ·cases hoi;exact⟨_,rfl,rfl,fun w2 hw=>by simp[execOp,go_sem,hw]⟩
 simp only[JY,List.getElem?_cons_succ,List.getElem?_cons_zero]
 refine⟨fun v fl w2=>∃pr,v=.pointer (some ⟨pr,0,none⟩)∧y.heap.size≤pr∧(∃b,Rd w2 b pr l 0)∧Below y.heap.size y w2∧∀bb,fl=some bb→y.heap.size≤bb∧bb≠pr∧w2.heap[bb]? =some (.cells Qo 149 (0,0)),?_,?_,?_,?_⟩
 ·rintro fl-
  refine⟨rfl,fun w' hw'=>.inr ⟨137,#[.slice oa n cap],by kernel_rfl,?_⟩⟩
  obtain⟨⟨x,rfl⟩,hfb⟩:=hw'
  refine(Jfb oa n cap l x.world (HR6.out.below x.below) (by omega)).mono ?_
  rintro e w2 ⟨pr,rfl,hpr,hrd,hb2⟩
  refine⟨_,rfl,pr,rfl,Nat.le_trans x.below.size hpr,⟨_,hrd⟩,Jno x.below hb2,fun bb hbb=>⟨(hfb bb hbb).1,?_,?_⟩⟩
  ·have:=(Jnw (hfb bb hbb).2).1;omega
  ·have:=(hfb bb hbb).2
   exact(hb2.block bb (Jnw this).1).trans this
 ·rintro v fl g-w2 ⟨pr,-,-,-,hb,-⟩
  exact(Jg hb hb6y _ rfl).trans hc4
 ·rintro-v w2 ⟨pr,h1,h2,⟨b,hrd⟩,h3,-⟩
  exact⟨pr,h1,h2,⟨b,hrd.below (Below.all (Jny _ _) _)⟩,Below.all h3 _,fun bb hbb=>by cases hbb;exact⟨h3.size,fun e=>by have:=hrd.lt;omega,heap_alloc_new _ _⟩⟩
 rintro v ⟨fl0,w20,pr,rfl,-⟩
 refine⟨fun v fl w2=>(∃oO cO oD cD,v=.tuple #[.agg (Z9 s d q a f wi u oO nO cO ty cd oD nD cD),.int .i64 err])∧Below y.heap.size y w2∧∀bb,fl=some bb→y.heap.size≤bb∧w2.heap[bb]? =some (.cells Qo 149 (0,0)),?_,fun _ _=>Jz rfl,?_,?_⟩
 ·rintro fl-
  refine⟨rfl,fun w' hw'=>.inr ⟨183,#[.pointer (some ⟨pr,0,none⟩)],by kernel_rfl,?_⟩⟩
  obtain⟨pr',he,hpr,⟨b,hrd⟩,hb1,hfb⟩:=hw'
  cases he
  refine(HRDH.out w' b pr hrd).mono ?_
  rintro e w2 ⟨⟨oO,cO,oD,cD,rfl⟩,ho⟩
  refine⟨_,rfl,⟨oO,cO,oD,cD,rfl⟩,hb1.trans (ho.below.mono hpr),fun bb hbb=>⟨(hfb bb hbb).1,?_⟩⟩
  have h2:=(hfb bb hbb).2
  exact(ho.keep bb h2.1 (Jnw h2.2).1).trans h2.2
 ·rintro-v w2 ⟨h1,h3,-⟩
  exact⟨h1,Below.all h3 _,fun bb hbb=>by cases hbb;exact⟨h3.size,heap_alloc_new _ _⟩⟩
 rintro v ⟨fl1,w21,⟨oO,cO,oD,cD,rfl⟩,-⟩
 refine⟨.tuple #[.agg (Z9 s d q a f wi u oO nO cO ty cd oD nD cD),.int .i64 err],⟨rfl,fun _=>by kernel_rfl⟩,?_⟩
 refine⟨.agg (Z9 s d q a f wi u oO nO cO ty cd oD nD cD),⟨rfl,fun _=>by kernel_rfl⟩,?_⟩
 refine⟨.int .i64 err,⟨rfl,fun _=>by kernel_rfl⟩,?_⟩
 intro bp
 refine⟨fun v fl w2=>v=undef∧Below y.heap.size y w2∧y.heap.size≤bp∧w2.heap[bp]? =some (.cells (Z9 s d q a f wi u oO nO cO ty cd oD nD cD) 149 (0,0)),?_,fun _ _=>Jz rfl,(fun h=>by cases h),?_⟩
 ·rintro fl rfl
  refine Jv.skip rfl ?_
  rintro w' ⟨-,hb1,hst⟩
  obtain⟨hbge,hbx⟩:=hst bp rfl
  exact⟨_,QX _ w' bp (Z9 s d q a f wi u oO nO cO ty cd oD nD cD) (by kernel_rfl) (by kernel_rfl) (by rw[Jd _ _ _ _ _ hbx];rfl) rfl rfl,hb1.trans (Jf _ hbge),hbge,Jh hbx⟩
 rintro v ⟨fl2,w22,rfl,-⟩
 refine⟨.int .i64 err,⟨rfl,fun _=>by kernel_rfl⟩,?_⟩
 rintro zz ⟨-,hzz,hbge,hpz⟩
 have HZ:=Jnv (HBA.out.trans (hzz.mono HBA.out.size))
 have hx4:zz.heap[b4]? =some (.cells JnV 149 (0,0)):=(hzz.block b4 hb4y).trans HXA.out
 have HX4:=Jnv hx4
 unfold Z9 at hpz⊢
 have HPZ:=Jnv hpz
 have hb4p:b4≠bp:=by omega
 have hb4w:w.heap.size≤b4:=by have:=HB4.out;omega
 have hbpw:w.heap.size≤bp:=by omega
 have hb4l:b4<zz.heap.size:=(Jnw hx4).1
 clear hzz hpz hc4 w20 w21 w22 fl0 fl1 fl2 HXA HBA HX6 HR6
 unfold QQ
 by_cases he:err=0
 ·subst he
  have hc0:zz.cell? ⟨bp,0,none⟩=some (.int .u8 0):=cell_of_row _ _ 0 _ _ (0,0) HPZ.out
  have hf0:=frozen_of_row _ _ 0 _ _ HPZ.out
  have HP2:=Jnv (JaZ (.int .u8 p) HPZ.out)
  have HX42:Hid ((zz.setCell ⟨bp,0,none⟩ (.int .u8 p)).heap[b4]? =some (.cells JnV 149 (0,0))):=Jnv ((Below.heap_setCell _ _ _ _ hb4p).trans HX4.out)
  have hpt:Jc (zz.setCell ⟨bp,0,none⟩ (.int .u8 p)) bp 0 12=(JnT p (.int .u16 s) (.int .u16 d) (.int .u32 q) (.int .u32 a) f (.int .u16 wi) (.int .u16 u) (.slice oO nO cO) ty cd (.slice oD nD cD):Array Value):=Jb HP2.out rfl
  have hrf:Jl (zz.setCell ⟨bp,0,none⟩ (.int .u8 p)) b4 12=true:=by rw[Jd _ _ _ _ _ HX42.out];rfl
  clear hx4
  go_wp2_with fail
  refine bodyPost_ret (QI rfl _ _ b4 _ _ _ (0,0) rfl rfl (Jh HX42.out) rfl) rfl ?_
  exact⟨⟨oO,cO,oD,cD,rfl⟩,(HZ.out.setCell hbpw _).trans (Jf _ hb4w)⟩
 ·have her:(err != 0)=true:=by simpa using he
  have her2:decide (err=0)=false:=by simpa using he
  have hrf:Jl zz b4 12=true:=by rw[Jd _ _ _ _ _ HX4.out];rfl
  clear hx4
  go_wp2_with fail
  refine bodyPost_ret (QI rfl _ _ b4 _ _ _ (0,0) rfl rfl (Jh HX4.out) rfl) rfl ?_
  exact⟨⟨none,0,none,0,rfl⟩,HZ.out.trans (Jf _ hb4w)⟩
theorem JaH (p hd sm:Int)(F G RD:FuncId)(oa:Option Addr)(n cap:Nat)(l:List Int)(w:World)(hr:Jj w oa n cap l)(h1:(n:Int)<hd)
 (HLK:∀r w',w'.heap[r]? =some (.map Qa 4)→(Instr.lookup 224 (.map (some r)) (.int .u8 p) true).run Tryz.prog w'=.ok (.tuple #[.agg #[.int .i64 hd,.int .i64 sm,.func (.func F) #[] #[],.func (.func G) #[] #[],.func (.func RD) #[] #[]],true]) w'):
 Calls Tryz.prog 77 #[p,.slice oa n cap] w (XY w (fun _ _ _ _=>Qo) 10):=by
 have HR:=Jnv hr
 have HLKH:=Jnv HLK
 have hx:=heap_alloc_new w (.cells Qo 149)
 have hB:Below w.heap.size w (w.alloc (.cells Qo 149)):=Below.all (Jny _ _) _
 have hlt1:decide ((n:Int)<hd)=true:=by simp;omega
 clear hr HLK
 unfold Qo at hx hB
 have HX:=Jnv hx
 have HB:=Jnv hB
 clear hx hB
 go_enter Tryz.func77,Tryz.ntmps77
 go_wp2_with fail
 refine Jnx (J5 _) ?_
 rintro e y1 ⟨r,rfl,hr1,hr2,hb⟩
 have HB1:=Jnv (Jno HB.out hb)
 have HX1:=Jnv ((hb.block w.heap.size (by simp)).trans HX.out)
 have hlk:=HLKH.out r y1 hr2
 have hw1:w.heap.size<y1.heap.size:=(Jnw HX1.out).1
 obtain⟨b4,hb4⟩:∃b,b=w.heap.size:=⟨_,rfl⟩
 have hBA:Below y1.heap.size y1 (y1.alloc (.cells #[.int .i64 hd,.int .i64 sm,.func (.func F) #[] #[],.func (.func G) #[] #[],.func (.func RD) #[] #[]] 222)):=Below.all (Jny _ _) _
 have hx6:=heap_alloc_new y1 (.cells #[.int .i64 hd,.int .i64 sm,.func (.func F) #[] #[],.func (.func G) #[] #[],.func (.func RD) #[] #[]] 222)
 have HXA:=Jnv ((hBA.block _ hw1).trans HX1.out)
 have HBA:=Jnv (Jno HB1.out hBA)
 have HX6:=Jnv hx6
 have hc0:(y1.alloc (.cells #[.int .i64 hd,.int .i64 sm,.func (.func F) #[] #[],.func (.func G) #[] #[],.func (.func RD) #[] #[]] 222)).cell? ⟨y1.heap.size,0,none⟩=some (.int .i64 hd):=cell_of_row _ _ 0 _ _ (0,0) hx6
 clear hb hr2 HX HB hBA hx6
 have hrf:Jl (y1.alloc (.cells #[.int .i64 hd,.int .i64 sm,.func (.func F) #[] #[],.func (.func G) #[] #[],.func (.func RD) #[] #[]] 222)) w.heap.size 12=true:=by rw[Jd _ _ _ _ _ HXA.out];rfl
 go_wp2_with fail
 refine bodyPost_ret (QI rfl _ _ w.heap.size _ _ _ (0,0) rfl rfl ((heap_alloc_old _ _ (by simpa using hw1)).trans (Jh HX1.out)) rfl) rfl ?_
 exact⟨⟨none,0,none,0,rfl⟩,Below.all (HB1.out.trans (Jf _ (JnA _))) _⟩
theorem Jbq (p hd sm:Int)(F G RD:FuncId)(oa:Option Addr)(n cap:Nat)(l:List Int)(w:World)(hr:Jj w oa n cap l)(h1:hd≤(n:Int))(h2:65535<n)
 (HLK:∀r w',w'.heap[r]? =some (.map Qa 4)→(Instr.lookup 224 (.map (some r)) (.int .u8 p) true).run Tryz.prog w'=.ok (.tuple #[.agg #[.int .i64 hd,.int .i64 sm,.func (.func F) #[] #[],.func (.func G) #[] #[],.func (.func RD) #[] #[]],true]) w'):
 Calls Tryz.prog 77 #[p,.slice oa n cap] w (XY w (fun _ _ _ _=>Qo) 51):=by
 have HR:=Jnv hr
 have HLKH:=Jnv HLK
 have hx:=heap_alloc_new w (.cells Qo 149)
 have hB:Below w.heap.size w (w.alloc (.cells Qo 149)):=Below.all (Jny _ _) _
 have hlt1:decide ((n:Int)<hd)=false:=by simp;omega
 have hlt2:decide ((n:Int)>65535)=true:=by simp;omega
 clear hr HLK
 unfold Qo at hx hB
 have HX:=Jnv hx
 have HB:=Jnv hB
 clear hx hB
 go_enter Tryz.func77,Tryz.ntmps77
 go_wp2_with fail
 refine Jnx (J5 _) ?_
 rintro e y1 ⟨r,rfl,hr1,hr2,hb⟩
 have HB1:=Jnv (Jno HB.out hb)
 have HX1:=Jnv ((hb.block w.heap.size (by simp)).trans HX.out)
 have hlk:=HLKH.out r y1 hr2
 have hw1:w.heap.size<y1.heap.size:=(Jnw HX1.out).1
 obtain⟨b4,hb4⟩:∃b,b=w.heap.size:=⟨_,rfl⟩
 have hBA:Below y1.heap.size y1 (y1.alloc (.cells #[.int .i64 hd,.int .i64 sm,.func (.func F) #[] #[],.func (.func G) #[] #[],.func (.func RD) #[] #[]] 222)):=Below.all (Jny _ _) _
 have hx6:=heap_alloc_new y1 (.cells #[.int .i64 hd,.int .i64 sm,.func (.func F) #[] #[],.func (.func G) #[] #[],.func (.func RD) #[] #[]] 222)
 have HXA:=Jnv ((hBA.block _ hw1).trans HX1.out)
 have HBA:=Jnv (Jno HB1.out hBA)
 have HX6:=Jnv hx6
 have hc0:(y1.alloc (.cells #[.int .i64 hd,.int .i64 sm,.func (.func F) #[] #[],.func (.func G) #[] #[],.func (.func RD) #[] #[]] 222)).cell? ⟨y1.heap.size,0,none⟩=some (.int .i64 hd):=cell_of_row _ _ 0 _ _ (0,0) hx6
 clear hb hr2 HX HB hBA hx6
 have hrf:Jl (y1.alloc (.cells #[.int .i64 hd,.int .i64 sm,.func (.func F) #[] #[],.func (.func G) #[] #[],.func (.func RD) #[] #[]] 222)) w.heap.size 12=true:=by rw[Jd _ _ _ _ _ HXA.out];rfl
 go_wp2_with fail
 refine bodyPost_ret (QI rfl _ _ w.heap.size _ _ _ (0,0) rfl rfl ((heap_alloc_old _ _ (by simpa using hw1)).trans (Jh HX1.out)) rfl) rfl ?_
 exact⟨⟨none,0,none,0,rfl⟩,Below.all (HB1.out.trans (Jf _ (JnA _))) _⟩
theorem JbR (l:List Int)(i:Nat)(h:i+1≤l.length):Bits.numAt l i 1=l.getD i 0:=by
 rw[Bits.numAt_snoc l i 0 (by omega),show Bits.numAt l i 0=0 from rfl,Nat.add_zero];omega
theorem JcV {l:List Int}(h:Jm l)(i:Nat):0≤l.getD i 0∧l.getD i 0<256:=by
 rw[List.getD_eq_getElem?_getD]
 cases hx:l[i]? with
 |none=>simp
 |some v=>exact h v (List.mem_of_getElem? hx)
def JcD (s:Seg)(oO:Option Addr)(cO:Nat)(oD:Option Addr)(cD:Nat):Array Value:=
 (JnT (.int .u8 s.proto) (.int .u16 s.src) (.int .u16 s.dst) (.int .u32 s.seq) (.int .u32 s.ack) (.int .u8 s.flags) (.int .u16 s.win) (.int .u16 s.urg) (.slice oO s.opt.length cO) (.int .u8 s.type) (.int .u8 s.code) (.slice oD s.data.length cD))
theorem XY.mono {w:World}{cs cs':Option Addr→Nat→Option Addr→Nat→Array Value}{err err':Int}(he:err=err')(hc:∀oO cO oD cD,∃a b c d,cs oO cO oD cD=cs' a b c d){e:Ending}{w':World}(h:XY w cs err e w'):XY w cs' err' e w':=by
 obtain⟨⟨oO,cO,oD,cD,rfl⟩,hb⟩:=h
 obtain⟨a,b,c,d,hh⟩:=hc oO cO oD cD
 subst he
 exact⟨⟨a,b,c,d,by rw[hh]⟩,hb⟩
theorem Jhq (p:Int)(hp:p=1∨p=58)(oa:Option Addr)(n cap:Nat)(l:List Int)(w:World)(hr:Jj w oa n cap l)(hn:n≤100000):
 Calls Tryz.prog 77 #[p,.slice oa n cap] w (XY w (JcD (Ql p l)) (Ja2 p l)):=by
 have hlk:=fun r w' h=>(Qx p (.inr (.inr hp)) r w' h)
 rw[show Jdv p=XV by rcases hp with rfl|rfl<;>rfl] at hlk
 have hlen:=hr.len
 have hth:JcJ p=4:=by rcases hp with rfl|rfl<;>rfl
 have h6:¬p=6:=by omega
 have h17:¬p=17:=by omega
 by_cases h1:n<4
 ·have he:Ja2 p l=10:=by unfold Ja2;rw[hth,if_neg (by decide),if_pos (by omega)]
  refine(JaH p 4 2 _ _ _ oa n cap l w hr (by omega) hlk).mono fun e w' h=>XY.mono he.symm (fun _ _ _ _=>⟨none,0,none,0,?_⟩) h
  unfold Ql;rw[he,if_neg (by decide)];rfl
 by_cases h2:65535<n
 ·have he:Ja2 p l=51:=by unfold Ja2;rw[hth,if_neg (by decide),if_neg (by omega),if_pos (by omega)]
  refine(Jbq p 4 2 _ _ _ oa n cap l w hr (by omega) h2 hlk).mono fun e w' h=>XY.mono he.symm (fun _ _ _ _=>⟨none,0,none,0,?_⟩) h
  unfold Ql;rw[he,if_neg (by decide)];rfl
 ·have he:Ja2 p l=0:=by unfold Ja2;rw[hth,if_neg (by decide),if_neg (by omega),if_neg (by omega),if_neg h6,if_neg h17]
  refine(JcL p 4 2 oa n cap l w hr (by omega) (by omega) hlk 0 0 0 0 0 0 0 0 _ _ _ 0 (fun y b pr h=>JjP b pr l y h (by omega) (by omega))).mono fun e w' h=>XY.mono he.symm (fun oO cO oD cD=>⟨oO,cO,oD,cD,?_⟩) h
  have g0:=JcV hr.byte 0
  have g1:=JcV hr.byte 1
  unfold Ql Jmf JcD
  rw[he,if_pos rfl,if_pos rfl,if_neg h6,if_neg h17,JbR l 0 (by omega),JbR l 1 (by omega),Int.emod_eq_of_lt g0.1 g0.2,Int.emod_eq_of_lt g1.1 g1.2]
  simp
theorem JiC (oa:Option Addr)(n cap:Nat)(l:List Int)(w:World)(hr:Jj w oa n cap l)(hn:n≤100000):
 Calls Tryz.prog 77 #[(17:Int),.slice oa n cap] w (XY w (JcD (Ql 17 l)) (Ja2 17 l)):=by
 have hlk:=fun r w' h=>(Qx 17 (.inr (.inl rfl)) r w' h)
 have hlen:=hr.len
 have hth:JcJ 17=8:=rfl
 by_cases h1:n<8
 ·have he:Ja2 17 l=10:=by unfold Ja2;rw[hth,if_neg (by decide),if_pos (by omega)]
  refine(JaH 17 8 6 _ _ _ oa n cap l w hr (by omega) hlk).mono fun e w' h=>XY.mono he.symm (fun _ _ _ _=>⟨none,0,none,0,?_⟩) h
  unfold Ql;rw[he,if_neg (by decide)];rfl
 by_cases h2:65535<n
 ·have he:Ja2 17 l=51:=by unfold Ja2;rw[hth,if_neg (by decide),if_neg (by omega),if_pos (by omega)]
  refine(Jbq 17 8 6 _ _ _ oa n cap l w hr (by omega) h2 hlk).mono fun e w' h=>XY.mono he.symm (fun _ _ _ _=>⟨none,0,none,0,?_⟩) h
  unfold Ql;rw[he,if_neg (by decide)];rfl
 have hw:=Zd hr.byte 4
 obtain⟨N,hN⟩:∃N:Nat,(N:Int)=w2 l 4:=⟨(w2 l 4).toNat,by omega⟩
 have hNa:numAt l 4 2=(N:Int):=by rw[QM l 4 (by omega)];exact hN.symm
 have hT:Ja2 17 l=if w2 l 4<8 then 51 else if (l.length:Int)<w2 l 4 then 10 else 0:=by unfold Ja2;rw[hth,if_neg (by decide),if_neg (by omega),if_neg (by omega),if_neg (by decide),if_pos rfl]
 by_cases h3:N<8
 ·have he:Ja2 17 l=51:=by rw[hT,if_pos (by omega)]
  refine(Zn 17 8 6 oa n cap l w hr (by omega) (by omega) hlk 0 0 0 0 0 0 0 0 0 0 0 51 (fun y b pr h=>JkS b pr l y h (by omega) (by omega) N hNa (by omega) h3)).mono fun e w' h=>XY.mono he.symm (fun oO cO oD cD=>⟨none,0,none,0,?_⟩) h
  unfold Ql;rw[he,if_neg (by decide),if_neg (by decide)];rfl
 by_cases h4:l.length<N
 ·have he:Ja2 17 l=10:=by rw[hT,if_neg (by omega),if_pos (by omega)]
  refine(Zn 17 8 6 oa n cap l w hr (by omega) (by omega) hlk 0 0 0 0 0 0 0 0 0 0 0 10 (fun y b pr h=>JiA b pr l y h (by omega) (by omega) N hNa (by omega) (by omega) h4)).mono fun e w' h=>XY.mono he.symm (fun oO cO oD cD=>⟨none,0,none,0,?_⟩) h
  unfold Ql;rw[he,if_neg (by decide),if_neg (by decide)];rfl
 ·have he:Ja2 17 l=0:=by rw[hT,if_neg (by omega),if_neg (by omega)]
  refine(Zn 17 8 6 oa n cap l w hr (by omega) (by omega) hlk _ _ 0 0 0 0 0 0 0 0 _ 0 (fun y b pr h=>JlP b pr l y h (by omega) (by omega) N hNa (by omega) (by omega) (by omega))).mono fun e w' h=>XY.mono he.symm (fun oO cO oD cD=>⟨oO,cO,oD,cD,?_⟩) h
  have g0:=Zd hr.byte 0
  have g1:=Zd hr.byte 2
  unfold Ql Jmf JcD
  rw[he,if_pos rfl,if_pos rfl,if_neg (by decide),if_pos rfl,QM l 0 (by omega),QM l 2 (by omega),Int.emod_eq_of_lt g0.1 g0.2,Int.emod_eq_of_lt g1.1 g1.2]
  have hd:((l.take (w2 l 4).toNat).drop 8).length=N-8:=by rw[List.length_drop,List.length_take];omega
  simp only[hd]
  rfl
theorem JiD (oa:Option Addr)(n cap:Nat)(l:List Int)(w:World)(hr:Jj w oa n cap l)(hn:n≤100000):
 Calls Tryz.prog 77 #[(6:Int),.slice oa n cap] w (XY w (JcD (Ql 6 l)) (Ja2 6 l)):=by
 have hlk:=fun r w' h=>(Qx 6 (.inl rfl) r w' h)
 have hlen:=hr.len
 have hth:JcJ 6=20:=rfl
 by_cases h1:n<20
 ·have he:Ja2 6 l=10:=by unfold Ja2;rw[hth,if_neg (by decide),if_pos (by omega)]
  refine(JaH 6 20 16 _ _ _ oa n cap l w hr (by omega) hlk).mono fun e w' h=>XY.mono he.symm (fun _ _ _ _=>⟨none,0,none,0,?_⟩) h
  unfold Ql;rw[he,if_neg (by decide)];rfl
 by_cases h2:65535<n
 ·have he:Ja2 6 l=51:=by unfold Ja2;rw[hth,if_neg (by decide),if_neg (by omega),if_pos (by omega)]
  refine(Jbq 6 20 16 _ _ _ oa n cap l w hr (by omega) h2 hlk).mono fun e w' h=>XY.mono he.symm (fun _ _ _ _=>⟨none,0,none,0,?_⟩) h
  unfold Ql;rw[he,if_neg (by decide)];rfl
 have hw:=JcV hr.byte 12
 obtain⟨V,hV⟩:∃V:Nat,(V:Int)=l.getD 12 0:=⟨(l.getD 12 0).toNat,by omega⟩
 have hVa:numAt l 12 1=(V:Int):=by rw[JbR l 12 (by omega)];exact hV.symm
 have hq:Jkf l=V/16*4:=by unfold Jkf;rw[←hV];omega
 have hT:Ja2 6 l=if Jkf l<20 then 51 else if l.length<Jkf l then 10 else 0:=by unfold Ja2;rw[hth,if_neg (by decide),if_neg (by omega),if_neg (by omega),if_pos rfl]
 rw[hq] at hT
 by_cases h3:V/16<5
 ·have he:Ja2 6 l=51:=by rw[hT,if_pos (by omega)]
  refine(Zm 6 20 16 oa n cap l w hr (by omega) (by omega) hlk 0 0 0 0 0 0 0 0 0 0 0 51 (fun y b pr h=>JkT b pr l y h (by omega) (by omega) V hVa (by omega) h3)).mono fun e w' h=>XY.mono he.symm (fun oO cO oD cD=>⟨none,0,none,0,?_⟩) h
  unfold Ql;rw[he,if_neg (by decide),if_neg (by decide)];rfl
 by_cases h4:l.length<V/16*4
 ·have he:Ja2 6 l=10:=by rw[hT,if_neg (by omega),if_pos (by omega)]
  refine(Zm 6 20 16 oa n cap l w hr (by omega) (by omega) hlk 0 0 0 0 0 0 0 0 0 0 0 10 (fun y b pr h=>JiB b pr l y h (by omega) (by omega) V hVa (by omega) (by omega) h4)).mono fun e w' h=>XY.mono he.symm (fun oO cO oD cD=>⟨none,0,none,0,?_⟩) h
  unfold Ql;rw[he,if_neg (by decide),if_neg (by decide)];rfl
 ·have he:Ja2 6 l=0:=by rw[hT,if_neg (by omega),if_neg (by omega)]
  refine(Zm 6 20 16 oa n cap l w hr (by omega) (by omega) hlk _ _ _ _ _ _ _ _ 0 0 _ 0 (fun y b pr h=>JlQ b pr l y h (by omega) (by omega) V hVa (by omega) (by omega) (by omega))).mono fun e w' h=>XY.mono he.symm (fun oO cO oD cD=>⟨oO,cO,oD,cD,?_⟩) h
  have g0:=Zd hr.byte 0
  have g1:=Zd hr.byte 2
  have g2:=Jls hr.byte 4
  have g3:=Jls hr.byte 8
  have g4:=JcV hr.byte 13
  have g5:=Zd hr.byte 14
  have g6:=Zd hr.byte 18
  unfold Ql Jmf JcD
  rw[he,if_pos rfl,if_pos rfl,if_pos rfl,QM l 0 (by omega),QM l 2 (by omega),Jcf l 4 (by omega),Jcf l 8 (by omega),JbR l 13 (by omega),QM l 14 (by omega),QM l 18 (by omega),Int.emod_eq_of_lt g0.1 g0.2,Int.emod_eq_of_lt g1.1 g1.2,Int.emod_eq_of_lt g2.1 g2.2,Int.emod_eq_of_lt g3.1 g3.2,Int.emod_eq_of_lt g4.1 g4.2,Int.emod_eq_of_lt g5.1 g5.2,Int.emod_eq_of_lt g6.1 g6.2]
  have hd:((l.take (Jkf l)).drop 20).length=V/16*4-20:=by rw[List.length_drop,List.length_take,hq];omega
  have hd2:(l.drop (Jkf l)).length=l.length-V/16*4:=by rw[List.length_drop,hq]
  simp only[hd,hd2]
theorem JiE (p:Int)(hp:p=6∨p=17∨p=1∨p=58)(oa:Option Addr)(n cap:Nat)(l:List Int)(w:World)(hr:Jj w oa n cap l)(hn:n≤100000):
 Calls Tryz.prog 77 #[p,.slice oa n cap] w (XY w (JcD (Ql p l)) (Ja2 p l)):=by
 rcases hp with rfl|rfl|hp
 ·exact JiD oa n cap l w hr hn
 ·exact JiC oa n cap l w hr hn
 ·exact Jhq p hp oa n cap l w hr hn
def JmR (k:Int):Value:=if k=4 then .agg #[.func (.func 79) #[] #[]] else .agg #[.func (.func 80) #[] #[]]
def XZ:Array MapEntry:=#[⟨.int .u8 4,.agg #[.func (.func 79) #[] #[]],0⟩,⟨.int .u8 6,.agg #[.func (.func 80) #[] #[]],1⟩]
def Jml:Value:=.agg #[.nilFunc]
theorem Jfu:((Tryz.prog.info? 79).bind (·.zero))=some Jml:=by kernel_rfl
def JkU (w:World):Ending→World→Prop:=fun e w'=>∃r,e=.returned (.map (some r))∧w.heap.size≤r∧w'.heap[r]? =some (.map XZ 2)∧Below w.heap.size w w'
theorem JaI (w:World):Calls Tryz.prog 34 #[] w (JkU w):=by
 have hmm:=@run_makeMap Tryz.prog
 have hmp:=heap_alloc_new w (.map #[] 0)
 have hB:Below w.heap.size w (w.alloc (.map #[] 0)):=Below.all (Jny _ _) _
 go_enter Tryz.func34,Tryz.ntmps34
 go_wp2_with (first|(with_reducible refine Jah _ w.heap.size _ _ JmR 5 79 ?_ ?_ hmp ?_ ?_ ?_ ?_;(kernel_rfl);(kernel_rfl);(kernel_rfl);(kernel_rfl);(kernel_rfl);intro w1 hmp hlow hsz hoth;have hB:=JcC hB (JnA _) hlow))
 go_ret
 exact⟨_,rfl,JnA _,hmp.trans (by kernel_rfl),hB⟩
theorem Jdz (r:Nat)(w:World)(h:w.heap[r]? =some (.map XZ 2)):(Instr.lookup 81 (.map (some r)) (.int .u8 4) true).run Tryz.prog w=.ok (.tuple #[.agg #[.func (.func 79) #[] #[]],true]) w:=
 Qz (P:=Tryz.prog) 81 5 79 r 2 XZ .u8 4 Jml true w Tryz.underlying81 Tryz.underlying5 h (some (0,.agg #[.func (.func 79) #[] #[]])) rfl Jfu
theorem Jd2 (r:Nat)(w:World)(h:w.heap[r]? =some (.map XZ 2)):(Instr.lookup 81 (.map (some r)) (.int .u8 6) true).run Tryz.prog w=.ok (.tuple #[.agg #[.func (.func 80) #[] #[]],true]) w:=
 Qz (P:=Tryz.prog) 81 5 79 r 2 XZ .u8 6 Jml true w Tryz.underlying81 Tryz.underlying5 h (some (1,.agg #[.func (.func 80) #[] #[]])) rfl Jfu
theorem JdA (k:Int)(h4:k≠4)(h6:k≠6)(r:Nat)(w:World)(h:w.heap[r]? =some (.map XZ 2)):(Instr.lookup 81 (.map (some r)) (.int .u8 k) true).run Tryz.prog w=.ok (.tuple #[Jml,false]) w:=by
 refine Qz (P:=Tryz.prog) 81 5 79 r 2 XZ .u8 k Jml true w Tryz.underlying81 Tryz.underlying5 h none ?_ Jfu
 have b4:(k==4)=false:=by simpa using h4
 have b6:(k==6)=false:=by simpa using h6
 simp[XZ,Instr.findNow,Instr.sameNow,b4,b6]
theorem Xg (p:Int)(w:World):Calls Tryz.prog 35 #[p] w (Jk w (.bool (JW p))):=by
 by_cases h6:p=6
 ·subst h6
  go_enter Tryz.func35,Tryz.ntmps35
  go_wp2_with fail
  go_ret
  exact .mk rfl (Jny _ _)
 ·have hb:(p==6)=false:=by simpa using h6
  have hd:decide (p=6)=false:=by simpa using h6
  have hi:JW p=(p==17):=by unfold JW;rw[hb];rfl
  rw[hi]
  go_enter Tryz.func35,Tryz.ntmps35
  go_wp2_with fail
  go_ret
  exact .mk rfl (Jny _ _)
theorem QJ (p:Int)(w:World):Calls Tryz.prog 36 #[p] w (Jk w (.bool (JU p))):=by
 by_cases h6:p=1
 ·subst h6
  go_enter Tryz.func36,Tryz.ntmps36
  go_wp2_with fail
  go_ret
  exact .mk rfl (Jny _ _)
 ·have hb:(p==1)=false:=by simpa using h6
  have hd:decide (p=1)=false:=by simpa using h6
  have hi:JU p=(p==58):=by unfold JU;rw[hb];rfl
  rw[hi]
  go_enter Tryz.func36,Tryz.ntmps36
  go_wp2_with fail
  go_ret
  exact .mk rfl (Jny _ _)
open Go.RowKit
theorem JgB (s:Bool)(S:Nat→Int)(t:Bool)(T:Nat→Int)(p a b:Int)(hip:JW p=true)(w:World):
 Calls Tryz.prog 26 #[.agg (kyC s S t T p a b)] w (Jk w (.bool (JX ⟨s,S,t,T,p,a,b⟩))):=by
 have HV:Hid (JX ⟨s,S,t,T,p,a,b⟩=(JR s S&&(JR t T&&(s==t&&true)))):=Jnv (by
  have:ZB p a b=true:=by unfold ZB;rw[hip];rfl
  unfold JX;simp only[this])
 have HR1:∀w,Calls Tryz.prog 68 #[adV s S] w (Jk w (.bool (JR s S))):=fun w=>Qt s S w
 have HR2:∀w,Calls Tryz.prog 68 #[adV t T] w (Jk w (.bool (JR t T))):=fun w=>Qt t T w
 have HP:=fun w=>Xg p w
 have HI:=fun w=>QJ p w
 rw[hip] at HP
 clear hip HI
 generalize JR s S=r1 at*
 generalize JR t T=r2 at*
 generalize JX ⟨s,S,t,T,p,a,b⟩=res at*
 have hV:=HV.out
 clear HV
 unfold adV kyC at*
 cases r1
 ·have hV:=Jnv (show res=false from hV)
  go_enter Tryz.func26,Tryz.ntmps26
  go_wp2_with fail
  refine Calls.later (HP _) ?_
  intro x
  go_wp2_with fail
  refine Jnq (HR1 _) ?_
  intro y0
  go_wp2_with fail
  go_ret
  exact .mk (JL hV.out.symm) (by with_reducible repeat' (first|assumption|exact Jny _ _|apply Jnn|apply Below.all|(apply below_setCell_new;omega)))
 cases r2
 ·have hV:=Jnv (show res=false from hV)
  go_enter Tryz.func26,Tryz.ntmps26
  go_wp2_with fail
  refine Calls.later (HP _) ?_
  intro x
  go_wp2_with fail
  refine Jnq (HR1 _) ?_
  intro y0
  go_wp2_with fail
  refine Jnq (HR2 _) ?_
  intro y1
  go_wp2_with fail
  go_ret
  exact .mk (JL hV.out.symm) (by with_reducible repeat' (first|assumption|exact Jny _ _|apply Jnn|apply Below.all|(apply below_setCell_new;omega)))
 by_cases hst:s=t
 rotate_left
 ·have hV:Hid (res=false):=Jnv (by rw[hV];simp[hst])
  have hst':(s==t)=false:=by simpa using hst
  go_enter Tryz.func26,Tryz.ntmps26
  go_wp2_with fail
  refine Calls.later (HP _) ?_
  intro x
  go_wp2_with fail
  refine Jnq (HR1 _) ?_
  intro y0
  go_wp2_with fail
  refine Jnq (HR2 _) ?_
  intro y1
  go_wp2_with fail
  go_ret
  exact .mk (JL hV.out.symm) (by with_reducible repeat' (first|assumption|exact Jny _ _|apply Jnn|apply Below.all|(apply below_setCell_new;omega)))
 subst hst
 have hV:Hid (res=(true)):=Jnv (by rw[hV];simp)
 ·go_enter Tryz.func26,Tryz.ntmps26
  go_wp2_with fail
  refine Calls.later (HP _) ?_
  intro x
  go_wp2_with fail
  refine Jnq (HR1 _) ?_
  intro y0
  go_wp2_with fail
  refine Jnq (HR2 _) ?_
  intro y1
  go_wp2_with fail
  go_ret
  exact .mk (JL hV.out.symm) (by with_reducible repeat' (first|assumption|exact Jny _ _|apply Jnn|apply Below.all|(apply below_setCell_new;omega)))
open Go.RowKit
theorem Jhr (s:Bool)(S:Nat→Int)(t:Bool)(T:Nat→Int)(p a b:Int)(hip:JW p=false)(hii:JU p=true)(w:World):
 Calls Tryz.prog 26 #[.agg (kyC s S t T p a b)] w (Jk w (.bool (JX ⟨s,S,t,T,p,a,b⟩))):=by
 have HV:Hid (JX ⟨s,S,t,T,p,a,b⟩=(JR s S&&(JR t T&&(s==t&&decide (a=0))))):=Jnv (by
  have:ZB p a b=decide (a=0):=by unfold ZB;rw[hip,hii,Bool.false_or,Bool.true_or,Bool.and_true];rfl
  unfold JX;simp only[this])
 have HR1:∀w,Calls Tryz.prog 68 #[adV s S] w (Jk w (.bool (JR s S))):=fun w=>Qt s S w
 have HR2:∀w,Calls Tryz.prog 68 #[adV t T] w (Jk w (.bool (JR t T))):=fun w=>Qt t T w
 have HP:=fun w=>Xg p w
 have HI:=fun w=>QJ p w
 rw[hip] at HP
 rw[hii] at HI
 clear hip hii
 generalize JR s S=r1 at*
 generalize JR t T=r2 at*
 generalize JX ⟨s,S,t,T,p,a,b⟩=res at*
 have hV:=HV.out
 clear HV
 unfold adV at*
 unfold kyC
 go_enter Tryz.func26,Tryz.ntmps26
 go_wp2_with fail
 refine Calls.later (HP _) ?_
 intro x
 go_wp2_with fail
 refine Jnx (HI _) ?_
 rintro e w2 ⟨rfl,hb⟩
 have h1:x.world.heap[w.heap.size]? =some (.cells (kyC s S t T p a b) 30 (0,0)):=(x.below.block _ (by simp;omega)).trans (heap_alloc2_old w (.cells (kyC s S t T p a b) 30) (.cells (kyC s S t T p a b) 30))
 have h3:x.world.heap[w.heap.size+1]? =some (.cells (kyC s S t T p a b) 30 (0,0)):=(x.below.block _ (by simp)).trans (heap_alloc2_new w (.cells (kyC s S t T p a b) 30) (.cells (kyC s S t T p a b) 30))
 have hl1:w.heap.size<x.world.heap.size:=(Jnw h1).1
 have hl3:w.heap.size+1<x.world.heap.size:=(Jnw h3).1
 have HB0:Below w.heap.size w x.world:=Jnn (Below.all (Below.all (Jny _ _) _) _)
 have k1:w2.heap[w.heap.size]? =some (.cells (kyC s S t T p a b) 30 (0,0)):=(hb.block _ (by simpa using hl1)).trans ((heap_setCell_other _ _ _ _ (by simp)).trans h1)
 have k3:w2.heap[w.heap.size+1]? =some (.cells (kyC s S t T p 0 b) 30 (0,0)):=(hb.block _ (by simpa using hl3)).trans (heap_setCell_same _ _ _ _ _ _ h3)
 have HB2:Hid (Below w.heap.size w w2):=Jnv ((HB0.setCell (by simp) _).trans (hb.mono (by simpa using Nat.le_of_lt hl1)))
 have p1:Jc w2 w.heap.size 0 17=(JnH s S:Array Value):=by rw[Jn _ _ _ _ _ _ _ k1];simp[kyC]
 have p2:Jc w2 w.heap.size 17 17=(JnH t T:Array Value):=by rw[Jn _ _ _ _ _ _ _ k1];simp[kyC]
 have c1:w2.cell? ⟨w.heap.size,0,none⟩=some (.bool s):=by rw[cell_of_row _ _ _ _ _ _ k1];rfl
 have c2:w2.cell? ⟨w.heap.size,17,none⟩=some (.bool t):=by rw[cell_of_row _ _ _ _ _ _ k1];rfl
 have p3:Jc w2 w.heap.size 0 37=(JnR s t p (.int .u16 a) (.int .u16 b) S T:Array Value):=Jb k1 rfl
 have p4:Jc w2 (w.heap.size+1) 0 37=#[.bool s,.int .u8 (S 0),.int .u8 (S 1),.int .u8 (S 2),.int .u8 (S 3),.int .u8 (S 4),.int .u8 (S 5),.int .u8 (S 6),.int .u8 (S 7),.int .u8 (S 8),.int .u8 (S 9),.int .u8 (S 10),.int .u8 (S 11),.int .u8 (S 12),.int .u8 (S 13),.int .u8 (S 14),.int .u8 (S 15),.bool t,.int .u8 (T 0),.int .u8 (T 1),.int .u8 (T 2),.int .u8 (T 3),.int .u8 (T 4),.int .u8 (T 5),.int .u8 (T 6),.int .u8 (T 7),.int .u8 (T 8),.int .u8 (T 9),.int .u8 (T 10),.int .u8 (T 11),.int .u8 (T 12),.int .u8 (T 13),.int .u8 (T 14),.int .u8 (T 15),.int .u8 p,.int .u16 0,.int .u16 b]:=Jb k3 rfl
 have g1:w.heap.size<w2.heap.size:=(Jnw k1).1
 have g3:w.heap.size+1<w2.heap.size:=(Jnw k3).1
 clear k1 k3 hl1 hl3 HB0 h1 h3 hb
 cases r1
 ·have hV:=Jnv (show res=false from hV)
  go_wp2_with fail
  refine Calls.later (HR1 _) ?_
  intro y0
  go_wp2_with fail
  go_ret
  exact .mk (JL hV.out.symm) (Jnn HB2.out)
 cases r2
 ·have hV:=Jnv (show res=false from hV)
  go_wp2_with fail
  refine Calls.later (HR1 _) ?_
  intro y0
  go_wp2_with fail
  refine Jnq (HR2 _) ?_
  intro y1
  go_wp2_with fail
  go_ret
  exact .mk (JL hV.out.symm) (Jnn HB2.out)
 by_cases hst:s=t
 rotate_left
 ·have hV:Hid (res=false):=Jnv (by rw[hV];simp[hst])
  have hst':(s==t)=false:=by simpa using hst
  go_wp2_with fail
  refine Calls.later (HR1 _) ?_
  intro y0
  go_wp2_with fail
  refine Jnq (HR2 _) ?_
  intro y1
  go_wp2_with fail
  go_ret
  exact .mk (JL hV.out.symm) (Jnn HB2.out)
 subst hst
 have hV:Hid (res=decide (a=0)):=Jnv (by rw[hV];simp)
 go_wp2_with fail
 refine Calls.later (HR1 _) ?_
 intro y0
 go_wp2_with fail
 refine Jnq (HR2 _) ?_
 intro y1
 go_wp2_with fail
 go_ret
 exact .mk (JL hV.out.symm) (Jnn HB2.out)
open Go.RowKit
theorem Jhs (s:Bool)(S:Nat→Int)(t:Bool)(T:Nat→Int)(p a b:Int)(hip:JW p=false)(hii:JU p=false)(w:World):
 Calls Tryz.prog 26 #[.agg (kyC s S t T p a b)] w (Jk w (.bool (JX ⟨s,S,t,T,p,a,b⟩))):=by
 have HV:Hid (JX ⟨s,S,t,T,p,a,b⟩=(JR s S&&(JR t T&&(s==t&&(decide (a=0)&&decide (b=0)))))):=Jnv (by
  have:ZB p a b=(decide (a=0)&&decide (b=0)):=by unfold ZB;rw[hip,hii,Bool.false_or,Bool.false_or];rfl
  unfold JX;simp only[this])
 have HR1:∀w,Calls Tryz.prog 68 #[adV s S] w (Jk w (.bool (JR s S))):=fun w=>Qt s S w
 have HR2:∀w,Calls Tryz.prog 68 #[adV t T] w (Jk w (.bool (JR t T))):=fun w=>Qt t T w
 have HP:=fun w=>Xg p w
 have HI:=fun w=>QJ p w
 rw[hip] at HP
 rw[hii] at HI
 clear hip hii
 generalize JR s S=r1 at*
 generalize JR t T=r2 at*
 generalize JX ⟨s,S,t,T,p,a,b⟩=res at*
 have hV:=HV.out
 clear HV
 unfold adV at*
 unfold kyC
 go_enter Tryz.func26,Tryz.ntmps26
 go_wp2_with fail
 refine Calls.later (HP _) ?_
 intro x
 go_wp2_with fail
 refine Jnx (HI _) ?_
 rintro e w2 ⟨rfl,hb⟩
 have h1:x.world.heap[w.heap.size]? =some (.cells (kyC s S t T p a b) 30 (0,0)):=(x.below.block _ (by simp;omega)).trans (heap_alloc2_old w (.cells (kyC s S t T p a b) 30) (.cells (kyC s S t T p a b) 30))
 have h3:x.world.heap[w.heap.size+1]? =some (.cells (kyC s S t T p a b) 30 (0,0)):=(x.below.block _ (by simp)).trans (heap_alloc2_new w (.cells (kyC s S t T p a b) 30) (.cells (kyC s S t T p a b) 30))
 have hl1:w.heap.size<x.world.heap.size:=(Jnw h1).1
 have hl3:w.heap.size+1<x.world.heap.size:=(Jnw h3).1
 have HB0:Below w.heap.size w x.world:=Jnn (Below.all (Below.all (Jny _ _) _) _)
 have k1:w2.heap[w.heap.size]? =some (.cells (kyC s S t T p a b) 30 (0,0)):=(hb.block _ (by simpa using hl1)).trans ((heap_setCell_other _ _ _ _ (by simp)).trans h1)
 have k3:w2.heap[w.heap.size+1]? =some (.cells (kyC s S t T p 0 b) 30 (0,0)):=(hb.block _ (by simpa using hl3)).trans (heap_setCell_same _ _ _ _ _ _ h3)
 have g1:w.heap.size<w2.heap.size:=(Jnw k1).1
 have g3:w.heap.size+1<w2.heap.size:=(Jnw k3).1
 have HBw:Below w.heap.size w w2:=(HB0.setCell (by simp) _).trans (hb.mono (by simpa using Nat.le_of_lt hl1))
 have c3:w2.cell? ⟨w.heap.size+1,36,none⟩=some (.int .u16 b):=by rw[cell_of_row _ _ _ _ _ _ k3];rfl
 have f3:w2.frozen? ⟨w.heap.size+1,36,none⟩=false:=frozen_of_row _ _ _ _ _ k3
 have HB2:Hid (Below w.heap.size w (w2.setCell ⟨w.heap.size+1,36,none⟩ (.int .u16 0))):=Jnv (HBw.setCell (by simp) _)
 have m1:(w2.setCell ⟨w.heap.size+1,36,none⟩ (.int .u16 0)).heap[w.heap.size]? =some (.cells (kyC s S t T p a b) 30 (0,0)):=(heap_setCell_other _ _ _ _ (by simp)).trans k1
 have m3:(w2.setCell ⟨w.heap.size+1,36,none⟩ (.int .u16 0)).heap[w.heap.size+1]? =some (.cells (kyC s S t T p 0 0) 30 (0,0)):=heap_setCell_same _ _ _ _ _ _ k3
 have p1:Jc (w2.setCell ⟨w.heap.size+1,36,none⟩ (.int .u16 0)) w.heap.size 0 17=(JnH s S:Array Value):=by rw[Jn _ _ _ _ _ _ _ m1];simp[kyC]
 have p2:Jc (w2.setCell ⟨w.heap.size+1,36,none⟩ (.int .u16 0)) w.heap.size 17 17=(JnH t T:Array Value):=by rw[Jn _ _ _ _ _ _ _ m1];simp[kyC]
 have c1:(w2.setCell ⟨w.heap.size+1,36,none⟩ (.int .u16 0)).cell? ⟨w.heap.size,0,none⟩=some (.bool s):=by rw[cell_of_row _ _ _ _ _ _ m1];rfl
 have c2:(w2.setCell ⟨w.heap.size+1,36,none⟩ (.int .u16 0)).cell? ⟨w.heap.size,17,none⟩=some (.bool t):=by rw[cell_of_row _ _ _ _ _ _ m1];rfl
 have d1:w2.cell? ⟨w.heap.size,0,none⟩=some (.bool s):=by rw[cell_of_row _ _ _ _ _ _ k1];rfl
 have d2:w2.cell? ⟨w.heap.size,17,none⟩=some (.bool t):=by rw[cell_of_row _ _ _ _ _ _ k1];rfl
 have p3:Jc (w2.setCell ⟨w.heap.size+1,36,none⟩ (.int .u16 0)) w.heap.size 0 37=(JnR s t p (.int .u16 a) (.int .u16 b) S T:Array Value):=Jb m1 rfl
 have p4:Jc (w2.setCell ⟨w.heap.size+1,36,none⟩ (.int .u16 0)) (w.heap.size+1) 0 37=#[.bool s,.int .u8 (S 0),.int .u8 (S 1),.int .u8 (S 2),.int .u8 (S 3),.int .u8 (S 4),.int .u8 (S 5),.int .u8 (S 6),.int .u8 (S 7),.int .u8 (S 8),.int .u8 (S 9),.int .u8 (S 10),.int .u8 (S 11),.int .u8 (S 12),.int .u8 (S 13),.int .u8 (S 14),.int .u8 (S 15),.bool t,.int .u8 (T 0),.int .u8 (T 1),.int .u8 (T 2),.int .u8 (T 3),.int .u8 (T 4),.int .u8 (T 5),.int .u8 (T 6),.int .u8 (T 7),.int .u8 (T 8),.int .u8 (T 9),.int .u8 (T 10),.int .u8 (T 11),.int .u8 (T 12),.int .u8 (T 13),.int .u8 (T 14),.int .u8 (T 15),.int .u8 p,.int .u16 0,.int .u16 0]:=Jb m3 rfl
 clear k1 k3 m1 m3 hl1 hl3 HB0 HBw h1 h3 hb
 cases r1
 ·have hV:=Jnv (show res=false from hV)
  go_wp2_with fail
  refine Calls.later (HR1 _) ?_
  intro y0
  go_wp2_with fail
  go_ret
  exact .mk (JL hV.out.symm) (Jnn HB2.out)
 cases r2
 ·have hV:=Jnv (show res=false from hV)
  go_wp2_with fail
  refine Calls.later (HR1 _) ?_
  intro y0
  go_wp2_with fail
  refine Jnq (HR2 _) ?_
  intro y1
  go_wp2_with fail
  go_ret
  exact .mk (JL hV.out.symm) (Jnn HB2.out)
 by_cases hst:s=t
 rotate_left
 ·have hV:Hid (res=false):=Jnv (by rw[hV];simp[hst])
  have hst':(s==t)=false:=by simpa using hst
  go_wp2_with fail
  refine Calls.later (HR1 _) ?_
  intro y0
  go_wp2_with fail
  refine Jnq (HR2 _) ?_
  intro y1
  go_wp2_with fail
  go_ret
  exact .mk (JL hV.out.symm) (Jnn HB2.out)
 subst hst
 have hV:Hid (res=(decide (a=0)&&decide (b=0))):=Jnv (by rw[hV];simp)
 go_wp2_with fail
 refine Calls.later (HR1 _) ?_
 intro y0
 go_wp2_with fail
 refine Jnq (HR2 _) ?_
 intro y1
 go_wp2_with fail
 go_ret
 exact .mk (JL hV.out.symm) (Jnn HB2.out)
theorem Ja0 (s:Bool)(S:Nat→Int)(t:Bool)(T:Nat→Int)(p a b:Int)(w:World):
 Calls Tryz.prog 26 #[.agg (kyC s S t T p a b)] w (Jk w (.bool (JX ⟨s,S,t,T,p,a,b⟩))):=by
 cases hip:JW p
 ·cases hii:JU p
  ·exact Jhs s S t T p a b hip hii w
  ·exact Jhr s S t T p a b hip hii w
 ·exact JgB s S t T p a b hip w
end
end Go.Proofs.YtkgjbipfhhjlpaaGreatDoor
