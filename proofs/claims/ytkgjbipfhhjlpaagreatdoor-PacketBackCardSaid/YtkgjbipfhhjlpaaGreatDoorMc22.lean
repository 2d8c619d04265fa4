import Derived.Test.YtkgjbipfhhjlpaaGreatDoorMc21
set_option linter.unusedVariables false
set_option linter.unusedSimpArgs false
set_option maxRecDepth 100000
set_option maxHeartbeats 32000000
namespace Go.Proofs.YtkgjbipfhhjlpaaGreatDoor
section
open Go.RowKit
theorem JjX (n:Nat):madeCells #[Value.int .u8 0] n=((JP n).map (.int .u8)).toArray:=by
 apply Array.ext
 ·simp[madeCells,JP]
 ·intro i h1 h2
  simp[madeCells,JP,Nat.mod_one]
theorem Jej (w:World)(n:Nat)(hn:n≤2048):(Instr.makeSlice 22 (.int .i64 n) (.int .i64 n)).run Tryz.prog w=.ok (.slice (some ⟨w.heap.size,0,none⟩) n n) (w.alloc (.cells ((JP n).map (.int .u8)).toArray 5)):=by
 obtain⟨ie,hie,hz,h4,h5⟩:=info_parts Bits.infoU8
 have h:=run_makeSlice (P:=Tryz.prog) (w:=w) 22 5 ie (.int .u8 0) Tryz.underlying22 hie hz .i64 .i64 (n:Int) (n:Int) (by omega) (Int.le_refl _) (by rw[h4];simp;omega) (by rw[h5];omega) (by omega)
 rw[h4,Nat.mul_one,Int.toNat_natCast] at h
 rw[h,←JjX]
 rfl
theorem Jek (ev:Operand→Value)(w:World){dst:Option Tmp}{ty:TypeId}{pos:String}{after:Array Edge}{g:Option (Nat×Bool)}{t:TypeId}{x y:Operand}{vx vy v:Value}{w2:World}(hx:ev x=vx)(hy:ev y=vy)
 (hr:(Instr.makeSlice t vx vy).run Tryz.prog w=.ok v w2):(execOp ev ⟨dst,.makeSlice t x y,ty,pos,after,g⟩).run Tryz.prog w=.ok (.value v) w2:=by
 simp[execOp,hx,hy,hr,Result.andThen]
theorem Jel {w:World}{b n:Nat}{t:TypeId}(h:w.heap[b]? =some (.cells ((JP n).map (.int .u8)).toArray t (0,0)))(hn:n≤2048):Jg w (some ⟨b,0,none⟩) n n (JP n):=by
 refine⟨by simp[JP],JoQ _,by unfold maxLen;omega,fun v hv=>?_,.inr ⟨b,0,rfl,(JoM h).1,fun j hj=>?_⟩⟩
 ·rw[(List.mem_replicate.1 hv).2];decide
 ·rw[Nat.zero_add,cell_of_row _ _ _ _ _ _ h];simp[JP,hj]
theorem JjY (s:Bool)(S T:Nat→Int)(p a b f:Int)(d:Nat)(hd:d≤2048)(hip:JS p=false)(hii:JY p=false)(w:World):
 Calls Tryz.prog 43 #[.agg (spC s S s T p a b f d)] w (Js w (JP d) 0):=by
 have HP:Hid (∀w',Calls Tryz.prog 35 #[p] w' (Jj w' (.bool (JS p)))):=JoL (fun w'=>Xn p w')
 have HI:Hid (∀w',Calls Tryz.prog 36 #[p] w' (Jj w' (.bool (JY p)))):=JoL (fun w'=>QO p w')
 rw[hip] at HP
 rw[hii] at HI
 have HD:=JoL hd
 have hX:(w.alloc (.cells (spC s S s T p a b f d) 47)).heap[w.heap.size]? =some (.cells (spC s S s T p a b f d) 47 (0,0)):=heap_alloc_new w _
 have HB:Hid (Below w.heap.size w (w.alloc (.cells (spC s S s T p a b f d) 47))):=JoL (Below.all (JoO _ _) _)
 clear hd hip hii
 unfold spC at HB hX⊢
 go_enter Tryz.func43,Tryz.ntmps43
 go_wp2_with fail
 obtain⟨b0,hb0⟩:∃b,b=w.heap.size:=⟨_,rfl⟩
 have HB0:=JoL hb0
 rw[←hb0] at hX⊢
 clear hb0
 generalize w.alloc _=y at*
 have hlt:b0<y.heap.size:=(JoM hX).1
 have HY:=JoL hX
 clear hX
 have hc0:y.cell? ⟨b0,34,none⟩=some (.int .u8 p):=cell_of_row _ _ 34 _ _ (0,0) HY.out
 refine JM [.h,.h,.h,.h,.h] [(0,1,0),(1,1,0),(2,1,0)] (fun _ w'=>w'.cell? ⟨b0,34,none⟩=some (.int .u8 p)) [1] [(.w,5),(.q,6)] [(.w,8)] 7 (.cells Qp 149) (by kernel_rfl) (by kernel_rfl) rfl rfl ⟨fun _=>rfl,fun _ _=>by kernel_rfl⟩ (by kernel_rfl) (by kernel_rfl) ?_
 apply Exists.intro
 refine⟨fun wx hbx=>?_,?_,?_⟩
 ·have hxx:=(hbx.block b0 hlt).trans HY.out
  have hbx2:b0<wx.heap.size:=JoP hlt hbx.size
  have c34:wx.cell? ⟨b0,34,none⟩=some (.int .u8 p):=cell_of_row _ _ 34 _ _ (0,0) hxx
  have c38:wx.cell? ⟨b0,38,none⟩=some (.int .i64 d):=cell_of_row _ _ 38 _ _ (0,0) hxx
  clear hxx hbx
  simp only[Jx]
  repeat go_big_quiet_step (fail)
  exact wpQuiet_nil rfl
 ·intro q hq oi hoi
  simp only[List.mem_cons,List.not_mem_nil,or_false] at hq
  rcases hq with rfl|rfl|rfl
  ·cases hoi;exact⟨_,rfl,rfl,fun w2 hw=>by kernel_rfl⟩
  ·cases hoi;exact⟨_,rfl,rfl,fun w2 hw=>by kernel_rfl⟩
  ·cases hoi;exact⟨_,rfl,rfl,fun w2 hw=>by simp[execOp,go_sem,hw]⟩
 simp only[J2,List.getElem?_cons_succ,List.getElem?_cons_zero]
 refine⟨fun v fl w2=>∃r,v=.slice (some ⟨r,0,none⟩) d d∧y.heap.size≤r∧Below y.heap.size y w2∧w2.heap[r]? =some (.cells ((JP d).map (.int .u8)).toArray 5 (0,0))∧∀b',fl=some b'→y.heap.size≤b'∧b'≠r∧w2.heap[b']? =some (.cells Qp 149 (0,0)),?_,?_,?_,?_⟩
 ·rintro fl-
  refine JA.made rfl ?_
  rintro w' ⟨⟨x,rfl⟩,hfb⟩
  refine⟨_,_,Jek _ _ (vx:=.int .i64 d) (vy:=.int .i64 d) (by kernel_rfl) (by kernel_rfl) (Jej x.world d HD.out),x.world.heap.size,rfl,x.below.size,Below.all x.below _,heap_alloc_new _ _,fun b' hb'=>?_⟩
  have h1:=(hfb b' hb')
  have h2:=(JoM h1.2).1
  exact⟨h1.1,by omega,(heap_alloc_old _ _ h2).trans h1.2⟩
 ·rintro v fl g-w2 ⟨r,-,-,h3,-⟩
  exact(Jf h3 hlt _ rfl).trans hc0
 ·rintro-v w2 ⟨r,h1,h2,h3,h4,-⟩
  have hr:=(JoM h4).1
  exact⟨r,h1,h2,Below.all h3 _,(heap_alloc_old _ _ hr).trans h4,fun b' hb'=>by cases hb';exact⟨h3.size,by omega,heap_alloc_new _ _⟩⟩
 rintro v ⟨fl0,w20,r,rfl,-⟩
 refine⟨.agg (QC p 0 0 0 0 0 (some ⟨r,0,none⟩) d d),⟨rfl,fun _=>by kernel_rfl⟩,?_⟩
 intro bs
 refine⟨fun v fl w2=>v=undef∧(y.heap.size≤bs∧y.heap.size≤r∧bs≠r∧Below y.heap.size y w2∧w2.heap[r]? =some (.cells ((JP d).map (.int .u8)).toArray 5 (0,0))∧w2.heap[bs]? =some (.cells (QC p 0 0 0 0 0 (some ⟨r,0,none⟩) d d) 149 (0,0))),?_,fun _ _=>Jz rfl,(fun h=>by cases h),?_⟩
 ·rintro fl rfl
  refine JA.skip rfl ?_
  rintro w' ⟨r',hr',h2,h3,h4,hfb⟩
  obtain rfl:r=r':=by simpa using hr'
  obtain⟨hbge,hne,hbx⟩:=hfb bs rfl
  exact⟨_,Q1 _ w' bs (QC p 0 0 0 0 0 (some ⟨r,0,none⟩) d d) (by kernel_rfl) (by kernel_rfl) (by rw[Jd _ _ _ _ _ hbx];rfl) rfl rfl,hbge,h2,hne,h3.trans (Je _ hbge),(setRow_other _ bs _ _ (fun h=>hne h.symm)).trans h4,Ji hbx⟩
 rintro v ⟨fl2,w22,rfl,-⟩
 rintro zz ⟨-,hbs,hr0,hne,hzz,hzr,hsz⟩
 have HZ:=JoL hzz
 have HS:=JoL hsz
 have HR:=JoL hzr
 have HX:=JoL ((hzz.block b0 hlt).trans HY.out)
 have hbz:b0<zz.heap.size:=JoP hlt hzz.size
 have hsz':bs<zz.heap.size:=(JoM hsz).1
 have hrz:r<zz.heap.size:=(JoM hzr).1
 have hne0:bs≠b0:=by omega
 have c34:zz.cell? ⟨b0,34,none⟩=some (.int .u8 p):=cell_of_row _ _ 34 _ _ (0,0) HX.out
 clear hzz hsz hzr fl0 fl2 w20 w22 HY hc0
 unfold QV
 simp only[Act.put,List.setIfInBounds_toArray,List.set_cons_succ,List.set_cons_zero]
 go_wp2_with fail
 refine JoN (HP.out zz) ?_
 rintro e z2 ⟨rfl,hb2⟩
 have HZ2:=JoL (JoE HZ.out hb2)
 have HX2:=JoL ((hb2.block b0 hbz).trans HX.out)
 have HS2:=JoL ((hb2.block bs hsz').trans HS.out)
 have HR2:=JoL ((hb2.block r hrz).trans HR.out)
 have d34:z2.cell? ⟨b0,34,none⟩=some (.int .u8 p):=cell_of_row _ _ 34 _ _ (0,0) HX2.out
 clear hb2 c34
 go_wp2_with fail
 refine JoN (HI.out z2) ?_
 rintro e z3 ⟨rfl,hb3⟩
 have HZ3:=JoL (JoE HZ2.out hb3)
 have HS3:=JoL ((hb3.block bs (JoM HS2.out).1).trans HS2.out)
 have HR3:=JoL ((hb3.block r (JoM HR2.out).1).trans HR2.out)
 have e11:z3.cell? ⟨bs,11,none⟩=some (.slice (some ⟨r,0,none⟩) d d):=cell_of_row _ _ 11 _ _ (0,0) HS3.out
 clear hb3 d34
 go_wp2_with fail
 go_ret2
 have hl:((JP d).map (.int .u8:Int→Value)).length=d:=by simp[JP]
 have hz:(JP d).length=d:=by simp[JP]
 have hO:=Ji6 HR3.out (by rw[hl];have:=HD.out;unfold maxLen;omega)
 rw[hl] at hO
 exact⟨some ⟨r,0,none⟩,d,by rw[hz];rfl,by rw[hz];exact hO.mono (Nat.le_trans HB.out.size hr0),HB.out.trans (HZ3.out.mono HB.out.size)⟩
theorem Jem (s:Bool)(S T:Nat→Int)(p a b f:Int)(d:Nat)(hd:d≤2048)(hS:U8 S)(hT:U8 T)(hip:JS p=true)(R:List Int→List Int)(hput:∀(oD:Option Addr) (n cD:Nat) (l:List Int) (o1 o2:Option Addr) (k c1 c2:Nat) (w:World),Jg w oD n cD l→Jg w o1 k c1 (Jc s S)→Jg w o2 k c2 (Jc s T)→(k=4∨k=16)→n≤60000→Calls Tryz.prog 94 #[.agg (QC p a b f 0 0 oD n cD),.slice o1 k c1,.slice o2 k c2] w (Js w (R l) 0))(w:World):
 Calls Tryz.prog 43 #[.agg (spC s S s T p a b f d)] w (Js w (R (JP d)) 0):=by
 have HP:Hid (∀w',Calls Tryz.prog 35 #[p] w' (Jj w' (.bool (JS p)))):=JoL (fun w'=>Xn p w')
 have HI:Hid (∀w',Calls Tryz.prog 36 #[p] w' (Jj w' (.bool (JY p)))):=JoL (fun w'=>QO p w')
 rw[hip] at HP
 obtain⟨L,hL⟩:∃L,R (JP d)=L:=⟨_,rfl⟩
 have HPU:Hid (∀(oD:Option Addr) (n cD:Nat) (o1 o2:Option Addr) (k c1 c2:Nat) (w:World),Jg w oD n cD (JP d)→Jg w o1 k c1 (Jc s S)→Jg w o2 k c2 (Jc s T)→(k=4∨k=16)→n≤60000→Calls Tryz.prog 94 #[.agg (QC p a b f 0 0 oD n cD),.slice o1 k c1,.slice o2 k c2] w (Js w L 0)):=JoL (fun oD n cD o1 o2 k c1 c2 w h0 h1 h2 h3 h4=>by rw[←hL];exact hput oD n cD _ o1 o2 k c1 c2 w h0 h1 h2 h3 h4)
 rw[hL]
 have HD:=JoL hd
 have hX:(w.alloc (.cells (spC s S s T p a b f d) 47)).heap[w.heap.size]? =some (.cells (spC s S s T p a b f d) 47 (0,0)):=heap_alloc_new w _
 have HB:Hid (Below w.heap.size w (w.alloc (.cells (spC s S s T p a b f d) 47))):=JoL (Below.all (JoO _ _) _)
 clear hd hip hput hL
 unfold spC at HB hX⊢
 go_enter Tryz.func43,Tryz.ntmps43
 go_wp2_with fail
 obtain⟨b0,hb0⟩:∃b,b=w.heap.size:=⟨_,rfl⟩
 have HB0:=JoL hb0
 rw[←hb0] at hX⊢
 clear hb0
 generalize w.alloc _=y at*
 have hlt:b0<y.heap.size:=(JoM hX).1
 have HY:=JoL hX
 clear hX
 have hc0:y.cell? ⟨b0,34,none⟩=some (.int .u8 p):=cell_of_row _ _ 34 _ _ (0,0) HY.out
 refine JM [.h,.h,.h,.h,.h] [(0,1,0),(1,1,0),(2,1,0)] (fun _ w'=>w'.cell? ⟨b0,34,none⟩=some (.int .u8 p)) [1] [(.w,5),(.q,6)] [(.w,8)] 7 (.cells Qp 149) (by kernel_rfl) (by kernel_rfl) rfl rfl ⟨fun _=>rfl,fun _ _=>by kernel_rfl⟩ (by kernel_rfl) (by kernel_rfl) ?_
 apply Exists.intro
 refine⟨fun wx hbx=>?_,?_,?_⟩
 ·have hxx:=(hbx.block b0 hlt).trans HY.out
  have hbx2:b0<wx.heap.size:=JoP hlt hbx.size
  have c34:wx.cell? ⟨b0,34,none⟩=some (.int .u8 p):=cell_of_row _ _ 34 _ _ (0,0) hxx
  have c38:wx.cell? ⟨b0,38,none⟩=some (.int .i64 d):=cell_of_row _ _ 38 _ _ (0,0) hxx
  clear hxx hbx
  simp only[Jx]
  repeat go_big_quiet_step (fail)
  exact wpQuiet_nil rfl
 ·intro q hq oi hoi
  simp only[List.mem_cons,List.not_mem_nil,or_false] at hq
  rcases hq with rfl|rfl|rfl
  ·cases hoi;exact⟨_,rfl,rfl,fun w2 hw=>by kernel_rfl⟩
  ·cases hoi;exact⟨_,rfl,rfl,fun w2 hw=>by kernel_rfl⟩
  ·cases hoi;exact⟨_,rfl,rfl,fun w2 hw=>by simp[execOp,go_sem,hw]⟩
 simp only[J2,List.getElem?_cons_succ,List.getElem?_cons_zero]
 refine⟨fun v fl w2=>∃r,v=.slice (some ⟨r,0,none⟩) d d∧y.heap.size≤r∧Below y.heap.size y w2∧w2.heap[r]? =some (.cells ((JP d).map (.int .u8)).toArray 5 (0,0))∧∀b',fl=some b'→y.heap.size≤b'∧b'≠r∧w2.heap[b']? =some (.cells Qp 149 (0,0)),?_,?_,?_,?_⟩
 ·rintro fl-
  refine JA.made rfl ?_
  rintro w' ⟨⟨x,rfl⟩,hfb⟩
  refine⟨_,_,Jek _ _ (vx:=.int .i64 d) (vy:=.int .i64 d) (by kernel_rfl) (by kernel_rfl) (Jej x.world d HD.out),x.world.heap.size,rfl,x.below.size,Below.all x.below _,heap_alloc_new _ _,fun b' hb'=>?_⟩
  have h1:=(hfb b' hb')
  have h2:=(JoM h1.2).1
  exact⟨h1.1,by omega,(heap_alloc_old _ _ h2).trans h1.2⟩
 ·rintro v fl g-w2 ⟨r,-,-,h3,-⟩
  exact(Jf h3 hlt _ rfl).trans hc0
 ·rintro-v w2 ⟨r,h1,h2,h3,h4,-⟩
  have hr:=(JoM h4).1
  exact⟨r,h1,h2,Below.all h3 _,(heap_alloc_old _ _ hr).trans h4,fun b' hb'=>by cases hb';exact⟨h3.size,by omega,heap_alloc_new _ _⟩⟩
 rintro v ⟨fl0,w20,r,rfl,-⟩
 refine⟨.agg (QC p 0 0 0 0 0 (some ⟨r,0,none⟩) d d),⟨rfl,fun _=>by kernel_rfl⟩,?_⟩
 intro bs
 refine⟨fun v fl w2=>v=undef∧(y.heap.size≤bs∧y.heap.size≤r∧bs≠r∧Below y.heap.size y w2∧w2.heap[r]? =some (.cells ((JP d).map (.int .u8)).toArray 5 (0,0))∧w2.heap[bs]? =some (.cells (QC p 0 0 0 0 0 (some ⟨r,0,none⟩) d d) 149 (0,0))),?_,fun _ _=>Jz rfl,(fun h=>by cases h),?_⟩
 ·rintro fl rfl
  refine JA.skip rfl ?_
  rintro w' ⟨r',hr',h2,h3,h4,hfb⟩
  obtain rfl:r=r':=by simpa using hr'
  obtain⟨hbge,hne,hbx⟩:=hfb bs rfl
  exact⟨_,Q1 _ w' bs (QC p 0 0 0 0 0 (some ⟨r,0,none⟩) d d) (by kernel_rfl) (by kernel_rfl) (by rw[Jd _ _ _ _ _ hbx];rfl) rfl rfl,hbge,h2,hne,h3.trans (Je _ hbge),(setRow_other _ bs _ _ (fun h=>hne h.symm)).trans h4,Ji hbx⟩
 rintro v ⟨fl2,w22,rfl,-⟩
 rintro zz ⟨-,hbs,hr0,hne,hzz,hzr,hsz⟩
 have HZ:=JoL hzz
 have HS:=JoL hsz
 have HR:=JoL hzr
 have HX:=JoL ((hzz.block b0 hlt).trans HY.out)
 have hbz:b0<zz.heap.size:=JoP hlt hzz.size
 have hsz':bs<zz.heap.size:=(JoM hsz).1
 have hrz:r<zz.heap.size:=(JoM hzr).1
 have hne0:bs≠b0:=by omega
 have c34:zz.cell? ⟨b0,34,none⟩=some (.int .u8 p):=cell_of_row _ _ 34 _ _ (0,0) HX.out
 clear hzz hsz hzr fl0 fl2 w20 w22 HY hc0
 unfold QV
 simp only[Act.put,List.setIfInBounds_toArray,List.set_cons_succ,List.set_cons_zero]
 go_wp2_with fail
 refine JoN (HP.out zz) ?_
 rintro e z2 ⟨rfl,hb2⟩
 have HZ2:=JoL (JoE HZ.out hb2)
 have HX2:=JoL ((hb2.block b0 hbz).trans HX.out)
 have HS2:=JoL ((hb2.block bs hsz').trans HS.out)
 have HR2:=JoL ((hb2.block r hrz).trans HR.out)
 clear hb2 c34 HX HS HR HZ
 go_wp2_with fail
 have hb02:b0<z2.heap.size:=(JoM HX2.out).1
 have hbs2:bs<z2.heap.size:=(JoM HS2.out).1
 have hr2:r<z2.heap.size:=(JoM HR2.out).1
 refine JZ [.h,.h,.h,.h,.h,.h,.h,.h,.h] [(3,1,0),(4,1,0),(5,1,0),(6,2,0),(7,2,0)] (fun _ w'=>w'.cell? ⟨b0,36,none⟩=some (.int .u16 b)∧w'.cell? ⟨b0,37,none⟩=some (.int .u8 f)) [2] [(.w,9),(.q,10),(.w,11),(.q,12),(.w,13)] (by kernel_rfl) (by kernel_rfl) (by kernel_rfl) (by kernel_rfl) ?_
 apply Exists.intro
 refine⟨fun wx hbx=>?_,?_,?_⟩
 ·have hxx:=(hbx.block b0 hb02).trans HX2.out
  have e35:wx.cell? ⟨b0,35,none⟩=some (.int .u16 a):=cell_of_row _ _ 35 _ _ (0,0) hxx
  have e36:wx.cell? ⟨b0,36,none⟩=some (.int .u16 b):=cell_of_row _ _ 36 _ _ (0,0) hxx
  have e37:wx.cell? ⟨b0,37,none⟩=some (.int .u8 f):=cell_of_row _ _ 37 _ _ (0,0) hxx
  have hbx2:b0<wx.heap.size:=JoP hb02 hbx.size
  clear hxx hbx
  simp only[Jx]
  repeat go_big_quiet_step (fail)
  exact wpQuiet_nil rfl
 ·intro q hq oi hoi
  simp only[List.mem_cons,List.not_mem_nil,or_false] at hq
  rcases hq with rfl|rfl|rfl|rfl|rfl
  ·cases hoi;exact⟨_,rfl,rfl,fun w2 hw=>by kernel_rfl⟩
  ·cases hoi;exact⟨_,rfl,rfl,fun w2 hw=>by kernel_rfl⟩
  ·cases hoi;exact⟨_,rfl,rfl,fun w2 hw=>by simp[execOp,go_sem,hw.1]⟩
  ·cases hoi;exact⟨_,rfl,rfl,fun w2 hw=>by kernel_rfl⟩
  ·cases hoi;exact⟨_,rfl,rfl,fun w2 hw=>by simp[execOp,go_sem,hw.2]⟩
 have d36:z2.cell? ⟨b0,36,none⟩=some (.int .u16 b):=cell_of_row _ _ 36 _ _ (0,0) HX2.out
 have d37:z2.cell? ⟨b0,37,none⟩=some (.int .u8 f):=cell_of_row _ _ 37 _ _ (0,0) HX2.out
 simp only[J2,List.getElem?_cons_succ,List.getElem?_cons_zero]
 refine⟨fun v fq w2=>v=undef∧OBx z2 bs (QC p a 0 0 0 0 (some ⟨r,0,none⟩) d d) 149 w2,?_,?_,(fun h=>by cases h),?_⟩
 ·rintro fl rfl
  refine JA.skip rfl ?_
  rintro w' ⟨⟨x,rfl⟩,-⟩
  have hob:OBx z2 bs (QC p 0 0 0 0 0 (some ⟨r,0,none⟩) d d) 149 x.world:=OBx.later ⟨HS2.out,JoO _ _,fun _ _ _=>rfl⟩ x.below
  have g1:x.world.cell? ⟨bs,1,none⟩=some (.int .u16 0):=cell_of_row _ _ 1 _ _ (0,0) hob.1
  have g2:=frozen_of_row _ _ 1 _ _ hob.1
  refine⟨_,?_,hob.set 1 (.int .u16 a)⟩
  simp[execOp,go_sem,g1,g2]
 ·rintro v fq g-w2 ⟨-,hob⟩
  have:=(hob.2.2 b0 (fun h=>hne0 h.symm) hb02)
  exact⟨(World.cell?_of_block (a:=⟨b0,36,none⟩) this).trans d36,(World.cell?_of_block (a:=⟨b0,37,none⟩) this).trans d37⟩
 rintro v ⟨gl0,w30,rfl,-⟩
 refine⟨.pointer (some ⟨bs,2,none⟩),⟨rfl,fun _=>by kernel_rfl⟩,?_⟩
 refine⟨fun v fq w2=>v=undef∧OBx z2 bs (QC p a b 0 0 0 (some ⟨r,0,none⟩) d d) 149 w2,?_,?_,(fun h=>by cases h),?_⟩
 ·rintro fl rfl
  refine JA.skip rfl ?_
  rintro w' ⟨-,hob⟩
  have g1:w'.cell? ⟨bs,2,none⟩=some (.int .u16 0):=cell_of_row _ _ 2 _ _ (0,0) hob.1
  have g2:=frozen_of_row _ _ 2 _ _ hob.1
  refine⟨_,?_,hob.set 2 (.int .u16 b)⟩
  simp[execOp,go_sem,g1,g2]
 ·rintro v fq g-w2 ⟨-,hob⟩
  have:=(hob.2.2 b0 (fun h=>hne0 h.symm) hb02)
  exact⟨(World.cell?_of_block (a:=⟨b0,36,none⟩) this).trans d36,(World.cell?_of_block (a:=⟨b0,37,none⟩) this).trans d37⟩
 rintro v ⟨gl1,w31,rfl,-⟩
 refine⟨.pointer (some ⟨bs,5,none⟩),⟨rfl,fun _=>by kernel_rfl⟩,?_⟩
 refine⟨fun v fq w2=>v=undef∧OBx z2 bs (QC p a b f 0 0 (some ⟨r,0,none⟩) d d) 149 w2,?_,fun _ _=>Jz rfl,(fun h=>by cases h),?_⟩
 ·rintro fl rfl
  refine JA.skip rfl ?_
  rintro w' ⟨-,hob⟩
  have g1:w'.cell? ⟨bs,5,none⟩=some (.int .u8 0):=cell_of_row _ _ 5 _ _ (0,0) hob.1
  have g2:=frozen_of_row _ _ 5 _ _ hob.1
  refine⟨_,?_,hob.set 5 (.int .u8 f)⟩
  simp[execOp,go_sem,g1,g2]
 rintro v ⟨gl2,w32,rfl,-⟩
 rintro z4 ⟨-,hob⟩
 have HS4:=JoL hob.1
 have HX4:=JoL ((hob.2.2 b0 (fun h=>hne0 h.symm) hb02).trans HX2.out)
 have HR4:=JoL ((hob.2.2 r (fun h=>hne h.symm) hr2).trans HR2.out)
 have HZ4:Hid (Below y.heap.size y z4):=JoL (HZ2.out.trans (hob.2.1.mono hbs))
 clear hob d36 d37 gl0 gl1 gl2 w30 w31 w32 HS2 HX2 HR2 HZ2 hb02 hbs2 hr2
 have HSZ:Hid ((QC p a b f 0 0 (some ⟨r,0,none⟩) d d).size=12):=JoL rfl
 simp only[Act.put,List.setIfInBounds_toArray,List.set_cons_succ,List.set_cons_zero]
 go_wp2_with fail
 have hb04:b0<z4.heap.size:=(JoM HX4.out).1
 have hbs4:bs<z4.heap.size:=(JoM HS4.out).1
 obtain⟨k1,hk1⟩:∃m,(Jc s S).length=m:=⟨_,rfl⟩
 have hk2:(Jc s T).length=k1:=by rw[Jm,←hk1,Jm]
 have HK:Hid (k1=4∨k1=16):=JoL (by rw[←hk1,Jm];cases s;exact .inl rfl;exact .inr rfl)
 have HA1:Hid (∀w',Calls Tryz.prog 64 #[adV s S] w' (Jht w' k1 (Jc s S))):=JoL fun w'=>(bytes_any s S w').mono fun _ _ h=>h.n hk1 (JN hS s)
 have HA2:Hid (∀w',Calls Tryz.prog 64 #[adV s T] w' (Jht w' k1 (Jc s T))):=JoL fun w'=>(bytes_any s T w').mono fun _ _ h=>h.n hk2 (JN hT s)
 have HRZ:=JoL (Jel HR4.out HD.out)
 refine JZ [.h,.h,.h,.h,.w,.h,.h,.h] [(0,2,0),(5,1,0),(6,1,0),(7,1,0)] (fun _ w'=>Jb w' bs 0 12=QC p a b f 0 0 (some ⟨r,0,none⟩) d d∧Jb w' b0 17 17=(JoX s T:Array Value)) [2] [(.w,4),(.w,8),(.w,9),(.q,10),(.q,11),(.q,12),(.q,13)] (by kernel_rfl) (by kernel_rfl) (by kernel_rfl) (by kernel_rfl) ?_
 apply Exists.intro
 refine⟨fun wx hbx=>?_,?_,?_⟩
 ·have hxx:=(hbx.block b0 hb04).trans HX4.out
  have hss:=(hbx.block bs hbs4).trans HS4.out
  have hbx2:b0<wx.heap.size:=JoP hb04 hbx.size
  have hbx3:bs<wx.heap.size:=JoP hbs4 hbx.size
  have p0:Jb wx bs 0 12=QC p a b f 0 0 (some ⟨r,0,none⟩) d d:=Ja hss rfl
  have hld:∀x:JG wx,Q9 Tryz.prog 149 x.world (.pointer (some ⟨bs,0,none⟩))=.ok (.value (.agg (QC p a b f 0 0 (some ⟨r,0,none⟩) d d))) x.world:=fun x=>by
   have e:Jb x.world bs 0 12=_:=(JG.part x bs 0 12 hbx3).trans p0
   rw[QZ x.world bs 0 (by rw[e];rfl),e]
  have p1:Jb wx b0 0 17=(JoX s S:Array Value):=by rw[Jl _ _ _ _ _ _ _ hxx];simp
  have p2:Jb wx b0 17 17=(JoX s T:Array Value):=by rw[Jl _ _ _ _ _ _ _ hxx];simp
  clear hxx hss hbx
  simp only[Jx]
  repeat go_big_quiet_step (fail)
  exact wpQuiet_nil rfl
 ·intro q hq oi hoi
  simp only[List.mem_cons,List.not_mem_nil,or_false] at hq
  rcases hq with rfl|rfl|rfl|rfl
  ·cases hoi;exact⟨_,rfl,rfl,fun w2 hw=>Jd7 _ w2 bs _ (by kernel_rfl) hw.1 rfl⟩
  ·cases hoi;exact⟨_,rfl,rfl,fun w2 hw=>by kernel_rfl⟩
  ·cases hoi;exact⟨_,rfl,rfl,fun w2 hw=>by kernel_rfl⟩
  ·cases hoi;exact⟨_,rfl,rfl,fun w2 hw=>by simp[execOp,go_sem,hw.2]⟩
 have q0:Jb z4 bs 0 12=QC p a b f 0 0 (some ⟨r,0,none⟩) d d:=Ja HS4.out rfl
 have q2:Jb z4 b0 17 17=(JoX s T:Array Value):=by rw[Jl _ _ _ _ _ _ _ HX4.out];simp
 simp only[J2,List.getElem?_cons_succ,List.getElem?_cons_zero]
 refine⟨fun v fl w2=>∃o1 c1,v=.slice o1 k1 c1∧Jg w2 o1 k1 c1 (Jc s S)∧Below z4.heap.size z4 w2,?_,?_,(fun h=>by cases h),?_⟩
 ·rintro fl rfl
  refine⟨rfl,fun w' hw'=>.inr ⟨64,#[adV s S],by kernel_rfl,?_⟩⟩
  obtain⟨⟨x,rfl⟩,-⟩:=hw'
  refine(HA1.out x.world).mono ?_
  rintro e w2 ⟨o1,c1,rfl,h1,hb⟩
  exact⟨_,rfl,o1,c1,rfl,h1,JoE x.below hb⟩
 ·rintro v fq g-w2 ⟨o1,c1,-,-,hb⟩
  exact⟨(JL hb bs 0 12 hbs4).trans q0,(JL hb b0 17 17 hb04).trans q2⟩
 rintro v ⟨gl0,w30,o1,c1,rfl,-⟩
 refine⟨fun v fl w2=>∃o2 c2,v=.slice o2 k1 c2∧Jg w2 o1 k1 c1 (Jc s S)∧Jg w2 o2 k1 c2 (Jc s T)∧Below z4.heap.size z4 w2,?_,?_,(fun h=>by cases h),?_⟩
 ·rintro fl rfl
  refine⟨rfl,fun w' hw'=>.inr ⟨64,#[adV s T],by kernel_rfl,?_⟩⟩
  obtain⟨o1',c1',he,h1,hb1⟩:=hw'
  obtain⟨rfl,rfl⟩:o1=o1'∧c1=c1':=by simpa using he
  refine(HA2.out w').mono ?_
  rintro e w2 ⟨o2,c2,rfl,h2,hb⟩
  exact⟨_,rfl,o2,c2,rfl,h1.below hb,h2,JoE hb1 hb⟩
 ·rintro v fq g-w2 ⟨o2,c2,-,-,-,hb⟩
  exact⟨(JL hb bs 0 12 hbs4).trans q0,(JL hb b0 17 17 hb04).trans q2⟩
 rintro v ⟨gl1,w31,o2,c2,rfl,-⟩
 refine⟨fun v fl w2=>∃oP cP,v=.tuple #[.slice oP L.length cP,.int .i64 0]∧JQ w2 z4.heap.size 1 oP L.length cP (L.map (.int .u8))∧Below z4.heap.size z4 w2,?_,fun _ _=>Jz rfl,(fun h=>by cases h),?_⟩
 ·rintro fl rfl
  refine⟨rfl,fun w' hw'=>.inr ⟨94,#[.agg (QC p a b f 0 0 (some ⟨r,0,none⟩) d d),.slice o1 k1 c1,.slice o2 k1 c2],by kernel_rfl,?_⟩⟩
  obtain⟨o2',c2',he,h1,h2,hb1⟩:=hw'
  obtain⟨rfl,rfl⟩:o2=o2'∧c2=c2':=by simpa using he
  refine(HPU.out _ d d o1 o2 k1 c1 c2 w' (HRZ.out.below hb1) h1 h2 HK.out (by have:=HD.out;omega)).mono ?_
  rintro e w2 ⟨oP,cP,rfl,ho,hb⟩
  exact⟨_,rfl,oP,cP,rfl,ho.mono hb1.size,JoE hb1 hb⟩
 rintro v ⟨gl2,w32,oP,cP,rfl,-⟩
 refine⟨.slice oP L.length cP,⟨rfl,fun _=>by kernel_rfl⟩,?_⟩
 refine⟨.int .i64 0,⟨rfl,fun _=>by kernel_rfl⟩,?_⟩
 refine⟨.slice oP L.length cP,⟨rfl,fun _=>by kernel_rfl⟩,?_⟩
 refine⟨.int .i64 0,⟨rfl,fun _=>by kernel_rfl⟩,?_⟩
 rintro y3 ⟨oP',cP',he,hoP,hb3⟩
 obtain⟨rfl,rfl⟩:oP=oP'∧cP=cP':=by simpa using he
 have HOP:=JoL hoP
 have HB3:=JoL hb3
 clear he gl0 gl1 gl2 w30 w31 w32 q0 q2 hk1 hk2 hoP hb3 hb04 hbs4 hbz hsz' hrz hlt hne hne0 hbs hr0 hS hT
 simp only[Act.put,List.setIfInBounds_toArray,List.set_cons_succ,List.set_cons_zero]
 go_wp2_with fail
 go_ret2
 exact⟨_,_,rfl,HOP.out.mono (Nat.le_trans HB.out.size HZ4.out.size),HB.out.trans ((HZ4.out.trans (HB3.out.mono HZ4.out.size)).mono HB.out.size)⟩
theorem JjZ (s:Bool)(S T:Nat→Int)(p a b f:Int)(d:Nat)(hd:d≤2048)(hS:U8 S)(hT:U8 T)(hip:JS p=false)(hii:JY p=true)(hb:0≤b∧b<65536)(w:World):
 Calls Tryz.prog 43 #[.agg (spC s S s T p a b f d)] w (Js w (Xw p (b/256) (b%256) 0 (JP d) (Jc s S) (Jc s T)) 0):=by
 have HP:Hid (∀w',Calls Tryz.prog 35 #[p] w' (Jj w' (.bool (JS p)))):=JoL (fun w'=>Xn p w')
 have HI:Hid (∀w',Calls Tryz.prog 36 #[p] w' (Jj w' (.bool (JY p)))):=JoL (fun w'=>QO p w')
 have hpi:p=1∨p=58:=by simpa[JY] using hii
 rw[hip] at HP
 rw[hii] at HI
 have HBB:=JoL hb
 have HPU:Hid (∀(oD:Option Addr) (n cD:Nat) (o1 o2:Option Addr) (k c1 c2:Nat) (w:World),Jg w oD n cD (JP d)→Jg w o1 k c1 (Jc s S)→Jg w o2 k c2 (Jc s T)→(k=4∨k=16)→n≤60000→Calls Tryz.prog 94 #[.agg (QC p 0 0 0 (b/256) (b%256) oD n cD),.slice o1 k c1,.slice o2 k c2] w (Js w (Xw p (b/256) (b%256) 0 (JP d) (Jc s S) (Jc s T)) 0)):=JoL (fun oD n cD o1 o2 k c1 c2 w h0 h1 h2 h3 h4=>Jk4 p (b/256) (b%256) oD n cD (JP d) o1 o2 k c1 c2 _ _ w h0 h1 h2 h3 h4 (by omega) (by omega) hpi)
 generalize Xw p (b/256) (b%256) 0 (JP d) (Jc s S) (Jc s T)=L at*
 have HD:=JoL hd
 have hX:(w.alloc (.cells (spC s S s T p a b f d) 47)).heap[w.heap.size]? =some (.cells (spC s S s T p a b f d) 47 (0,0)):=heap_alloc_new w _
 have HB:Hid (Below w.heap.size w (w.alloc (.cells (spC s S s T p a b f d) 47))):=JoL (Below.all (JoO _ _) _)
 clear hd hip hii hb hpi
 unfold spC at HB hX⊢
 go_enter Tryz.func43,Tryz.ntmps43
 go_wp2_with fail
 obtain⟨b0,hb0⟩:∃b,b=w.heap.size:=⟨_,rfl⟩
 have HB0:=JoL hb0
 rw[←hb0] at hX⊢
 clear hb0
 generalize w.alloc _=y at*
 have hlt:b0<y.heap.size:=(JoM hX).1
 have HY:=JoL hX
 clear hX
 have hc0:y.cell? ⟨b0,34,none⟩=some (.int .u8 p):=cell_of_row _ _ 34 _ _ (0,0) HY.out
 refine JM [.h,.h,.h,.h,.h] [(0,1,0),(1,1,0),(2,1,0)] (fun _ w'=>w'.cell? ⟨b0,34,none⟩=some (.int .u8 p)) [1] [(.w,5),(.q,6)] [(.w,8)] 7 (.cells Qp 149) (by kernel_rfl) (by kernel_rfl) rfl rfl ⟨fun _=>rfl,fun _ _=>by kernel_rfl⟩ (by kernel_rfl) (by kernel_rfl) ?_
 apply Exists.intro
 refine⟨fun wx hbx=>?_,?_,?_⟩
 ·have hxx:=(hbx.block b0 hlt).trans HY.out
  have hbx2:b0<wx.heap.size:=JoP hlt hbx.size
  have c34:wx.cell? ⟨b0,34,none⟩=some (.int .u8 p):=cell_of_row _ _ 34 _ _ (0,0) hxx
  have c38:wx.cell? ⟨b0,38,none⟩=some (.int .i64 d):=cell_of_row _ _ 38 _ _ (0,0) hxx
  clear hxx hbx
  simp only[Jx]
  repeat go_big_quiet_step (fail)
  exact wpQuiet_nil rfl
 ·intro q hq oi hoi
  simp only[List.mem_cons,List.not_mem_nil,or_false] at hq
  rcases hq with rfl|rfl|rfl
  ·cases hoi;exact⟨_,rfl,rfl,fun w2 hw=>by kernel_rfl⟩
  ·cases hoi;exact⟨_,rfl,rfl,fun w2 hw=>by kernel_rfl⟩
  ·cases hoi;exact⟨_,rfl,rfl,fun w2 hw=>by simp[execOp,go_sem,hw]⟩
 simp only[J2,List.getElem?_cons_succ,List.getElem?_cons_zero]
 refine⟨fun v fl w2=>∃r,v=.slice (some ⟨r,0,none⟩) d d∧y.heap.size≤r∧Below y.heap.size y w2∧w2.heap[r]? =some (.cells ((JP d).map (.int .u8)).toArray 5 (0,0))∧∀b',fl=some b'→y.heap.size≤b'∧b'≠r∧w2.heap[b']? =some (.cells Qp 149 (0,0)),?_,?_,?_,?_⟩
 ·rintro fl-
  refine JA.made rfl ?_
  rintro w' ⟨⟨x,rfl⟩,hfb⟩
  refine⟨_,_,Jek _ _ (vx:=.int .i64 d) (vy:=.int .i64 d) (by kernel_rfl) (by kernel_rfl) (Jej x.world d HD.out),x.world.heap.size,rfl,x.below.size,Below.all x.below _,heap_alloc_new _ _,fun b' hb'=>?_⟩
  have h1:=(hfb b' hb')
  have h2:=(JoM h1.2).1
  exact⟨h1.1,by omega,(heap_alloc_old _ _ h2).trans h1.2⟩
 ·rintro v fl g-w2 ⟨r,-,-,h3,-⟩
  exact(Jf h3 hlt _ rfl).trans hc0
 ·rintro-v w2 ⟨r,h1,h2,h3,h4,-⟩
  have hr:=(JoM h4).1
  exact⟨r,h1,h2,Below.all h3 _,(heap_alloc_old _ _ hr).trans h4,fun b' hb'=>by cases hb';exact⟨h3.size,by omega,heap_alloc_new _ _⟩⟩
 rintro v ⟨fl0,w20,r,rfl,-⟩
 refine⟨.agg (QC p 0 0 0 0 0 (some ⟨r,0,none⟩) d d),⟨rfl,fun _=>by kernel_rfl⟩,?_⟩
 intro bs
 refine⟨fun v fl w2=>v=undef∧(y.heap.size≤bs∧y.heap.size≤r∧bs≠r∧Below y.heap.size y w2∧w2.heap[r]? =some (.cells ((JP d).map (.int .u8)).toArray 5 (0,0))∧w2.heap[bs]? =some (.cells (QC p 0 0 0 0 0 (some ⟨r,0,none⟩) d d) 149 (0,0))),?_,fun _ _=>Jz rfl,(fun h=>by cases h),?_⟩
 ·rintro fl rfl
  refine JA.skip rfl ?_
  rintro w' ⟨r',hr',h2,h3,h4,hfb⟩
  obtain rfl:r=r':=by simpa using hr'
  obtain⟨hbge,hne,hbx⟩:=hfb bs rfl
  exact⟨_,Q1 _ w' bs (QC p 0 0 0 0 0 (some ⟨r,0,none⟩) d d) (by kernel_rfl) (by kernel_rfl) (by rw[Jd _ _ _ _ _ hbx];rfl) rfl rfl,hbge,h2,hne,h3.trans (Je _ hbge),(setRow_other _ bs _ _ (fun h=>hne h.symm)).trans h4,Ji hbx⟩
 rintro v ⟨fl2,w22,rfl,-⟩
 rintro zz ⟨-,hbs,hr0,hne,hzz,hzr,hsz⟩
 have HZ:=JoL hzz
 have HS:=JoL hsz
 have HR:=JoL hzr
 have HX:=JoL ((hzz.block b0 hlt).trans HY.out)
 have hbz:b0<zz.heap.size:=JoP hlt hzz.size
 have hsz':bs<zz.heap.size:=(JoM hsz).1
 have hrz:r<zz.heap.size:=(JoM hzr).1
 have hne0:bs≠b0:=by omega
 have c34:zz.cell? ⟨b0,34,none⟩=some (.int .u8 p):=cell_of_row _ _ 34 _ _ (0,0) HX.out
 clear hzz hsz hzr fl0 fl2 w20 w22 HY hc0
 unfold QV
 simp only[Act.put,List.setIfInBounds_toArray,List.set_cons_succ,List.set_cons_zero]
 go_wp2_with fail
 refine JoN (HP.out zz) ?_
 rintro e z2 ⟨rfl,hb2⟩
 have HZ2:=JoL (JoE HZ.out hb2)
 have HX2:=JoL ((hb2.block b0 hbz).trans HX.out)
 have HS2:=JoL ((hb2.block bs hsz').trans HS.out)
 have HR2:=JoL ((hb2.block r hrz).trans HR.out)
 clear hb2 c34 HX HS HR HZ
 have hb02:b0<z2.heap.size:=(JoM HX2.out).1
 have hbs2:bs<z2.heap.size:=(JoM HS2.out).1
 have hr2:r<z2.heap.size:=(JoM HR2.out).1
 have c34:z2.cell? ⟨b0,34,none⟩=some (.int .u8 p):=cell_of_row _ _ 34 _ _ (0,0) HX2.out
 go_wp2_with fail
 refine JoN (HI.out z2) ?_
 rintro e z3 ⟨rfl,hb3⟩
 have HZ3:=JoL (JoE HZ2.out hb3)
 have HX3:=JoL ((hb3.block b0 hb02).trans HX2.out)
 have HS3:=JoL ((hb3.block bs hbs2).trans HS2.out)
 have HR3:=JoL ((hb3.block r hr2).trans HR2.out)
 clear hb3 c34 HX2 HS2 HR2 HZ2 hb02 hbs2 hr2
 go_wp2_with fail
 have hb02:b0<z3.heap.size:=(JoM HX3.out).1
 have hbs2:bs<z3.heap.size:=(JoM HS3.out).1
 have hr2:r<z3.heap.size:=(JoM HR3.out).1
 have hw1:IntKind.u8.wrap (b/256)=b/256:=by rw[IntKind.wrap_u8];have:=HBB.out;omega
 have hw2:IntKind.u8.wrap b=b%256:=by rw[IntKind.wrap_u8]
 have bb0:=HBB.out.1
 have bb1:=HBB.out.2
 refine JZ [.h,.h,.h,.h,.h,.h,.h,.h,.h,.h] [(5,1,0),(6,1,0),(7,1,0),(8,1,0)] (fun _ w'=>w'.cell? ⟨b0,36,none⟩=some (.int .u16 b)) [1] [(.w,10),(.q,11),(.w,12)] (by kernel_rfl) (by kernel_rfl) (by kernel_rfl) (by kernel_rfl) ?_
 apply Exists.intro
 refine⟨fun wx hbx=>?_,?_,?_⟩
 ·have hxx:=(hbx.block b0 hb02).trans HX3.out
  have e36:wx.cell? ⟨b0,36,none⟩=some (.int .u16 b):=cell_of_row _ _ 36 _ _ (0,0) hxx
  have hbx2:b0<wx.heap.size:=JoP hb02 hbx.size
  clear hxx hbx
  simp only[Jx]
  repeat go_big_quiet_step (fail)
  exact wpQuiet_nil rfl
 ·intro q hq oi hoi
  simp only[List.mem_cons,List.not_mem_nil,or_false] at hq
  rcases hq with rfl|rfl|rfl|rfl
  ·cases hoi;exact⟨_,rfl,rfl,fun w2 hw=>by kernel_rfl⟩
  ·cases hoi;exact⟨_,rfl,rfl,fun w2 hw=>by kernel_rfl⟩
  ·cases hoi;exact⟨_,rfl,rfl,fun w2 hw=>by simp[execOp,go_sem,hw]⟩
  ·cases hoi;exact⟨_,rfl,rfl,fun w2 hw=>by simp[execOp,go_sem,hw2]⟩
 have d36:z3.cell? ⟨b0,36,none⟩=some (.int .u16 b):=cell_of_row _ _ 36 _ _ (0,0) HX3.out
 simp only[J2,List.getElem?_cons_succ,List.getElem?_cons_zero]
 refine⟨fun v fq w2=>v=undef∧OBx z3 bs (QC p 0 0 0 (b/256) 0 (some ⟨r,0,none⟩) d d) 149 w2,?_,?_,(fun h=>by cases h),?_⟩
 ·rintro fl rfl
  refine JA.skip rfl ?_
  rintro w' ⟨⟨x,rfl⟩,-⟩
  have hob:OBx z3 bs (QC p 0 0 0 0 0 (some ⟨r,0,none⟩) d d) 149 x.world:=OBx.later ⟨HS3.out,JoO _ _,fun _ _ _=>rfl⟩ x.below
  have g1:x.world.cell? ⟨bs,9,none⟩=some (.int .u8 0):=cell_of_row _ _ 9 _ _ (0,0) hob.1
  have g2:=frozen_of_row _ _ 9 _ _ hob.1
  refine⟨_,?_,hob.set 9 (.int .u8 (b/256))⟩
  simp[execOp,go_sem,g1,g2]
 ·rintro v fq g-w2 ⟨-,hob⟩
  have:=(hob.2.2 b0 (fun h=>hne0 h.symm) hb02)
  exact(World.cell?_of_block (a:=⟨b0,36,none⟩) this).trans d36
 rintro v ⟨gl0,w30,rfl,-⟩
 refine⟨.pointer (some ⟨bs,10,none⟩),⟨rfl,fun _=>by kernel_rfl⟩,?_⟩
 refine⟨fun v fq w2=>v=undef∧OBx z3 bs (QC p 0 0 0 (b/256) (b%256) (some ⟨r,0,none⟩) d d) 149 w2,?_,fun _ _=>Jz rfl,(fun h=>by cases h),?_⟩
 ·rintro fl rfl
  refine JA.skip rfl ?_
  rintro w' ⟨-,hob⟩
  have g1:w'.cell? ⟨bs,10,none⟩=some (.int .u8 0):=cell_of_row _ _ 10 _ _ (0,0) hob.1
  have g2:=frozen_of_row _ _ 10 _ _ hob.1
  refine⟨_,?_,hob.set 10 (.int .u8 (b%256))⟩
  simp[execOp,go_sem,g1,g2]
 rintro v ⟨gl2,w32,rfl,-⟩
 rintro z4 ⟨-,hob⟩
 have HS4:=JoL hob.1
 have HX4:=JoL ((hob.2.2 b0 (fun h=>hne0 h.symm) hb02).trans HX3.out)
 have HR4:=JoL ((hob.2.2 r (fun h=>hne h.symm) hr2).trans HR3.out)
 have HZ4:Hid (Below y.heap.size y z4):=JoL (HZ3.out.trans (hob.2.1.mono hbs))
 clear hob d36 gl0 gl2 w30 w32 HS3 HX3 HR3 HZ3 hb02 hbs2 hr2 hw1 hw2 bb0 bb1
 have HSZ:Hid ((QC p 0 0 0 (b/256) (b%256) (some ⟨r,0,none⟩) d d).size=12):=JoL rfl
 simp only[Act.put,List.setIfInBounds_toArray,List.set_cons_succ,List.set_cons_zero]
 go_wp2_with fail
 have hb04:b0<z4.heap.size:=(JoM HX4.out).1
 have hbs4:bs<z4.heap.size:=(JoM HS4.out).1
 obtain⟨k1,hk1⟩:∃m,(Jc s S).length=m:=⟨_,rfl⟩
 have hk2:(Jc s T).length=k1:=by rw[Jm,←hk1,Jm]
 have HK:Hid (k1=4∨k1=16):=JoL (by rw[←hk1,Jm];cases s;exact .inl rfl;exact .inr rfl)
 have HA1:Hid (∀w',Calls Tryz.prog 64 #[adV s S] w' (Jht w' k1 (Jc s S))):=JoL fun w'=>(bytes_any s S w').mono fun _ _ h=>h.n hk1 (JN hS s)
 have HA2:Hid (∀w',Calls Tryz.prog 64 #[adV s T] w' (Jht w' k1 (Jc s T))):=JoL fun w'=>(bytes_any s T w').mono fun _ _ h=>h.n hk2 (JN hT s)
 have HRZ:=JoL (Jel HR4.out HD.out)
 refine JZ [.h,.h,.h,.h,.w,.h,.h,.h] [(0,2,0),(5,1,0),(6,1,0),(7,1,0)] (fun _ w'=>Jb w' bs 0 12=QC p 0 0 0 (b/256) (b%256) (some ⟨r,0,none⟩) d d∧Jb w' b0 17 17=(JoX s T:Array Value)) [2] [(.w,4),(.w,8),(.w,9),(.q,10),(.q,11),(.q,12),(.q,13)] (by kernel_rfl) (by kernel_rfl) (by kernel_rfl) (by kernel_rfl) ?_
 apply Exists.intro
 refine⟨fun wx hbx=>?_,?_,?_⟩
 ·have hxx:=(hbx.block b0 hb04).trans HX4.out
  have hss:=(hbx.block bs hbs4).trans HS4.out
  have hbx2:b0<wx.heap.size:=JoP hb04 hbx.size
  have hbx3:bs<wx.heap.size:=JoP hbs4 hbx.size
  have p0:Jb wx bs 0 12=QC p 0 0 0 (b/256) (b%256) (some ⟨r,0,none⟩) d d:=Ja hss rfl
  have hld:∀x:JG wx,Q9 Tryz.prog 149 x.world (.pointer (some ⟨bs,0,none⟩))=.ok (.value (.agg (QC p 0 0 0 (b/256) (b%256) (some ⟨r,0,none⟩) d d))) x.world:=fun x=>by
   have e:Jb x.world bs 0 12=_:=(JG.part x bs 0 12 hbx3).trans p0
   rw[QZ x.world bs 0 (by rw[e];rfl),e]
  have p1:Jb wx b0 0 17=(JoX s S:Array Value):=by rw[Jl _ _ _ _ _ _ _ hxx];simp
  have p2:Jb wx b0 17 17=(JoX s T:Array Value):=by rw[Jl _ _ _ _ _ _ _ hxx];simp
  clear hxx hss hbx
  simp only[Jx]
  repeat go_big_quiet_step (fail)
  exact wpQuiet_nil rfl
 ·intro q hq oi hoi
  simp only[List.mem_cons,List.not_mem_nil,or_false] at hq
  rcases hq with rfl|rfl|rfl|rfl
  ·cases hoi;exact⟨_,rfl,rfl,fun w2 hw=>Jd7 _ w2 bs _ (by kernel_rfl) hw.1 rfl⟩
  ·cases hoi;exact⟨_,rfl,rfl,fun w2 hw=>by kernel_rfl⟩
  ·cases hoi;exact⟨_,rfl,rfl,fun w2 hw=>by kernel_rfl⟩
  ·cases hoi;exact⟨_,rfl,rfl,fun w2 hw=>by simp[execOp,go_sem,hw.2]⟩
 have q0:Jb z4 bs 0 12=QC p 0 0 0 (b/256) (b%256) (some ⟨r,0,none⟩) d d:=Ja HS4.out rfl
 have q2:Jb z4 b0 17 17=(JoX s T:Array Value):=by rw[Jl _ _ _ _ _ _ _ HX4.out];simp
 simp only[J2,List.getElem?_cons_succ,List.getElem?_cons_zero]
 refine⟨fun v fl w2=>∃o1 c1,v=.slice o1 k1 c1∧Jg w2 o1 k1 c1 (Jc s S)∧Below z4.heap.size z4 w2,?_,?_,(fun h=>by cases h),?_⟩
 ·rintro fl rfl
  refine⟨rfl,fun w' hw'=>.inr ⟨64,#[adV s S],by kernel_rfl,?_⟩⟩
  obtain⟨⟨x,rfl⟩,-⟩:=hw'
  refine(HA1.out x.world).mono ?_
  rintro e w2 ⟨o1,c1,rfl,h1,hb⟩
  exact⟨_,rfl,o1,c1,rfl,h1,JoE x.below hb⟩
 ·rintro v fq g-w2 ⟨o1,c1,-,-,hb⟩
  exact⟨(JL hb bs 0 12 hbs4).trans q0,(JL hb b0 17 17 hb04).trans q2⟩
 rintro v ⟨gl0,w30,o1,c1,rfl,-⟩
 refine⟨fun v fl w2=>∃o2 c2,v=.slice o2 k1 c2∧Jg w2 o1 k1 c1 (Jc s S)∧Jg w2 o2 k1 c2 (Jc s T)∧Below z4.heap.size z4 w2,?_,?_,(fun h=>by cases h),?_⟩
 ·rintro fl rfl
  refine⟨rfl,fun w' hw'=>.inr ⟨64,#[adV s T],by kernel_rfl,?_⟩⟩
  obtain⟨o1',c1',he,h1,hb1⟩:=hw'
  obtain⟨rfl,rfl⟩:o1=o1'∧c1=c1':=by simpa using he
  refine(HA2.out w').mono ?_
  rintro e w2 ⟨o2,c2,rfl,h2,hb⟩
  exact⟨_,rfl,o2,c2,rfl,h1.below hb,h2,JoE hb1 hb⟩
 ·rintro v fq g-w2 ⟨o2,c2,-,-,-,hb⟩
  exact⟨(JL hb bs 0 12 hbs4).trans q0,(JL hb b0 17 17 hb04).trans q2⟩
 rintro v ⟨gl1,w31,o2,c2,rfl,-⟩
 refine⟨fun v fl w2=>∃oP cP,v=.tuple #[.slice oP L.length cP,.int .i64 0]∧JQ w2 z4.heap.size 1 oP L.length cP (L.map (.int .u8))∧Below z4.heap.size z4 w2,?_,fun _ _=>Jz rfl,(fun h=>by cases h),?_⟩
 ·rintro fl rfl
  refine⟨rfl,fun w' hw'=>.inr ⟨94,#[.agg (QC p 0 0 0 (b/256) (b%256) (some ⟨r,0,none⟩) d d),.slice o1 k1 c1,.slice o2 k1 c2],by kernel_rfl,?_⟩⟩
  obtain⟨o2',c2',he,h1,h2,hb1⟩:=hw'
  obtain⟨rfl,rfl⟩:o2=o2'∧c2=c2':=by simpa using he
  refine(HPU.out _ d d o1 o2 k1 c1 c2 w' (HRZ.out.below hb1) h1 h2 HK.out (by have:=HD.out;omega)).mono ?_
  rintro e w2 ⟨oP,cP,rfl,ho,hb⟩
  exact⟨_,rfl,oP,cP,rfl,ho.mono hb1.size,JoE hb1 hb⟩
 rintro v ⟨gl2,w32,oP,cP,rfl,-⟩
 refine⟨.slice oP L.length cP,⟨rfl,fun _=>by kernel_rfl⟩,?_⟩
 refine⟨.int .i64 0,⟨rfl,fun _=>by kernel_rfl⟩,?_⟩
 refine⟨.slice oP L.length cP,⟨rfl,fun _=>by kernel_rfl⟩,?_⟩
 refine⟨.int .i64 0,⟨rfl,fun _=>by kernel_rfl⟩,?_⟩
 rintro y3 ⟨oP',cP',he,hoP,hb3⟩
 obtain⟨rfl,rfl⟩:oP=oP'∧cP=cP':=by simpa using he
 have HOP:=JoL hoP
 have HB3:=JoL hb3
 clear he gl0 gl1 gl2 w30 w31 w32 q0 q2 hk1 hk2 hoP hb3 hb04 hbs4 hbz hsz' hrz hlt hne hne0 hbs hr0 hS hT
 simp only[Act.put,List.setIfInBounds_toArray,List.set_cons_succ,List.set_cons_zero]
 go_wp2_with fail
 go_ret2
 exact⟨_,_,rfl,HOP.out.mono (Nat.le_trans HB.out.size HZ4.out.size),HB.out.trans ((HZ4.out.trans (HB3.out.mono HZ4.out.size)).mono HB.out.size)⟩
theorem JnG {l:List Int}(h:l.length=4):∃a b c d,l=[a,b,c,d]:=by
 match l,h with
 |[a,b,c,d],_=>exact⟨a,b,c,d,rfl⟩
theorem Ji7 (tot fr p:Int)(mf:Bool)(A D body t:List Int)(hA:A.length=4)(hD:D.length=4)(ht:tot=20+(body.length:Int))(hT:tot<65536)(hf:0≤fr∧fr<8192)(l:List Int)(hl:l=ZP ⟨0,tot,0,false,mf,fr,64,p,A,D,[]⟩++(body++t)):
 l.length=20+(body.length+t.length)∧l.getD 0 0/16=4∧Xd l=0∧JE l=0∧Qm l=⟨false,JX A,JX D,p,tot,decide (0<fr),mf,body⟩:=by
 obtain⟨a0,a1,a2,a3,rfl⟩:=JnG hA
 obtain⟨d0,d1,d2,d3,rfl⟩:=JnG hD
 have hx:0≤Xq ⟨0,tot,0,false,mf,fr,64,p,[a0,a1,a2,a3],[d0,d1,d2,d3],[]⟩∧Xq ⟨0,tot,0,false,mf,fr,64,p,[a0,a1,a2,a3],[d0,d1,d2,d3],[]⟩<16384∧Xq ⟨0,tot,0,false,mf,fr,64,p,[a0,a1,a2,a3],[d0,d1,d2,d3],[]⟩%8192=fr∧(Xq ⟨0,tot,0,false,mf,fr,64,p,[a0,a1,a2,a3],[d0,d1,d2,d3],[]⟩/8192%2==1)=mf:=by
  unfold Xq
  cases mf
  ·simp only[Bool.false_eq_true,if_false]
   refine⟨by omega,by omega,by omega,?_⟩
   rw[show(0+0+fr)/8192%2=0 by omega];rfl
  ·simp only[Bool.false_eq_true,if_false,if_true]
   refine⟨by omega,by omega,by omega,?_⟩
   rw[show(0+8192+fr)/8192%2=1 by omega];rfl
 have hw:Q7 (ZP ⟨0,tot,0,false,mf,fr,64,p,[a0,a1,a2,a3],[d0,d1,d2,d3],[]⟩)=true:=by
  unfold ZP Qb
  refine Jje _ _ (by simp[be2]) ?_
  simp only[be2,List.cons_append,List.nil_append,Zy]
  exact JoP (show 0<(64+((20+([]:List Int).length:Nat):Int)/4).toNat*256 by decide) (Nat.le_add_right _ _)
 obtain⟨C,hC⟩:∃C:Int,ZP ⟨0,tot,0,false,mf,fr,64,p,[a0,a1,a2,a3],[d0,d1,d2,d3],[]⟩=Qb ⟨0,tot,0,false,mf,fr,64,p,[a0,a1,a2,a3],[d0,d1,d2,d3],[]⟩ C:=⟨_,by rw[ZP]⟩
 have hc:ZP ⟨0,tot,0,false,mf,fr,64,p,[a0,a1,a2,a3],[d0,d1,d2,d3],[]⟩=[69,0,tot/256%256,tot%256,0,0,Xq ⟨0,tot,0,false,mf,fr,64,p,[a0,a1,a2,a3],[d0,d1,d2,d3],[]⟩/256%256,Xq ⟨0,tot,0,false,mf,fr,64,p,[a0,a1,a2,a3],[d0,d1,d2,d3],[]⟩%256,64,p,C/256%256,C%256,a0,a1,a2,a3,d0,d1,d2,d3]:=by
  rw[hC]
  unfold Qb be2
  simp only[List.cons_append,List.nil_append,List.length_nil]
  rfl
 have h20:(ZP ⟨0,tot,0,false,mf,fr,64,p,[a0,a1,a2,a3],[d0,d1,d2,d3],[]⟩).length=20:=by rw[hc];rfl
 have htake:l.take 20=ZP ⟨0,tot,0,false,mf,fr,64,p,[a0,a1,a2,a3],[d0,d1,d2,d3],[]⟩:=by rw[hl];exact List.take_left' h20
 have hdrop:l.drop 20=body++t:=by rw[hl];exact List.drop_left' h20
 have hlen:l.length=20+(body.length+t.length):=by rw[hl,List.length_append,h20,List.length_append]
 generalize Xq ⟨0,tot,0,false,mf,fr,64,p,[a0,a1,a2,a3],[d0,d1,d2,d3],[]⟩=X at*
 rw[←htake] at hw
 rw[hc] at hl htake
 have e0:l.getD 0 0=69:=by rw[hl];rfl
 have e9:l.getD 9 0=p:=by rw[hl];rfl
 have e2:w2 l 2=tot:=by
  have:w2 l 2=tot/256%256*256+tot%256:=by rw[hl];rfl
  omega
 have e6:w2 l 6=X:=by
  have:w2 l 6=X/256%256*256+X%256:=by rw[hl];rfl
  omega
 have hh:ipHl l=20:=by unfold ipHl;rw[e0];rfl
 have s1:(l.drop 12).take 4=[a0,a1,a2,a3]:=by rw[hl];rfl
 have s2:(l.drop 16).take 4=[d0,d1,d2,d3]:=by rw[hl];rfl
 have hE:Xd l=0:=by
  unfold Xd
  rw[if_neg (by omega),if_neg (by rw[e0];decide),hh,if_neg (by omega),if_neg (by omega),if_neg (by rw[e6,e2];omega),if_neg (by rw[hw];decide)]
 have hb:JaC l=body:=by
  unfold JaC
  rw[hh,hdrop,e2,show tot.toNat-20=body.length by omega]
  exact List.take_left' rfl
 refine⟨hlen,by rw[e0];rfl,hE,?_,?_⟩
 ·unfold JE
  rw[hE,if_neg (by decide),e2,if_neg (by omega)]
 ·unfold Qm
  rw[s1,s2,e9,e2,e6,hb,hx.2.2.1,hx.2.2.2]
theorem Jla {l:List Int}(h:l.length=16):∃a b c d e f g h i j k m n o p q,l=[a,b,c,d,e,f,g,h,i,j,k,m,n,o,p,q]:=by
 match l,h with
 |[a,b,c,d,e,f,g,h,i,j,k,m,n,o,p,q],_=>exact⟨a,b,c,d,e,f,g,h,i,j,k,m,n,o,p,q,rfl⟩
def Jhu (n nx:Int)(A D:List Int):List Int:=Bits.be4 1610612736++be2 n++[nx,64]++A++D
theorem Jlb (n nx:Int)(A D X:List Int)(hA:A.length=16)(hD:D.length=16)(hn:0≤n∧n<65536)(l:List Int)(hl:l=Jhu n nx A D++X):
 l.length=40+X.length∧l.getD 0 0/16=6∧Z8 l=0∧l.getD 6 0=nx∧l.getD 7 0=64∧w2 l 4=n∧(l.drop 8).take 16=A∧(l.drop 24).take 16=D∧l.drop 40=X:=by
 obtain⟨a0,a1,a2,a3,a4,a5,a6,a7,a8,a9,a10,a11,a12,a13,a14,a15,rfl⟩:=Jla hA
 obtain⟨d0,d1,d2,d3,d4,d5,d6,d7,d8,d9,d10,d11,d12,d13,d14,d15,rfl⟩:=Jla hD
 have hl':l=96::0::0::0::(n/256%256)::(n%256)::nx::64::a0::a1::a2::a3::a4::a5::a6::a7::a8::a9::a10::a11::a12::a13::a14::a15::d0::d1::d2::d3::d4::d5::d6::d7::d8::d9::d10::d11::d12::d13::d14::d15::X:=by rw[hl];rfl
 clear hl
 have hlen:l.length=40+X.length:=by rw[hl'];simp only[List.length_cons];omega
 have e0:l.getD 0 0=96:=by rw[hl'];rfl
 have e4:w4 l 0=1610612736:=by
  have:w4 l 0=(96*256+0)*65536+(0*256+0):=by rw[hl'];rfl
  rw[this];rfl
 refine⟨hlen,by rw[e0];rfl,?_,by rw[hl'];rfl,by rw[hl'];rfl,?_,by rw[hl'];rfl,by rw[hl'];rfl,by rw[hl'];rfl⟩
 ·unfold Z8
  rw[if_neg (by omega),e4,if_neg (by decide)]
 ·have:w2 l 4=n/256%256*256+n%256:=by rw[hl'];rfl
  omega
theorem Jlc (p:Int)(A D body t:List Int)(hA:A.length=16)(hD:D.length=16)(hn:(body.length:Int)<65536)(hp:J8 p=false)(l:List Int)(hl:l=Jhu (body.length:Nat) p A D++(body++t)):
 l.length=40+(body.length+t.length)∧l.getD 0 0/16=6∧JO l=0∧XT l=.done [] p 0∧QW l=⟨true,JX A,JX D,p,40+(body.length:Nat),false,false,body⟩:=by
 obtain⟨hlen,h6,he,e6,e7,e4,s1,s2,hd⟩:=Jlb _ p A D (body++t) hA hD (by omega) l hl
 rw[List.length_append] at hlen
 have hch:XT l=.done [] p 0:=by
  unfold XT
  rw[e6]
  unfold Jaw
  rw[hp];rfl
 have hbody:XV l=body:=by
  unfold XV JnO
  rw[hch,hd,e4]
  simp only[List.drop_zero,Int.toNat_natCast]
  exact List.take_left' rfl
 refine⟨hlen,h6,?_,hch,?_⟩
 ·unfold JO
  rw[he,if_neg (by decide),e4,if_neg (by omega),hch]
 ·unfold QW XP XU
  rw[s1,s2,e4,hbody,hch]
  rfl
theorem Ji8 (a b f:Int)(d src dst:List Int):∃c:Int,Xw 6 a b f d src dst=a/256%256::a%256::b/256%256::b%256::0::0::0::0::0::0::0::0::80::f::0::0::c/256%256::c%256::0::0::d:=⟨_,rfl⟩
theorem Jld (a b f:Int)(d src dst:List Int):∃c:Int,Xw 17 a b f d src dst=a/256%256::a%256::b/256%256::b%256::((8+d.length:Nat):Int)/256%256::((8+d.length:Nat):Int)%256::c/256%256::c%256::d:=⟨_,rfl⟩
theorem Jiu (p a b f:Int)(hp:p=1∨p=58)(d src dst:List Int):∃c:Int,Xw p a b f d src dst=a::b::c/256%256::c%256::d:=by
 rcases hp with rfl|rfl
 ·exact⟨_,rfl⟩
 ·exact⟨_,rfl⟩
theorem Jle (a b f:Int)(ha:0≤a∧a<65536)(hb:0≤b∧b<65536)(d src dst:List Int)(hd:d.length≤2048):
 ZC 6 (Xw 6 a b f d src dst)=0∧(Jcw 6 (Xw 6 a b f d src dst)).data=d∧(Jcw 6 (Xw 6 a b f d src dst)).flags=f∧Ju 6 (Xw 6 a b f d src dst)=⟨0,a,b,f⟩:=by
 obtain⟨c,hl⟩:=Ji8 a b f d src dst
 generalize Xw 6 a b f d src dst=l at*
 have hlen:l.length=20+d.length:=by rw[hl];simp only[List.length_cons];omega
 have hN:Jkc l=20:=by rw[hl];rfl
 have hE:ZC 6 l=0:=by
  unfold ZC
  rw[show Zo 6=20 from rfl,if_neg (by decide),if_neg (by omega),if_neg (by omega),if_pos rfl,hN,if_neg (by decide),if_neg (by omega)]
 have e0:w2 l 0=a:=by
  have:w2 l 0=a/256%256*256+a%256:=by rw[hl];rfl
  omega
 have e2:w2 l 2=b:=by
  have:w2 l 2=b/256%256*256+b%256:=by rw[hl];rfl
  omega
 have e13:l.getD 13 0=f:=by rw[hl];rfl
 have hS:Jcw 6 l=⟨6,a,b,w4 l 4,w4 l 8,f,w2 l 14,w2 l 18,(l.take 20).drop 20,0,0,d⟩:=by
  unfold Jcw
  rw[if_pos rfl,e0,e2,e13,hN]
  have:l.drop 20=d:=by rw[hl];rfl
  rw[this]
 refine⟨hE,by rw[hS],by rw[hS],?_⟩
 unfold Ju Qf
 rw[hE,if_pos rfl,hS]
 rfl
theorem Jlf (a b f:Int)(ha:0≤a∧a<65536)(hb:0≤b∧b<65536)(d src dst:List Int)(hd:d.length≤2048):
 ZC 17 (Xw 17 a b f d src dst)=0∧(Jcw 17 (Xw 17 a b f d src dst)).data=d∧(Jcw 17 (Xw 17 a b f d src dst)).flags=0∧Ju 17 (Xw 17 a b f d src dst)=⟨0,a,b,0⟩:=by
 obtain⟨c,hl⟩:=Jld a b f d src dst
 generalize Xw 17 a b f d src dst=l at*
 have hlen:l.length=8+d.length:=by rw[hl];simp only[List.length_cons];omega
 have e4:w2 l 4=((8+d.length:Nat):Int):=by
  have:w2 l 4=((8+d.length:Nat):Int)/256%256*256+((8+d.length:Nat):Int)%256:=by rw[hl];rfl
  omega
 have hE:ZC 17 l=0:=by
  unfold ZC
  rw[show Zo 17=8 from rfl,if_neg (by decide),if_neg (by omega),if_neg (by omega),if_neg (by decide),if_pos rfl,e4,if_neg (by omega),if_neg (by omega)]
 have e0:w2 l 0=a:=by
  have:w2 l 0=a/256%256*256+a%256:=by rw[hl];rfl
  omega
 have e2:w2 l 2=b:=by
  have:w2 l 2=b/256%256*256+b%256:=by rw[hl];rfl
  omega
 have hS:Jcw 17 l=⟨17,a,b,0,0,0,0,0,[],0,0,d⟩:=by
  unfold Jcw
  rw[if_neg (by decide),if_pos rfl,e0,e2,e4,Int.toNat_natCast,List.take_of_length_le (by omega)]
  have:l.drop 8=d:=by rw[hl];rfl
  rw[this]
 refine⟨hE,by rw[hS],by rw[hS],?_⟩
 unfold Ju Qf
 rw[hE,if_pos rfl,hS]
 rfl
theorem Jiv (p a b f:Int)(hp:p=1∨p=58)(d src dst:List Int)(hd:d.length≤2048):
 ZC p (Xw p a b f d src dst)=0∧(Jcw p (Xw p a b f d src dst)).data=d∧(Jcw p (Xw p a b f d src dst)).flags=0∧Ju p (Xw p a b f d src dst)=⟨0,0,a*256+b,0⟩:=by
 obtain⟨c,hl⟩:=Jiu p a b f hp d src dst
 generalize Xw p a b f d src dst=l at*
 have hlen:l.length=4+d.length:=by rw[hl];simp only[List.length_cons];omega
 have h6:¬p=6:=by omega
 have h17:¬p=17:=by omega
 have hE:ZC p l=0:=by
  unfold ZC Zo
  rw[if_neg h6,if_neg h17,if_pos hp,if_neg (by decide),if_neg (by omega),if_neg (by omega),if_neg h6,if_neg h17]
 have hS:Jcw p l=⟨p,0,0,0,0,0,0,0,[],a,b,d⟩:=by
  unfold Jcw
  rw[if_neg h6,if_neg h17]
  have h1:l.drop 4=d:=by rw[hl];rfl
  have h2:l.getD 0 0=a:=by rw[hl];rfl
  have h3:l.getD 1 0=b:=by rw[hl];rfl
  rw[h1,h2,h3]
 have hi:JY p=true:=by rcases hp with rfl|rfl<;>rfl
 refine⟨hE,by rw[hS],by rw[hS],?_⟩
 unfold Ju Qf
 rw[hE,if_pos rfl,hS,hi]
 rfl
theorem Z5 {s:Bool}{B:Nat→Int}(hr:JW s B=true)(i:Nat)(hi:i<16):JX (Jc s B) i=B i:=by
 by_cases h:i<(JbU s).toNat
 ·exact JdI s B i h
 ·cases s
  ·rw[Jfr (Jm false B) i (by omega),XS.1 hr i (by simpa[JbU] using h) hi]
  ·exact absurd hi (by simpa[JbU] using h)
theorem Jcn {x:Bool}{S S' T T':Nat→Int}{p a b n f:Int}{g:Bool}(hS:∀i,i<16→S' i=S i)(hT:∀i,i<16→T' i=T i):JaO ⟨x,S',T',p,a,b,n,f,g⟩=JaO ⟨x,S,T,p,a,b,n,f,g⟩:=by
 unfold JaO
 simp only
 rw[hS 0 (by decide),hS 1 (by decide),hS 2 (by decide),hS 3 (by decide),hS 4 (by decide),hS 5 (by decide),hS 6 (by decide),hS 7 (by decide),hS 8 (by decide),hS 9 (by decide),hS 10 (by decide),hS 11 (by decide),hS 12 (by decide),hS 13 (by decide),hS 14 (by decide),hS 15 (by decide),
  hT 0 (by decide),hT 1 (by decide),hT 2 (by decide),hT 3 (by decide),hT 4 (by decide),hT 5 (by decide),hT 6 (by decide),hT 7 (by decide),hT 8 (by decide),hT 9 (by decide),hT 10 (by decide),hT 11 (by decide),hT 12 (by decide),hT 13 (by decide),hT 14 (by decide),hT 15 (by decide)]
structure JnH (s:Sp):Prop where
 right:Jv s.k=true
 S:JW s.k.s s.k.S=true
 T:JW s.k.t s.k.T=true
 st:s.k.s=s.k.t
 plain:ZM s.k.p s.k.a s.k.b=true
 chain:s.k.s=true→J8 s.k.p=false
 flags:s.k.p≠6→s.f=0
 n0:0≤s.n
 n1:s.n≤2048
 len:(QH s++Jo s).length≤2048
 is:spL s=QH s++Jo s
theorem XD {s:Sp}(he:QI s=0):JnH s:=by
 have hL:spL s=QH s++Jo s:=by unfold spL;rw[if_pos he]
 unfold QI at he
 by_cases h1:JcF s=true
 ·rw[if_pos h1] at he;cases he
 rw[if_neg h1] at he
 by_cases h2:2048<s.n
 ·rw[if_pos h2] at he;cases he
 rw[if_neg h2] at he
 by_cases h3:2048<(QH s++Jo s).length
 ·rw[if_pos h3] at he;cases he
 unfold JcF at h1
 simp only[Bool.or_eq_true,Bool.and_eq_true,Bool.not_eq_true',decide_eq_true_eq,bne_iff_ne,not_or,not_and,Bool.not_eq_false,Bool.not_eq_true,Decidable.not_not] at h1
 obtain⟨hr,hc,hf,hn⟩:=h1
 have hr':=hr
 unfold Jv at hr'
 simp only[Bool.and_eq_true,beq_iff_eq] at hr'
 exact⟨hr,hr'.1,hr'.2.1,hr'.2.2.1,hr'.2.2.2,hc,fun h=>Decidable.byContradiction fun h'=>h (hf h'),by omega,by omega,by omega,hL⟩
theorem Jco (s:Sp):(JP s.n.toNat).length=s.n.toNat:=by simp[JP]
theorem JnI {s:Sp}(ho:Jey s)(hy:JnH s)(o:JcE)(hp:o.proto=s.k.p)(hf:o.frag=false)(hm:o.more=false)(hb:o.body=Jo s):JbQ o=⟨0,s.k.a,s.k.b,s.f⟩:=by
 have h0:=hy.n0
 have h1:=hy.n1
 have hpl:=hy.plain
 have hfl:=hy.flags
 have hz:(JP s.n.toNat).length≤2048:=by rw[Jco];omega
 unfold JbQ
 rw[hp,hf,hm,hb]
 unfold Jo
 by_cases hP:JS s.k.p=true
 ·rw[if_pos (by rw[hP];rfl),if_neg (by decide)]
  simp only
  rw[if_pos hP]
  rcases(by simpa[JS] using hP:s.k.p=6∨s.k.p=17) with h|h
  ·rw[h];exact(Jle _ _ _ ho.k.a ho.k.b _ _ _ hz).2.2.2
  ·rw[h,(Jlf _ _ _ ho.k.a ho.k.b _ _ _ hz).2.2.2,hfl (by omega)]
 by_cases hI:JY s.k.p=true
 ·rw[if_pos (by rw[hI];simp),if_neg (by decide)]
  simp only
  rw[if_neg hP,if_pos hI]
  have hi:s.k.p=1∨s.k.p=58:=by simpa[JY] using hI
  rw[(Jiv _ _ _ _ hi _ _ _ hz).2.2.2,hfl (by omega)]
  have ha:s.k.a=0:=by
   unfold ZM at hpl
   simp only[Bool.not_eq_true] at hP
   rw[hP] at hpl
   simpa using(by simpa using hpl:s.k.a=0∧_).1
  have hb:=ho.k.b
  rw[ha,show s.k.b/256*256+s.k.b%256=s.k.b by omega]
 ·simp only[Bool.not_eq_true] at hP hI
  rw[if_neg (by rw[hP,hI];simp)]
  unfold ZM at hpl
  rw[hP,hI] at hpl
  have:s.k.a=0∧s.k.b=0:=by simpa using hpl
  have h6:s.k.p≠6:=fun h=>by rw[h] at hP;cases hP
  rw[this.1,this.2,hfl h6]
theorem Jnj {l:List Int}{o:JcE}{u:Jh8}(h0:l.length≠0)(hlen:l.length≤2048)(h4:l.getD 0 0/16=4)(he:JE l=0)(ho:Qm l=o)(hu:JbQ o=u)(hue:u.err=0):Qq l=0∧Jkd l=Jjt o u:=by
 have hE:Qq l=0:=by
  unfold Qq
  rw[if_neg (by omega),if_neg h0,if_pos h4,he,if_neg (by decide),ho,hu,hue]
 refine⟨hE,?_⟩
 unfold Jkd
 rw[hE,if_neg (by decide),if_pos h4,ho,hu]
theorem JnJ {l:List Int}{o:JcE}{u:Jh8}(h0:l.length≠0)(hlen:l.length≤2048)(h6:l.getD 0 0/16=6)(he:JO l=0)(ho:QW l=o)(hu:JbQ o=u)(hue:u.err=0):Qq l=0∧Jkd l=Jjt o u:=by
 have hE:Qq l=0:=by
  unfold Qq
  rw[if_neg (by omega),if_neg h0,if_neg (by omega),if_pos h6,he,if_neg (by decide),ho,hu,hue]
 refine⟨hE,?_⟩
 unfold Jkd
 rw[hE,if_neg (by decide),if_neg (by omega),ho,hu]
theorem Jds {s:Sp}(hs:s.k.s=false):QH s=ZP ⟨0,20+((Jo s).length:Int),0,false,false,0,64,s.k.p,Jc false s.k.S,Jc false s.k.T,[]⟩:=by
 unfold QH;rw[hs,if_neg (by decide)];rfl
theorem Jcp {s:Sp}(hs:s.k.s=true):QH s=Jhu ((Jo s).length:Nat) s.k.p (Jc true s.k.S) (Jc true s.k.T):=by
 unfold QH;rw[hs,if_pos rfl];rfl
theorem Jlg (h:IpH)(hA:h.src.length=4)(hD:h.dst.length=4)(ho:h.opt=[]):(ZP h).length=20:=by
 unfold ZP Qb
 simp[be2,hA,hD,ho]
theorem Jj0 (n nx:Int)(A D:List Int)(hA:A.length=16)(hD:D.length=16):(Jhu n nx A D).length=40:=by
 simp[Jhu,be2,Bits.be4,hA,hD]
theorem Xs {s:Sp}:(QH s).length=if s.k.s=true then 40 else 20:=by
 cases hs:s.k.s
 ·rw[Jds hs,Jlg _ (Jm _ _) (Jm _ _) rfl];rfl
 ·rw[Jcp hs,Jj0 _ _ _ _ (Jm _ _) (Jm _ _)];rfl
theorem JnK {s:Sp}(ho:Jey s)(he:QI s=0)(t:List Int)(hlen:(spL s++t).length≤2048):
 Qq (spL s++t)=0∧JaO (Jkd (spL s++t))=JaO ⟨s.k.s,s.k.S,s.k.T,s.k.p,s.k.a,s.k.b,(spL s).length,s.f,false⟩:=by
 have hy:=XD he
 have hl:=hy.len
 have hSA:=fun i hi=>Z5 hy.S i hi
 have hTA:=fun i hi=>Z5 hy.T i hi
 have hst:=hy.st
 have hSL:(spL s).length=(QH s).length+(Jo s).length:=by rw[hy.is,List.length_append]
 rw[List.length_append] at hl
 cases hs:s.k.s with
 |false=>
  rw[hs] at hSA
  rw[←hst,hs] at hTA
  have hh:=Jds hs
  have hhl:(QH s).length=20:=by rw[Xs,hs];rfl
  obtain⟨h1,h2,-,h3,h4⟩:=Ji7 (20+((Jo s).length:Int)) 0 s.k.p false (Jc false s.k.S) (Jc false s.k.T) (Jo s) t (Jm _ _) (Jm _ _) rfl (by omega) (by decide) (spL s++t) (by rw[hy.is,hh,List.append_assoc])
  obtain⟨e1,e2⟩:=Jnj (by omega) hlen h2 h3 h4 (JnI ho hy _ rfl rfl rfl rfl) rfl
  refine⟨e1,?_⟩
  rw[e2,hSL,hhl]
  refine(Jcn hSA hTA).trans ?_
  rw[show(((20+(Jo s).length:Nat)):Int)=20+((Jo s).length:Int) by omega]
  rfl
 |true=>
  rw[hs] at hSA
  rw[←hst,hs] at hTA
  have hh:=Jcp hs
  have hhl:(QH s).length=40:=by rw[Xs,hs];rfl
  obtain⟨h1,h2,h3,-,h4⟩:=Jlc s.k.p (Jc true s.k.S) (Jc true s.k.T) (Jo s) t (Jm _ _) (Jm _ _) (by omega) (hy.chain hs) (spL s++t) (by rw[hy.is,hh,List.append_assoc])
  obtain⟨e1,e2⟩:=JnJ (by omega) hlen h2 h3 h4 (JnI ho hy _ rfl rfl rfl rfl) rfl
  refine⟨e1,?_⟩
  rw[e2,hSL,hhl]
  refine(Jcn hSA hTA).trans ?_
  rw[show(((40+(Jo s).length:Nat)):Int)=40+((Jo s).length:Int) by omega]
end
end Go.Proofs.YtkgjbipfhhjlpaaGreatDoor
