import Derived.Test.YtkgjbipfhhjlpaaGreatDoorMf20
set_option linter.unusedVariables false
set_option linter.unusedSimpArgs false
set_option maxRecDepth 100000
set_option maxHeartbeats 32000000
namespace Go.Proofs.YtkgjbipfhhjlpaaGreatDoor
section
open Go.RowKit
theorem JiL (n:Nat):madeCells #[Value.int .u8 0] n=((Qh n).map (.int .u8)).toArray:=by
 apply Array.ext
 ·simp[madeCells,Qh]
 ·intro i h1 h2
  simp[madeCells,Qh,Nat.mod_one]
theorem JdC (w:World)(n:Nat)(hn:n≤2048):(Instr.makeSlice 22 (.int .i64 n) (.int .i64 n)).run Tryz.prog w=.ok (.slice (some ⟨w.heap.size,0,none⟩) n n) (w.alloc (.cells ((Qh n).map (.int .u8)).toArray 5)):=by
 obtain⟨ie,hie,hz,h4,h5⟩:=info_parts Bits.infoU8
 have h:=run_makeSlice (P:=Tryz.prog) (w:=w) 22 5 ie (.int .u8 0) Tryz.underlying22 hie hz .i64 .i64 (n:Int) (n:Int) (by omega) (Int.le_refl _) (by rw[h4];simp;omega) (by rw[h5];omega) (by omega)
 rw[h4,Nat.mul_one,Int.toNat_natCast] at h
 rw[h,←JiL]
 rfl
theorem JdD (ev:Operand→Value)(w:World){dst:Option Tmp}{ty:TypeId}{pos:String}{after:Array Edge}{g:Option (Nat×Bool)}{t:TypeId}{x y:Operand}{vx vy v:Value}{w2:World}(hx:ev x=vx)(hy:ev y=vy)
 (hr:(Instr.makeSlice t vx vy).run Tryz.prog w=.ok v w2):(execOp ev ⟨dst,.makeSlice t x y,ty,pos,after,g⟩).run Tryz.prog w=.ok (.value v) w2:=by
 simp[execOp,hx,hy,hr,Result.andThen]
theorem JdE {w:World}{b n:Nat}{t:TypeId}(h:w.heap[b]? =some (.cells ((Qh n).map (.int .u8)).toArray t (0,0)))(hn:n≤2048):Jj w (some ⟨b,0,none⟩) n n (Qh n):=by
 refine⟨by simp[Qh],JnA _,by unfold maxLen;omega,fun v hv=>?_,.inr ⟨b,0,rfl,(Jnw h).1,fun j hj=>?_⟩⟩
 ·rw[(List.mem_replicate.1 hv).2];decide
 ·rw[Nat.zero_add,cell_of_row _ _ _ _ _ _ h];simp[Qh,hj]
theorem JiM (s:Bool)(S T:Nat→Int)(p a b f:Int)(d:Nat)(hd:d≤2048)(hip:JW p=false)(hii:JU p=false)(w:World):
 Calls Tryz.prog 43 #[.agg (spC s S s T p a b f d)] w (Jq w (Qh d) 0):=by
 have HP:Hid (∀w',Calls Tryz.prog 35 #[p] w' (Jk w' (.bool (JW p)))):=Jnv (fun w'=>Xg p w')
 have HI:Hid (∀w',Calls Tryz.prog 36 #[p] w' (Jk w' (.bool (JU p)))):=Jnv (fun w'=>QJ p w')
 rw[hip] at HP
 rw[hii] at HI
 have HD:=Jnv hd
 have hX:(w.alloc (.cells (spC s S s T p a b f d) 47)).heap[w.heap.size]? =some (.cells (spC s S s T p a b f d) 47 (0,0)):=heap_alloc_new w _
 have HB:Hid (Below w.heap.size w (w.alloc (.cells (spC s S s T p a b f d) 47))):=Jnv (Below.all (Jny _ _) _)
 clear hd hip hii
 unfold spC at HB hX⊢
 go_enter Tryz.func43,Tryz.ntmps43
 go_wp2_with fail
 obtain⟨b0,hb0⟩:∃b,b=w.heap.size:=⟨_,rfl⟩
 have HB0:=Jnv hb0
 rw[←hb0] at hX⊢
 clear hb0
 generalize w.alloc _=y at*
 have hlt:b0<y.heap.size:=(Jnw hX).1
 have HY:=Jnv hX
 clear hX
 have hc0:y.cell? ⟨b0,34,none⟩=some (.int .u8 p):=cell_of_row _ _ 34 _ _ (0,0) HY.out
 refine JG [.h,.h,.h,.h,.h] [(0,1,0),(1,1,0),(2,1,0)] (fun _ w'=>w'.cell? ⟨b0,34,none⟩=some (.int .u8 p)) [1] [(.w,5),(.q,6)] [(.w,8)] 7 (.cells Qo 149) (by kernel_rfl) (by kernel_rfl) rfl rfl ⟨fun _=>rfl,fun _ _=>by kernel_rfl⟩ (by kernel_rfl) (by kernel_rfl) ?_
 apply Exists.intro
 refine⟨fun wx hbx=>?_,?_,?_⟩
 ·have hxx:=(hbx.block b0 hlt).trans HY.out
  have hbx2:b0<wx.heap.size:=Jnz hlt hbx.size
  have c34:wx.cell? ⟨b0,34,none⟩=some (.int .u8 p):=cell_of_row _ _ 34 _ _ (0,0) hxx
  have c38:wx.cell? ⟨b0,38,none⟩=some (.int .i64 d):=cell_of_row _ _ 38 _ _ (0,0) hxx
  clear hxx hbx
  simp only[Ju]
  repeat go_big_quiet_step (fail)
  exact wpQuiet_nil rfl
 ·intro q hq oi hoi
  simp only[List.mem_cons,List.not_mem_nil,or_false] at hq
  rcases hq with rfl|rfl|rfl
  ·cases hoi;exact⟨_,rfl,rfl,fun w2 hw=>by kernel_rfl⟩
  ·cases hoi;exact⟨_,rfl,rfl,fun w2 hw=>by kernel_rfl⟩
  ·cases hoi;exact⟨_,rfl,rfl,fun w2 hw=>by simp[execOp,go_sem,hw]⟩
 simp only[JY,List.getElem?_cons_succ,List.getElem?_cons_zero]
 refine⟨fun v fl w2=>∃r,v=.slice (some ⟨r,0,none⟩) d d∧y.heap.size≤r∧Below y.heap.size y w2∧w2.heap[r]? =some (.cells ((Qh d).map (.int .u8)).toArray 5 (0,0))∧∀b',fl=some b'→y.heap.size≤b'∧b'≠r∧w2.heap[b']? =some (.cells Qo 149 (0,0)),?_,?_,?_,?_⟩
 ·rintro fl-
  refine Jv.made rfl ?_
  rintro w' ⟨⟨x,rfl⟩,hfb⟩
  refine⟨_,_,JdD _ _ (vx:=.int .i64 d) (vy:=.int .i64 d) (by kernel_rfl) (by kernel_rfl) (JdC x.world d HD.out),x.world.heap.size,rfl,x.below.size,Below.all x.below _,heap_alloc_new _ _,fun b' hb'=>?_⟩
  have h1:=(hfb b' hb')
  have h2:=(Jnw h1.2).1
  exact⟨h1.1,by omega,(heap_alloc_old _ _ h2).trans h1.2⟩
 ·rintro v fl g-w2 ⟨r,-,-,h3,-⟩
  exact(Jg h3 hlt _ rfl).trans hc0
 ·rintro-v w2 ⟨r,h1,h2,h3,h4,-⟩
  have hr:=(Jnw h4).1
  exact⟨r,h1,h2,Below.all h3 _,(heap_alloc_old _ _ hr).trans h4,fun b' hb'=>by cases hb';exact⟨h3.size,by omega,heap_alloc_new _ _⟩⟩
 rintro v ⟨fl0,w20,r,rfl,-⟩
 refine⟨.agg (QA p 0 0 0 0 0 (some ⟨r,0,none⟩) d d),⟨rfl,fun _=>by kernel_rfl⟩,?_⟩
 intro bs
 refine⟨fun v fl w2=>v=undef∧(y.heap.size≤bs∧y.heap.size≤r∧bs≠r∧Below y.heap.size y w2∧w2.heap[r]? =some (.cells ((Qh d).map (.int .u8)).toArray 5 (0,0))∧w2.heap[bs]? =some (.cells (QA p 0 0 0 0 0 (some ⟨r,0,none⟩) d d) 149 (0,0))),?_,fun _ _=>Jz rfl,(fun h=>by cases h),?_⟩
 ·rintro fl rfl
  refine Jv.skip rfl ?_
  rintro w' ⟨r',hr',h2,h3,h4,hfb⟩
  obtain rfl:r=r':=by simpa using hr'
  obtain⟨hbge,hne,hbx⟩:=hfb bs rfl
  exact⟨_,QX _ w' bs (QA p 0 0 0 0 0 (some ⟨r,0,none⟩) d d) (by kernel_rfl) (by kernel_rfl) (by rw[Jd _ _ _ _ _ hbx];rfl) rfl rfl,hbge,h2,hne,h3.trans (Jf _ hbge),(setRow_other _ bs _ _ (fun h=>hne h.symm)).trans h4,Jh hbx⟩
 rintro v ⟨fl2,w22,rfl,-⟩
 rintro zz ⟨-,hbs,hr0,hne,hzz,hzr,hsz⟩
 have HZ:=Jnv hzz
 have HS:=Jnv hsz
 have HR:=Jnv hzr
 have HX:=Jnv ((hzz.block b0 hlt).trans HY.out)
 have hbz:b0<zz.heap.size:=Jnz hlt hzz.size
 have hsz':bs<zz.heap.size:=(Jnw hsz).1
 have hrz:r<zz.heap.size:=(Jnw hzr).1
 have hne0:bs≠b0:=by omega
 have c34:zz.cell? ⟨b0,34,none⟩=some (.int .u8 p):=cell_of_row _ _ 34 _ _ (0,0) HX.out
 clear hzz hsz hzr fl0 fl2 w20 w22 HY hc0
 unfold QQ
 simp only[Act.put,List.setIfInBounds_toArray,List.set_cons_succ,List.set_cons_zero]
 go_wp2_with fail
 refine Jnx (HP.out zz) ?_
 rintro e z2 ⟨rfl,hb2⟩
 have HZ2:=Jnv (Jno HZ.out hb2)
 have HX2:=Jnv ((hb2.block b0 hbz).trans HX.out)
 have HS2:=Jnv ((hb2.block bs hsz').trans HS.out)
 have HR2:=Jnv ((hb2.block r hrz).trans HR.out)
 have d34:z2.cell? ⟨b0,34,none⟩=some (.int .u8 p):=cell_of_row _ _ 34 _ _ (0,0) HX2.out
 clear hb2 c34
 go_wp2_with fail
 refine Jnx (HI.out z2) ?_
 rintro e z3 ⟨rfl,hb3⟩
 have HZ3:=Jnv (Jno HZ2.out hb3)
 have HS3:=Jnv ((hb3.block bs (Jnw HS2.out).1).trans HS2.out)
 have HR3:=Jnv ((hb3.block r (Jnw HR2.out).1).trans HR2.out)
 have e11:z3.cell? ⟨bs,11,none⟩=some (.slice (some ⟨r,0,none⟩) d d):=cell_of_row _ _ 11 _ _ (0,0) HS3.out
 clear hb3 d34
 go_wp2_with fail
 go_ret2
 have hl:((Qh d).map (.int .u8:Int→Value)).length=d:=by simp[Qh]
 have hz:(Qh d).length=d:=by simp[Qh]
 have hO:=JcW HR3.out (by rw[hl];have:=HD.out;unfold maxLen;omega)
 rw[hl] at hO
 exact⟨some ⟨r,0,none⟩,d,by rw[hz];rfl,by rw[hz];exact hO.mono (Nat.le_trans HB.out.size hr0),HB.out.trans (HZ3.out.mono HB.out.size)⟩
theorem JdF (s:Bool)(S T:Nat→Int)(p a b f:Int)(d:Nat)(hd:d≤2048)(hS:U8 S)(hT:U8 T)(hip:JW p=true)(R:List Int→List Int)(hput:∀(oD:Option Addr) (n cD:Nat) (l:List Int) (o1 o2:Option Addr) (k c1 c2:Nat) (w:World),Jj w oD n cD l→Jj w o1 k c1 (Ja s S)→Jj w o2 k c2 (Ja s T)→(k=4∨k=16)→n≤60000→Calls Tryz.prog 94 #[.agg (QA p a b f 0 0 oD n cD),.slice o1 k c1,.slice o2 k c2] w (Jq w (R l) 0))(w:World):
 Calls Tryz.prog 43 #[.agg (spC s S s T p a b f d)] w (Jq w (R (Qh d)) 0):=by
 have HP:Hid (∀w',Calls Tryz.prog 35 #[p] w' (Jk w' (.bool (JW p)))):=Jnv (fun w'=>Xg p w')
 have HI:Hid (∀w',Calls Tryz.prog 36 #[p] w' (Jk w' (.bool (JU p)))):=Jnv (fun w'=>QJ p w')
 rw[hip] at HP
 obtain⟨L,hL⟩:∃L,R (Qh d)=L:=⟨_,rfl⟩
 have HPU:Hid (∀(oD:Option Addr) (n cD:Nat) (o1 o2:Option Addr) (k c1 c2:Nat) (w:World),Jj w oD n cD (Qh d)→Jj w o1 k c1 (Ja s S)→Jj w o2 k c2 (Ja s T)→(k=4∨k=16)→n≤60000→Calls Tryz.prog 94 #[.agg (QA p a b f 0 0 oD n cD),.slice o1 k c1,.slice o2 k c2] w (Jq w L 0)):=Jnv (fun oD n cD o1 o2 k c1 c2 w h0 h1 h2 h3 h4=>by rw[←hL];exact hput oD n cD _ o1 o2 k c1 c2 w h0 h1 h2 h3 h4)
 rw[hL]
 have HD:=Jnv hd
 have hX:(w.alloc (.cells (spC s S s T p a b f d) 47)).heap[w.heap.size]? =some (.cells (spC s S s T p a b f d) 47 (0,0)):=heap_alloc_new w _
 have HB:Hid (Below w.heap.size w (w.alloc (.cells (spC s S s T p a b f d) 47))):=Jnv (Below.all (Jny _ _) _)
 clear hd hip hput hL
 unfold spC at HB hX⊢
 go_enter Tryz.func43,Tryz.ntmps43
 go_wp2_with fail
 obtain⟨b0,hb0⟩:∃b,b=w.heap.size:=⟨_,rfl⟩
 have HB0:=Jnv hb0
 rw[←hb0] at hX⊢
 clear hb0
 generalize w.alloc _=y at*
 have hlt:b0<y.heap.size:=(Jnw hX).1
 have HY:=Jnv hX
 clear hX
 have hc0:y.cell? ⟨b0,34,none⟩=some (.int .u8 p):=cell_of_row _ _ 34 _ _ (0,0) HY.out
 refine JG [.h,.h,.h,.h,.h] [(0,1,0),(1,1,0),(2,1,0)] (fun _ w'=>w'.cell? ⟨b0,34,none⟩=some (.int .u8 p)) [1] [(.w,5),(.q,6)] [(.w,8)] 7 (.cells Qo 149) (by kernel_rfl) (by kernel_rfl) rfl rfl ⟨fun _=>rfl,fun _ _=>by kernel_rfl⟩ (by kernel_rfl) (by kernel_rfl) ?_
 apply Exists.intro
 refine⟨fun wx hbx=>?_,?_,?_⟩
 ·have hxx:=(hbx.block b0 hlt).trans HY.out
  have hbx2:b0<wx.heap.size:=Jnz hlt hbx.size
  have c34:wx.cell? ⟨b0,34,none⟩=some (.int .u8 p):=cell_of_row _ _ 34 _ _ (0,0) hxx
  have c38:wx.cell? ⟨b0,38,none⟩=some (.int .i64 d):=cell_of_row _ _ 38 _ _ (0,0) hxx
  clear hxx hbx
  simp only[Ju]
  repeat go_big_quiet_step (fail)
  exact wpQuiet_nil rfl
 ·intro q hq oi hoi
  simp only[List.mem_cons,List.not_mem_nil,or_false] at hq
  rcases hq with rfl|rfl|rfl
  ·cases hoi;exact⟨_,rfl,rfl,fun w2 hw=>by kernel_rfl⟩
  ·cases hoi;exact⟨_,rfl,rfl,fun w2 hw=>by kernel_rfl⟩
  ·cases hoi;exact⟨_,rfl,rfl,fun w2 hw=>by simp[execOp,go_sem,hw]⟩
 simp only[JY,List.getElem?_cons_succ,List.getElem?_cons_zero]
 refine⟨fun v fl w2=>∃r,v=.slice (some ⟨r,0,none⟩) d d∧y.heap.size≤r∧Below y.heap.size y w2∧w2.heap[r]? =some (.cells ((Qh d).map (.int .u8)).toArray 5 (0,0))∧∀b',fl=some b'→y.heap.size≤b'∧b'≠r∧w2.heap[b']? =some (.cells Qo 149 (0,0)),?_,?_,?_,?_⟩
 ·rintro fl-
  refine Jv.made rfl ?_
  rintro w' ⟨⟨x,rfl⟩,hfb⟩
  refine⟨_,_,JdD _ _ (vx:=.int .i64 d) (vy:=.int .i64 d) (by kernel_rfl) (by kernel_rfl) (JdC x.world d HD.out),x.world.heap.size,rfl,x.below.size,Below.all x.below _,heap_alloc_new _ _,fun b' hb'=>?_⟩
  have h1:=(hfb b' hb')
  have h2:=(Jnw h1.2).1
  exact⟨h1.1,by omega,(heap_alloc_old _ _ h2).trans h1.2⟩
 ·rintro v fl g-w2 ⟨r,-,-,h3,-⟩
  exact(Jg h3 hlt _ rfl).trans hc0
 ·rintro-v w2 ⟨r,h1,h2,h3,h4,-⟩
  have hr:=(Jnw h4).1
  exact⟨r,h1,h2,Below.all h3 _,(heap_alloc_old _ _ hr).trans h4,fun b' hb'=>by cases hb';exact⟨h3.size,by omega,heap_alloc_new _ _⟩⟩
 rintro v ⟨fl0,w20,r,rfl,-⟩
 refine⟨.agg (QA p 0 0 0 0 0 (some ⟨r,0,none⟩) d d),⟨rfl,fun _=>by kernel_rfl⟩,?_⟩
 intro bs
 refine⟨fun v fl w2=>v=undef∧(y.heap.size≤bs∧y.heap.size≤r∧bs≠r∧Below y.heap.size y w2∧w2.heap[r]? =some (.cells ((Qh d).map (.int .u8)).toArray 5 (0,0))∧w2.heap[bs]? =some (.cells (QA p 0 0 0 0 0 (some ⟨r,0,none⟩) d d) 149 (0,0))),?_,fun _ _=>Jz rfl,(fun h=>by cases h),?_⟩
 ·rintro fl rfl
  refine Jv.skip rfl ?_
  rintro w' ⟨r',hr',h2,h3,h4,hfb⟩
  obtain rfl:r=r':=by simpa using hr'
  obtain⟨hbge,hne,hbx⟩:=hfb bs rfl
  exact⟨_,QX _ w' bs (QA p 0 0 0 0 0 (some ⟨r,0,none⟩) d d) (by kernel_rfl) (by kernel_rfl) (by rw[Jd _ _ _ _ _ hbx];rfl) rfl rfl,hbge,h2,hne,h3.trans (Jf _ hbge),(setRow_other _ bs _ _ (fun h=>hne h.symm)).trans h4,Jh hbx⟩
 rintro v ⟨fl2,w22,rfl,-⟩
 rintro zz ⟨-,hbs,hr0,hne,hzz,hzr,hsz⟩
 have HZ:=Jnv hzz
 have HS:=Jnv hsz
 have HR:=Jnv hzr
 have HX:=Jnv ((hzz.block b0 hlt).trans HY.out)
 have hbz:b0<zz.heap.size:=Jnz hlt hzz.size
 have hsz':bs<zz.heap.size:=(Jnw hsz).1
 have hrz:r<zz.heap.size:=(Jnw hzr).1
 have hne0:bs≠b0:=by omega
 have c34:zz.cell? ⟨b0,34,none⟩=some (.int .u8 p):=cell_of_row _ _ 34 _ _ (0,0) HX.out
 clear hzz hsz hzr fl0 fl2 w20 w22 HY hc0
 unfold QQ
 simp only[Act.put,List.setIfInBounds_toArray,List.set_cons_succ,List.set_cons_zero]
 go_wp2_with fail
 refine Jnx (HP.out zz) ?_
 rintro e z2 ⟨rfl,hb2⟩
 have HZ2:=Jnv (Jno HZ.out hb2)
 have HX2:=Jnv ((hb2.block b0 hbz).trans HX.out)
 have HS2:=Jnv ((hb2.block bs hsz').trans HS.out)
 have HR2:=Jnv ((hb2.block r hrz).trans HR.out)
 clear hb2 c34 HX HS HR HZ
 go_wp2_with fail
 have hb02:b0<z2.heap.size:=(Jnw HX2.out).1
 have hbs2:bs<z2.heap.size:=(Jnw HS2.out).1
 have hr2:r<z2.heap.size:=(Jnw HR2.out).1
 refine J0 [.h,.h,.h,.h,.h,.h,.h,.h,.h] [(3,1,0),(4,1,0),(5,1,0),(6,2,0),(7,2,0)] (fun _ w'=>w'.cell? ⟨b0,36,none⟩=some (.int .u16 b)∧w'.cell? ⟨b0,37,none⟩=some (.int .u8 f)) [2] [(.w,9),(.q,10),(.w,11),(.q,12),(.w,13)] (by kernel_rfl) (by kernel_rfl) (by kernel_rfl) (by kernel_rfl) ?_
 apply Exists.intro
 refine⟨fun wx hbx=>?_,?_,?_⟩
 ·have hxx:=(hbx.block b0 hb02).trans HX2.out
  have e35:wx.cell? ⟨b0,35,none⟩=some (.int .u16 a):=cell_of_row _ _ 35 _ _ (0,0) hxx
  have e36:wx.cell? ⟨b0,36,none⟩=some (.int .u16 b):=cell_of_row _ _ 36 _ _ (0,0) hxx
  have e37:wx.cell? ⟨b0,37,none⟩=some (.int .u8 f):=cell_of_row _ _ 37 _ _ (0,0) hxx
  have hbx2:b0<wx.heap.size:=Jnz hb02 hbx.size
  clear hxx hbx
  simp only[Ju]
  repeat go_big_quiet_step (fail)
  exact wpQuiet_nil rfl
 ·intro q hq oi hoi
  simp only[List.mem_cons,List.not_mem_nil,or_false] at hq
  rcases hq with rfl|rfl|rfl|rfl|rfl
  ·cases hoi;exact⟨_,rfl,rfl,fun w2 hw=>by kernel_rfl⟩
  ·cases hoi;exact⟨_,rfl,rfl,fun w2 hw=>by kernel_rfl⟩
  ·cases hoi;exact⟨_,rfl,rfl,fun w2 hw=>by simp[execOp,go_sem,hw.1]⟩
  ·cases hoi;exact⟨_,rfl,rfl,fun w2 hw=>by kernel_rfl⟩
  ·cases hoi;exact⟨_,rfl,rfl,fun w2 hw=>by simp[execOp,go_sem,hw.2]⟩
 have d36:z2.cell? ⟨b0,36,none⟩=some (.int .u16 b):=cell_of_row _ _ 36 _ _ (0,0) HX2.out
 have d37:z2.cell? ⟨b0,37,none⟩=some (.int .u8 f):=cell_of_row _ _ 37 _ _ (0,0) HX2.out
 simp only[JY,List.getElem?_cons_succ,List.getElem?_cons_zero]
 refine⟨fun v fq w2=>v=undef∧OBx z2 bs (QA p a 0 0 0 0 (some ⟨r,0,none⟩) d d) 149 w2,?_,?_,(fun h=>by cases h),?_⟩
 ·rintro fl rfl
  refine Jv.skip rfl ?_
  rintro w' ⟨⟨x,rfl⟩,-⟩
  have hob:OBx z2 bs (QA p 0 0 0 0 0 (some ⟨r,0,none⟩) d d) 149 x.world:=OBx.later ⟨HS2.out,Jny _ _,fun _ _ _=>rfl⟩ x.below
  have g1:x.world.cell? ⟨bs,1,none⟩=some (.int .u16 0):=cell_of_row _ _ 1 _ _ (0,0) hob.1
  have g2:=frozen_of_row _ _ 1 _ _ hob.1
  refine⟨_,?_,hob.set 1 (.int .u16 a)⟩
  simp[execOp,go_sem,g1,g2]
 ·rintro v fq g-w2 ⟨-,hob⟩
  have:=(hob.2.2 b0 (fun h=>hne0 h.symm) hb02)
  exact⟨(World.cell?_of_block (a:=⟨b0,36,none⟩) this).trans d36,(World.cell?_of_block (a:=⟨b0,37,none⟩) this).trans d37⟩
 rintro v ⟨gl0,w30,rfl,-⟩
 refine⟨.pointer (some ⟨bs,2,none⟩),⟨rfl,fun _=>by kernel_rfl⟩,?_⟩
 refine⟨fun v fq w2=>v=undef∧OBx z2 bs (QA p a b 0 0 0 (some ⟨r,0,none⟩) d d) 149 w2,?_,?_,(fun h=>by cases h),?_⟩
 ·rintro fl rfl
  refine Jv.skip rfl ?_
  rintro w' ⟨-,hob⟩
  have g1:w'.cell? ⟨bs,2,none⟩=some (.int .u16 0):=cell_of_row _ _ 2 _ _ (0,0) hob.1
  have g2:=frozen_of_row _ _ 2 _ _ hob.1
  refine⟨_,?_,hob.set 2 (.int .u16 b)⟩
  simp[execOp,go_sem,g1,g2]
 ·rintro v fq g-w2 ⟨-,hob⟩
  have:=(hob.2.2 b0 (fun h=>hne0 h.symm) hb02)
  exact⟨(World.cell?_of_block (a:=⟨b0,36,none⟩) this).trans d36,(World.cell?_of_block (a:=⟨b0,37,none⟩) this).trans d37⟩
 rintro v ⟨gl1,w31,rfl,-⟩
 refine⟨.pointer (some ⟨bs,5,none⟩),⟨rfl,fun _=>by kernel_rfl⟩,?_⟩
 refine⟨fun v fq w2=>v=undef∧OBx z2 bs (QA p a b f 0 0 (some ⟨r,0,none⟩) d d) 149 w2,?_,fun _ _=>Jz rfl,(fun h=>by cases h),?_⟩
 ·rintro fl rfl
  refine Jv.skip rfl ?_
  rintro w' ⟨-,hob⟩
  have g1:w'.cell? ⟨bs,5,none⟩=some (.int .u8 0):=cell_of_row _ _ 5 _ _ (0,0) hob.1
  have g2:=frozen_of_row _ _ 5 _ _ hob.1
  refine⟨_,?_,hob.set 5 (.int .u8 f)⟩
  simp[execOp,go_sem,g1,g2]
 rintro v ⟨gl2,w32,rfl,-⟩
 rintro z4 ⟨-,hob⟩
 have HS4:=Jnv hob.1
 have HX4:=Jnv ((hob.2.2 b0 (fun h=>hne0 h.symm) hb02).trans HX2.out)
 have HR4:=Jnv ((hob.2.2 r (fun h=>hne h.symm) hr2).trans HR2.out)
 have HZ4:Hid (Below y.heap.size y z4):=Jnv (HZ2.out.trans (hob.2.1.mono hbs))
 clear hob d36 d37 gl0 gl1 gl2 w30 w31 w32 HS2 HX2 HR2 HZ2 hb02 hbs2 hr2
 have HSZ:Hid ((QA p a b f 0 0 (some ⟨r,0,none⟩) d d).size=12):=Jnv rfl
 simp only[Act.put,List.setIfInBounds_toArray,List.set_cons_succ,List.set_cons_zero]
 go_wp2_with fail
 have hb04:b0<z4.heap.size:=(Jnw HX4.out).1
 have hbs4:bs<z4.heap.size:=(Jnw HS4.out).1
 obtain⟨k1,hk1⟩:∃m,(Ja s S).length=m:=⟨_,rfl⟩
 have hk2:(Ja s T).length=k1:=by rw[Ji,←hk1,Ji]
 have HK:Hid (k1=4∨k1=16):=Jnv (by rw[←hk1,Ji];cases s;exact .inl rfl;exact .inr rfl)
 have HA1:Hid (∀w',Calls Tryz.prog 64 #[adV s S] w' (Jmm w' k1 (Ja s S))):=Jnv fun w'=>(bytes_any s S w').mono fun _ _ h=>h.n hk1 (JH hS s)
 have HA2:Hid (∀w',Calls Tryz.prog 64 #[adV s T] w' (Jmm w' k1 (Ja s T))):=Jnv fun w'=>(bytes_any s T w').mono fun _ _ h=>h.n hk2 (JH hT s)
 have HRZ:=Jnv (JdE HR4.out HD.out)
 refine J0 [.h,.h,.h,.h,.w,.h,.h,.h] [(0,2,0),(5,1,0),(6,1,0),(7,1,0)] (fun _ w'=>Jc w' bs 0 12=QA p a b f 0 0 (some ⟨r,0,none⟩) d d∧Jc w' b0 17 17=(JnH s T:Array Value)) [2] [(.w,4),(.w,8),(.w,9),(.q,10),(.q,11),(.q,12),(.q,13)] (by kernel_rfl) (by kernel_rfl) (by kernel_rfl) (by kernel_rfl) ?_
 apply Exists.intro
 refine⟨fun wx hbx=>?_,?_,?_⟩
 ·have hxx:=(hbx.block b0 hb04).trans HX4.out
  have hss:=(hbx.block bs hbs4).trans HS4.out
  have hbx2:b0<wx.heap.size:=Jnz hb04 hbx.size
  have hbx3:bs<wx.heap.size:=Jnz hbs4 hbx.size
  have p0:Jc wx bs 0 12=QA p a b f 0 0 (some ⟨r,0,none⟩) d d:=Jb hss rfl
  have hld:∀x:JC wx,Q5 Tryz.prog 149 x.world (.pointer (some ⟨bs,0,none⟩))=.ok (.value (.agg (QA p a b f 0 0 (some ⟨r,0,none⟩) d d))) x.world:=fun x=>by
   have e:Jc x.world bs 0 12=_:=(JC.part x bs 0 12 hbx3).trans p0
   rw[QV x.world bs 0 (by rw[e];rfl),e]
  have p1:Jc wx b0 0 17=(JnH s S:Array Value):=by rw[Jn _ _ _ _ _ _ _ hxx];simp
  have p2:Jc wx b0 17 17=(JnH s T:Array Value):=by rw[Jn _ _ _ _ _ _ _ hxx];simp
  clear hxx hss hbx
  simp only[Ju]
  repeat go_big_quiet_step (fail)
  exact wpQuiet_nil rfl
 ·intro q hq oi hoi
  simp only[List.mem_cons,List.not_mem_nil,or_false] at hq
  rcases hq with rfl|rfl|rfl|rfl
  ·cases hoi;exact⟨_,rfl,rfl,fun w2 hw=>Jdt _ w2 bs _ (by kernel_rfl) hw.1 rfl⟩
  ·cases hoi;exact⟨_,rfl,rfl,fun w2 hw=>by kernel_rfl⟩
  ·cases hoi;exact⟨_,rfl,rfl,fun w2 hw=>by kernel_rfl⟩
  ·cases hoi;exact⟨_,rfl,rfl,fun w2 hw=>by simp[execOp,go_sem,hw.2]⟩
 have q0:Jc z4 bs 0 12=QA p a b f 0 0 (some ⟨r,0,none⟩) d d:=Jb HS4.out rfl
 have q2:Jc z4 b0 17 17=(JnH s T:Array Value):=by rw[Jn _ _ _ _ _ _ _ HX4.out];simp
 simp only[JY,List.getElem?_cons_succ,List.getElem?_cons_zero]
 refine⟨fun v fl w2=>∃o1 c1,v=.slice o1 k1 c1∧Jj w2 o1 k1 c1 (Ja s S)∧Below z4.heap.size z4 w2,?_,?_,(fun h=>by cases h),?_⟩
 ·rintro fl rfl
  refine⟨rfl,fun w' hw'=>.inr ⟨64,#[adV s S],by kernel_rfl,?_⟩⟩
  obtain⟨⟨x,rfl⟩,-⟩:=hw'
  refine(HA1.out x.world).mono ?_
  rintro e w2 ⟨o1,c1,rfl,h1,hb⟩
  exact⟨_,rfl,o1,c1,rfl,h1,Jno x.below hb⟩
 ·rintro v fq g-w2 ⟨o1,c1,-,-,hb⟩
  exact⟨(Qs hb bs 0 12 hbs4).trans q0,(Qs hb b0 17 17 hb04).trans q2⟩
 rintro v ⟨gl0,w30,o1,c1,rfl,-⟩
 refine⟨fun v fl w2=>∃o2 c2,v=.slice o2 k1 c2∧Jj w2 o1 k1 c1 (Ja s S)∧Jj w2 o2 k1 c2 (Ja s T)∧Below z4.heap.size z4 w2,?_,?_,(fun h=>by cases h),?_⟩
 ·rintro fl rfl
  refine⟨rfl,fun w' hw'=>.inr ⟨64,#[adV s T],by kernel_rfl,?_⟩⟩
  obtain⟨o1',c1',he,h1,hb1⟩:=hw'
  obtain⟨rfl,rfl⟩:o1=o1'∧c1=c1':=by simpa using he
  refine(HA2.out w').mono ?_
  rintro e w2 ⟨o2,c2,rfl,h2,hb⟩
  exact⟨_,rfl,o2,c2,rfl,h1.below hb,h2,Jno hb1 hb⟩
 ·rintro v fq g-w2 ⟨o2,c2,-,-,-,hb⟩
  exact⟨(Qs hb bs 0 12 hbs4).trans q0,(Qs hb b0 17 17 hb04).trans q2⟩
 rintro v ⟨gl1,w31,o2,c2,rfl,-⟩
 refine⟨fun v fl w2=>∃oP cP,v=.tuple #[.slice oP L.length cP,.int .i64 0]∧JI w2 z4.heap.size 1 oP L.length cP (L.map (.int .u8))∧Below z4.heap.size z4 w2,?_,fun _ _=>Jz rfl,(fun h=>by cases h),?_⟩
 ·rintro fl rfl
  refine⟨rfl,fun w' hw'=>.inr ⟨94,#[.agg (QA p a b f 0 0 (some ⟨r,0,none⟩) d d),.slice o1 k1 c1,.slice o2 k1 c2],by kernel_rfl,?_⟩⟩
  obtain⟨o2',c2',he,h1,h2,hb1⟩:=hw'
  obtain⟨rfl,rfl⟩:o2=o2'∧c2=c2':=by simpa using he
  refine(HPU.out _ d d o1 o2 k1 c1 c2 w' (HRZ.out.below hb1) h1 h2 HK.out (by have:=HD.out;omega)).mono ?_
  rintro e w2 ⟨oP,cP,rfl,ho,hb⟩
  exact⟨_,rfl,oP,cP,rfl,ho.mono hb1.size,Jno hb1 hb⟩
 rintro v ⟨gl2,w32,oP,cP,rfl,-⟩
 refine⟨.slice oP L.length cP,⟨rfl,fun _=>by kernel_rfl⟩,?_⟩
 refine⟨.int .i64 0,⟨rfl,fun _=>by kernel_rfl⟩,?_⟩
 refine⟨.slice oP L.length cP,⟨rfl,fun _=>by kernel_rfl⟩,?_⟩
 refine⟨.int .i64 0,⟨rfl,fun _=>by kernel_rfl⟩,?_⟩
 rintro y3 ⟨oP',cP',he,hoP,hb3⟩
 obtain⟨rfl,rfl⟩:oP=oP'∧cP=cP':=by simpa using he
 have HOP:=Jnv hoP
 have HB3:=Jnv hb3
 clear he gl0 gl1 gl2 w30 w31 w32 q0 q2 hk1 hk2 hoP hb3 hb04 hbs4 hbz hsz' hrz hlt hne hne0 hbs hr0 hS hT
 simp only[Act.put,List.setIfInBounds_toArray,List.set_cons_succ,List.set_cons_zero]
 go_wp2_with fail
 go_ret2
 exact⟨_,_,rfl,HOP.out.mono (Nat.le_trans HB.out.size HZ4.out.size),HB.out.trans ((HZ4.out.trans (HB3.out.mono HZ4.out.size)).mono HB.out.size)⟩
theorem JiN (s:Bool)(S T:Nat→Int)(p a b f:Int)(d:Nat)(hd:d≤2048)(hS:U8 S)(hT:U8 T)(hip:JW p=false)(hii:JU p=true)(hb:0≤b∧b<65536)(w:World):
 Calls Tryz.prog 43 #[.agg (spC s S s T p a b f d)] w (Jq w (Jaf p (b/256) (b%256) 0 (Qh d) (Ja s S) (Ja s T)) 0):=by
 have HP:Hid (∀w',Calls Tryz.prog 35 #[p] w' (Jk w' (.bool (JW p)))):=Jnv (fun w'=>Xg p w')
 have HI:Hid (∀w',Calls Tryz.prog 36 #[p] w' (Jk w' (.bool (JU p)))):=Jnv (fun w'=>QJ p w')
 have hpi:p=1∨p=58:=by simpa[JU] using hii
 rw[hip] at HP
 rw[hii] at HI
 have HBB:=Jnv hb
 have HPU:Hid (∀(oD:Option Addr) (n cD:Nat) (o1 o2:Option Addr) (k c1 c2:Nat) (w:World),Jj w oD n cD (Qh d)→Jj w o1 k c1 (Ja s S)→Jj w o2 k c2 (Ja s T)→(k=4∨k=16)→n≤60000→Calls Tryz.prog 94 #[.agg (QA p 0 0 0 (b/256) (b%256) oD n cD),.slice o1 k c1,.slice o2 k c2] w (Jq w (Jaf p (b/256) (b%256) 0 (Qh d) (Ja s S) (Ja s T)) 0)):=Jnv (fun oD n cD o1 o2 k c1 c2 w h0 h1 h2 h3 h4=>JjO p (b/256) (b%256) oD n cD (Qh d) o1 o2 k c1 c2 _ _ w h0 h1 h2 h3 h4 (by omega) (by omega) hpi)
 generalize Jaf p (b/256) (b%256) 0 (Qh d) (Ja s S) (Ja s T)=L at*
 have HD:=Jnv hd
 have hX:(w.alloc (.cells (spC s S s T p a b f d) 47)).heap[w.heap.size]? =some (.cells (spC s S s T p a b f d) 47 (0,0)):=heap_alloc_new w _
 have HB:Hid (Below w.heap.size w (w.alloc (.cells (spC s S s T p a b f d) 47))):=Jnv (Below.all (Jny _ _) _)
 clear hd hip hii hb hpi
 unfold spC at HB hX⊢
 go_enter Tryz.func43,Tryz.ntmps43
 go_wp2_with fail
 obtain⟨b0,hb0⟩:∃b,b=w.heap.size:=⟨_,rfl⟩
 have HB0:=Jnv hb0
 rw[←hb0] at hX⊢
 clear hb0
 generalize w.alloc _=y at*
 have hlt:b0<y.heap.size:=(Jnw hX).1
 have HY:=Jnv hX
 clear hX
 have hc0:y.cell? ⟨b0,34,none⟩=some (.int .u8 p):=cell_of_row _ _ 34 _ _ (0,0) HY.out
 refine JG [.h,.h,.h,.h,.h] [(0,1,0),(1,1,0),(2,1,0)] (fun _ w'=>w'.cell? ⟨b0,34,none⟩=some (.int .u8 p)) [1] [(.w,5),(.q,6)] [(.w,8)] 7 (.cells Qo 149) (by kernel_rfl) (by kernel_rfl) rfl rfl ⟨fun _=>rfl,fun _ _=>by kernel_rfl⟩ (by kernel_rfl) (by kernel_rfl) ?_
 apply Exists.intro
 refine⟨fun wx hbx=>?_,?_,?_⟩
 ·have hxx:=(hbx.block b0 hlt).trans HY.out
  have hbx2:b0<wx.heap.size:=Jnz hlt hbx.size
  have c34:wx.cell? ⟨b0,34,none⟩=some (.int .u8 p):=cell_of_row _ _ 34 _ _ (0,0) hxx
  have c38:wx.cell? ⟨b0,38,none⟩=some (.int .i64 d):=cell_of_row _ _ 38 _ _ (0,0) hxx
  clear hxx hbx
  simp only[Ju]
  repeat go_big_quiet_step (fail)
  exact wpQuiet_nil rfl
 ·intro q hq oi hoi
  simp only[List.mem_cons,List.not_mem_nil,or_false] at hq
  rcases hq with rfl|rfl|rfl
  ·cases hoi;exact⟨_,rfl,rfl,fun w2 hw=>by kernel_rfl⟩
  ·cases hoi;exact⟨_,rfl,rfl,fun w2 hw=>by kernel_rfl⟩
  ·cases hoi;exact⟨_,rfl,rfl,fun w2 hw=>by simp[execOp,go_sem,hw]⟩
 simp only[JY,List.getElem?_cons_succ,List.getElem?_cons_zero]
 refine⟨fun v fl w2=>∃r,v=.slice (some ⟨r,0,none⟩) d d∧y.heap.size≤r∧Below y.heap.size y w2∧w2.heap[r]? =some (.cells ((Qh d).map (.int .u8)).toArray 5 (0,0))∧∀b',fl=some b'→y.heap.size≤b'∧b'≠r∧w2.heap[b']? =some (.cells Qo 149 (0,0)),?_,?_,?_,?_⟩
 ·rintro fl-
  refine Jv.made rfl ?_
  rintro w' ⟨⟨x,rfl⟩,hfb⟩
  refine⟨_,_,JdD _ _ (vx:=.int .i64 d) (vy:=.int .i64 d) (by kernel_rfl) (by kernel_rfl) (JdC x.world d HD.out),x.world.heap.size,rfl,x.below.size,Below.all x.below _,heap_alloc_new _ _,fun b' hb'=>?_⟩
  have h1:=(hfb b' hb')
  have h2:=(Jnw h1.2).1
  exact⟨h1.1,by omega,(heap_alloc_old _ _ h2).trans h1.2⟩
 ·rintro v fl g-w2 ⟨r,-,-,h3,-⟩
  exact(Jg h3 hlt _ rfl).trans hc0
 ·rintro-v w2 ⟨r,h1,h2,h3,h4,-⟩
  have hr:=(Jnw h4).1
  exact⟨r,h1,h2,Below.all h3 _,(heap_alloc_old _ _ hr).trans h4,fun b' hb'=>by cases hb';exact⟨h3.size,by omega,heap_alloc_new _ _⟩⟩
 rintro v ⟨fl0,w20,r,rfl,-⟩
 refine⟨.agg (QA p 0 0 0 0 0 (some ⟨r,0,none⟩) d d),⟨rfl,fun _=>by kernel_rfl⟩,?_⟩
 intro bs
 refine⟨fun v fl w2=>v=undef∧(y.heap.size≤bs∧y.heap.size≤r∧bs≠r∧Below y.heap.size y w2∧w2.heap[r]? =some (.cells ((Qh d).map (.int .u8)).toArray 5 (0,0))∧w2.heap[bs]? =some (.cells (QA p 0 0 0 0 0 (some ⟨r,0,none⟩) d d) 149 (0,0))),?_,fun _ _=>Jz rfl,(fun h=>by cases h),?_⟩
 ·rintro fl rfl
  refine Jv.skip rfl ?_
  rintro w' ⟨r',hr',h2,h3,h4,hfb⟩
  obtain rfl:r=r':=by simpa using hr'
  obtain⟨hbge,hne,hbx⟩:=hfb bs rfl
  exact⟨_,QX _ w' bs (QA p 0 0 0 0 0 (some ⟨r,0,none⟩) d d) (by kernel_rfl) (by kernel_rfl) (by rw[Jd _ _ _ _ _ hbx];rfl) rfl rfl,hbge,h2,hne,h3.trans (Jf _ hbge),(setRow_other _ bs _ _ (fun h=>hne h.symm)).trans h4,Jh hbx⟩
 rintro v ⟨fl2,w22,rfl,-⟩
 rintro zz ⟨-,hbs,hr0,hne,hzz,hzr,hsz⟩
 have HZ:=Jnv hzz
 have HS:=Jnv hsz
 have HR:=Jnv hzr
 have HX:=Jnv ((hzz.block b0 hlt).trans HY.out)
 have hbz:b0<zz.heap.size:=Jnz hlt hzz.size
 have hsz':bs<zz.heap.size:=(Jnw hsz).1
 have hrz:r<zz.heap.size:=(Jnw hzr).1
 have hne0:bs≠b0:=by omega
 have c34:zz.cell? ⟨b0,34,none⟩=some (.int .u8 p):=cell_of_row _ _ 34 _ _ (0,0) HX.out
 clear hzz hsz hzr fl0 fl2 w20 w22 HY hc0
 unfold QQ
 simp only[Act.put,List.setIfInBounds_toArray,List.set_cons_succ,List.set_cons_zero]
 go_wp2_with fail
 refine Jnx (HP.out zz) ?_
 rintro e z2 ⟨rfl,hb2⟩
 have HZ2:=Jnv (Jno HZ.out hb2)
 have HX2:=Jnv ((hb2.block b0 hbz).trans HX.out)
 have HS2:=Jnv ((hb2.block bs hsz').trans HS.out)
 have HR2:=Jnv ((hb2.block r hrz).trans HR.out)
 clear hb2 c34 HX HS HR HZ
 have hb02:b0<z2.heap.size:=(Jnw HX2.out).1
 have hbs2:bs<z2.heap.size:=(Jnw HS2.out).1
 have hr2:r<z2.heap.size:=(Jnw HR2.out).1
 have c34:z2.cell? ⟨b0,34,none⟩=some (.int .u8 p):=cell_of_row _ _ 34 _ _ (0,0) HX2.out
 go_wp2_with fail
 refine Jnx (HI.out z2) ?_
 rintro e z3 ⟨rfl,hb3⟩
 have HZ3:=Jnv (Jno HZ2.out hb3)
 have HX3:=Jnv ((hb3.block b0 hb02).trans HX2.out)
 have HS3:=Jnv ((hb3.block bs hbs2).trans HS2.out)
 have HR3:=Jnv ((hb3.block r hr2).trans HR2.out)
 clear hb3 c34 HX2 HS2 HR2 HZ2 hb02 hbs2 hr2
 go_wp2_with fail
 have hb02:b0<z3.heap.size:=(Jnw HX3.out).1
 have hbs2:bs<z3.heap.size:=(Jnw HS3.out).1
 have hr2:r<z3.heap.size:=(Jnw HR3.out).1
 have hw1:IntKind.u8.wrap (b/256)=b/256:=by rw[IntKind.wrap_u8];have:=HBB.out;omega
 have hw2:IntKind.u8.wrap b=b%256:=by rw[IntKind.wrap_u8]
 have bb0:=HBB.out.1
 have bb1:=HBB.out.2
 refine J0 [.h,.h,.h,.h,.h,.h,.h,.h,.h,.h] [(5,1,0),(6,1,0),(7,1,0),(8,1,0)] (fun _ w'=>w'.cell? ⟨b0,36,none⟩=some (.int .u16 b)) [1] [(.w,10),(.q,11),(.w,12)] (by kernel_rfl) (by kernel_rfl) (by kernel_rfl) (by kernel_rfl) ?_
 apply Exists.intro
 refine⟨fun wx hbx=>?_,?_,?_⟩
 ·have hxx:=(hbx.block b0 hb02).trans HX3.out
  have e36:wx.cell? ⟨b0,36,none⟩=some (.int .u16 b):=cell_of_row _ _ 36 _ _ (0,0) hxx
  have hbx2:b0<wx.heap.size:=Jnz hb02 hbx.size
  clear hxx hbx
  simp only[Ju]
  repeat go_big_quiet_step (fail)
  exact wpQuiet_nil rfl
 ·intro q hq oi hoi
  simp only[List.mem_cons,List.not_mem_nil,or_false] at hq
  rcases hq with rfl|rfl|rfl|rfl
  ·cases hoi;exact⟨_,rfl,rfl,fun w2 hw=>by kernel_rfl⟩
  ·cases hoi;exact⟨_,rfl,rfl,fun w2 hw=>by kernel_rfl⟩
  ·cases hoi;exact⟨_,rfl,rfl,fun w2 hw=>by simp[execOp,go_sem,hw]⟩
  ·cases hoi;exact⟨_,rfl,rfl,fun w2 hw=>by simp[execOp,go_sem,hw2]⟩
 have d36:z3.cell? ⟨b0,36,none⟩=some (.int .u16 b):=cell_of_row _ _ 36 _ _ (0,0) HX3.out
 simp only[JY,List.getElem?_cons_succ,List.getElem?_cons_zero]
 refine⟨fun v fq w2=>v=undef∧OBx z3 bs (QA p 0 0 0 (b/256) 0 (some ⟨r,0,none⟩) d d) 149 w2,?_,?_,(fun h=>by cases h),?_⟩
 ·rintro fl rfl
  refine Jv.skip rfl ?_
  rintro w' ⟨⟨x,rfl⟩,-⟩
  have hob:OBx z3 bs (QA p 0 0 0 0 0 (some ⟨r,0,none⟩) d d) 149 x.world:=OBx.later ⟨HS3.out,Jny _ _,fun _ _ _=>rfl⟩ x.below
  have g1:x.world.cell? ⟨bs,9,none⟩=some (.int .u8 0):=cell_of_row _ _ 9 _ _ (0,0) hob.1
  have g2:=frozen_of_row _ _ 9 _ _ hob.1
  refine⟨_,?_,hob.set 9 (.int .u8 (b/256))⟩
  simp[execOp,go_sem,g1,g2]
 ·rintro v fq g-w2 ⟨-,hob⟩
  have:=(hob.2.2 b0 (fun h=>hne0 h.symm) hb02)
  exact(World.cell?_of_block (a:=⟨b0,36,none⟩) this).trans d36
 rintro v ⟨gl0,w30,rfl,-⟩
 refine⟨.pointer (some ⟨bs,10,none⟩),⟨rfl,fun _=>by kernel_rfl⟩,?_⟩
 refine⟨fun v fq w2=>v=undef∧OBx z3 bs (QA p 0 0 0 (b/256) (b%256) (some ⟨r,0,none⟩) d d) 149 w2,?_,fun _ _=>Jz rfl,(fun h=>by cases h),?_⟩
 ·rintro fl rfl
  refine Jv.skip rfl ?_
  rintro w' ⟨-,hob⟩
  have g1:w'.cell? ⟨bs,10,none⟩=some (.int .u8 0):=cell_of_row _ _ 10 _ _ (0,0) hob.1
  have g2:=frozen_of_row _ _ 10 _ _ hob.1
  refine⟨_,?_,hob.set 10 (.int .u8 (b%256))⟩
  simp[execOp,go_sem,g1,g2]
 rintro v ⟨gl2,w32,rfl,-⟩
 rintro z4 ⟨-,hob⟩
 have HS4:=Jnv hob.1
 have HX4:=Jnv ((hob.2.2 b0 (fun h=>hne0 h.symm) hb02).trans HX3.out)
 have HR4:=Jnv ((hob.2.2 r (fun h=>hne h.symm) hr2).trans HR3.out)
 have HZ4:Hid (Below y.heap.size y z4):=Jnv (HZ3.out.trans (hob.2.1.mono hbs))
 clear hob d36 gl0 gl2 w30 w32 HS3 HX3 HR3 HZ3 hb02 hbs2 hr2 hw1 hw2 bb0 bb1
 have HSZ:Hid ((QA p 0 0 0 (b/256) (b%256) (some ⟨r,0,none⟩) d d).size=12):=Jnv rfl
 simp only[Act.put,List.setIfInBounds_toArray,List.set_cons_succ,List.set_cons_zero]
 go_wp2_with fail
 have hb04:b0<z4.heap.size:=(Jnw HX4.out).1
 have hbs4:bs<z4.heap.size:=(Jnw HS4.out).1
 obtain⟨k1,hk1⟩:∃m,(Ja s S).length=m:=⟨_,rfl⟩
 have hk2:(Ja s T).length=k1:=by rw[Ji,←hk1,Ji]
 have HK:Hid (k1=4∨k1=16):=Jnv (by rw[←hk1,Ji];cases s;exact .inl rfl;exact .inr rfl)
 have HA1:Hid (∀w',Calls Tryz.prog 64 #[adV s S] w' (Jmm w' k1 (Ja s S))):=Jnv fun w'=>(bytes_any s S w').mono fun _ _ h=>h.n hk1 (JH hS s)
 have HA2:Hid (∀w',Calls Tryz.prog 64 #[adV s T] w' (Jmm w' k1 (Ja s T))):=Jnv fun w'=>(bytes_any s T w').mono fun _ _ h=>h.n hk2 (JH hT s)
 have HRZ:=Jnv (JdE HR4.out HD.out)
 refine J0 [.h,.h,.h,.h,.w,.h,.h,.h] [(0,2,0),(5,1,0),(6,1,0),(7,1,0)] (fun _ w'=>Jc w' bs 0 12=QA p 0 0 0 (b/256) (b%256) (some ⟨r,0,none⟩) d d∧Jc w' b0 17 17=(JnH s T:Array Value)) [2] [(.w,4),(.w,8),(.w,9),(.q,10),(.q,11),(.q,12),(.q,13)] (by kernel_rfl) (by kernel_rfl) (by kernel_rfl) (by kernel_rfl) ?_
 apply Exists.intro
 refine⟨fun wx hbx=>?_,?_,?_⟩
 ·have hxx:=(hbx.block b0 hb04).trans HX4.out
  have hss:=(hbx.block bs hbs4).trans HS4.out
  have hbx2:b0<wx.heap.size:=Jnz hb04 hbx.size
  have hbx3:bs<wx.heap.size:=Jnz hbs4 hbx.size
  have p0:Jc wx bs 0 12=QA p 0 0 0 (b/256) (b%256) (some ⟨r,0,none⟩) d d:=Jb hss rfl
  have hld:∀x:JC wx,Q5 Tryz.prog 149 x.world (.pointer (some ⟨bs,0,none⟩))=.ok (.value (.agg (QA p 0 0 0 (b/256) (b%256) (some ⟨r,0,none⟩) d d))) x.world:=fun x=>by
   have e:Jc x.world bs 0 12=_:=(JC.part x bs 0 12 hbx3).trans p0
   rw[QV x.world bs 0 (by rw[e];rfl),e]
  have p1:Jc wx b0 0 17=(JnH s S:Array Value):=by rw[Jn _ _ _ _ _ _ _ hxx];simp
  have p2:Jc wx b0 17 17=(JnH s T:Array Value):=by rw[Jn _ _ _ _ _ _ _ hxx];simp
  clear hxx hss hbx
  simp only[Ju]
  repeat go_big_quiet_step (fail)
  exact wpQuiet_nil rfl
 ·intro q hq oi hoi
  simp only[List.mem_cons,List.not_mem_nil,or_false] at hq
  rcases hq with rfl|rfl|rfl|rfl
  ·cases hoi;exact⟨_,rfl,rfl,fun w2 hw=>Jdt _ w2 bs _ (by kernel_rfl) hw.1 rfl⟩
  ·cases hoi;exact⟨_,rfl,rfl,fun w2 hw=>by kernel_rfl⟩
  ·cases hoi;exact⟨_,rfl,rfl,fun w2 hw=>by kernel_rfl⟩
  ·cases hoi;exact⟨_,rfl,rfl,fun w2 hw=>by simp[execOp,go_sem,hw.2]⟩
 have q0:Jc z4 bs 0 12=QA p 0 0 0 (b/256) (b%256) (some ⟨r,0,none⟩) d d:=Jb HS4.out rfl
 have q2:Jc z4 b0 17 17=(JnH s T:Array Value):=by rw[Jn _ _ _ _ _ _ _ HX4.out];simp
 simp only[JY,List.getElem?_cons_succ,List.getElem?_cons_zero]
 refine⟨fun v fl w2=>∃o1 c1,v=.slice o1 k1 c1∧Jj w2 o1 k1 c1 (Ja s S)∧Below z4.heap.size z4 w2,?_,?_,(fun h=>by cases h),?_⟩
 ·rintro fl rfl
  refine⟨rfl,fun w' hw'=>.inr ⟨64,#[adV s S],by kernel_rfl,?_⟩⟩
  obtain⟨⟨x,rfl⟩,-⟩:=hw'
  refine(HA1.out x.world).mono ?_
  rintro e w2 ⟨o1,c1,rfl,h1,hb⟩
  exact⟨_,rfl,o1,c1,rfl,h1,Jno x.below hb⟩
 ·rintro v fq g-w2 ⟨o1,c1,-,-,hb⟩
  exact⟨(Qs hb bs 0 12 hbs4).trans q0,(Qs hb b0 17 17 hb04).trans q2⟩
 rintro v ⟨gl0,w30,o1,c1,rfl,-⟩
 refine⟨fun v fl w2=>∃o2 c2,v=.slice o2 k1 c2∧Jj w2 o1 k1 c1 (Ja s S)∧Jj w2 o2 k1 c2 (Ja s T)∧Below z4.heap.size z4 w2,?_,?_,(fun h=>by cases h),?_⟩
 ·rintro fl rfl
  refine⟨rfl,fun w' hw'=>.inr ⟨64,#[adV s T],by kernel_rfl,?_⟩⟩
  obtain⟨o1',c1',he,h1,hb1⟩:=hw'
  obtain⟨rfl,rfl⟩:o1=o1'∧c1=c1':=by simpa using he
  refine(HA2.out w').mono ?_
  rintro e w2 ⟨o2,c2,rfl,h2,hb⟩
  exact⟨_,rfl,o2,c2,rfl,h1.below hb,h2,Jno hb1 hb⟩
 ·rintro v fq g-w2 ⟨o2,c2,-,-,-,hb⟩
  exact⟨(Qs hb bs 0 12 hbs4).trans q0,(Qs hb b0 17 17 hb04).trans q2⟩
 rintro v ⟨gl1,w31,o2,c2,rfl,-⟩
 refine⟨fun v fl w2=>∃oP cP,v=.tuple #[.slice oP L.length cP,.int .i64 0]∧JI w2 z4.heap.size 1 oP L.length cP (L.map (.int .u8))∧Below z4.heap.size z4 w2,?_,fun _ _=>Jz rfl,(fun h=>by cases h),?_⟩
 ·rintro fl rfl
  refine⟨rfl,fun w' hw'=>.inr ⟨94,#[.agg (QA p 0 0 0 (b/256) (b%256) (some ⟨r,0,none⟩) d d),.slice o1 k1 c1,.slice o2 k1 c2],by kernel_rfl,?_⟩⟩
  obtain⟨o2',c2',he,h1,h2,hb1⟩:=hw'
  obtain⟨rfl,rfl⟩:o2=o2'∧c2=c2':=by simpa using he
  refine(HPU.out _ d d o1 o2 k1 c1 c2 w' (HRZ.out.below hb1) h1 h2 HK.out (by have:=HD.out;omega)).mono ?_
  rintro e w2 ⟨oP,cP,rfl,ho,hb⟩
  exact⟨_,rfl,oP,cP,rfl,ho.mono hb1.size,Jno hb1 hb⟩
 rintro v ⟨gl2,w32,oP,cP,rfl,-⟩
 refine⟨.slice oP L.length cP,⟨rfl,fun _=>by kernel_rfl⟩,?_⟩
 refine⟨.int .i64 0,⟨rfl,fun _=>by kernel_rfl⟩,?_⟩
 refine⟨.slice oP L.length cP,⟨rfl,fun _=>by kernel_rfl⟩,?_⟩
 refine⟨.int .i64 0,⟨rfl,fun _=>by kernel_rfl⟩,?_⟩
 rintro y3 ⟨oP',cP',he,hoP,hb3⟩
 obtain⟨rfl,rfl⟩:oP=oP'∧cP=cP':=by simpa using he
 have HOP:=Jnv hoP
 have HB3:=Jnv hb3
 clear he gl0 gl1 gl2 w30 w31 w32 q0 q2 hk1 hk2 hoP hb3 hb04 hbs4 hbz hsz' hrz hlt hne hne0 hbs hr0 hS hT
 simp only[Act.put,List.setIfInBounds_toArray,List.set_cons_succ,List.set_cons_zero]
 go_wp2_with fail
 go_ret2
 exact⟨_,_,rfl,HOP.out.mono (Nat.le_trans HB.out.size HZ4.out.size),HB.out.trans ((HZ4.out.trans (HB3.out.mono HZ4.out.size)).mono HB.out.size)⟩
theorem Jmn {l:List Int}(h:l.length=4):∃a b c d,l=[a,b,c,d]:=by
 match l,h with
 |[a,b,c,d],_=>exact⟨a,b,c,d,rfl⟩
theorem Jfw (tot fr p:Int)(mf:Bool)(A D body t:List Int)(hA:A.length=4)(hD:D.length=4)(ht:tot=20+(body.length:Int))(hT:tot<65536)(hf:0≤fr∧fr<8192)(l:List Int)(hl:l=J8 ⟨0,tot,0,false,mf,fr,64,p,A,D,[]⟩++(body++t)):
 l.length=20+(body.length+t.length)∧l.getD 0 0/16=4∧Q4 l=0∧JA l=0∧Qj l=⟨false,JM A,JM D,p,tot,decide (0<fr),mf,body⟩:=by
 obtain⟨a0,a1,a2,a3,rfl⟩:=Jmn hA
 obtain⟨d0,d1,d2,d3,rfl⟩:=Jmn hD
 have hx:0≤QT ⟨0,tot,0,false,mf,fr,64,p,[a0,a1,a2,a3],[d0,d1,d2,d3],[]⟩∧QT ⟨0,tot,0,false,mf,fr,64,p,[a0,a1,a2,a3],[d0,d1,d2,d3],[]⟩<16384∧QT ⟨0,tot,0,false,mf,fr,64,p,[a0,a1,a2,a3],[d0,d1,d2,d3],[]⟩%8192=fr∧(QT ⟨0,tot,0,false,mf,fr,64,p,[a0,a1,a2,a3],[d0,d1,d2,d3],[]⟩/8192%2==1)=mf:=by
  unfold QT
  cases mf
  ·simp only[Bool.false_eq_true,if_false]
   refine⟨by omega,by omega,by omega,?_⟩
   rw[show(0+0+fr)/8192%2=0 by omega];rfl
  ·simp only[Bool.false_eq_true,if_false,if_true]
   refine⟨by omega,by omega,by omega,?_⟩
   rw[show(0+8192+fr)/8192%2=1 by omega];rfl
 have hw:Zr (J8 ⟨0,tot,0,false,mf,fr,64,p,[a0,a1,a2,a3],[d0,d1,d2,d3],[]⟩)=true:=by
  unfold J8 JQ
  refine Jh4 _ _ (by simp[be2]) ?_
  simp only[be2,List.cons_append,List.nil_append,Jam]
  exact Jnz (show 0<(64+((20+([]:List Int).length:Nat):Int)/4).toNat*256 by decide) (Nat.le_add_right _ _)
 obtain⟨C,hC⟩:∃C:Int,J8 ⟨0,tot,0,false,mf,fr,64,p,[a0,a1,a2,a3],[d0,d1,d2,d3],[]⟩=JQ ⟨0,tot,0,false,mf,fr,64,p,[a0,a1,a2,a3],[d0,d1,d2,d3],[]⟩ C:=⟨_,by rw[J8]⟩
 have hc:J8 ⟨0,tot,0,false,mf,fr,64,p,[a0,a1,a2,a3],[d0,d1,d2,d3],[]⟩=[69,0,tot/256%256,tot%256,0,0,QT ⟨0,tot,0,false,mf,fr,64,p,[a0,a1,a2,a3],[d0,d1,d2,d3],[]⟩/256%256,QT ⟨0,tot,0,false,mf,fr,64,p,[a0,a1,a2,a3],[d0,d1,d2,d3],[]⟩%256,64,p,C/256%256,C%256,a0,a1,a2,a3,d0,d1,d2,d3]:=by
  rw[hC]
  unfold JQ be2
  simp only[List.cons_append,List.nil_append,List.length_nil]
  rfl
 have h20:(J8 ⟨0,tot,0,false,mf,fr,64,p,[a0,a1,a2,a3],[d0,d1,d2,d3],[]⟩).length=20:=by rw[hc];rfl
 have htake:l.take 20=J8 ⟨0,tot,0,false,mf,fr,64,p,[a0,a1,a2,a3],[d0,d1,d2,d3],[]⟩:=by rw[hl];exact List.take_left' h20
 have hdrop:l.drop 20=body++t:=by rw[hl];exact List.drop_left' h20
 have hlen:l.length=20+(body.length+t.length):=by rw[hl,List.length_append,h20,List.length_append]
 generalize QT ⟨0,tot,0,false,mf,fr,64,p,[a0,a1,a2,a3],[d0,d1,d2,d3],[]⟩=X at*
 rw[←htake] at hw
 rw[hc] at hl htake
 have e0:l.getD 0 0=69:=by rw[hl];rfl
 have e9:l.getD 9 0=p:=by rw[hl];rfl
 have e2:w2 l 2=tot:=by
  have:w2 l 2=tot/256%256*256+tot%256:=by rw[hl];rfl
  omega
 have e6:w2 l 6=X:=by
  have:w2 l 6=X/256%256*256+X%256:=by rw[hl];rfl
  omega
 have hh:ipHl l=20:=by unfold ipHl;rw[e0];rfl
 have s1:(l.drop 12).take 4=[a0,a1,a2,a3]:=by rw[hl];rfl
 have s2:(l.drop 16).take 4=[d0,d1,d2,d3]:=by rw[hl];rfl
 have hE:Q4 l=0:=by
  unfold Q4
  rw[if_neg (by omega),if_neg (by rw[e0];decide),hh,if_neg (by omega),if_neg (by omega),if_neg (by rw[e6,e2];omega),if_neg (by rw[hw];decide)]
 have hb:Jan l=body:=by
  unfold Jan
  rw[hh,hdrop,e2,show tot.toNat-20=body.length by omega]
  exact List.take_left' rfl
 refine⟨hlen,by rw[e0];rfl,hE,?_,?_⟩
 ·unfold JA
  rw[hE,if_neg (by decide),e2,if_neg (by omega)]
 ·unfold Qj
  rw[s1,s2,e9,e2,e6,hb,hx.2.2.1,hx.2.2.2]
theorem JjU {l:List Int}(h:l.length=16):∃a b c d e f g h i j k m n o p q,l=[a,b,c,d,e,f,g,h,i,j,k,m,n,o,p,q]:=by
 match l,h with
 |[a,b,c,d,e,f,g,h,i,j,k,m,n,o,p,q],_=>exact⟨a,b,c,d,e,f,g,h,i,j,k,m,n,o,p,q,rfl⟩
def QC (n nx:Int)(A D:List Int):List Int:=Bits.be4 1610612736++be2 n++[nx,64]++A++D
theorem Jhx (n nx:Int)(A D X:List Int)(hA:A.length=16)(hD:D.length=16)(hn:0≤n∧n<65536)(l:List Int)(hl:l=QC n nx A D++X):
 l.length=40+X.length∧l.getD 0 0/16=6∧ZR l=0∧l.getD 6 0=nx∧l.getD 7 0=64∧w2 l 4=n∧(l.drop 8).take 16=A∧(l.drop 24).take 16=D∧l.drop 40=X:=by
 obtain⟨a0,a1,a2,a3,a4,a5,a6,a7,a8,a9,a10,a11,a12,a13,a14,a15,rfl⟩:=JjU hA
 obtain⟨d0,d1,d2,d3,d4,d5,d6,d7,d8,d9,d10,d11,d12,d13,d14,d15,rfl⟩:=JjU hD
 have hl':l=96::0::0::0::(n/256%256)::(n%256)::nx::64::a0::a1::a2::a3::a4::a5::a6::a7::a8::a9::a10::a11::a12::a13::a14::a15::d0::d1::d2::d3::d4::d5::d6::d7::d8::d9::d10::d11::d12::d13::d14::d15::X:=by rw[hl];rfl
 clear hl
 have hlen:l.length=40+X.length:=by rw[hl'];simp only[List.length_cons];omega
 have e0:l.getD 0 0=96:=by rw[hl'];rfl
 have e4:w4 l 0=1610612736:=by
  have:w4 l 0=(96*256+0)*65536+(0*256+0):=by rw[hl'];rfl
  rw[this];rfl
 refine⟨hlen,by rw[e0];rfl,?_,by rw[hl'];rfl,by rw[hl'];rfl,?_,by rw[hl'];rfl,by rw[hl'];rfl,by rw[hl'];rfl⟩
 ·unfold ZR
  rw[if_neg (by omega),e4,if_neg (by decide)]
 ·have:w2 l 4=n/256%256*256+n%256:=by rw[hl'];rfl
  omega
theorem JlU (p:Int)(A D body t:List Int)(hA:A.length=16)(hD:D.length=16)(hn:(body.length:Int)<65536)(hp:JP p=false)(l:List Int)(hl:l=QC (body.length:Nat) p A D++(body++t)):
 l.length=40+(body.length+t.length)∧l.getD 0 0/16=6∧JE l=0∧Xk l=.done [] p 0∧QE l=⟨true,JM A,JM D,p,40+(body.length:Nat),false,false,body⟩:=by
 obtain⟨hlen,h6,he,e6,e7,e4,s1,s2,hd⟩:=Jhx _ p A D (body++t) hA hD (by omega) l hl
 rw[List.length_append] at hlen
 have hch:Xk l=.done [] p 0:=by
  unfold Xk
  rw[e6]
  unfold ZE
  rw[hp];rfl
 have hbody:Xl l=body:=by
  unfold Xl Jmg
  rw[hch,hd,e4]
  simp only[List.drop_zero,Int.toNat_natCast]
  exact List.take_left' rfl
 refine⟨hlen,h6,?_,hch,?_⟩
 ·unfold JE
  rw[he,if_neg (by decide),e4,if_neg (by omega),hch]
 ·unfold QE Xw Xx
  rw[s1,s2,e4,hbody,hch]
  rfl
theorem JhZ (p x y:Int)(A D body:List Int)(hA:A.length=16)(hD:D.length=16)(hn:(8+body.length:Int)<65536)(hp:JP p=false)(hx:0≤x∧x<256)(hy:0≤y∧y<256)(h6:y/2%4=0)(l:List Int)(hl:l=QC (8+body.length:Nat) 44 A D++([p,0,x,y,0,0,0,7]++body)):
 l.length=48+body.length∧l.getD 0 0/16=6∧JE l=0∧QE l=⟨true,JM A,JM D,p,48+(body.length:Int),decide (0<(x*256+y)/8),(y%2==1),body⟩:=by
 obtain⟨hlen,h6',he,e6,e7,e4,s1,s2,hd⟩:=Jhx _ 44 A D ([p,0,x,y,0,0,0,7]++body) hA hD (by omega) l hl
 rw[List.length_append,show[p,0,x,y,0,0,0,7].length=8 from rfl] at hlen
 have hX:(l.drop 40).take (w2 l 4).toNat=[p,0,x,y,0,0,0,7]++body:=by
  rw[hd,e4,Int.toNat_natCast]
  exact List.take_of_length_le (by rw[List.length_append];exact JnA _)
 have hone:QY [] 44 (([p,0,x,y,0,0,0,7]++body).drop 0)=.ok 44 [x,y,0,0,0,7] p 8:=by
  unfold QY
  rw[if_neg (by decide),if_neg (by rw[List.drop_zero,List.length_append];simp only[List.length_cons];omega)]
  simp only[if_true,List.drop_zero]
  rw[if_neg (by rw[List.length_append];simp only[List.length_cons];omega)]
  have hd2:((([p,0,x,y,0,0,0,7]++body).take 8).drop 2)=[x,y,0,0,0,7]:=rfl
  rw[hd2,if_neg]
  ·rfl
  ·rintro⟨-,h|h⟩
   ·exact h rfl
   ·unfold Qc Q7 at h
    rw[if_pos rfl] at h
    have e:w2 [x,y,0,0,0,7] 0=x*256+y:=rfl
    rw[if_neg (show¬[x,y,0,0,0,7].length<2 from(by decide:¬6<2)),e,decide_eq_true (show(x*256+y)/2%4=0 by omega)] at h
    cases h
 have hsays:Q7 [x,y,0,0,0,7]=x*256+y:=rfl
 have hch:Xk l=.done [(44,[x,y,0,0,0,7])] p 8:=by
  unfold Xk
  rw[e6,hX]
  unfold ZE
  rw[if_pos (by decide),hone]
  simp only
  split
  ·rfl
  ·unfold ZE
   rw[hp];rfl
 have hbody:Xl l=body:=by
  unfold Xl Jmg
  rw[hch,hX]
  rfl
 refine⟨by omega,h6',?_,?_⟩
 ·unfold JE
  rw[he,if_neg (by decide),e4,if_neg (by omega),hch]
 ·unfold QE Xw Xx
  rw[s1,s2,e4,hbody,hch]
  simp only[ZS,X3,Jct,if_true,hsays]
  rw[show(x*256+y)%2=y%2 by omega,show(40:Int)+(8+body.length:Nat)=48+(body.length:Int) by omega]
theorem Jmo (a b f:Int)(d src dst:List Int):∃c:Int,Jaf 6 a b f d src dst=a/256%256::a%256::b/256%256::b%256::0::0::0::0::0::0::0::0::80::f::0::0::c/256%256::c%256::0::0::d:=⟨_,rfl⟩
theorem Jmp (a b f:Int)(d src dst:List Int):∃c:Int,Jaf 17 a b f d src dst=a/256%256::a%256::b/256%256::b%256::((8+d.length:Nat):Int)/256%256::((8+d.length:Nat):Int)%256::c/256%256::c%256::d:=⟨_,rfl⟩
theorem JlV (p a b f:Int)(hp:p=1∨p=58)(d src dst:List Int):∃c:Int,Jaf p a b f d src dst=a::b::c/256%256::c%256::d:=by
 rcases hp with rfl|rfl
 ·exact⟨_,rfl⟩
 ·exact⟨_,rfl⟩
theorem Jmq (a b f:Int)(ha:0≤a∧a<65536)(hb:0≤b∧b<65536)(d src dst:List Int)(cut:Nat)(h8:8≤cut)(hc:cut≤(Jaf 6 a b f d src dst).length)(hm:cut%8=0):
 Jy 6 ((Jaf 6 a b f d src dst).take cut)=⟨0,a,b,if cut<14 then 0 else f⟩:=by
 obtain⟨c,hl⟩:=Jmo a b f d src dst
 generalize Jaf 6 a b f d src dst=l at*
 obtain⟨k,rfl⟩:∃k,cut=k+8:=⟨cut-8,by omega⟩
 have hlen:(l.take (k+8)).length=k+8:=by rw[List.length_take];omega
 have e0:w2 (l.take (k+8)) 0=a:=by
  have:w2 (l.take (k+8)) 0=a/256%256*256+a%256:=by rw[hl];rfl
  omega
 have e2:w2 (l.take (k+8)) 2=b:=by
  have:w2 (l.take (k+8)) 2=b/256%256*256+b%256:=by rw[hl];rfl
  omega
 unfold Jy
 rw[show JU 6=false from rfl,if_neg (by decide),hlen,if_neg (by omega),e0,e2]
 by_cases h:k+8<14
 ·rw[if_neg (by omega),if_pos h]
 ·rw[if_pos ⟨rfl,by omega⟩,if_neg h]
  obtain⟨j,rfl⟩:∃j,k=j+8:=⟨k-8,by omega⟩
  have:(l.take (j+8+8)).getD 13 0=f:=by rw[hl];rfl
  rw[this]
theorem Jmr (a b f:Int)(ha:0≤a∧a<65536)(hb:0≤b∧b<65536)(d src dst:List Int)(cut:Nat)(h8:8≤cut)(hc:cut≤(Jaf 17 a b f d src dst).length):
 Jy 17 ((Jaf 17 a b f d src dst).take cut)=⟨0,a,b,0⟩:=by
 obtain⟨c,hl⟩:=Jmp a b f d src dst
 generalize Jaf 17 a b f d src dst=l at*
 obtain⟨k,rfl⟩:∃k,cut=k+8:=⟨cut-8,by omega⟩
 have hlen:(l.take (k+8)).length=k+8:=by rw[List.length_take];omega
 have e0:w2 (l.take (k+8)) 0=a:=by
  have:w2 (l.take (k+8)) 0=a/256%256*256+a%256:=by rw[hl];rfl
  omega
 have e2:w2 (l.take (k+8)) 2=b:=by
  have:w2 (l.take (k+8)) 2=b/256%256*256+b%256:=by rw[hl];rfl
  omega
 unfold Jy
 rw[show JU 17=false from rfl,if_neg (by decide),hlen,if_neg (by omega),e0,e2,if_neg (fun h=>absurd h.1 (by decide))]
theorem JlW (p a b f:Int)(hp:p=1∨p=58)(d src dst:List Int)(cut:Nat)(h8:8≤cut)(hc:cut≤(Jaf p a b f d src dst).length):
 Jy p ((Jaf p a b f d src dst).take cut)=⟨0,0,a*256+b,0⟩:=by
 obtain⟨c,hl⟩:=JlV p a b f hp d src dst
 generalize Jaf p a b f d src dst=l at*
 obtain⟨k,rfl⟩:∃k,cut=k+8:=⟨cut-8,by omega⟩
 have hlen:(l.take (k+8)).length=k+8:=by rw[List.length_take];omega
 have e0:w2 (l.take (k+8)) 0=a*256+b:=by rw[hl];rfl
 have hi:JU p=true:=by rcases hp with rfl|rfl<;>rfl
 unfold Jy
 rw[hi,if_pos rfl,hlen,if_neg (by omega),e0]
theorem JbW {s:Bool}{B:Nat→Int}(hr:JR s B=true)(i:Nat)(hi:i<16):JM (Ja s B) i=B i:=by
 by_cases h:i<(JcI s).toNat
 ·exact ZU s B i h
 ·cases s
  ·rw[JeF (Ji false B) i (by omega),Jbg.1 hr i (by simpa[JcI] using h) hi]
  ·exact absurd hi (by simpa[JcI] using h)
theorem X9 {x:Bool}{S S' T T':Nat→Int}{p a b n f:Int}{g:Bool}(hS:∀i,i<16→S' i=S i)(hT:∀i,i<16→T' i=T i):Zh ⟨x,S',T',p,a,b,n,f,g⟩=Zh ⟨x,S,T,p,a,b,n,f,g⟩:=by
 unfold Zh
 simp only
 rw[hS 0 (by decide),hS 1 (by decide),hS 2 (by decide),hS 3 (by decide),hS 4 (by decide),hS 5 (by decide),hS 6 (by decide),hS 7 (by decide),hS 8 (by decide),hS 9 (by decide),hS 10 (by decide),hS 11 (by decide),hS 12 (by decide),hS 13 (by decide),hS 14 (by decide),hS 15 (by decide),
  hT 0 (by decide),hT 1 (by decide),hT 2 (by decide),hT 3 (by decide),hT 4 (by decide),hT 5 (by decide),hT 6 (by decide),hT 7 (by decide),hT 8 (by decide),hT 9 (by decide),hT 10 (by decide),hT 11 (by decide),hT 12 (by decide),hT 13 (by decide),hT 14 (by decide),hT 15 (by decide)]
structure Jms (s:Sp):Prop where
 right:JX s.k=true
 S:JR s.k.s s.k.S=true
 T:JR s.k.t s.k.T=true
 st:s.k.s=s.k.t
 plain:ZB s.k.p s.k.a s.k.b=true
 chain:s.k.s=true→JP s.k.p=false
 flags:s.k.p≠6→s.f=0
 n0:0≤s.n
 n1:s.n≤2048
 len:(Qv s++Jx s).length≤2048
 is:spL s=Qv s++Jx s
theorem JdG {s:Sp}(he:Q1 s=0):Jms s:=by
 have hL:spL s=Qv s++Jx s:=by unfold spL;rw[if_pos he]
 unfold Q1 at he
 by_cases h1:Jb9 s=true
 ·rw[if_pos h1] at he;cases he
 rw[if_neg h1] at he
 by_cases h2:2048<s.n
 ·rw[if_pos h2] at he;cases he
 rw[if_neg h2] at he
 by_cases h3:2048<(Qv s++Jx s).length
 ·rw[if_pos h3] at he;cases he
 unfold Jb9 at h1
 simp only[Bool.or_eq_true,Bool.and_eq_true,Bool.not_eq_true',decide_eq_true_eq,bne_iff_ne,not_or,not_and,Bool.not_eq_false,Bool.not_eq_true,Decidable.not_not] at h1
 obtain⟨hr,hc,hf,hn⟩:=h1
 have hr':=hr
 unfold JX at hr'
 simp only[Bool.and_eq_true,beq_iff_eq] at hr'
 exact⟨hr,hr'.1,hr'.2.1,hr'.2.2.1,hr'.2.2.2,hc,fun h=>Decidable.byContradiction fun h'=>h (hf h'),by omega,by omega,by omega,hL⟩
theorem JkX (s:Sp):(Qh s.n.toNat).length=s.n.toNat:=by simp[Qh]
theorem JjV {s:Sp}(ho:Jha s)(hy:Jms s)(cut:Nat)(h8:8≤cut)(hc:cut≤(Jx s).length)(hmod:cut%8=0)(o:Jb8)(hp:o.proto=s.k.p)(hf:o.frag=false)(hm:o.more=true)(hb:o.body=(Jx s).take cut):Ja6 o=⟨0,s.k.a,s.k.b,if cut<14 then 0 else s.f⟩:=by
 have hpl:=hy.plain
 have hfl:=hy.flags
 have h0:s.k.p≠6→(if cut<14 then 0 else s.f)=0:=fun h=>by rw[hfl h];exact ite_self _
 unfold Ja6
 rw[hp,hf,hm,hb]
 unfold Jx at hc⊢
 by_cases hP:JW s.k.p=true
 ·rw[if_pos (by rw[hP];rfl),if_pos rfl]
  simp only at hc⊢
  rw[if_pos hP] at hc⊢
  rcases(by simpa[JW] using hP:s.k.p=6∨s.k.p=17) with h|h
  ·rw[h] at hc⊢;exact Jmq _ _ _ ho.k.a ho.k.b _ _ _ cut h8 hc hmod
  ·rw[h0 (by omega)];rw[h] at hc⊢;rw[Jmr _ _ _ ho.k.a ho.k.b _ _ _ cut h8 hc]
 by_cases hI:JU s.k.p=true
 ·rw[if_pos (by rw[hI];simp),if_pos rfl]
  simp only at hc⊢
  rw[if_neg hP,if_pos hI] at hc⊢
  have hi:s.k.p=1∨s.k.p=58:=by simpa[JU] using hI
  rw[JlW _ _ _ _ hi _ _ _ cut h8 hc,h0 (by omega)]
  have ha:s.k.a=0:=by
   unfold ZB at hpl
   simp only[Bool.not_eq_true] at hP
   rw[hP] at hpl
   simpa using(by simpa using hpl:s.k.a=0∧_).1
  have hb:=ho.k.b
  rw[ha,show s.k.b/256*256+s.k.b%256=s.k.b by omega]
 ·simp only[Bool.not_eq_true] at hP hI
  rw[if_neg (by rw[hP,hI];simp)]
  unfold ZB at hpl
  rw[hP,hI] at hpl
  have:s.k.a=0∧s.k.b=0:=by simpa using hpl
  have h6:s.k.p≠6:=fun h=>by rw[h] at hP;cases hP
  rw[this.1,this.2,h0 h6]
theorem Jh0 (o:Jb8)(hf:o.frag=true):Ja6 o=⟨0,0,0,0⟩:=by
 unfold Ja6
 rw[hf,if_neg (by simp)]
theorem JjW {l:List Int}{o:Jb8}{u:Jg9}(h0:l.length≠0)(hlen:l.length≤2048)(h4:l.getD 0 0/16=4)(he:JA l=0)(ho:Qj l=o)(hu:Ja6 o=u)(hue:u.err=0):Qu l=0∧JiW l=Jig o u:=by
 have hE:Qu l=0:=by
  unfold Qu
  rw[if_neg (by omega),if_neg h0,if_pos h4,he,if_neg (by decide),ho,hu,hue]
 refine⟨hE,?_⟩
 unfold JiW
 rw[hE,if_neg (by decide),if_pos h4,ho,hu]
theorem Jln {l:List Int}{o:Jb8}{u:Jg9}(h0:l.length≠0)(hlen:l.length≤2048)(h6:l.getD 0 0/16=6)(he:JE l=0)(ho:QE l=o)(hu:Ja6 o=u)(hue:u.err=0):Qu l=0∧JiW l=Jig o u:=by
 have hE:Qu l=0:=by
  unfold Qu
  rw[if_neg (by omega),if_neg h0,if_neg (by omega),if_pos h6,he,if_neg (by decide),ho,hu,hue]
 refine⟨hE,?_⟩
 unfold JiW
 rw[hE,if_neg (by decide),if_neg (by omega),ho,hu]
theorem Jfx {s:Sp}(hs:s.k.s=false):Qv s=J8 ⟨0,20+((Jx s).length:Int),0,false,false,0,64,s.k.p,Ja false s.k.S,Ja false s.k.T,[]⟩:=by
 unfold Qv;rw[hs,if_neg (by decide)];rfl
theorem Jfy {s:Sp}(hs:s.k.s=true):Qv s=QC ((Jx s).length:Nat) s.k.p (Ja true s.k.S) (Ja true s.k.T):=by
 unfold Qv;rw[hs,if_pos rfl];rfl
theorem JaK (h:IpH)(hA:h.src.length=4)(hD:h.dst.length=4)(ho:h.opt=[]):(J8 h).length=20:=by
 unfold J8 JQ
 simp[be2,hA,hD,ho]
theorem XM (n nx:Int)(A D:List Int)(hA:A.length=16)(hD:D.length=16):(QC n nx A D).length=40:=by
 simp[QC,be2,Bits.be4,hA,hD]
theorem Xo {s:Sp}:(Qv s).length=if s.k.s=true then 40 else 20:=by
 cases hs:s.k.s
 ·rw[Jfx hs,JaK _ (Ji _ _) (Ji _ _) rfl];rfl
 ·rw[Jfy hs,XM _ _ _ _ (Ji _ _) (Ji _ _)];rfl
def XN (s:Sp)(cut:Nat):List Int:=(if s.k.s=true then QC (8+cut:Nat) 44 (Ja true s.k.S) (Ja true s.k.T)++[s.k.p,0,0,1,0,0,0,7] else J8 ⟨0,20+(cut:Int),0,false,true,0,64,s.k.p,Ja false s.k.S,Ja false s.k.T,[]⟩)++(Jx s).take cut
def XO (s:Sp)(cut:Nat):List Int:=(if s.k.s=true then QC (8+((Jx s).length-cut):Nat) 44 (Ja true s.k.S) (Ja true s.k.T)++[s.k.p,0,((cut/256:Nat):Int),((cut%256:Nat):Int),0,0,0,7] else J8 ⟨0,20+(((Jx s).length-cut:Nat):Int),0,false,false,((cut/8:Nat):Int),64,s.k.p,Ja false s.k.S,Ja false s.k.T,[]⟩)++(Jx s).drop cut
theorem JkY {s:Sp}(ho:Jha s)(he:Q1 s=0)(cut:Nat)(h8:8≤cut)(hm:cut%8=0)(hc:cut<(Jx s).length)(hlen:(spL s).length+8≤2048):
 Qu (XN s cut)=0∧Zh (JiW (XN s cut))=Zh ⟨s.k.s,s.k.S,s.k.T,s.k.p,s.k.a,s.k.b,(XN s cut).length,if cut<14 then 0 else s.f,false⟩:=by
 have hy:=JdG he
 have hSA:=fun i hi=>JbW hy.S i hi
 have hTA:=fun i hi=>JbW hy.T i hi
 have hst:=hy.st
 have hSL:(spL s).length=(Qv s).length+(Jx s).length:=by rw[hy.is,List.length_append]
 have htk:((Jx s).take cut).length=cut:=by rw[List.length_take];omega
 cases hs:s.k.s with
 |false=>
  rw[hs] at hSA
  rw[←hst,hs] at hTA
  have hhl:(Qv s).length=20:=by rw[Xo,hs];rfl
  have hfr:XN s cut=J8 ⟨0,20+(cut:Int),0,false,true,0,64,s.k.p,Ja false s.k.S,Ja false s.k.T,[]⟩++((Jx s).take cut++[]):=by
   unfold XN;rw[hs,if_neg (by decide),List.append_nil]
  obtain⟨h1,h2,-,h3,h4⟩:=Jfw (20+(cut:Int)) 0 s.k.p true (Ja false s.k.S) (Ja false s.k.T) ((Jx s).take cut) [] (Ji _ _) (Ji _ _) (by rw[htk]) (by omega) (by decide) _ hfr
  rw[htk,List.length_nil] at h1
  obtain⟨e1,e2⟩:=JjW (by omega) (by omega) h2 h3 h4 (JjV ho hy cut h8 (by omega) hm _ rfl rfl rfl rfl) rfl
  refine⟨e1,?_⟩
  rw[e2,h1]
  refine(X9 hSA hTA).trans ?_
  rw[show((20+(cut+0):Nat):Int)=20+(cut:Int) by omega]
  rfl
 |true=>
  rw[hs] at hSA
  rw[←hst,hs] at hTA
  have hfr:XN s cut=QC (8+((Jx s).take cut).length:Nat) 44 (Ja true s.k.S) (Ja true s.k.T)++([s.k.p,0,0,1,0,0,0,7]++(Jx s).take cut):=by
   unfold XN;rw[hs,if_pos rfl,List.append_assoc,htk]
  obtain⟨h1,h2,h3,h4⟩:=JhZ s.k.p 0 1 (Ja true s.k.S) (Ja true s.k.T) ((Jx s).take cut) (Ji _ _) (Ji _ _) (by rw[htk];omega) (hy.chain hs) (by decide) (by decide) (by decide) _ hfr
  rw[htk] at h1
  obtain⟨e1,e2⟩:=Jln (by omega) (by have:=Xo (s:=s);rw[hs,if_pos rfl] at this;omega) h2 h3 h4 (JjV ho hy cut h8 (by omega) hm _ rfl rfl rfl rfl) rfl
  refine⟨e1,?_⟩
  rw[e2,h1,htk]
  refine(X9 hSA hTA).trans ?_
  rw[show((48+cut:Nat):Int)=48+(cut:Int) by omega]
  rfl
theorem JkZ {s:Sp}(ho:Jha s)(he:Q1 s=0)(cut:Nat)(h8:8≤cut)(hm:cut%8=0)(hc:cut<(Jx s).length)(hlen:(spL s).length+8≤2048):
 Qu (XO s cut)=0∧Zh (JiW (XO s cut))=Zh ⟨s.k.s,s.k.S,s.k.T,s.k.p,0,0,(XO s cut).length,0,true⟩:=by
 have hy:=JdG he
 have hSA:=fun i hi=>JbW hy.S i hi
 have hTA:=fun i hi=>JbW hy.T i hi
 have hst:=hy.st
 have hSL:(spL s).length=(Qv s).length+(Jx s).length:=by rw[hy.is,List.length_append]
 have htk:((Jx s).drop cut).length=(Jx s).length-cut:=by rw[List.length_drop]
 cases hs:s.k.s with
 |false=>
  rw[hs] at hSA
  rw[←hst,hs] at hTA
  have hhl:(Qv s).length=20:=by rw[Xo,hs];rfl
  have hfr:XO s cut=J8 ⟨0,20+(((Jx s).length-cut:Nat):Int),0,false,false,((cut/8:Nat):Int),64,s.k.p,Ja false s.k.S,Ja false s.k.T,[]⟩++((Jx s).drop cut++[]):=by
   unfold XO;rw[hs,if_neg (by decide),List.append_nil]
  obtain⟨h1,h2,-,h3,h4⟩:=Jfw (20+(((Jx s).length-cut:Nat):Int)) ((cut/8:Nat):Int) s.k.p false (Ja false s.k.S) (Ja false s.k.T) ((Jx s).drop cut) [] (Ji _ _) (Ji _ _) (by rw[htk]) (by omega) (by omega) _ hfr
  rw[htk,List.length_nil] at h1
  rw[decide_eq_true (show(0:Int)<((cut/8:Nat):Int) by omega)] at h4
  obtain⟨e1,e2⟩:=JjW (by omega) (by omega) h2 h3 h4 (Jh0 _ rfl) rfl
  refine⟨e1,?_⟩
  rw[e2,h1]
  refine(X9 hSA hTA).trans ?_
  rw[show((20+((Jx s).length-cut+0):Nat):Int)=20+(((Jx s).length-cut:Nat):Int) by omega]
 |true=>
  rw[hs] at hSA
  rw[←hst,hs] at hTA
  have hfr:XO s cut=QC (8+((Jx s).drop cut).length:Nat) 44 (Ja true s.k.S) (Ja true s.k.T)++([s.k.p,0,((cut/256:Nat):Int),((cut%256:Nat):Int),0,0,0,7]++(Jx s).drop cut):=by
   unfold XO;rw[hs,if_pos rfl,List.append_assoc,htk]
  have hhl:(Qv s).length=40:=by rw[Xo,hs];rfl
  obtain⟨h1,h2,h3,h4⟩:=JhZ s.k.p ((cut/256:Nat):Int) ((cut%256:Nat):Int) (Ja true s.k.S) (Ja true s.k.T) ((Jx s).drop cut) (Ji _ _) (Ji _ _) (by rw[htk];omega) (hy.chain hs) (by omega) (by omega) (by omega) _ hfr
  rw[htk] at h1
  rw[decide_eq_true (show(0:Int)<(((cut/256:Nat):Int)*256+((cut%256:Nat):Int))/8 by omega)] at h4
  obtain⟨e1,e2⟩:=Jln (by omega) (by omega) h2 h3 h4 (Jh0 _ rfl) rfl
  refine⟨e1,?_⟩
  rw[e2,h1,htk]
  refine(X9 hSA hTA).trans ?_
  rw[show((48+((Jx s).length-cut):Nat):Int)=48+(((Jx s).length-cut:Nat):Int) by omega]
end
end Go.Proofs.YtkgjbipfhhjlpaaGreatDoor
