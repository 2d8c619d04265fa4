import Derived.Test.YtkgjbipfhhjlpaaGreatDoorMf15
set_option linter.unusedVariables false
set_option linter.unusedSimpArgs false
set_option maxRecDepth 100000
set_option maxHeartbeats 32000000
namespace Go.Proofs.YtkgjbipfhhjlpaaGreatDoor
section
open Go.RowKit Bits
theorem Qx (p:Int)(hp:p=6∨p=17∨p=1∨p=58)(r:Nat)(w:World)(h:w.heap[r]? =some (.map Qa 4)):
 (Instr.lookup 224 (.map (some r)) (.int .u8 p) true).run Tryz.prog w=.ok (.tuple #[Jdv p,true]) w:=by
 rcases hp with rfl|rfl|rfl|rfl
 ·exact Qz (P:=Tryz.prog) 224 5 222 r 4 Qa .u8 6 Jgz true w Tryz.underlying224 Tryz.underlying5 h (some (0,Jfr)) rfl JaY
 ·exact Qz (P:=Tryz.prog) 224 5 222 r 4 Qa .u8 17 Jgz true w Tryz.underlying224 Tryz.underlying5 h (some (1,Jfs)) rfl JaY
 ·exact Qz (P:=Tryz.prog) 224 5 222 r 4 Qa .u8 1 Jgz true w Tryz.underlying224 Tryz.underlying5 h (some (2,XV)) rfl JaY
 ·exact Qz (P:=Tryz.prog) 224 5 222 r 4 Qa .u8 58 Jgz true w Tryz.underlying224 Tryz.underlying5 h (some (3,XV)) rfl JaY
theorem QH {P:Program}(ev:Operand→Value)(w:World){dst:Option Tmp}{ty:TypeId}{pos:String}{after:Array Edge}{g:Option (Nat×Bool)}{t:TypeId}{m x:Operand}{ok:Bool}{vm vx v:Value}(hm:ev m=vm)(hx:ev x=vx)
 (hr:(Instr.lookup t vm vx ok).run P w=.ok v w):(execOp ev ⟨dst,.lookup t m x ok,ty,pos,after,g⟩).run P w=.ok (.value v) w:=by
 simp[execOp,hm,hx,hr,Result.andThen]
def XX (y:World)(r:Nat)(fl:Option Nat)(w:World):Prop:=Below y.heap.size y w∧y.heap.size≤r∧w.heap[r]? =some (.map Qa 4)∧∀b,fl=some b→y.heap.size≤b∧w.heap[b]? =some (.cells #[.int .i64 0,.int .i64 0,.nilFunc,.nilFunc,.nilFunc] 222 (0,0))
theorem Jz {G:Nat→World→Prop}{k t:Nat}{C:World→Prop}(h:decide (t<k)=true):JfE G [t] k C:=by
 intro g hg w _
 rcases g with _|g
 ·simp at hg;simp at h;omega
 ·simp at hg
  have:=of_decide_eq_true h
  omega
theorem JaZ {w:World}{b:Nat}{x0 x1 x2 x3 x4 x5 x6 x7 x8 x9 x10 x11:Value}{t:TypeId}(u:Value)(h:w.heap[b]? =some (.cells #[x0,x1,x2,x3,x4,x5,x6,x7,x8,x9,x10,x11] t (0,0))):(w.setCell ⟨b,0,none⟩ u).heap[b]? =some (.cells #[u,x1,x2,x3,x4,x5,x6,x7,x8,x9,x10,x11] t (0,0)):=by
 rw[heap_setCell_same _ b 0 #[x0,x1,x2,x3,x4,x5,x6,x7,x8,x9,x10,x11] t u h];rfl
theorem Jdy {w:World}{b:Nat}{x0 x1 x2 x3 x4 x5 x6 x7 x8 x9 x10 x11:Value}{t:TypeId}(u:Value)(h:w.heap[b]? =some (.cells #[x0,x1,x2,x3,x4,x5,x6,x7,x8,x9,x10,x11] t (0,0))):(w.setCell ⟨b,11,none⟩ u).heap[b]? =some (.cells #[x0,x1,x2,x3,x4,x5,x6,x7,x8,x9,x10,u] t (0,0)):=by
 rw[heap_setCell_same _ b 11 #[x0,x1,x2,x3,x4,x5,x6,x7,x8,x9,x10,x11] t u h];rfl
theorem Jiy (a b f:Int)(oD:Option Addr)(n cD:Nat)(l:List Int)(w:World)(hr:Jj w oD n cD l)(hn:n≤60000):
 Calls Tryz.prog 152 #[.agg (QA 6 a b f 0 0 oD n cD)] w (Jk w (.bool true)):=by
 have hR0:=Jnv hr
 have HR:=Jnv hr
 have HLK:Hid (∀r w',w'.heap[r]? =some (.map Qa 4)→(Instr.lookup 224 (.map (some r)) (.int .u8 6) true).run Tryz.prog w'=.ok (.tuple #[.agg #[.int .i64 20,.int .i64 16,.func (.func 184) #[] #[],.func (.func 185) #[] #[],.func (.func 186) #[] #[]],true]) w'):=Jnv (fun r w' h=>Qx 6 (.inl rfl) r w' h)
 have HP:Hid (∀w',Calls Tryz.prog 184 #[.agg #[.int .u8 6,.int .u16 a,.int .u16 b,.int .u32 0,.int .u32 0,.int .u8 f,.int .u16 0,.int .u16 0,.slice none 0 0,.int .u8 0,.int .u8 0,.slice oD n cD]] w' (Jk w' (.agg (JnM (6:Int) (.int .u16 a) (.int .u16 b) f (.slice oD n cD))))):=Jnv (fun w'=>Jit 6 a b f oD n cD w')
 have HSM:Hid (∀w',Jj w' oD n cD l→Calls Tryz.prog 195 #[.agg #[.int .u8 6,.int .u16 a,.int .u16 b,.int .u32 0,.int .u32 0,.int .u8 f,.int .u16 0,.int .u16 0,.slice none 0 0,.int .u8 0,.int .u8 0,.slice oD n cD],.agg #[.int .u8 6,.int .u16 a,.int .u16 b,.int .u32 0,.int .u32 0,.int .u8 f,.int .u16 0,.int .u16 0,.slice none 0 0,.int .u8 0,.int .u8 0,.slice oD n cD]] w' (Jk w' (.bool true))):=Jnv (fun w' h=>Jdx 6 a b f 0 0 oD n cD l w' h)
 have HTL:Hid (∀w',Calls Tryz.prog 138 #[.agg #[.int .i64 20,.int .i64 16,.func (.func 184) #[] #[],.func (.func 185) #[] #[],.func (.func 186) #[] #[]],.agg #[.int .u8 6,.int .u16 a,.int .u16 b,.int .u32 0,.int .u32 0,.int .u8 f,.int .u16 0,.int .u16 0,.slice none 0 0,.int .u8 0,.int .u8 0,.slice oD n cD]] w' (Jk w' (.int .i64 (20+(n:Int))))):=Jnv (fun w'=>XJ 20 _ _ _ _ 6 a b f 0 0 oD n cD w' (by decide) (by omega))
 have hx:=heap_alloc_new w (.cells (QA 6 a b f 0 0 oD n cD) 149)
 have hB:Below w.heap.size w (w.alloc (.cells (QA 6 a b f 0 0 oD n cD) 149)):=Below.all (Jny _ _) _
 unfold QA at hx hB⊢
 have hle:decide ((20:Int)+(n:Int)≤65535)=true:=by simp;omega
 clear hr
 go_enter Tryz.func152,Tryz.ntmps152
 go_wp2_with fail
 obtain⟨b0,hb0e⟩:∃b,b=w.heap.size:=⟨_,rfl⟩
 rw[←hb0e] at hx⊢
 have HE0:=Jnv hb0e
 clear hb0e
 generalize hy:w.alloc (.cells (JnM (6:Int) (.int .u16 a) (.int .u16 b) f (.slice oD n cD)) 149)=y at*
 have hb0:b0<y.heap.size:=(Jnw hx).1
 have hc0:y.cell? ⟨b0,0,none⟩=some (.int .u8 6):=cell_of_row _ _ 0 _ _ (0,0) hx
 have HX:=Jnv hx
 have HB:=Jnv hB
 clear hx hB hy
 refine JG [.w,.h,.h] [(1,1,0),(2,1,0)] (fun _ w'=>w'.cell? ⟨b0,0,none⟩=some (.int .u8 6)) [1] [(.w,0),(.w,3),(.q,4),(.q,5),(.q,6)] [(.w,8),(.q,9)] 7 (.cells #[.int .i64 0,.int .i64 0,.nilFunc,.nilFunc,.nilFunc] 222) (by kernel_rfl) (by kernel_rfl) rfl rfl ⟨fun _=>rfl,fun _ _=>by kernel_rfl⟩ (by kernel_rfl) (by kernel_rfl) ?_
 apply Exists.intro
 refine⟨fun wx hbx=>?_,?_,?_⟩
 ·have hcx:wx.cell? ⟨b0,0,none⟩=some (.int .u8 6):=(Jg hbx hb0 _ rfl).trans hc0
  have hbx2:b0<wx.heap.size:=Jnz hb0 hbx.size
  simp only[Ju]
  repeat go_big_quiet_step (fail)
  exact wpQuiet_nil rfl
 ·intro q hq oi hoi
  simp only[List.mem_cons,List.not_mem_nil,or_false] at hq
  rcases hq with rfl|rfl
  ·cases hoi;exact⟨_,rfl,rfl,fun w2 hw=>by kernel_rfl⟩
  ·cases hoi;exact⟨_,rfl,rfl,fun w2 hw=>by simp[execOp,go_sem,hw]⟩
 simp only[JY,List.getElem?_cons_succ,List.getElem?_cons_zero]
 refine⟨fun v fl w2=>∃r,v=.map (some r)∧XX y r fl w2,?_,?_,?_,?_⟩
 ·rintro fl-
  refine⟨rfl,fun w' hw'=>.inr ⟨136,#[],by kernel_rfl,?_⟩⟩
  obtain⟨⟨x,rfl⟩,hfb⟩:=hw'
  refine(J5 x.world).mono ?_
  rintro e w2 ⟨r,rfl,hr1,hr2,hb2⟩
  refine⟨_,rfl,r,rfl,Jno x.below hb2,Nat.le_trans x.below.size hr1,hr2,fun b hb'=>⟨(hfb b hb').1,?_⟩⟩
  have:=(hfb b hb').2
  exact(hb2.block b (Jnw this).1).trans this
 ·rintro v fl g-w2 ⟨r,-,hst⟩
  exact(Jg hst.1 hb0 _ rfl).trans hc0
 ·rintro-v w2 ⟨r,rfl,h1,h2,h3,-⟩
  exact⟨r,rfl,Below.all h1 _,h2,(heap_alloc_old _ _ (Jnw h3).1).trans h3,fun b hb'=>by cases hb';exact⟨h1.size,heap_alloc_new _ _⟩⟩
 rintro v ⟨fl0,w20,r,rfl,-⟩
 refine⟨fun v fl w2=>v=.tuple #[.agg #[.int .i64 20,.int .i64 16,.func (.func 184) #[] #[],.func (.func 185) #[] #[],.func (.func 186) #[] #[]],true]∧XX y r fl w2,?_,fun _ _=>Jz rfl,?_,?_⟩
 ·rintro fl-
  refine Jv.made rfl ?_
  rintro w' ⟨r',hr',hst⟩
  cases hr'
  exact⟨.tuple #[.agg #[.int .i64 20,.int .i64 16,.func (.func 184) #[] #[],.func (.func 185) #[] #[],.func (.func 186) #[] #[]],true],w',QH _ _ (vm:=.map (some r)) (vx:=.int .u8 6) (by kernel_rfl) (by kernel_rfl) (HLK.out r w' hst.2.2.1),rfl,hst⟩
 ·rintro-v w2 ⟨h0,h1,h2,h3,-⟩
  exact⟨h0,Below.all h1 _,h2,(heap_alloc_old _ _ (Jnw h3).1).trans h3,fun b hb'=>by cases hb';exact⟨h1.size,heap_alloc_new _ _⟩⟩
 rintro v ⟨fl1,w21,rfl,-⟩
 refine⟨.tuple #[.agg #[.int .i64 20,.int .i64 16,.func (.func 184) #[] #[],.func (.func 185) #[] #[],.func (.func 186) #[] #[]],true],⟨rfl,fun _=>by kernel_rfl⟩,?_⟩
 refine⟨.agg #[.int .i64 20,.int .i64 16,.func (.func 184) #[] #[],.func (.func 185) #[] #[],.func (.func 186) #[] #[]],⟨rfl,fun _=>by kernel_rfl⟩,?_⟩
 refine⟨.bool true,⟨rfl,fun _=>by kernel_rfl⟩,?_⟩
 intro bp
 refine⟨fun v fl w2=>v=undef∧Below y.heap.size y w2∧y.heap.size≤bp∧w2.heap[bp]? =some (.cells #[.int .i64 20,.int .i64 16,.func (.func 184) #[] #[],.func (.func 185) #[] #[],.func (.func 186) #[] #[]] 222 (0,0)),?_,fun _ _=>Jz rfl,(fun h=>by cases h),?_⟩
 ·rintro fl rfl
  refine Jv.skip rfl ?_
  rintro w' ⟨-,hst⟩
  obtain⟨hbge,hbx⟩:=hst.2.2.2 bp rfl
  exact⟨_,Xt _ w' bp #[.int .i64 20,.int .i64 16,.func (.func 184) #[] #[],.func (.func 185) #[] #[],.func (.func 186) #[] #[]] (by kernel_rfl) (by kernel_rfl) (by rw[Jd _ _ _ _ _ hbx];rfl) rfl rfl,hst.1.trans (Jf _ hbge),hbge,Jh hbx⟩
 rintro v ⟨fl2,w22,rfl,-⟩
 refine⟨.bool true,⟨rfl,fun _=>by kernel_rfl⟩,?_⟩
 rintro zz ⟨-,hzz,hbge,hpz⟩
 have HZ:=Jnv (Jno HB.out hzz)
 have HXZ:=Jnv ((hzz.block b0 hb0).trans HX.out)
 have HPZ:=Jnv hpz
 have hRZ:=Jnv ((HR.out.below HB.out).below hzz)
 have hbpz:bp<zz.heap.size:=(Jnw hpz).1
 have hb0z:b0<zz.heap.size:=Jnz hb0 hzz.size
 have hne:bp≠b0:=by omega
 have hc2:zz.cell? ⟨bp,2,none⟩=some (.func (.func 184) #[] #[]):=cell_of_row _ _ 2 _ _ (0,0) hpz
 have hpt:Jc zz b0 0 12=(JnM (6:Int) (.int .u16 a) (.int .u16 b) f (.slice oD n cD):Array Value):=Jb HXZ.out rfl
 clear hzz hpz hbge hc0 hb0 w20 w21 w22 fl0 fl1 fl2 HX HB HR HLK
 unfold QQ
 go_wp2_with fail
 refine Jnx (HP.out zz) ?_
 rintro e y2 ⟨rfl,hb2⟩
 have HZ2:=Jnv (Jno HZ.out hb2)
 have HXZ2:=Jnv ((hb2.block b0 hb0z).trans HXZ.out)
 have HPZ2:=Jnv ((hb2.block bp hbpz).trans HPZ.out)
 have HRZ2:=Jnv (hRZ.out.below hb2)
 clear hb2 hpt hc2 hbpz hb0z HZ HXZ HPZ hRZ HP
 go_wp2_with fail
 have hx5:=heap_alloc_new y2 (.cells (JnM (6:Int) (.int .u16 a) (.int .u16 b) f (.slice oD n cD)) 149)
 have hB5:Below y2.heap.size y2 (y2.alloc (.cells (JnM (6:Int) (.int .u16 a) (.int .u16 b) f (.slice oD n cD)) 149)):=Below.all (Jny _ _) _
 have hb02:b0<y2.heap.size:=(Jnw HXZ2.out).1
 have hbp2:bp<y2.heap.size:=(Jnw HPZ2.out).1
 obtain⟨b5,hb5⟩:∃b,b=y2.heap.size:=⟨_,rfl⟩
 rw[←hb5] at hx5 hB5 hb02 hbp2⊢
 have HB5:=Jnv hB5
 have HZ3:=Jnv (HZ2.out.trans (hB5.mono (by rw[hb5];exact HZ2.out.size)))
 have HXZ3:=Jnv ((hB5.block b0 hb02).trans HXZ2.out)
 have HPZ3:=Jnv ((hB5.block bp hbp2).trans HPZ2.out)
 have HRZ3:=Jnv (HRZ2.out.below (by rw[←hb5];exact hB5))
 have hs5:w.heap.size≤b5:=by rw[hb5];exact HZ2.out.size
 generalize y2.alloc (.cells (JnM (6:Int) (.int .u16 a) (.int .u16 b) f (.slice oD n cD)) 149)=y3 at*
 have HX5:=Jnv hx5
 clear hx5 hB5 HB5 HXZ2 HPZ2 HRZ2 HZ2 hb5 y2
 have hc0:y3.cell? ⟨b0,0,none⟩=some (.int .u8 6):=cell_of_row _ _ 0 _ _ (0,0) HXZ3.out
 have hc11:y3.cell? ⟨b0,11,none⟩=some (.slice oD n cD):=cell_of_row _ _ 11 _ _ (0,0) HXZ3.out
 have hb03:b0<y3.heap.size:=(Jnw HXZ3.out).1
 have hb53:b5<y3.heap.size:=(Jnw HX5.out).1
 refine J0 [.h,.h,.h,.h] [(2,1,0),(3,1,0)] (fun _ w'=>w'.cell? ⟨b0,11,none⟩=some (.slice oD n cD)) [1] [(.q,4),(.w,5),(.q,6),(.w,7)] (by kernel_rfl) (by kernel_rfl) (by kernel_rfl) (by kernel_rfl) ?_
 apply Exists.intro
 refine⟨fun wx hbx=>?_,?_,?_⟩
 ·have hcx:wx.cell? ⟨b0,0,none⟩=some (.int .u8 6):=(Jg hbx hb03 _ rfl).trans hc0
  have hcx11:wx.cell? ⟨b0,11,none⟩=some (.slice oD n cD):=(Jg hbx hb03 _ rfl).trans hc11
  have hbx2:b0<wx.heap.size:=Jnz hb03 hbx.size
  simp only[Ju]
  repeat go_big_quiet_step (fail)
  exact wpQuiet_nil rfl
 ·intro q hq oi hoi
  simp only[List.mem_cons,List.not_mem_nil,or_false] at hq
  rcases hq with rfl|rfl
  ·cases hoi;exact⟨_,rfl,rfl,fun w2 hw=>by kernel_rfl⟩
  ·cases hoi;exact⟨_,rfl,rfl,fun w2 hw=>by simp[execOp,go_sem,hw]⟩
 simp only[JY,List.getElem?_cons_succ,List.getElem?_cons_zero]
 refine⟨.pointer (some ⟨b5,0,none⟩),⟨rfl,fun _=>by kernel_rfl⟩,?_⟩
 refine⟨fun v fl w2=>v=undef∧Below b5 y3 w2∧w2.heap[b5]? =some (.cells (JnM (6:Int) (.int .u16 a) (.int .u16 b) f (.slice oD n cD)) 149 (0,0)),?_,?_,(fun h=>by cases h),?_⟩
 ·rintro fl rfl
  refine Jv.skip rfl ?_
  rintro w' ⟨⟨x,rfl⟩,-⟩
  have hx':=(x.below.block b5 hb53).trans HX5.out
  have q1:=cell_of_row _ _ 0 _ _ (0,0) hx'
  have q2:=frozen_of_row _ _ 0 _ _ hx'
  refine⟨_,?_,((x.below.mono (Nat.le_of_lt hb53)).setCell (JnA _) (.int .u8 6)),JaZ (.int .u8 6) hx'⟩
  simp[execOp,go_sem,q1,q2]
 ·rintro v fl g-w2 ⟨-,hb,-⟩
  exact(World.cell?_of_block (a:=⟨b0,11,none⟩) (hb.block b0 hb02)).trans hc11
 rintro v ⟨fl3,w23,rfl,-⟩
 refine⟨.pointer (some ⟨b5,11,none⟩),⟨rfl,fun _=>by kernel_rfl⟩,?_⟩
 refine⟨fun v fl w2=>v=undef∧Below b5 y3 w2∧w2.heap[b5]? =some (.cells (JnM (6:Int) (.int .u16 a) (.int .u16 b) f (.slice oD n cD)) 149 (0,0)),?_,fun _ _=>Jz rfl,(fun h=>by cases h),?_⟩
 ·rintro fl rfl
  refine Jv.skip rfl ?_
  rintro w' ⟨-,hb,hx'⟩
  have q1:=cell_of_row _ _ 11 _ _ (0,0) hx'
  have q2:=frozen_of_row _ _ 11 _ _ hx'
  refine⟨_,?_,hb.setCell (JnA _) (.slice oD n cD),Jdy (.slice oD n cD) hx'⟩
  simp[execOp,go_sem,q1,q2]
 rintro v ⟨fl4,w24,rfl,-⟩
 rintro y4 ⟨-,hb4,hx4⟩
 have HZ4:=Jnv (HZ3.out.trans (hb4.mono hs5))
 have HXZ4:=Jnv ((hb4.block b0 hb02).trans HXZ3.out)
 have HPZ4:=Jnv ((hb4.block bp hbp2).trans HPZ3.out)
 have HX54:=Jnv hx4
 have HR4:=Jnv (hR0.out.below HZ4.out)
 have hpt0:Jc y4 b0 0 12=(JnM (6:Int) (.int .u16 a) (.int .u16 b) f (.slice oD n cD):Array Value):=Jb HXZ4.out rfl
 have hpt5:Jc y4 b5 0 12=(JnM (6:Int) (.int .u16 a) (.int .u16 b) f (.slice oD n cD):Array Value):=Jb hx4 rfl
 clear hb4 hx4 hc0 hc11 hb03 hb53 HXZ3 HPZ3 HZ3 HRZ3 HX5 hs5
 go_wp2_with fail
 refine Jnx (HSM.out y4 HR4.out) ?_
 rintro e y5 ⟨rfl,hb⟩
 have HZ5:=Jnv (Jno HZ4.out hb)
 have hxz:=(hb.block b0 (Jnw HXZ4.out).1).trans HXZ4.out
 have hpz:=(hb.block bp (Jnw HPZ4.out).1).trans HPZ4.out
 have hc8:y5.cell? ⟨b0,8,none⟩=some (.slice none 0 0):=cell_of_row _ _ 8 _ _ (0,0) hxz
 have hpt0:Jc y5 b0 0 12=(JnM (6:Int) (.int .u16 a) (.int .u16 b) f (.slice oD n cD):Array Value):=Jb hxz rfl
 have hptp:Jc y5 bp 0 5=#[.int .i64 20,.int .i64 16,.func (.func 184) #[] #[],.func (.func 185) #[] #[],.func (.func 186) #[] #[]]:=Jb hpz rfl
 clear hb hxz hpz HXZ4 HPZ4 HX54 HZ4 HR4
 go_wp2_with fail
 refine Jnx (HTL.out y5) ?_
 rintro e y6 ⟨rfl,hb⟩
 have HZ6:=Jnv (Jno HZ5.out hb)
 clear hb hpt0 hptp hc8
 go_wp2_with fail
 go_ret
 exact .mk rfl HZ6.out
theorem Jiz (a b:Int)(oD:Option Addr)(n cD:Nat)(l:List Int)(w:World)(hr:Jj w oD n cD l)(hn:n≤60000):
 Calls Tryz.prog 152 #[.agg (QA 17 a b 0 0 0 oD n cD)] w (Jk w (.bool true)):=by
 have hR0:=Jnv hr
 have HR:=Jnv hr
 have HLK:Hid (∀r w',w'.heap[r]? =some (.map Qa 4)→(Instr.lookup 224 (.map (some r)) (.int .u8 17) true).run Tryz.prog w'=.ok (.tuple #[.agg #[.int .i64 8,.int .i64 6,.func (.func 187) #[] #[],.func (.func 188) #[] #[],.func (.func 189) #[] #[]],true]) w'):=Jnv (fun r w' h=>Qx 17 (.inr (.inl rfl)) r w' h)
 have HP:Hid (∀w',Calls Tryz.prog 187 #[.agg #[.int .u8 17,.int .u16 a,.int .u16 b,.int .u32 0,.int .u32 0,.int .u8 0,.int .u16 0,.int .u16 0,.slice none 0 0,.int .u8 0,.int .u8 0,.slice oD n cD]] w' (Jk w' (.agg (JnS (.int .u16 a) (.int .u16 b))))):=Jnv (fun w'=>Jiu 17 a b 0 0 0 oD n cD w')
 have HSM:Hid (∀w',Jj w' oD n cD l→Calls Tryz.prog 195 #[.agg #[.int .u8 17,.int .u16 a,.int .u16 b,.int .u32 0,.int .u32 0,.int .u8 0,.int .u16 0,.int .u16 0,.slice none 0 0,.int .u8 0,.int .u8 0,.slice oD n cD],.agg #[.int .u8 17,.int .u16 a,.int .u16 b,.int .u32 0,.int .u32 0,.int .u8 0,.int .u16 0,.int .u16 0,.slice none 0 0,.int .u8 0,.int .u8 0,.slice oD n cD]] w' (Jk w' (.bool true))):=Jnv (fun w' h=>Jdx 17 a b 0 0 0 oD n cD l w' h)
 have HTL:Hid (∀w',Calls Tryz.prog 138 #[.agg #[.int .i64 8,.int .i64 6,.func (.func 187) #[] #[],.func (.func 188) #[] #[],.func (.func 189) #[] #[]],.agg #[.int .u8 17,.int .u16 a,.int .u16 b,.int .u32 0,.int .u32 0,.int .u8 0,.int .u16 0,.int .u16 0,.slice none 0 0,.int .u8 0,.int .u8 0,.slice oD n cD]] w' (Jk w' (.int .i64 (8+(n:Int))))):=Jnv (fun w'=>XJ 8 _ _ _ _ 17 a b 0 0 0 oD n cD w' (by decide) (by omega))
 have hx:=heap_alloc_new w (.cells (QA 17 a b 0 0 0 oD n cD) 149)
 have hB:Below w.heap.size w (w.alloc (.cells (QA 17 a b 0 0 0 oD n cD) 149)):=Below.all (Jny _ _) _
 unfold QA at hx hB⊢
 have hle:decide ((8:Int)+(n:Int)≤65535)=true:=by simp;omega
 clear hr
 go_enter Tryz.func152,Tryz.ntmps152
 go_wp2_with fail
 obtain⟨b0,hb0e⟩:∃b,b=w.heap.size:=⟨_,rfl⟩
 rw[←hb0e] at hx⊢
 have HE0:=Jnv hb0e
 clear hb0e
 generalize hy:w.alloc (.cells (JnN (17:Int) (.int .u16 a) (.int .u16 b) (.slice oD n cD)) 149)=y at*
 have hb0:b0<y.heap.size:=(Jnw hx).1
 have hc0:y.cell? ⟨b0,0,none⟩=some (.int .u8 17):=cell_of_row _ _ 0 _ _ (0,0) hx
 have HX:=Jnv hx
 have HB:=Jnv hB
 clear hx hB hy
 refine JG [.w,.h,.h] [(1,1,0),(2,1,0)] (fun _ w'=>w'.cell? ⟨b0,0,none⟩=some (.int .u8 17)) [1] [(.w,0),(.w,3),(.q,4),(.q,5),(.q,6)] [(.w,8),(.q,9)] 7 (.cells #[.int .i64 0,.int .i64 0,.nilFunc,.nilFunc,.nilFunc] 222) (by kernel_rfl) (by kernel_rfl) rfl rfl ⟨fun _=>rfl,fun _ _=>by kernel_rfl⟩ (by kernel_rfl) (by kernel_rfl) ?_
 apply Exists.intro
 refine⟨fun wx hbx=>?_,?_,?_⟩
 ·have hcx:wx.cell? ⟨b0,0,none⟩=some (.int .u8 17):=(Jg hbx hb0 _ rfl).trans hc0
  have hbx2:b0<wx.heap.size:=Jnz hb0 hbx.size
  simp only[Ju]
  repeat go_big_quiet_step (fail)
  exact wpQuiet_nil rfl
 ·intro q hq oi hoi
  simp only[List.mem_cons,List.not_mem_nil,or_false] at hq
  rcases hq with rfl|rfl
  ·cases hoi;exact⟨_,rfl,rfl,fun w2 hw=>by kernel_rfl⟩
  ·cases hoi;exact⟨_,rfl,rfl,fun w2 hw=>by simp[execOp,go_sem,hw]⟩
 simp only[JY,List.getElem?_cons_succ,List.getElem?_cons_zero]
 refine⟨fun v fl w2=>∃r,v=.map (some r)∧XX y r fl w2,?_,?_,?_,?_⟩
 ·rintro fl-
  refine⟨rfl,fun w' hw'=>.inr ⟨136,#[],by kernel_rfl,?_⟩⟩
  obtain⟨⟨x,rfl⟩,hfb⟩:=hw'
  refine(J5 x.world).mono ?_
  rintro e w2 ⟨r,rfl,hr1,hr2,hb2⟩
  refine⟨_,rfl,r,rfl,Jno x.below hb2,Nat.le_trans x.below.size hr1,hr2,fun b hb'=>⟨(hfb b hb').1,?_⟩⟩
  have:=(hfb b hb').2
  exact(hb2.block b (Jnw this).1).trans this
 ·rintro v fl g-w2 ⟨r,-,hst⟩
  exact(Jg hst.1 hb0 _ rfl).trans hc0
 ·rintro-v w2 ⟨r,rfl,h1,h2,h3,-⟩
  exact⟨r,rfl,Below.all h1 _,h2,(heap_alloc_old _ _ (Jnw h3).1).trans h3,fun b hb'=>by cases hb';exact⟨h1.size,heap_alloc_new _ _⟩⟩
 rintro v ⟨fl0,w20,r,rfl,-⟩
 refine⟨fun v fl w2=>v=.tuple #[.agg #[.int .i64 8,.int .i64 6,.func (.func 187) #[] #[],.func (.func 188) #[] #[],.func (.func 189) #[] #[]],true]∧XX y r fl w2,?_,fun _ _=>Jz rfl,?_,?_⟩
 ·rintro fl-
  refine Jv.made rfl ?_
  rintro w' ⟨r',hr',hst⟩
  cases hr'
  exact⟨.tuple #[.agg #[.int .i64 8,.int .i64 6,.func (.func 187) #[] #[],.func (.func 188) #[] #[],.func (.func 189) #[] #[]],true],w',QH _ _ (vm:=.map (some r)) (vx:=.int .u8 17) (by kernel_rfl) (by kernel_rfl) (HLK.out r w' hst.2.2.1),rfl,hst⟩
 ·rintro-v w2 ⟨h0,h1,h2,h3,-⟩
  exact⟨h0,Below.all h1 _,h2,(heap_alloc_old _ _ (Jnw h3).1).trans h3,fun b hb'=>by cases hb';exact⟨h1.size,heap_alloc_new _ _⟩⟩
 rintro v ⟨fl1,w21,rfl,-⟩
 refine⟨.tuple #[.agg #[.int .i64 8,.int .i64 6,.func (.func 187) #[] #[],.func (.func 188) #[] #[],.func (.func 189) #[] #[]],true],⟨rfl,fun _=>by kernel_rfl⟩,?_⟩
 refine⟨.agg #[.int .i64 8,.int .i64 6,.func (.func 187) #[] #[],.func (.func 188) #[] #[],.func (.func 189) #[] #[]],⟨rfl,fun _=>by kernel_rfl⟩,?_⟩
 refine⟨.bool true,⟨rfl,fun _=>by kernel_rfl⟩,?_⟩
 intro bp
 refine⟨fun v fl w2=>v=undef∧Below y.heap.size y w2∧y.heap.size≤bp∧w2.heap[bp]? =some (.cells #[.int .i64 8,.int .i64 6,.func (.func 187) #[] #[],.func (.func 188) #[] #[],.func (.func 189) #[] #[]] 222 (0,0)),?_,fun _ _=>Jz rfl,(fun h=>by cases h),?_⟩
 ·rintro fl rfl
  refine Jv.skip rfl ?_
  rintro w' ⟨-,hst⟩
  obtain⟨hbge,hbx⟩:=hst.2.2.2 bp rfl
  exact⟨_,Xt _ w' bp #[.int .i64 8,.int .i64 6,.func (.func 187) #[] #[],.func (.func 188) #[] #[],.func (.func 189) #[] #[]] (by kernel_rfl) (by kernel_rfl) (by rw[Jd _ _ _ _ _ hbx];rfl) rfl rfl,hst.1.trans (Jf _ hbge),hbge,Jh hbx⟩
 rintro v ⟨fl2,w22,rfl,-⟩
 refine⟨.bool true,⟨rfl,fun _=>by kernel_rfl⟩,?_⟩
 rintro zz ⟨-,hzz,hbge,hpz⟩
 have HZ:=Jnv (Jno HB.out hzz)
 have HXZ:=Jnv ((hzz.block b0 hb0).trans HX.out)
 have HPZ:=Jnv hpz
 have hRZ:=Jnv ((HR.out.below HB.out).below hzz)
 have hbpz:bp<zz.heap.size:=(Jnw hpz).1
 have hb0z:b0<zz.heap.size:=Jnz hb0 hzz.size
 have hne:bp≠b0:=by omega
 have hc2:zz.cell? ⟨bp,2,none⟩=some (.func (.func 187) #[] #[]):=cell_of_row _ _ 2 _ _ (0,0) hpz
 have hpt:Jc zz b0 0 12=(JnN (17:Int) (.int .u16 a) (.int .u16 b) (.slice oD n cD):Array Value):=Jb HXZ.out rfl
 clear hzz hpz hbge hc0 hb0 w20 w21 w22 fl0 fl1 fl2 HX HB HR HLK
 unfold QQ
 go_wp2_with fail
 refine Jnx (HP.out zz) ?_
 rintro e y2 ⟨rfl,hb2⟩
 have HZ2:=Jnv (Jno HZ.out hb2)
 have HXZ2:=Jnv ((hb2.block b0 hb0z).trans HXZ.out)
 have HPZ2:=Jnv ((hb2.block bp hbpz).trans HPZ.out)
 have HRZ2:=Jnv (hRZ.out.below hb2)
 clear hb2 hpt hc2 hbpz hb0z HZ HXZ HPZ hRZ HP
 go_wp2_with fail
 have hx5:=heap_alloc_new y2 (.cells (JnS (.int .u16 a) (.int .u16 b)) 149)
 have hB5:Below y2.heap.size y2 (y2.alloc (.cells (JnS (.int .u16 a) (.int .u16 b)) 149)):=Below.all (Jny _ _) _
 have hb02:b0<y2.heap.size:=(Jnw HXZ2.out).1
 have hbp2:bp<y2.heap.size:=(Jnw HPZ2.out).1
 obtain⟨b5,hb5⟩:∃b,b=y2.heap.size:=⟨_,rfl⟩
 rw[←hb5] at hx5 hB5 hb02 hbp2⊢
 have HB5:=Jnv hB5
 have HZ3:=Jnv (HZ2.out.trans (hB5.mono (by rw[hb5];exact HZ2.out.size)))
 have HXZ3:=Jnv ((hB5.block b0 hb02).trans HXZ2.out)
 have HPZ3:=Jnv ((hB5.block bp hbp2).trans HPZ2.out)
 have HRZ3:=Jnv (HRZ2.out.below (by rw[←hb5];exact hB5))
 have hs5:w.heap.size≤b5:=by rw[hb5];exact HZ2.out.size
 generalize y2.alloc (.cells (JnS (.int .u16 a) (.int .u16 b)) 149)=y3 at*
 have HX5:=Jnv hx5
 clear hx5 hB5 HB5 HXZ2 HPZ2 HRZ2 HZ2 hb5 y2
 have hc0:y3.cell? ⟨b0,0,none⟩=some (.int .u8 17):=cell_of_row _ _ 0 _ _ (0,0) HXZ3.out
 have hc11:y3.cell? ⟨b0,11,none⟩=some (.slice oD n cD):=cell_of_row _ _ 11 _ _ (0,0) HXZ3.out
 have hb03:b0<y3.heap.size:=(Jnw HXZ3.out).1
 have hb53:b5<y3.heap.size:=(Jnw HX5.out).1
 refine J0 [.h,.h,.h,.h] [(2,1,0),(3,1,0)] (fun _ w'=>w'.cell? ⟨b0,11,none⟩=some (.slice oD n cD)) [1] [(.q,4),(.w,5),(.q,6),(.w,7)] (by kernel_rfl) (by kernel_rfl) (by kernel_rfl) (by kernel_rfl) ?_
 apply Exists.intro
 refine⟨fun wx hbx=>?_,?_,?_⟩
 ·have hcx:wx.cell? ⟨b0,0,none⟩=some (.int .u8 17):=(Jg hbx hb03 _ rfl).trans hc0
  have hcx11:wx.cell? ⟨b0,11,none⟩=some (.slice oD n cD):=(Jg hbx hb03 _ rfl).trans hc11
  have hbx2:b0<wx.heap.size:=Jnz hb03 hbx.size
  simp only[Ju]
  repeat go_big_quiet_step (fail)
  exact wpQuiet_nil rfl
 ·intro q hq oi hoi
  simp only[List.mem_cons,List.not_mem_nil,or_false] at hq
  rcases hq with rfl|rfl
  ·cases hoi;exact⟨_,rfl,rfl,fun w2 hw=>by kernel_rfl⟩
  ·cases hoi;exact⟨_,rfl,rfl,fun w2 hw=>by simp[execOp,go_sem,hw]⟩
 simp only[JY,List.getElem?_cons_succ,List.getElem?_cons_zero]
 refine⟨.pointer (some ⟨b5,0,none⟩),⟨rfl,fun _=>by kernel_rfl⟩,?_⟩
 refine⟨fun v fl w2=>v=undef∧Below b5 y3 w2∧w2.heap[b5]? =some (.cells #[(17:Int),.int .u16 a,.int .u16 b,JnC,JnC,(),JnB,JnB,JnE,(),(),JnE] 149 (0,0)),?_,?_,(fun h=>by cases h),?_⟩
 ·rintro fl rfl
  refine Jv.skip rfl ?_
  rintro w' ⟨⟨x,rfl⟩,-⟩
  have hx':=(x.below.block b5 hb53).trans HX5.out
  have q1:=cell_of_row _ _ 0 _ _ (0,0) hx'
  have q2:=frozen_of_row _ _ 0 _ _ hx'
  refine⟨_,?_,((x.below.mono (Nat.le_of_lt hb53)).setCell (JnA _) (.int .u8 17)),JaZ (.int .u8 17) hx'⟩
  simp[execOp,go_sem,q1,q2]
 ·rintro v fl g-w2 ⟨-,hb,-⟩
  exact(World.cell?_of_block (a:=⟨b0,11,none⟩) (hb.block b0 hb02)).trans hc11
 rintro v ⟨fl3,w23,rfl,-⟩
 refine⟨.pointer (some ⟨b5,11,none⟩),⟨rfl,fun _=>by kernel_rfl⟩,?_⟩
 refine⟨fun v fl w2=>v=undef∧Below b5 y3 w2∧w2.heap[b5]? =some (.cells (JnN (17:Int) (.int .u16 a) (.int .u16 b) (.slice oD n cD)) 149 (0,0)),?_,fun _ _=>Jz rfl,(fun h=>by cases h),?_⟩
 ·rintro fl rfl
  refine Jv.skip rfl ?_
  rintro w' ⟨-,hb,hx'⟩
  have q1:=cell_of_row _ _ 11 _ _ (0,0) hx'
  have q2:=frozen_of_row _ _ 11 _ _ hx'
  refine⟨_,?_,hb.setCell (JnA _) (.slice oD n cD),Jdy (.slice oD n cD) hx'⟩
  simp[execOp,go_sem,q1,q2]
 rintro v ⟨fl4,w24,rfl,-⟩
 rintro y4 ⟨-,hb4,hx4⟩
 have HZ4:=Jnv (HZ3.out.trans (hb4.mono hs5))
 have HXZ4:=Jnv ((hb4.block b0 hb02).trans HXZ3.out)
 have HPZ4:=Jnv ((hb4.block bp hbp2).trans HPZ3.out)
 have HX54:=Jnv hx4
 have HR4:=Jnv (hR0.out.below HZ4.out)
 have hpt0:Jc y4 b0 0 12=(JnN (17:Int) (.int .u16 a) (.int .u16 b) (.slice oD n cD):Array Value):=Jb HXZ4.out rfl
 have hpt5:Jc y4 b5 0 12=(JnN (17:Int) (.int .u16 a) (.int .u16 b) (.slice oD n cD):Array Value):=Jb hx4 rfl
 clear hb4 hx4 hc0 hc11 hb03 hb53 HXZ3 HPZ3 HZ3 HRZ3 HX5 hs5
 go_wp2_with fail
 refine Jnx (HSM.out y4 HR4.out) ?_
 rintro e y5 ⟨rfl,hb⟩
 have HZ5:=Jnv (Jno HZ4.out hb)
 have hxz:=(hb.block b0 (Jnw HXZ4.out).1).trans HXZ4.out
 have hpz:=(hb.block bp (Jnw HPZ4.out).1).trans HPZ4.out
 have hc8:y5.cell? ⟨b0,8,none⟩=some (.slice none 0 0):=cell_of_row _ _ 8 _ _ (0,0) hxz
 have hpt0:Jc y5 b0 0 12=(JnN (17:Int) (.int .u16 a) (.int .u16 b) (.slice oD n cD):Array Value):=Jb hxz rfl
 have hptp:Jc y5 bp 0 5=#[.int .i64 8,.int .i64 6,.func (.func 187) #[] #[],.func (.func 188) #[] #[],.func (.func 189) #[] #[]]:=Jb hpz rfl
 clear hb hxz hpz HXZ4 HPZ4 HX54 HZ4 HR4
 go_wp2_with fail
 refine Jnx (HTL.out y5) ?_
 rintro e y6 ⟨rfl,hb⟩
 have HZ6:=Jnv (Jno HZ5.out hb)
 clear hb hpt0 hptp hc8
 go_wp2_with fail
 go_ret
 exact .mk rfl HZ6.out
theorem Jhp (p ty cd:Int)(oD:Option Addr)(n cD:Nat)(l:List Int)(w:World)(hr:Jj w oD n cD l)(hn:n≤60000)(hp:p=1∨p=58):
 Calls Tryz.prog 152 #[.agg (QA p 0 0 0 ty cd oD n cD)] w (Jk w (.bool true)):=by
 have hR0:=Jnv hr
 have HR:=Jnv hr
 have HLK:Hid (∀r w',w'.heap[r]? =some (.map Qa 4)→(Instr.lookup 224 (.map (some r)) (.int .u8 p) true).run Tryz.prog w'=.ok (.tuple #[.agg #[.int .i64 4,.int .i64 2,.func (.func 181) #[] #[],.func (.func 182) #[] #[],.func (.func 183) #[] #[]],true]) w'):=Jnv (fun r w' h=>by have:=Qx p (.inr (.inr hp)) r w' h;rwa [show Jdv p=XV by rcases hp with rfl|rfl<;>rfl] at this)
 have HP:Hid (∀w',Calls Tryz.prog 181 #[.agg #[.int .u8 p,.int .u16 0,.int .u16 0,.int .u32 0,.int .u32 0,.int .u8 0,.int .u16 0,.int .u16 0,.slice none 0 0,.int .u8 ty,.int .u8 cd,.slice oD n cD]] w' (Jk w' (.agg (Jn5 ty cd)))):=Jnv (fun w'=>Jiv p 0 0 0 ty cd oD n cD w')
 have HSM:Hid (∀w',Jj w' oD n cD l→Calls Tryz.prog 195 #[.agg #[.int .u8 p,.int .u16 0,.int .u16 0,.int .u32 0,.int .u32 0,.int .u8 0,.int .u16 0,.int .u16 0,.slice none 0 0,.int .u8 ty,.int .u8 cd,.slice oD n cD],.agg #[.int .u8 p,.int .u16 0,.int .u16 0,.int .u32 0,.int .u32 0,.int .u8 0,.int .u16 0,.int .u16 0,.slice none 0 0,.int .u8 ty,.int .u8 cd,.slice oD n cD]] w' (Jk w' (.bool true))):=Jnv (fun w' h=>Jdx p 0 0 0 ty cd oD n cD l w' h)
 have HTL:Hid (∀w',Calls Tryz.prog 138 #[.agg #[.int .i64 4,.int .i64 2,.func (.func 181) #[] #[],.func (.func 182) #[] #[],.func (.func 183) #[] #[]],.agg #[.int .u8 p,.int .u16 0,.int .u16 0,.int .u32 0,.int .u32 0,.int .u8 0,.int .u16 0,.int .u16 0,.slice none 0 0,.int .u8 ty,.int .u8 cd,.slice oD n cD]] w' (Jk w' (.int .i64 (4+(n:Int))))):=Jnv (fun w'=>XJ 4 _ _ _ _ p 0 0 0 ty cd oD n cD w' (by decide) (by omega))
 have hx:=heap_alloc_new w (.cells (QA p 0 0 0 ty cd oD n cD) 149)
 have hB:Below w.heap.size w (w.alloc (.cells (QA p 0 0 0 ty cd oD n cD) 149)):=Below.all (Jny _ _) _
 unfold QA at hx hB⊢
 have hle:decide ((4:Int)+(n:Int)≤65535)=true:=by simp;omega
 clear hr hp
 go_enter Tryz.func152,Tryz.ntmps152
 go_wp2_with fail
 obtain⟨b0,hb0e⟩:∃b,b=w.heap.size:=⟨_,rfl⟩
 rw[←hb0e] at hx⊢
 have HE0:=Jnv hb0e
 clear hb0e
 generalize hy:w.alloc (.cells (JnO p ty cd (.slice oD n cD)) 149)=y at*
 have hb0:b0<y.heap.size:=(Jnw hx).1
 have hc0:y.cell? ⟨b0,0,none⟩=some (.int .u8 p):=cell_of_row _ _ 0 _ _ (0,0) hx
 have HX:=Jnv hx
 have HB:=Jnv hB
 clear hx hB hy
 refine JG [.w,.h,.h] [(1,1,0),(2,1,0)] (fun _ w'=>w'.cell? ⟨b0,0,none⟩=some (.int .u8 p)) [1] [(.w,0),(.w,3),(.q,4),(.q,5),(.q,6)] [(.w,8),(.q,9)] 7 (.cells #[.int .i64 0,.int .i64 0,.nilFunc,.nilFunc,.nilFunc] 222) (by kernel_rfl) (by kernel_rfl) rfl rfl ⟨fun _=>rfl,fun _ _=>by kernel_rfl⟩ (by kernel_rfl) (by kernel_rfl) ?_
 apply Exists.intro
 refine⟨fun wx hbx=>?_,?_,?_⟩
 ·have hcx:wx.cell? ⟨b0,0,none⟩=some (.int .u8 p):=(Jg hbx hb0 _ rfl).trans hc0
  have hbx2:b0<wx.heap.size:=Jnz hb0 hbx.size
  simp only[Ju]
  repeat go_big_quiet_step (fail)
  exact wpQuiet_nil rfl
 ·intro q hq oi hoi
  simp only[List.mem_cons,List.not_mem_nil,or_false] at hq
  rcases hq with rfl|rfl
  ·cases hoi;exact⟨_,rfl,rfl,fun w2 hw=>by kernel_rfl⟩
  ·cases hoi;exact⟨_,rfl,rfl,fun w2 hw=>by simp[execOp,go_sem,hw]⟩
 simp only[JY,List.getElem?_cons_succ,List.getElem?_cons_zero]
 refine⟨fun v fl w2=>∃r,v=.map (some r)∧XX y r fl w2,?_,?_,?_,?_⟩
 ·rintro fl-
  refine⟨rfl,fun w' hw'=>.inr ⟨136,#[],by kernel_rfl,?_⟩⟩
  obtain⟨⟨x,rfl⟩,hfb⟩:=hw'
  refine(J5 x.world).mono ?_
  rintro e w2 ⟨r,rfl,hr1,hr2,hb2⟩
  refine⟨_,rfl,r,rfl,Jno x.below hb2,Nat.le_trans x.below.size hr1,hr2,fun b hb'=>⟨(hfb b hb').1,?_⟩⟩
  have:=(hfb b hb').2
  exact(hb2.block b (Jnw this).1).trans this
 ·rintro v fl g-w2 ⟨r,-,hst⟩
  exact(Jg hst.1 hb0 _ rfl).trans hc0
 ·rintro-v w2 ⟨r,rfl,h1,h2,h3,-⟩
  exact⟨r,rfl,Below.all h1 _,h2,(heap_alloc_old _ _ (Jnw h3).1).trans h3,fun b hb'=>by cases hb';exact⟨h1.size,heap_alloc_new _ _⟩⟩
 rintro v ⟨fl0,w20,r,rfl,-⟩
 refine⟨fun v fl w2=>v=.tuple #[.agg #[.int .i64 4,.int .i64 2,.func (.func 181) #[] #[],.func (.func 182) #[] #[],.func (.func 183) #[] #[]],true]∧XX y r fl w2,?_,fun _ _=>Jz rfl,?_,?_⟩
 ·rintro fl-
  refine Jv.made rfl ?_
  rintro w' ⟨r',hr',hst⟩
  cases hr'
  exact⟨.tuple #[.agg #[.int .i64 4,.int .i64 2,.func (.func 181) #[] #[],.func (.func 182) #[] #[],.func (.func 183) #[] #[]],true],w',QH _ _ (vm:=.map (some r)) (vx:=.int .u8 p) (by kernel_rfl) (by kernel_rfl) (HLK.out r w' hst.2.2.1),rfl,hst⟩
 ·rintro-v w2 ⟨h0,h1,h2,h3,-⟩
  exact⟨h0,Below.all h1 _,h2,(heap_alloc_old _ _ (Jnw h3).1).trans h3,fun b hb'=>by cases hb';exact⟨h1.size,heap_alloc_new _ _⟩⟩
 rintro v ⟨fl1,w21,rfl,-⟩
 refine⟨.tuple #[.agg #[.int .i64 4,.int .i64 2,.func (.func 181) #[] #[],.func (.func 182) #[] #[],.func (.func 183) #[] #[]],true],⟨rfl,fun _=>by kernel_rfl⟩,?_⟩
 refine⟨.agg #[.int .i64 4,.int .i64 2,.func (.func 181) #[] #[],.func (.func 182) #[] #[],.func (.func 183) #[] #[]],⟨rfl,fun _=>by kernel_rfl⟩,?_⟩
 refine⟨.bool true,⟨rfl,fun _=>by kernel_rfl⟩,?_⟩
 intro bp
 refine⟨fun v fl w2=>v=undef∧Below y.heap.size y w2∧y.heap.size≤bp∧w2.heap[bp]? =some (.cells #[.int .i64 4,.int .i64 2,.func (.func 181) #[] #[],.func (.func 182) #[] #[],.func (.func 183) #[] #[]] 222 (0,0)),?_,fun _ _=>Jz rfl,(fun h=>by cases h),?_⟩
 ·rintro fl rfl
  refine Jv.skip rfl ?_
  rintro w' ⟨-,hst⟩
  obtain⟨hbge,hbx⟩:=hst.2.2.2 bp rfl
  exact⟨_,Xt _ w' bp #[.int .i64 4,.int .i64 2,.func (.func 181) #[] #[],.func (.func 182) #[] #[],.func (.func 183) #[] #[]] (by kernel_rfl) (by kernel_rfl) (by rw[Jd _ _ _ _ _ hbx];rfl) rfl rfl,hst.1.trans (Jf _ hbge),hbge,Jh hbx⟩
 rintro v ⟨fl2,w22,rfl,-⟩
 refine⟨.bool true,⟨rfl,fun _=>by kernel_rfl⟩,?_⟩
 rintro zz ⟨-,hzz,hbge,hpz⟩
 have HZ:=Jnv (Jno HB.out hzz)
 have HXZ:=Jnv ((hzz.block b0 hb0).trans HX.out)
 have HPZ:=Jnv hpz
 have hRZ:=Jnv ((HR.out.below HB.out).below hzz)
 have hbpz:bp<zz.heap.size:=(Jnw hpz).1
 have hb0z:b0<zz.heap.size:=Jnz hb0 hzz.size
 have hne:bp≠b0:=by omega
 have hc2:zz.cell? ⟨bp,2,none⟩=some (.func (.func 181) #[] #[]):=cell_of_row _ _ 2 _ _ (0,0) hpz
 have hpt:Jc zz b0 0 12=(JnO p ty cd (.slice oD n cD):Array Value):=Jb HXZ.out rfl
 clear hzz hpz hbge hc0 hb0 w20 w21 w22 fl0 fl1 fl2 HX HB HR HLK
 unfold QQ
 go_wp2_with fail
 refine Jnx (HP.out zz) ?_
 rintro e y2 ⟨rfl,hb2⟩
 have HZ2:=Jnv (Jno HZ.out hb2)
 have HXZ2:=Jnv ((hb2.block b0 hb0z).trans HXZ.out)
 have HPZ2:=Jnv ((hb2.block bp hbpz).trans HPZ.out)
 have HRZ2:=Jnv (hRZ.out.below hb2)
 clear hb2 hpt hc2 hbpz hb0z HZ HXZ HPZ hRZ HP
 go_wp2_with fail
 have hx5:=heap_alloc_new y2 (.cells (Jn5 ty cd) 149)
 have hB5:Below y2.heap.size y2 (y2.alloc (.cells (Jn5 ty cd) 149)):=Below.all (Jny _ _) _
 have hb02:b0<y2.heap.size:=(Jnw HXZ2.out).1
 have hbp2:bp<y2.heap.size:=(Jnw HPZ2.out).1
 obtain⟨b5,hb5⟩:∃b,b=y2.heap.size:=⟨_,rfl⟩
 rw[←hb5] at hx5 hB5 hb02 hbp2⊢
 have HB5:=Jnv hB5
 have HZ3:=Jnv (HZ2.out.trans (hB5.mono (by rw[hb5];exact HZ2.out.size)))
 have HXZ3:=Jnv ((hB5.block b0 hb02).trans HXZ2.out)
 have HPZ3:=Jnv ((hB5.block bp hbp2).trans HPZ2.out)
 have HRZ3:=Jnv (HRZ2.out.below (by rw[←hb5];exact hB5))
 have hs5:w.heap.size≤b5:=by rw[hb5];exact HZ2.out.size
 generalize y2.alloc (.cells (Jn5 ty cd) 149)=y3 at*
 have HX5:=Jnv hx5
 clear hx5 hB5 HB5 HXZ2 HPZ2 HRZ2 HZ2 hb5 y2
 have hc0:y3.cell? ⟨b0,0,none⟩=some (.int .u8 p):=cell_of_row _ _ 0 _ _ (0,0) HXZ3.out
 have hc11:y3.cell? ⟨b0,11,none⟩=some (.slice oD n cD):=cell_of_row _ _ 11 _ _ (0,0) HXZ3.out
 have hb03:b0<y3.heap.size:=(Jnw HXZ3.out).1
 have hb53:b5<y3.heap.size:=(Jnw HX5.out).1
 refine J0 [.h,.h,.h,.h] [(2,1,0),(3,1,0)] (fun _ w'=>w'.cell? ⟨b0,11,none⟩=some (.slice oD n cD)) [1] [(.q,4),(.w,5),(.q,6),(.w,7)] (by kernel_rfl) (by kernel_rfl) (by kernel_rfl) (by kernel_rfl) ?_
 apply Exists.intro
 refine⟨fun wx hbx=>?_,?_,?_⟩
 ·have hcx:wx.cell? ⟨b0,0,none⟩=some (.int .u8 p):=(Jg hbx hb03 _ rfl).trans hc0
  have hcx11:wx.cell? ⟨b0,11,none⟩=some (.slice oD n cD):=(Jg hbx hb03 _ rfl).trans hc11
  have hbx2:b0<wx.heap.size:=Jnz hb03 hbx.size
  simp only[Ju]
  repeat go_big_quiet_step (fail)
  exact wpQuiet_nil rfl
 ·intro q hq oi hoi
  simp only[List.mem_cons,List.not_mem_nil,or_false] at hq
  rcases hq with rfl|rfl
  ·cases hoi;exact⟨_,rfl,rfl,fun w2 hw=>by kernel_rfl⟩
  ·cases hoi;exact⟨_,rfl,rfl,fun w2 hw=>by simp[execOp,go_sem,hw]⟩
 simp only[JY,List.getElem?_cons_succ,List.getElem?_cons_zero]
 refine⟨.pointer (some ⟨b5,0,none⟩),⟨rfl,fun _=>by kernel_rfl⟩,?_⟩
 refine⟨fun v fl w2=>v=undef∧Below b5 y3 w2∧w2.heap[b5]? =some (.cells #[p,JnB,JnB,JnC,JnC,(),JnB,JnB,JnE,ty,cd,JnE] 149 (0,0)),?_,?_,(fun h=>by cases h),?_⟩
 ·rintro fl rfl
  refine Jv.skip rfl ?_
  rintro w' ⟨⟨x,rfl⟩,-⟩
  have hx':=(x.below.block b5 hb53).trans HX5.out
  have q1:=cell_of_row _ _ 0 _ _ (0,0) hx'
  have q2:=frozen_of_row _ _ 0 _ _ hx'
  refine⟨_,?_,((x.below.mono (Nat.le_of_lt hb53)).setCell (JnA _) (.int .u8 p)),JaZ (.int .u8 p) hx'⟩
  simp[execOp,go_sem,q1,q2]
 ·rintro v fl g-w2 ⟨-,hb,-⟩
  exact(World.cell?_of_block (a:=⟨b0,11,none⟩) (hb.block b0 hb02)).trans hc11
 rintro v ⟨fl3,w23,rfl,-⟩
 refine⟨.pointer (some ⟨b5,11,none⟩),⟨rfl,fun _=>by kernel_rfl⟩,?_⟩
 refine⟨fun v fl w2=>v=undef∧Below b5 y3 w2∧w2.heap[b5]? =some (.cells (JnO p ty cd (.slice oD n cD)) 149 (0,0)),?_,fun _ _=>Jz rfl,(fun h=>by cases h),?_⟩
 ·rintro fl rfl
  refine Jv.skip rfl ?_
  rintro w' ⟨-,hb,hx'⟩
  have q1:=cell_of_row _ _ 11 _ _ (0,0) hx'
  have q2:=frozen_of_row _ _ 11 _ _ hx'
  refine⟨_,?_,hb.setCell (JnA _) (.slice oD n cD),Jdy (.slice oD n cD) hx'⟩
  simp[execOp,go_sem,q1,q2]
 rintro v ⟨fl4,w24,rfl,-⟩
 rintro y4 ⟨-,hb4,hx4⟩
 have HZ4:=Jnv (HZ3.out.trans (hb4.mono hs5))
 have HXZ4:=Jnv ((hb4.block b0 hb02).trans HXZ3.out)
 have HPZ4:=Jnv ((hb4.block bp hbp2).trans HPZ3.out)
 have HX54:=Jnv hx4
 have HR4:=Jnv (hR0.out.below HZ4.out)
 have hpt0:Jc y4 b0 0 12=(JnO p ty cd (.slice oD n cD):Array Value):=Jb HXZ4.out rfl
 have hpt5:Jc y4 b5 0 12=(JnO p ty cd (.slice oD n cD):Array Value):=Jb hx4 rfl
 clear hb4 hx4 hc0 hc11 hb03 hb53 HXZ3 HPZ3 HZ3 HRZ3 HX5 hs5
 go_wp2_with fail
 refine Jnx (HSM.out y4 HR4.out) ?_
 rintro e y5 ⟨rfl,hb⟩
 have HZ5:=Jnv (Jno HZ4.out hb)
 have hxz:=(hb.block b0 (Jnw HXZ4.out).1).trans HXZ4.out
 have hpz:=(hb.block bp (Jnw HPZ4.out).1).trans HPZ4.out
 have hc8:y5.cell? ⟨b0,8,none⟩=some (.slice none 0 0):=cell_of_row _ _ 8 _ _ (0,0) hxz
 have hpt0:Jc y5 b0 0 12=(JnO p ty cd (.slice oD n cD):Array Value):=Jb hxz rfl
 have hptp:Jc y5 bp 0 5=#[.int .i64 4,.int .i64 2,.func (.func 181) #[] #[],.func (.func 182) #[] #[],.func (.func 183) #[] #[]]:=Jb hpz rfl
 clear hb hxz hpz HXZ4 HPZ4 HX54 HZ4 HR4
 go_wp2_with fail
 refine Jnx (HTL.out y5) ?_
 rintro e y6 ⟨rfl,hb⟩
 have HZ6:=Jnv (Jno HZ5.out hb)
 clear hb hpt0 hptp hc8
 go_wp2_with fail
 go_ret
 exact .mk rfl HZ6.out
end
end Go.Proofs.YtkgjbipfhhjlpaaGreatDoor
