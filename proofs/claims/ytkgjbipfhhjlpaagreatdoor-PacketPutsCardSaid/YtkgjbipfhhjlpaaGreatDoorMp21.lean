import Derived.Test.YtkgjbipfhhjlpaaGreatDoorMp20
set_option linter.unusedVariables false
set_option linter.unusedSimpArgs false
set_option maxRecDepth 100000
set_option maxHeartbeats 32000000
namespace Go.Proofs.YtkgjbipfhhjlpaaGreatDoor
section
open Go.RowKit Bits
theorem tParse_bd {p:Int}{l:List Int}(hl:IsBytes l):(0≤(tParse p l).type∧(tParse p l).type<256)∧(0≤(tParse p l).code∧(tParse p l).code<256):=by
 have h0:=isBytes_getD hl 0
 have h1:=isBytes_getD hl 1
 unfold tParse tSeg segZ
 split
 ·split
  ·exact⟨⟨Int.le_refl 0,(show(0:Int)<256 by decide)⟩,Int.le_refl 0,(show(0:Int)<256 by decide)⟩
  ·split
   ·exact⟨⟨Int.le_refl 0,(show(0:Int)<256 by decide)⟩,Int.le_refl 0,(show(0:Int)<256 by decide)⟩
   ·exact⟨h0,h1⟩
 ·exact⟨⟨Int.le_refl 0,(show(0:Int)<256 by decide)⟩,Int.le_refl 0,(show(0:Int)<256 by decide)⟩
def OB (z:World)(b:Nat)(cs:Array Value)(t:TypeId)(w:World):Prop:=w.heap[b]? =some (.cells cs t (0,0))∧Below b z w∧∀i,i≠b→i<z.heap.size→w.heap[i]? =z.heap[i]?
theorem OB.set {z w:World}{b:Nat}{cs:Array Value}{t:TypeId}(h:OB z b cs t w)(k:Nat)(v:Value):OB z b (cs.setIfInBounds k v) t (w.setCell ⟨b,k,none⟩ v):=
 ⟨heap_setCell_same _ b k cs t v h.1,h.2.1.setCell (Nat.le_refl _) _,fun i hi hl=>(Below.heap_setCell _ _ _ _ hi).trans (h.2.2 i hi hl)⟩
theorem OB.later {z w w':World}{b:Nat}{cs:Array Value}{t:TypeId}(h:OB z b cs t w)(hb:Below w.heap.size w w'):OB z b cs t w':=by
 have hl:b<w.heap.size:=(Array.getElem?_eq_some_iff.1 h.1).1
 exact⟨(hb.block b hl).trans h.1,h.2.1.trans (hb.mono (Nat.le_of_lt hl)),fun i hi hz=>(hb.block i (Nat.lt_of_lt_of_le hz h.2.1.size)).trans (h.2.2 i hi hz)⟩
theorem or_byte16 (x y:Int)(h0:0≤x)(h1:x<256)(h2:0≤y)(h3:y<256):bits BinOp.or IntKind.u16 (x*256) y=x*256+y:=by
 obtain⟨a,rfl⟩:=Int.eq_ofNat_of_zero_le h0
 obtain⟨b,rfl⟩:=Int.eq_ofNat_of_zero_le h2
 rw[show((a:Int)*256)=((a*256:Nat):Int) by omega,u16_or_nat (a*256) b (by omega) (by omega),or_mul2 b a 8 256 (by decide) (by omega)]
 omega
theorem pwhole_any (b:Nat)(s6 d6:Bool)(S D:Nat→Int)(p sp dp ln fl:Int)(fr mo:Bool)(oa:Option Addr)(n cap:Nat)(l:List Int)(w:World)(hp:p=6∨p=17∨p=1∨p=58)(hr:Reads w oa n cap l)(hn:n≤100000)
 (hx:w.heap[b]? =some (.cells #[.bool s6,.int .u8 (S 0),.int .u8 (S 1),.int .u8 (S 2),.int .u8 (S 3),.int .u8 (S 4),.int .u8 (S 5),.int .u8 (S 6),.int .u8 (S 7),.int .u8 (S 8),.int .u8 (S 9),.int .u8 (S 10),.int .u8 (S 11),.int .u8 (S 12),.int .u8 (S 13),.int .u8 (S 14),.int .u8 (S 15),.bool d6,.int .u8 (D 0),.int .u8 (D 1),.int .u8 (D 2),.int .u8 (D 3),.int .u8 (D 4),.int .u8 (D 5),.int .u8 (D 6),.int .u8 (D 7),.int .u8 (D 8),.int .u8 (D 9),.int .u8 (D 10),.int .u8 (D 11),.int .u8 (D 12),.int .u8 (D 13),.int .u8 (D 14),.int .u8 (D 15),.int .u8 p,.int .u16 sp,.int .u16 dp,.int .i64 ln,.int .u8 fl,.bool fr,.slice oa n cap,.bool mo] 85 (0,0))):
 Calls Tryz.prog 38 #[.pointer (some ⟨b,0,none⟩)] w (OutPost w b #[.bool s6,.int .u8 (S 0),.int .u8 (S 1),.int .u8 (S 2),.int .u8 (S 3),.int .u8 (S 4),.int .u8 (S 5),.int .u8 (S 6),.int .u8 (S 7),.int .u8 (S 8),.int .u8 (S 9),.int .u8 (S 10),.int .u8 (S 11),.int .u8 (S 12),.int .u8 (S 13),.int .u8 (S 14),.int .u8 (S 15),.bool d6,.int .u8 (D 0),.int .u8 (D 1),.int .u8 (D 2),.int .u8 (D 3),.int .u8 (D 4),.int .u8 (D 5),.int .u8 (D 6),.int .u8 (D 7),.int .u8 (D 8),.int .u8 (D 9),.int .u8 (D 10),.int .u8 (D 11),.int .u8 (D 12),.int .u8 (D 13),.int .u8 (D 14),.int .u8 (D 15),.int .u8 p,.int .u16 (upWhole p l).src,.int .u16 (upWhole p l).dst,.int .i64 ln,.int .u8 (upWhole p l).flags,.bool fr,.slice oa n cap,.bool mo] (tErr p l)):=by
 have HX:=Lib.hid hx
 have HT:=Lib.hid (fun w' (h:Below w.heap.size w w')=>tparse_any p hp oa n cap l w' (hr.below h) hn)
 have hbl:b<w.heap.size:=(Array.getElem?_eq_some_iff.1 hx).1
 have hc34:w.cell? ⟨b,34,none⟩=some (.int .u8 p):=cell_of_row _ _ 34 _ _ (0,0) hx
 have hc40:w.cell? ⟨b,40,none⟩=some (.slice oa n cap):=cell_of_row _ _ 40 _ _ (0,0) hx
 have HI:Hid (∀w',Calls Tryz.prog 36 #[.int .u8 p] w' (RetAt w' (.bool (isIcmp p)))):=Lib.hid (fun w'=>icmp_any p w')
 have HBD:=Lib.hid (tParse_bd (p:=p) hr.byte)
 have HU:Hid (upWhole p l=⟨tErr p l,(tParse p l).src,if isIcmp p then (tParse p l).type*256+(tParse p l).code else (tParse p l).dst,(tParse p l).flags⟩):=Lib.hid rfl
 rw[HU.out]
 generalize hdst:(if isIcmp p then (tParse p l).type*256+(tParse p l).code else (tParse p l).dst)=dst
 have HDS:=Lib.hid hdst
 clear hx hr hp HU hdst
 generalize isIcmp p=bi at*
 generalize tErr p l=er at*
 unfold tCells at HT
 generalize tParse p l=t at*
 obtain⟨q0,q1,q2,q3,q4,q5,q6,q7,q8,q9,q10,q11⟩:=t
 simp only at HT HBD HDS⊢
 generalize q8.length=nO at*
 generalize q11.length=nD at*
 go_enter Tryz.func38,Tryz.ntmps38
 go_wp2_with fail
 refine wp_region_fl [.h,.h,.h,.h,.h,.h,.h,.h,.h,.h] [] (fun _ _=>True) [] [(.w,10),(.q,11),(.q,12),(.q,13)] [(.w,15),(.q,16)] 14 (.cells segZC 149) (by kernel_rfl) (by kernel_rfl) rfl rfl ⟨fun _=>rfl,fun _ _=>by kernel_rfl⟩ (by kernel_rfl) (by kernel_rfl) ?_
 apply Exists.intro
 refine⟨fun wx hbx=>?_,by simp,?_⟩
 ·have hcx:wx.cell? ⟨b,34,none⟩=some (.int .u8 p):=(below_cell hbx hbl _ rfl).trans hc34
  have hcx40:wx.cell? ⟨b,40,none⟩=some (.slice oa n cap):=(below_cell hbx hbl _ rfl).trans hc40
  have hbx2:b<wx.heap.size:=Nat.lt_of_lt_of_le hbl hbx.size
  simp only[headsL]
  repeat go_big_quiet_step (fail)
  exact wpQuiet_nil rfl
 simp only[opsAt,List.getElem?_cons_succ,List.getElem?_cons_zero]
 refine⟨fun v fl w2=>(∃oO cO oD cD,v=.tuple #[.agg #[.int .u8 q0,.int .u16 q1,.int .u16 q2,.int .u32 q3,.int .u32 q4,.int .u8 q5,.int .u16 q6,.int .u16 q7,.slice oO nO cO,.int .u8 q9,.int .u8 q10,.slice oD nD cD],.int .i64 er])∧Below w.heap.size w w2∧∀b',fl=some b'→w.heap.size≤b'∧w2.heap[b']? =some (.cells segZC 149 (0,0)),?_,fun _ _=>kept_none,?_,?_⟩
 ·rintro fl-
  refine⟨rfl,fun w' hw'=>.inr ⟨77,#[.int .u8 p,.slice oa n cap],by kernel_rfl,?_⟩⟩
  obtain⟨⟨x,rfl⟩,hfb⟩:=hw'
  refine(HT.out x.world x.below).mono ?_
  rintro e w2 ⟨⟨oO,cO,oD,cD,rfl⟩,hb2⟩
  refine⟨_,rfl,⟨oO,cO,oD,cD,rfl⟩,Below.via x.below hb2,fun b' hb'=>⟨(hfb b' hb').1,?_⟩⟩
  have:=(hfb b' hb').2
  exact(hb2.block b' (Array.getElem?_eq_some_iff.1 this).1).trans this
 ·rintro-v w2 ⟨h1,h3,-⟩
  exact⟨h1,Below.all h3 _,fun b' hb'=>by cases hb';exact⟨h3.size,heap_alloc_new _ _⟩⟩
 rintro v ⟨fl0,w20,⟨oO,cO,oD,cD,rfl⟩,-⟩
 refine⟨.tuple #[.agg #[.int .u8 q0,.int .u16 q1,.int .u16 q2,.int .u32 q3,.int .u32 q4,.int .u8 q5,.int .u16 q6,.int .u16 q7,.slice oO nO cO,.int .u8 q9,.int .u8 q10,.slice oD nD cD],.int .i64 er],⟨rfl,fun _=>by kernel_rfl⟩,?_⟩
 refine⟨.agg #[.int .u8 q0,.int .u16 q1,.int .u16 q2,.int .u32 q3,.int .u32 q4,.int .u8 q5,.int .u16 q6,.int .u16 q7,.slice oO nO cO,.int .u8 q9,.int .u8 q10,.slice oD nD cD],⟨rfl,fun _=>by kernel_rfl⟩,?_⟩
 refine⟨.int .i64 er,⟨rfl,fun _=>by kernel_rfl⟩,?_⟩
 intro bs
 refine⟨fun v fl w2=>v=undef∧Below w.heap.size w w2∧w.heap.size≤bs∧w2.heap[bs]? =some (.cells #[.int .u8 q0,.int .u16 q1,.int .u16 q2,.int .u32 q3,.int .u32 q4,.int .u8 q5,.int .u16 q6,.int .u16 q7,.slice oO nO cO,.int .u8 q9,.int .u8 q10,.slice oD nD cD] 149 (0,0)),?_,fun _ _=>kept_none,(fun h=>by cases h),?_⟩
 ·rintro fl rfl
  refine SeqRun.skip rfl ?_
  rintro w' ⟨⟨oO',cO',oD',cD',he⟩,hb1,hb2⟩
  obtain⟨hbge,hbx⟩:=hb2 bs rfl
  exact⟨_,do_store_seg _ w' bs #[.int .u8 q0,.int .u16 q1,.int .u16 q2,.int .u32 q3,.int .u32 q4,.int .u8 q5,.int .u16 q6,.int .u16 q7,.slice oO nO cO,.int .u8 q9,.int .u8 q10,.slice oD nD cD] (by kernel_rfl) (by kernel_rfl) (by rw[rowFree_row _ _ _ _ _ hbx];rfl) rfl rfl,hb1.trans (setRow_below _ hbge),hbge,setRow_row hbx⟩
 rintro v ⟨fl2,w22,rfl,-⟩
 refine⟨.int .i64 er,⟨rfl,fun _=>by kernel_rfl⟩,?_⟩
 rintro zz ⟨-,hzz,hbge,hsz⟩
 have HZ:=Lib.hid hzz
 have HSZ:=Lib.hid hsz
 have HXZ:=Lib.hid ((hzz.block b hbl).trans HX.out)
 have hbz:b<zz.heap.size:=Nat.lt_of_lt_of_le hbl hzz.size
 have hsz':bs<zz.heap.size:=(Array.getElem?_eq_some_iff.1 hsz).1
 have hne:bs≠b:=by omega
 have s1:=cell_of_row _ _ 1 _ _ (0,0) hsz
 have s2:=cell_of_row _ _ 2 _ _ (0,0) hsz
 have s5:=cell_of_row _ _ 5 _ _ (0,0) hsz
 clear hzz hsz hc34 hc40 HX HT fl0 fl2 w20 w22
 unfold ptrTo
 simp only[Act.put,List.setIfInBounds_toArray,List.set_cons_succ,List.set_cons_zero]
 go_wp2_with fail
 refine wp_region_sc [.h,.h,.h,.h,.h,.h,.h,.h,.h,.h,.h,.h,.h] [(1,1,0),(5,1,0),(6,1,0),(2,2,0),(7,2,0),(8,2,0)] (fun _ w'=>w'.cell? ⟨bs,2,none⟩=some (.int .u16 q2)∧w'.cell? ⟨bs,5,none⟩=some (.int .u8 q5)) [2] [(.w,13),(.q,14),(.q,15),(.q,16),(.q,17),(.w,18),(.q,19),(.q,20),(.q,21),(.w,22)] (by kernel_rfl) (by kernel_rfl) (by kernel_rfl) (by kernel_rfl) ?_
 apply Exists.intro
 refine⟨fun wx hbx=>?_,?_,?_⟩
 ·have c1:wx.cell? ⟨bs,1,none⟩=some (.int .u16 q1):=(below_cell hbx hsz' _ rfl).trans s1
  have c2:wx.cell? ⟨bs,2,none⟩=some (.int .u16 q2):=(below_cell hbx hsz' _ rfl).trans s2
  have c5:wx.cell? ⟨bs,5,none⟩=some (.int .u8 q5):=(below_cell hbx hsz' _ rfl).trans s5
  have hbx2:bs<wx.heap.size:=Nat.lt_of_lt_of_le hsz' hbx.size
  simp only[headsL]
  repeat go_big_quiet_step (fail)
  exact wpQuiet_nil rfl
 ·intro q hq oi hoi
  simp only[List.mem_cons,List.not_mem_nil,or_false] at hq
  rcases hq with rfl|rfl|rfl|rfl|rfl|rfl
  ·cases hoi;exact⟨_,rfl,rfl,fun w2 hw=>by kernel_rfl⟩
  ·cases hoi;exact⟨_,rfl,rfl,fun w2 hw=>by kernel_rfl⟩
  ·cases hoi;exact⟨_,rfl,rfl,fun w2 hw=>by simp[execOp,go_sem,hw.1]⟩
  ·cases hoi;exact⟨_,rfl,rfl,fun w2 hw=>by kernel_rfl⟩
  ·cases hoi;exact⟨_,rfl,rfl,fun w2 hw=>by kernel_rfl⟩
  ·cases hoi;exact⟨_,rfl,rfl,fun w2 hw=>by simp[execOp,go_sem,hw.2]⟩
 simp only[opsAt,List.getElem?_cons_succ,List.getElem?_cons_zero]
 refine⟨fun v fq w2=>v=undef∧OB zz b #[.bool s6,.int .u8 (S 0),.int .u8 (S 1),.int .u8 (S 2),.int .u8 (S 3),.int .u8 (S 4),.int .u8 (S 5),.int .u8 (S 6),.int .u8 (S 7),.int .u8 (S 8),.int .u8 (S 9),.int .u8 (S 10),.int .u8 (S 11),.int .u8 (S 12),.int .u8 (S 13),.int .u8 (S 14),.int .u8 (S 15),.bool d6,.int .u8 (D 0),.int .u8 (D 1),.int .u8 (D 2),.int .u8 (D 3),.int .u8 (D 4),.int .u8 (D 5),.int .u8 (D 6),.int .u8 (D 7),.int .u8 (D 8),.int .u8 (D 9),.int .u8 (D 10),.int .u8 (D 11),.int .u8 (D 12),.int .u8 (D 13),.int .u8 (D 14),.int .u8 (D 15),.int .u8 p,.int .u16 q1,.int .u16 dp,.int .i64 ln,.int .u8 fl,.bool fr,.slice oa n cap,.bool mo] 85 w2,?_,?_,(fun h=>by cases h),?_⟩
 ·rintro fl rfl
  refine SeqRun.skip rfl ?_
  rintro w' ⟨⟨x,rfl⟩,-⟩
  have hob:OB zz b #[.bool s6,.int .u8 (S 0),.int .u8 (S 1),.int .u8 (S 2),.int .u8 (S 3),.int .u8 (S 4),.int .u8 (S 5),.int .u8 (S 6),.int .u8 (S 7),.int .u8 (S 8),.int .u8 (S 9),.int .u8 (S 10),.int .u8 (S 11),.int .u8 (S 12),.int .u8 (S 13),.int .u8 (S 14),.int .u8 (S 15),.bool d6,.int .u8 (D 0),.int .u8 (D 1),.int .u8 (D 2),.int .u8 (D 3),.int .u8 (D 4),.int .u8 (D 5),.int .u8 (D 6),.int .u8 (D 7),.int .u8 (D 8),.int .u8 (D 9),.int .u8 (D 10),.int .u8 (D 11),.int .u8 (D 12),.int .u8 (D 13),.int .u8 (D 14),.int .u8 (D 15),.int .u8 p,.int .u16 sp,.int .u16 dp,.int .i64 ln,.int .u8 fl,.bool fr,.slice oa n cap,.bool mo] 85 x.world:=OB.later ⟨HXZ.out,Below.refl _ _,fun _ _ _=>rfl⟩ x.below
  have g1:=cell_of_row _ _ 35 _ _ (0,0) hob.1
  have g2:=frozen_of_row _ _ 35 _ _ hob.1
  refine⟨_,?_,hob.set 35 (.int .u16 q1)⟩
  simp[execOp,go_sem,g1,g2]
 ·rintro v fq g-w2 ⟨-,hob⟩
  have:=(hob.2.2 bs hne hsz')
  exact⟨(World.cell?_of_block (a:=⟨bs,2,none⟩) this).trans s2,(World.cell?_of_block (a:=⟨bs,5,none⟩) this).trans s5⟩
 rintro v ⟨gl0,w30,rfl,-⟩
 refine⟨.pointer (some ⟨b,0,none⟩),⟨rfl,fun _=>by kernel_rfl⟩,?_⟩
 refine⟨.pointer (some ⟨b,0,none⟩),⟨rfl,fun _=>by kernel_rfl⟩,?_⟩
 refine⟨.pointer (some ⟨b,0,none⟩),⟨rfl,fun _=>by kernel_rfl⟩,?_⟩
 refine⟨.pointer (some ⟨b,36,none⟩),⟨rfl,fun _=>by kernel_rfl⟩,?_⟩
 refine⟨fun v fq w2=>v=undef∧OB zz b #[.bool s6,.int .u8 (S 0),.int .u8 (S 1),.int .u8 (S 2),.int .u8 (S 3),.int .u8 (S 4),.int .u8 (S 5),.int .u8 (S 6),.int .u8 (S 7),.int .u8 (S 8),.int .u8 (S 9),.int .u8 (S 10),.int .u8 (S 11),.int .u8 (S 12),.int .u8 (S 13),.int .u8 (S 14),.int .u8 (S 15),.bool d6,.int .u8 (D 0),.int .u8 (D 1),.int .u8 (D 2),.int .u8 (D 3),.int .u8 (D 4),.int .u8 (D 5),.int .u8 (D 6),.int .u8 (D 7),.int .u8 (D 8),.int .u8 (D 9),.int .u8 (D 10),.int .u8 (D 11),.int .u8 (D 12),.int .u8 (D 13),.int .u8 (D 14),.int .u8 (D 15),.int .u8 p,.int .u16 q1,.int .u16 q2,.int .i64 ln,.int .u8 fl,.bool fr,.slice oa n cap,.bool mo] 85 w2,?_,?_,(fun h=>by cases h),?_⟩
 ·rintro fl rfl
  refine SeqRun.skip rfl ?_
  rintro w' ⟨-,hob⟩
  have g1:=cell_of_row _ _ 36 _ _ (0,0) hob.1
  have g2:=frozen_of_row _ _ 36 _ _ hob.1
  refine⟨_,?_,hob.set 36 (.int .u16 q2)⟩
  simp[execOp,go_sem,g1,g2]
 ·rintro v fq g-w2 ⟨-,hob⟩
  have:=(hob.2.2 bs hne hsz')
  exact⟨(World.cell?_of_block (a:=⟨bs,2,none⟩) this).trans s2,(World.cell?_of_block (a:=⟨bs,5,none⟩) this).trans s5⟩
 rintro v ⟨gl1,w31,rfl,-⟩
 refine⟨.pointer (some ⟨b,0,none⟩),⟨rfl,fun _=>by kernel_rfl⟩,?_⟩
 refine⟨.pointer (some ⟨b,0,none⟩),⟨rfl,fun _=>by kernel_rfl⟩,?_⟩
 refine⟨.pointer (some ⟨b,38,none⟩),⟨rfl,fun _=>by kernel_rfl⟩,?_⟩
 refine⟨fun v fq w2=>v=undef∧OB zz b #[.bool s6,.int .u8 (S 0),.int .u8 (S 1),.int .u8 (S 2),.int .u8 (S 3),.int .u8 (S 4),.int .u8 (S 5),.int .u8 (S 6),.int .u8 (S 7),.int .u8 (S 8),.int .u8 (S 9),.int .u8 (S 10),.int .u8 (S 11),.int .u8 (S 12),.int .u8 (S 13),.int .u8 (S 14),.int .u8 (S 15),.bool d6,.int .u8 (D 0),.int .u8 (D 1),.int .u8 (D 2),.int .u8 (D 3),.int .u8 (D 4),.int .u8 (D 5),.int .u8 (D 6),.int .u8 (D 7),.int .u8 (D 8),.int .u8 (D 9),.int .u8 (D 10),.int .u8 (D 11),.int .u8 (D 12),.int .u8 (D 13),.int .u8 (D 14),.int .u8 (D 15),.int .u8 p,.int .u16 q1,.int .u16 q2,.int .i64 ln,.int .u8 q5,.bool fr,.slice oa n cap,.bool mo] 85 w2,?_,fun _ _=>kept_top rfl,(fun h=>by cases h),?_⟩
 ·rintro fl rfl
  refine SeqRun.skip rfl ?_
  rintro w' ⟨-,hob⟩
  have g1:=cell_of_row _ _ 38 _ _ (0,0) hob.1
  have g2:=frozen_of_row _ _ 38 _ _ hob.1
  refine⟨_,?_,hob.set 38 (.int .u8 q5)⟩
  simp[execOp,go_sem,g1,g2]
 rintro v ⟨gl2,w32,rfl,-⟩
 rintro z4 ⟨-,hob⟩
 have HOB:=Lib.hid hob
 have HS4:=Lib.hid ((hob.2.2 bs hne hsz').trans HSZ.out)
 have hc34:z4.cell? ⟨b,34,none⟩=some (.int .u8 p):=cell_of_row _ _ 34 _ _ (0,0) hob.1
 clear hob s1 s2 s5 gl0 gl1 gl2 w30 w31 w32
 go_wp2_with fail
 refine Calls.mono (HI.out z4) ?_
 rintro e z5 ⟨rfl,hb5⟩
 have HOB5:=Lib.hid (HOB.out.later hb5)
 have HS5:=Lib.hid ((hb5.block bs (Array.getElem?_eq_some_iff.1 HS4.out).1).trans HS4.out)
 clear hc34 hb5 HOB HS4
 have c9:=cell_of_row _ _ 9 _ _ (0,0) HS5.out
 have c10:=cell_of_row _ _ 10 _ _ (0,0) HS5.out
 have c36:=cell_of_row _ _ 36 _ _ (0,0) HOB5.out.1
 have f36:=frozen_of_row _ _ 36 _ _ HOB5.out.1
 have hfin:∀(cs:Array Value) (w2:World),OB zz b cs 85 w2→OutPost w b cs er (.returned (.int .i64 er)) w2:=fun cs w2 h=>⟨rfl,h.1,(HZ.out.mono (Nat.le_of_lt hbl)).trans h.2.1,fun i hi hl=>(h.2.2 i hi (Nat.lt_of_lt_of_le hl HZ.out.size)).trans (HZ.out.block i hl)⟩
 have HFIN:=Lib.hid hfin
 clear hfin
 obtain⟨⟨h90,h91⟩,h100,h101⟩:=HBD.out
 have HOR:bits .or .u16 (q9*256) q10=q9*256+q10:=or_byte16 q9 q10 h90 h91 h100 h101
 cases bi
 ·go_wp2_with fail
  go_ret
  obtain rfl:q2=dst:=HDS.out
  exact HFIN.out _ _ HOB5.out
 ·go_wp2_with fail
  go_ret
  obtain rfl:q9*256+q10=dst:=HDS.out
  exact HFIN.out _ _ (HOB5.out.set 36 (.int .u16 (q9*256+q10)))
def outZC:Array Value:=#[.bool false,.int .u8 0,.int .u8 0,.int .u8 0,.int .u8 0,.int .u8 0,.int .u8 0,.int .u8 0,.int .u8 0,.int .u8 0,.int .u8 0,.int .u8 0,.int .u8 0,.int .u8 0,.int .u8 0,.int .u8 0,.int .u8 0,.bool false,.int .u8 0,.int .u8 0,.int .u8 0,.int .u8 0,.int .u8 0,.int .u8 0,.int .u8 0,.int .u8 0,.int .u8 0,.int .u8 0,.int .u8 0,.int .u8 0,.int .u8 0,.int .u8 0,.int .u8 0,.int .u8 0,.int .u8 0,.int .u16 0,.int .u16 0,.int .i64 0,.int .u8 0,.bool false,.slice none 0 0,.bool false]
def outC (o:Outer)(oa:Option Addr)(cap:Nat):Array Value:=#[.bool o.six,.int .u8 (o.src 0),.int .u8 (o.src 1),.int .u8 (o.src 2),.int .u8 (o.src 3),.int .u8 (o.src 4),.int .u8 (o.src 5),.int .u8 (o.src 6),.int .u8 (o.src 7),.int .u8 (o.src 8),.int .u8 (o.src 9),.int .u8 (o.src 10),.int .u8 (o.src 11),.int .u8 (o.src 12),.int .u8 (o.src 13),.int .u8 (o.src 14),.int .u8 (o.src 15),.bool o.six,.int .u8 (o.dst 0),.int .u8 (o.dst 1),.int .u8 (o.dst 2),.int .u8 (o.dst 3),.int .u8 (o.dst 4),.int .u8 (o.dst 5),.int .u8 (o.dst 6),.int .u8 (o.dst 7),.int .u8 (o.dst 8),.int .u8 (o.dst 9),.int .u8 (o.dst 10),.int .u8 (o.dst 11),.int .u8 (o.dst 12),.int .u8 (o.dst 13),.int .u8 (o.dst 14),.int .u8 (o.dst 15),.int .u8 o.proto,.int .u16 0,.int .u16 0,.int .i64 o.len,.int .u8 0,.bool o.frag,.slice oa o.body.length cap,.bool o.more]
def OuterPost (w:World)(o:Outer)(err:Int):Ending→World→Prop:=fun e w'=>
 (err≠0∧e=.returned (.tuple #[.agg outZC,.int .i64 err])∧Below w.heap.size w w')∨
 (err=0∧∃oa cap,e=.returned (.tuple #[.agg (outC o oa cap),.int .i64 0])∧Owns w' w.heap.size 1 oa o.body.length cap (o.body.map (.int .u8))∧Below w.heap.size w w')
theorem out_four {R:Ending→World→Prop}{w':World}{tmps cs:Array Value}{u:Value}(b:Nat)(hp:tmps.getD 2 undef=.pointer (some ⟨b,0,none⟩))(h3:tmps.getD 3 undef=u)(hc:partOf w' b 0 42=cs)(hs:cs.size=42)(hR:R (.returned (.tuple #[.agg cs,u])) w'):
 bodyPost Tryz.prog Tryz.f79 R .ret { tmps:=tmps,defers:=[] } w':=
 bodyPost_ret (v:=.tuple #[.agg cs,u]) (results_part2 rfl _ _ b 42 _ _ Tryz.underlying85 rfl info_out hp h3 cs hc hs) rfl hR
theorem slice_get (l:List Int)(k n j:Nat)(hj:j<n):((l.drop k).take n).getD j 0=l.getD (k+j) 0:=by
 simp[List.getD_eq_getElem?_getD,List.getElem?_take,List.getElem?_drop,hj]
theorem ipBody_err {l:List Int}(h:ipBodyErr l=0):ipErr l=0:=by
 unfold ipBodyErr at h
 by_cases h1:ipErr l=0
 ·exact h1
 ·rw[if_pos h1] at h;exact h
theorem pfour_any (oa:Option Addr)(n cap:Nat)(l:List Int)(w:World)(hr:Reads w oa n cap l)(hn:n≤100000):
 Calls Tryz.prog 79 #[.slice oa n cap] w (OuterPost w (outFour l) (ipBodyErr l)):=by
 have hlen:=hr.len
 have hx:=heap_alloc_new w (.cells outZC 85)
 have hB:Below w.heap.size w (w.alloc (.cells outZC 85)):=Below.all (Below.refl _ _) _
 have HR:=Lib.hid (hr.alloc (.cells outZC 85))
 have HBY:=Lib.hid hr.byte
 unfold outZC at hx hB HR
 clear hr
 go_enter Tryz.func79,Tryz.ntmps79
 go_wp2_with fail
 obtain⟨b0,hb0⟩:∃b,b=w.heap.size:=⟨_,rfl⟩
 rw[←hb0] at hx⊢
 have HB0:=Lib.hid hb0
 clear hb0
 generalize w.alloc (.cells #[.bool false,.int .u8 0,.int .u8 0,.int .u8 0,.int .u8 0,.int .u8 0,.int .u8 0,.int .u8 0,.int .u8 0,.int .u8 0,.int .u8 0,.int .u8 0,.int .u8 0,.int .u8 0,.int .u8 0,.int .u8 0,.int .u8 0,.bool false,.int .u8 0,.int .u8 0,.int .u8 0,.int .u8 0,.int .u8 0,.int .u8 0,.int .u8 0,.int .u8 0,.int .u8 0,.int .u8 0,.int .u8 0,.int .u8 0,.int .u8 0,.int .u8 0,.int .u8 0,.int .u8 0,.int .u8 0,.int .u16 0,.int .u16 0,.int .i64 0,.int .u8 0,.bool false,.slice none 0 0,.bool false] 85)=wa at*
 refine Calls.mono (ipbody_any _ _ _ _ _ HR.out hn) ?_
 rintro e w1 ⟨ob,cb,rfl,ho,hb⟩
 have HO:=Lib.hid (ho.mono hB.size)
 have HNB:Hid (∀a,ob=some a→a.block≠b0):=Lib.hid (fun a ha=>by have:=(ho.lt ha).1;have h2:=(Array.getElem?_eq_some_iff.1 hx).1;omega)
 have HB1:=Lib.hid (Below.via hB hb)
 have HX1:=Lib.hid ((hb.block b0 (Array.getElem?_eq_some_iff.1 hx).1).trans hx)
 have HR1:=Lib.hid (HR.out.below hb)
 have hb1:b0<w1.heap.size:=(Array.getElem?_eq_some_iff.1 HX1.out).1
 have hrf:rowFree w1 b0 42=true:=by rw[rowFree_row _ _ _ _ _ HX1.out];rfl
 clear hb ho hx hB HR
 by_cases h0:ipBodyErr l=0
 rotate_left
 ·have HE:=Lib.hid h0
  have hne:(ipBodyErr l != 0)=true:=by simpa using h0
  clear h0
  generalize ipBodyErr l=er at*
  generalize (ipBodyL l).length=nb at*
  go_wp2_with fail
  exact out_four (cs:=outZC) (u:=.int .i64 er) b0 rfl rfl (partOf_all (setRow_row HX1.out) rfl) rfl (.inl ⟨HE.out,rfl,HB1.out.trans (setRow_below _ (Nat.le_of_eq HB0.out.symm))⟩)
 have HL:Hid (ipBodyL l=ipBody l):=Lib.hid (by unfold ipBodyL;rw[if_pos h0])
 have HE:Hid (ipErr l=0):=Lib.hid (ipBody_err h0)
 have HOUT:Hid (outFour l=⟨false,fromB ((l.drop 12).take 4),fromB ((l.drop 16).take 4),l.getD 9 0,w2 l 2,decide (0<w2 l 6%8192),decide (w2 l 6/8192%2=1),ipBody l⟩):=Lib.hid rfl
 have hl20:20≤l.length:=by have:=ipErr_ok HE.out;omega
 have HS:Hid (((l.drop 12).take 4).length=4∧IsBytes ((l.drop 12).take 4)):=Lib.hid ⟨by rw[List.length_take,List.length_drop];omega,isBytes_take (isBytes_drop HBY.out _) _⟩
 have HD:Hid (((l.drop 16).take 4).length=4∧IsBytes ((l.drop 16).take 4)):=Lib.hid ⟨by rw[List.length_take,List.length_drop];omega,isBytes_take (isBytes_drop HBY.out _) _⟩
 have HPW:=w2_bd HBY.out 2
 rw[HL.out] at HO⊢
 rw[h0]
 have H00:=Lib.hid h0
 clear h0 HL hl20
 generalize ipBody l=L at*
 go_wp2_with fail
 refine Calls.mono (ipparse_any _ _ _ _ _ HR1.out hn) ?_
 rintro e w2' (⟨hne,-,-⟩|⟨-,oh,ch,rfl,hoh,hb2⟩)
 ·exact absurd HE.out hne
 have HO2:=Lib.hid (Owns.below HO.out hb2)
 have HB2:=Lib.hid (Below.via HB1.out hb2)
 have HX2:=Lib.hid ((hb2.block b0 hb1).trans HX1.out)
 unfold ipA bitOf
 clear hoh hb2 HO HB1 HX1 HR1 hrf hb1
 have HS12:Hid (l.getD 12 0=((l.drop 12).take 4).getD 0 0∧l.getD 13 0=((l.drop 12).take 4).getD 1 0∧l.getD 14 0=((l.drop 12).take 4).getD 2 0∧l.getD 15 0=((l.drop 12).take 4).getD 3 0):=Lib.hid ⟨(slice_get l 12 4 0 (by decide)).symm,(slice_get l 12 4 1 (by decide)).symm,(slice_get l 12 4 2 (by decide)).symm,(slice_get l 12 4 3 (by decide)).symm⟩
 have HS16:Hid (l.getD 16 0=((l.drop 16).take 4).getD 0 0∧l.getD 17 0=((l.drop 16).take 4).getD 1 0∧l.getD 18 0=((l.drop 16).take 4).getD 2 0∧l.getD 19 0=((l.drop 16).take 4).getD 3 0):=Lib.hid ⟨(slice_get l 16 4 0 (by decide)).symm,(slice_get l 16 4 1 (by decide)).symm,(slice_get l 16 4 2 (by decide)).symm,(slice_get l 16 4 3 (by decide)).symm⟩
 rw[HS12.out.1,HS12.out.2.1,HS12.out.2.2.1,HS12.out.2.2.2,HS16.out.1,HS16.out.2.1,HS16.out.2.2.1,HS16.out.2.2.2]
 clear HS12 HS16
 generalize (l.drop 12).take 4=SL at*
 generalize (l.drop 16).take 4=DL at*
 have HSL:=Lib.hid (list4 SL HS.out.1)
 have HDL:=Lib.hid (list4 DL HD.out.1)
 generalize SL.getD 0 0=s0 at*
 generalize SL.getD 1 0=s1 at*
 generalize SL.getD 2 0=s2 at*
 generalize SL.getD 3 0=s3 at*
 generalize DL.getD 0 0=d0 at*
 generalize DL.getD 1 0=d1 at*
 generalize DL.getD 2 0=d2 at*
 generalize DL.getD 3 0=d3 at*
 generalize w2 l 2=tot at*
 generalize w2 l 6=fw at*
 generalize l.getD 9 0=pr at*
 generalize l.getD 1 0=x1 at*
 generalize w2 l 4=x4 at*
 generalize l.getD 8 0=x8 at*
 generalize decide (fw/16384%2=1)=dfb at*
 generalize decide (fw/8192%2=1)=mfb at*
 generalize fw%8192=fg at*
 generalize ipHl l=hl at*
 go_wp2_with fail
 obtain⟨bh,hbh⟩:∃b,b=w2'.heap.size:=⟨_,rfl⟩
 have hx3:=heap_alloc_new w2' (.cells #[.int .u8 x1,.int .u16 tot,.int .u16 x4,.bool dfb,.bool mfb,.int .u16 fg,.int .u8 x8,.int .u8 pr,.int .u8 s0,.int .u8 s1,.int .u8 s2,.int .u8 s3,.int .u8 d0,.int .u8 d1,.int .u8 d2,.int .u8 d3,.slice oh (hl-20) ch] 113)
 have hb3:Below w2'.heap.size w2' (w2'.alloc (.cells #[.int .u8 x1,.int .u16 tot,.int .u16 x4,.bool dfb,.bool mfb,.int .u16 fg,.int .u8 x8,.int .u8 pr,.int .u8 s0,.int .u8 s1,.int .u8 s2,.int .u8 s3,.int .u8 d0,.int .u8 d1,.int .u8 d2,.int .u8 d3,.slice oh (hl-20) ch] 113)):=Below.all (Below.refl _ _) _
 rw[←hbh] at hx3⊢
 generalize w2'.alloc (.cells #[.int .u8 x1,.int .u16 tot,.int .u16 x4,.bool dfb,.bool mfb,.int .u16 fg,.int .u8 x8,.int .u8 pr,.int .u8 s0,.int .u8 s1,.int .u8 s2,.int .u8 s3,.int .u8 d0,.int .u8 d1,.int .u8 d2,.int .u8 d3,.slice oh (hl-20) ch] 113)=w3 at*
 have HX3:=Lib.hid hx3
 have HB3:=Lib.hid (Below.via HB2.out hb3)
 have HO3:=Lib.hid (Owns.below HO2.out hb3)
 have HZ3:=Lib.hid ((hb3.block b0 (Array.getElem?_eq_some_iff.1 HX2.out).1).trans HX2.out)
 clear hx3 hb3 HB2 HO2 HX2 hbh
 refine Calls.mono (from_any _ 4 4 SL w3 (box_reads HX3.out 8 4 SL HS.out.1 HS.out.2 (by decide) (fun j hj=>by rw[HSL.out];rcases j with _|_|_|_|j;rfl;rfl;rfl;rfl;omega)) (by decide)) ?_
 rintro e w4 ⟨rfl,hb4⟩
 rw[fromV_4 HS.out.1]
 unfold adV
 generalize fromB SL=S at*
 have HX4:=Lib.hid ((hb4.block bh (Array.getElem?_eq_some_iff.1 HX3.out).1).trans HX3.out)
 have HB4:=Lib.hid (Below.via HB3.out hb4)
 have HO4:=Lib.hid (Owns.below HO3.out hb4)
 have HZ4:=Lib.hid ((hb4.block b0 (Array.getElem?_eq_some_iff.1 HZ3.out).1).trans HZ3.out)
 clear hb4 HX3 HB3 HO3 HZ3
 go_wp2_with fail
 obtain⟨bs,hbs⟩:∃b,b=w4.heap.size:=⟨_,rfl⟩
 have hx5:=heap_alloc_new w4 (.cells #[.bool false,.int .u8 (S 0),.int .u8 (S 1),.int .u8 (S 2),.int .u8 (S 3),.int .u8 (S 4),.int .u8 (S 5),.int .u8 (S 6),.int .u8 (S 7),.int .u8 (S 8),.int .u8 (S 9),.int .u8 (S 10),.int .u8 (S 11),.int .u8 (S 12),.int .u8 (S 13),.int .u8 (S 14),.int .u8 (S 15)] 27)
 have hb5:Below w4.heap.size w4 (w4.alloc (.cells #[.bool false,.int .u8 (S 0),.int .u8 (S 1),.int .u8 (S 2),.int .u8 (S 3),.int .u8 (S 4),.int .u8 (S 5),.int .u8 (S 6),.int .u8 (S 7),.int .u8 (S 8),.int .u8 (S 9),.int .u8 (S 10),.int .u8 (S 11),.int .u8 (S 12),.int .u8 (S 13),.int .u8 (S 14),.int .u8 (S 15)] 27)):=Below.all (Below.refl _ _) _
 rw[←hbs] at hx5⊢
 generalize w4.alloc (.cells #[.bool false,.int .u8 (S 0),.int .u8 (S 1),.int .u8 (S 2),.int .u8 (S 3),.int .u8 (S 4),.int .u8 (S 5),.int .u8 (S 6),.int .u8 (S 7),.int .u8 (S 8),.int .u8 (S 9),.int .u8 (S 10),.int .u8 (S 11),.int .u8 (S 12),.int .u8 (S 13),.int .u8 (S 14),.int .u8 (S 15)] 27)=w5 at*
 have HX5:=Lib.hid ((hb5.block bh (Array.getElem?_eq_some_iff.1 HX4.out).1).trans HX4.out)
 have HB5:=Lib.hid (Below.via HB4.out hb5)
 have HO5:=Lib.hid (Owns.below HO4.out hb5)
 have HZ5:=Lib.hid ((hb5.block b0 (Array.getElem?_eq_some_iff.1 HZ4.out).1).trans HZ4.out)
 have HS5:=Lib.hid hx5
 clear hb5 hx5 HX4 HB4 HO4 HZ4 hbs
 refine Calls.mono (from_any _ 4 4 DL w5 (box_reads HX5.out 12 4 DL HD.out.1 HD.out.2 (by decide) (fun j hj=>by rw[HDL.out];rcases j with _|_|_|_|j;rfl;rfl;rfl;rfl;omega)) (by decide)) ?_
 rintro e w6 ⟨rfl,hb6⟩
 rw[fromV_4 HD.out.1]
 unfold adV
 generalize fromB DL=D at*
 have HX6:=Lib.hid ((hb6.block bh (Array.getElem?_eq_some_iff.1 HX5.out).1).trans HX5.out)
 have HB6:=Lib.hid (Below.via HB5.out hb6)
 have HO6:=Lib.hid (Owns.below HO5.out hb6)
 have HZ6:=Lib.hid ((hb6.block b0 (Array.getElem?_eq_some_iff.1 HZ5.out).1).trans HZ5.out)
 have HS6:=Lib.hid ((hb6.block bs (Array.getElem?_eq_some_iff.1 HS5.out).1).trans HS5.out)
 clear hb6 HX5 HB5 HO5 HZ5 HS5
 have lz:b0<w6.heap.size:=(Array.getElem?_eq_some_iff.1 HZ6.out).1
 have lh:bh<w6.heap.size:=(Array.getElem?_eq_some_iff.1 HX6.out).1
 have ls:bs<w6.heap.size:=(Array.getElem?_eq_some_iff.1 HS6.out).1
 have hrf:rowFree w6 b0 42=true:=by rw[rowFree_row _ _ _ _ _ HZ6.out];rfl
 have hps:partOf w6 bs 0 17=#[.bool false,.int .u8 (S 0),.int .u8 (S 1),.int .u8 (S 2),.int .u8 (S 3),.int .u8 (S 4),.int .u8 (S 5),.int .u8 (S 6),.int .u8 (S 7),.int .u8 (S 8),.int .u8 (S 9),.int .u8 (S 10),.int .u8 (S 11),.int .u8 (S 12),.int .u8 (S 13),.int .u8 (S 14),.int .u8 (S 15)]:=partOf_all HS6.out rfl
 have c1:=cell_of_row _ _ 1 _ _ (0,0) HX6.out
 have c4:=cell_of_row _ _ 4 _ _ (0,0) HX6.out
 have c5:=cell_of_row _ _ 5 _ _ (0,0) HX6.out
 have c7:=cell_of_row _ _ 7 _ _ (0,0) HX6.out
 have ht0:=HPW.1
 have ht1:=HPW.2
 have lz1:b0<w6.heap.size+1:=Nat.lt_succ_of_lt lz
 go_wp2_with fail
 refine out_four (cs:=#[.bool false,.int .u8 (S 0),.int .u8 (S 1),.int .u8 (S 2),.int .u8 (S 3),.int .u8 (S 4),.int .u8 (S 5),.int .u8 (S 6),.int .u8 (S 7),.int .u8 (S 8),.int .u8 (S 9),.int .u8 (S 10),.int .u8 (S 11),.int .u8 (S 12),.int .u8 (S 13),.int .u8 (S 14),.int .u8 (S 15),.bool false,.int .u8 (D 0),.int .u8 (D 1),.int .u8 (D 2),.int .u8 (D 3),.int .u8 (D 4),.int .u8 (D 5),.int .u8 (D 6),.int .u8 (D 7),.int .u8 (D 8),.int .u8 (D 9),.int .u8 (D 10),.int .u8 (D 11),.int .u8 (D 12),.int .u8 (D 13),.int .u8 (D 14),.int .u8 (D 15),.int .u8 pr,.int .u16 0,.int .u16 0,.int .i64 tot,.int .u8 0,.bool (decide (0<fg)),.slice ob L.length cb,.bool mfb]) (u:=.int .i64 0) b0 rfl rfl ?_ rfl ?_
 ·exact partOf_all ((heap_alloc_old _ _ (by simpa using lz1)).trans ((heap_alloc_old _ _ (by simpa using lz)).trans (setRow_row HZ6.out))) rfl
 ·show OuterPost w (outFour l) (ipBodyErr l) _ _
  rw[HOUT.out,H00.out]
  exact .inr ⟨rfl,ob,cb,rfl,Owns.below (Owns.below (Owns.keep HO6.out (by simp) (fun a ha=>setRow_other _ _ _ _ (by have:=(HNB.out a ha);omega))) (Below.all (Below.refl _ _) _)) (Below.all (Below.refl _ _) _),Below.all (Below.all (HB6.out.trans (setRow_below _ (Nat.le_of_eq HB0.out.symm))) _) _⟩
def UpPost (w:World)(b:Nat)(u:Upper)(s6 d6:Bool)(S D:Nat→Int)(p ln:Int)(fr mo:Bool)(oa:Option Addr)(n cap:Nat):Ending→World→Prop:=fun e w'=>∃sp dp fl,OutPost w b #[.bool s6,.int .u8 (S 0),.int .u8 (S 1),.int .u8 (S 2),.int .u8 (S 3),.int .u8 (S 4),.int .u8 (S 5),.int .u8 (S 6),.int .u8 (S 7),.int .u8 (S 8),.int .u8 (S 9),.int .u8 (S 10),.int .u8 (S 11),.int .u8 (S 12),.int .u8 (S 13),.int .u8 (S 14),.int .u8 (S 15),.bool d6,.int .u8 (D 0),.int .u8 (D 1),.int .u8 (D 2),.int .u8 (D 3),.int .u8 (D 4),.int .u8 (D 5),.int .u8 (D 6),.int .u8 (D 7),.int .u8 (D 8),.int .u8 (D 9),.int .u8 (D 10),.int .u8 (D 11),.int .u8 (D 12),.int .u8 (D 13),.int .u8 (D 14),.int .u8 (D 15),.int .u8 p,.int .u16 sp,.int .u16 dp,.int .i64 ln,.int .u8 fl,.bool fr,.slice oa n cap,.bool mo] u.err e w'∧(u.err=0→sp=u.src∧dp=u.dst∧fl=u.flags)
theorem get_two (oa:Option Addr)(n cap:Nat)(l:List Int)(i:Nat)(w:World)(hr:Reads w oa n cap l)(hi:i+2≤n)(hn:n≤100000)(iv:Int)(hiv:iv=(i:Int)):Calls Tryz.prog 81 #[.slice oa n cap,.int .i64 iv,.int .i64 2] w (RetAt w (.tuple #[.int .u64 (w2 l i),.int .i64 0])):=by
 subst hiv
 have hl:=hr.len
 have:=get_ok oa n cap l i 2 w hr (by decide) (by decide) (by omega) (by omega)
 rwa [numAt_two l i (by omega)] at this
theorem get_no (oa:Option Addr)(n cap:Nat)(l:List Int)(i:Nat)(w:World)(hr:Reads w oa n cap l)(hi:n<i+2)(hi2:i≤10)(hn:n≤100000)(iv:Int)(hiv:iv=(i:Int)):Calls Tryz.prog 81 #[.slice oa n cap,.int .i64 iv,.int .i64 2] w (RetAt w (.tuple #[.int .u64 0,.int .i64 10])):=by
 subst hiv
 exact get_short oa n cap i 2 w (by decide) (by decide) (by omega) (by omega) (by omega)
theorem part_any (b:Nat)(s6 d6:Bool)(S D:Nat→Int)(p ln:Int)(fr mo:Bool)(oa:Option Addr)(n cap:Nat)(l:List Int)(w:World)(hp:p=6∨p=17∨p=1∨p=58)(hr:Reads w oa n cap l)(hn:n≤100000)(hob:∀a,oa=some a→a.block≠b)
 (hx:w.heap[b]? =some (.cells #[.bool s6,.int .u8 (S 0),.int .u8 (S 1),.int .u8 (S 2),.int .u8 (S 3),.int .u8 (S 4),.int .u8 (S 5),.int .u8 (S 6),.int .u8 (S 7),.int .u8 (S 8),.int .u8 (S 9),.int .u8 (S 10),.int .u8 (S 11),.int .u8 (S 12),.int .u8 (S 13),.int .u8 (S 14),.int .u8 (S 15),.bool d6,.int .u8 (D 0),.int .u8 (D 1),.int .u8 (D 2),.int .u8 (D 3),.int .u8 (D 4),.int .u8 (D 5),.int .u8 (D 6),.int .u8 (D 7),.int .u8 (D 8),.int .u8 (D 9),.int .u8 (D 10),.int .u8 (D 11),.int .u8 (D 12),.int .u8 (D 13),.int .u8 (D 14),.int .u8 (D 15),.int .u8 p,.int .u16 0,.int .u16 0,.int .i64 ln,.int .u8 0,.bool fr,.slice oa n cap,.bool mo] 85 (0,0))):
 Calls Tryz.prog 37 #[.pointer (some ⟨b,0,none⟩)] w (UpPost w b (upPart p l) s6 d6 S D p ln fr mo oa n cap):=by
 have hl:=hr.len
 by_cases hi:isIcmp p=true
 ·have hu:upPart p l=if l.length<2 then ⟨10,0,0,0⟩ else ⟨0,0,w2 l 0,0⟩:=by unfold upPart;rw[if_pos hi]
  by_cases h2:n<2
  ·refine(part_icmp b s6 d6 S D p 0 0 ln 0 fr mo oa n cap w 0 10 hi (by decide) hx (fun x=>get_no oa n cap l 0 x.world (hr.later x) (by omega) (by omega) hn 0 rfl)).mono (fun e w' h=>⟨0,0,0,?_,?_⟩)
   ·rw[hu,if_pos (by omega)];exact h
   ·rw[hu,if_pos (by omega)];intro h;exact absurd h (by decide)
  ·refine(part_icmp b s6 d6 S D p 0 0 ln 0 fr mo oa n cap w (w2 l 0) 0 hi (w2_bd hr.byte 0) hx (fun x=>get_two oa n cap l 0 x.world (hr.later x) (by omega) hn 0 rfl)).mono (fun e w' h=>⟨0,w2 l 0,0,?_,?_⟩)
   ·rw[hu,if_neg (by omega)];exact h
   ·rw[hu,if_neg (by omega)];exact fun _=>⟨rfl,rfl,rfl⟩
 have hi':isIcmp p=false:=by simpa using hi
 have hu:upPart p l=if l.length<4 then ⟨10,0,0,0⟩ else ⟨0,w2 l 0,w2 l 2,if p=6∧14≤l.length then l.getD 13 0 else 0⟩:=by unfold upPart;rw[if_neg hi]
 obtain⟨v,e0,hv,hg⟩:∃v e0,(0≤v∧v<65536∧(2≤n→v=w2 l 0))∧∀x:Later w,Calls Tryz.prog 81 #[.slice oa n cap,.int .i64 0,.int .i64 2] x.world (RetAt x.world (.tuple #[.int .u64 v,.int .i64 e0])):=by
  by_cases h2:n<2
  ·exact⟨0,10,⟨by decide,by decide,fun h=>by omega⟩,fun x=>get_no oa n cap l 0 x.world (hr.later x) (by omega) (by omega) hn 0 rfl⟩
  ·exact⟨w2 l 0,0,⟨(w2_bd hr.byte 0).1,(w2_bd hr.byte 0).2,fun _=>rfl⟩,fun x=>get_two oa n cap l 0 x.world (hr.later x) (by omega) hn 0 rfl⟩
 obtain⟨u,e1,hu1,hg2⟩:∃u e1,(0≤u∧u<65536∧(e1=0→4≤n∧u=w2 l 2)∧(n<4→e1=10)∧(4≤n→e1=0))∧∀x:Later w,Calls Tryz.prog 81 #[.slice oa n cap,.int .i64 2,.int .i64 2] x.world (RetAt x.world (.tuple #[.int .u64 u,.int .i64 e1])):=by
  by_cases h2:n<4
  ·exact⟨0,10,⟨by decide,by decide,fun h=>by omega,fun _=>rfl,fun h=>by omega⟩,fun x=>get_no oa n cap l 2 x.world (hr.later x) (by omega) (by omega) hn 2 rfl⟩
  ·exact⟨w2 l 2,0,⟨(w2_bd hr.byte 2).1,(w2_bd hr.byte 2).2,fun _=>⟨by omega,rfl⟩,fun h=>by omega,fun _=>rfl⟩,fun x=>get_two oa n cap l 2 x.world (hr.later x) (by omega) hn 2 rfl⟩
 have herr:(upPart p l).err=e1:=by
  rw[hu]
  by_cases h2:n<4
  ·rw[if_pos (by omega),hu1.2.2.2.1 h2]
  ·rw[if_neg (by omega),hu1.2.2.2.2 (by omega)]
 have hval:∀fl,(4≤n→fl=if p=6∧14≤l.length then l.getD 13 0 else 0)→((upPart p l).err=0→v=(upPart p l).src∧u=(upPart p l).dst∧fl=(upPart p l).flags):=by
  intro fl hfl h0
  rw[herr] at h0
  obtain⟨h4,hue⟩:=hu1.2.2.1 h0
  rw[hu,if_neg (by omega)]
  exact⟨hv.2.2 (by omega),hue,hfl h4⟩
 by_cases h6:p=6
 ·subst h6
  by_cases h14:n<14
  ·refine(part_tcp_short b s6 d6 S D 0 0 ln 0 fr mo oa n cap w v e0 u e1 h14 ⟨hu1.1,hu1.2.1⟩ ⟨hv.1,hv.2.1⟩ hx hg hg2).mono (fun e w' h=>⟨v,u,0,?_,hval 0 (fun _=>by rw[if_neg (by omega)])⟩)
   rw[herr];exact h
  ·obtain⟨g,off,rfl,hgl,hc⟩:=hr.here (by omega)
   refine(part_tcp_long b s6 d6 S D 0 0 ln 0 fr mo g off n cap w v e0 u e1 (by omega) (l.getD 13 0) (hc 13 (by omega)) (hob _ rfl) hgl ⟨hu1.1,hu1.2.1⟩ ⟨hv.1,hv.2.1⟩ hx hg hg2).mono (fun e w' h=>⟨v,u,l.getD 13 0,?_,hval _ (fun _=>by rw[if_pos ⟨rfl,by omega⟩])⟩)
   rw[herr];exact h
 ·refine(part_udp b s6 d6 S D p 0 0 ln 0 fr mo oa n cap w v e0 u e1 hi' h6 ⟨hu1.1,hu1.2.1⟩ ⟨hv.1,hv.2.1⟩ hx hg hg2).mono (fun e w' h=>⟨v,u,0,?_,hval 0 (fun _=>by rw[if_neg (fun h=>h6 h.1)])⟩)
  rw[herr];exact h
theorem whole_up (b:Nat)(s6 d6:Bool)(S D:Nat→Int)(p ln:Int)(fr mo:Bool)(oa:Option Addr)(n cap:Nat)(l:List Int)(w:World)(hp:p=6∨p=17∨p=1∨p=58)(hr:Reads w oa n cap l)(hn:n≤100000)
 (hx:w.heap[b]? =some (.cells #[.bool s6,.int .u8 (S 0),.int .u8 (S 1),.int .u8 (S 2),.int .u8 (S 3),.int .u8 (S 4),.int .u8 (S 5),.int .u8 (S 6),.int .u8 (S 7),.int .u8 (S 8),.int .u8 (S 9),.int .u8 (S 10),.int .u8 (S 11),.int .u8 (S 12),.int .u8 (S 13),.int .u8 (S 14),.int .u8 (S 15),.bool d6,.int .u8 (D 0),.int .u8 (D 1),.int .u8 (D 2),.int .u8 (D 3),.int .u8 (D 4),.int .u8 (D 5),.int .u8 (D 6),.int .u8 (D 7),.int .u8 (D 8),.int .u8 (D 9),.int .u8 (D 10),.int .u8 (D 11),.int .u8 (D 12),.int .u8 (D 13),.int .u8 (D 14),.int .u8 (D 15),.int .u8 p,.int .u16 0,.int .u16 0,.int .i64 ln,.int .u8 0,.bool fr,.slice oa n cap,.bool mo] 85 (0,0))):
 Calls Tryz.prog 38 #[.pointer (some ⟨b,0,none⟩)] w (UpPost w b (upWhole p l) s6 d6 S D p ln fr mo oa n cap):=
 (pwhole_any b s6 d6 S D p 0 0 ln 0 fr mo oa n cap l w hp hr hn hx).mono (fun e w' h=>⟨_,_,_,h,fun _=>⟨rfl,rfl,rfl⟩⟩)
def pkZC:Array Value:=#[.bool false,.int .u8 0,.int .u8 0,.int .u8 0,.int .u8 0,.int .u8 0,.int .u8 0,.int .u8 0,.int .u8 0,.int .u8 0,.int .u8 0,.int .u8 0,.int .u8 0,.int .u8 0,.int .u8 0,.int .u8 0,.int .u8 0,.bool false,.int .u8 0,.int .u8 0,.int .u8 0,.int .u8 0,.int .u8 0,.int .u8 0,.int .u8 0,.int .u8 0,.int .u8 0,.int .u8 0,.int .u8 0,.int .u8 0,.int .u8 0,.int .u8 0,.int .u8 0,.int .u8 0,.int .u8 0,.int .u16 0,.int .u16 0,.int .i64 0,.int .u8 0,.bool false]
theorem pkZ_cells:pkCells pkZ=pkZC:=rfl
theorem pk_post {w w':World}{l:List Int}{tmps cs:Array Value}{err:Int}(b:Nat)(hp:tmps.getD 2 undef=.pointer (some ⟨b,0,none⟩))(h3:tmps.getD 3 undef=.int .i64 err)(hc:partOf w' b 0 40=cs)(hs:cs.size=40)(hv:pkR l=.tuple #[.agg cs,.int .i64 err])(hb:Below w.heap.size w w'):
 bodyPost Tryz.prog Tryz.f11 (RetAt w (pkR l)) .ret { tmps:=tmps,defers:=[] } w':=
 bodyPost_ret (v:=.tuple #[.agg cs,.int .i64 err]) (results_part2 rfl _ _ b 40 _ _ Tryz.underlying32 rfl info_pkt hp h3 cs hc hs) rfl (.mk hv.symm hb)
theorem pkR_err {l:List Int}{err:Int}(h:pkErr l=err)(h0:err≠0):pkR l=.tuple #[.agg pkZC,.int .i64 err]:=by
 unfold pkR pkOf;rw[h,if_pos h0,pkZ_cells]
def VerSt (y:World)(r:Nat)(fl:Option Nat)(w:World):Prop:=Below y.heap.size y w∧y.heap.size≤r∧w.heap[r]? =some (.map verRows 2)∧∀b,fl=some b→y.heap.size≤b∧w.heap[b]? =some (.cells #[.nilFunc] 79 (0,0))
theorem part_first {w:World}{b:Nat}{a c:Array Value}{t:TypeId}(h:w.heap[b]? =some (.cells (a++c) t (0,0)))(hs:a.size=40):partOf w b 0 40=a:=by
 rw[partOf_row _ _ _ _ _ _ _ h,show(0+40:Nat)=a.size by rw[hs],Array.extract_append]
 simp
theorem body_four {l:List Int}(h:IsBytes l):IsBytes (outFour l).body:=isBytes_take (isBytes_drop h _) _
theorem len_four (l:List Int):(outFour l).body.length≤l.length:=by
 show(ipBody l).length≤_;unfold ipBody;rw[List.length_take,List.length_drop];omega
end
end Go.Proofs.YtkgjbipfhhjlpaaGreatDoor
