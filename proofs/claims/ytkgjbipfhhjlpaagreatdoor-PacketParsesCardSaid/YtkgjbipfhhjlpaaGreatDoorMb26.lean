import Derived.Test.YtkgjbipfhhjlpaaGreatDoorMb25
set_option linter.unusedVariables false
set_option linter.unusedSimpArgs false
set_option maxRecDepth 100000
set_option maxHeartbeats 32000000
namespace Go.Proofs.YtkgjbipfhhjlpaaGreatDoor
section
open Go.RowKit Bits
theorem Jh1 {p:Int}{l:List Int}(hl:Jl l):(0≤(JT p l).type∧(JT p l).type<256)∧(0≤(JT p l).code∧(JT p l).code<256):=by
 have h0:=Jy hl 0
 have h1:=Jy hl 1
 unfold JT Jlf JnS
 split
 ·split
  ·exact⟨⟨Int.le_refl 0,(show(0:Int)<256 by decide)⟩,Int.le_refl 0,(show(0:Int)<256 by decide)⟩
  ·split
   ·exact⟨⟨Int.le_refl 0,(show(0:Int)<256 by decide)⟩,Int.le_refl 0,(show(0:Int)<256 by decide)⟩
   ·exact⟨h0,h1⟩
 ·exact⟨⟨Int.le_refl 0,(show(0:Int)<256 by decide)⟩,Int.le_refl 0,(show(0:Int)<256 by decide)⟩
def OB (z:World)(b:Nat)(cs:Array Value)(t:TypeId)(w:World):Prop:=w.heap[b]? =some (.cells cs t (0,0))∧Below b z w∧∀i,i≠b→i<z.heap.size→w.heap[i]? =z.heap[i]?
theorem OB.set {z w:World}{b:Nat}{cs:Array Value}{t:TypeId}(h:OB z b cs t w)(k:Nat)(v:Value):OB z b (cs.setIfInBounds k v) t (w.setCell ⟨b,k,none⟩ v):=
 ⟨heap_setCell_same _ b k cs t v h.1,h.2.1.setCell (Jpf _) _,fun i hi hl=>(Below.heap_setCell _ _ _ _ hi).trans (h.2.2 i hi hl)⟩
theorem OB.later {z w w':World}{b:Nat}{cs:Array Value}{t:TypeId}(h:OB z b cs t w)(hb:Below w.heap.size w w'):OB z b cs t w':=by
 have hl:b<w.heap.size:=(Jpb h.1).1
 exact⟨(hb.block b hl).trans h.1,h.2.1.trans (hb.mono (Nat.le_of_lt hl)),fun i hi hz=>(hb.block i (Jpe hz h.2.1.size)).trans (h.2.2 i hi hz)⟩
theorem Jl2 (x y:Int)(h0:0≤x)(h1:x<256)(h2:0≤y)(h3:y<256):bits BinOp.or IntKind.u16 (x*256) y=x*256+y:=by
 obtain⟨a,rfl⟩:=Int.eq_ofNat_of_zero_le h0
 obtain⟨b,rfl⟩:=Int.eq_ofNat_of_zero_le h2
 rw[show((a:Int)*256)=((a*256:Nat):Int) by omega,u16_or_nat (a*256) b (by omega) (by omega),JkZ b a 8 256 (by decide) (by omega)]
 omega
theorem JkD (b:Nat)(s6 d6:Bool)(S D:Nat→Int)(p sp dp ln fl:Int)(fr mo:Bool)(oa:Option Addr)(n cap:Nat)(l:List Int)(w:World)(hp:p=6∨p=17∨p=1∨p=58)(hr:Ji w oa n cap l)(hn:n≤100000)
 (hx:w.heap[b]? =some (.cells (Jps s6 d6 p (.int .u16 sp) (.int .u16 dp) (.int .i64 ln) fl fr (.slice oa n cap) mo S D) 85 (0,0))):
 Calls Tryz.prog 38 #[.pointer (some ⟨b,0,none⟩)] w (JbK w b (Jps s6 d6 p (.int .u16 (Js p l).src) (.int .u16 (Js p l).dst) (.int .i64 ln) (.int .u8 (Js p l).flags) fr (.slice oa n cap) mo S D) (Zh p l)):=by
 have HX:=Jpa hx
 have HT:=Jpa (fun w' (h:Below w.heap.size w w')=>Jkq p hp oa n cap l w' (hr.below h) hn)
 have hbl:b<w.heap.size:=(Jpb hx).1
 have hc34:w.cell? ⟨b,34,none⟩=some (.int .u8 p):=cell_of_row _ _ 34 _ _ (0,0) hx
 have hc40:w.cell? ⟨b,40,none⟩=some (.slice oa n cap):=cell_of_row _ _ 40 _ _ (0,0) hx
 have HI:Hid (∀w',Calls Tryz.prog 36 #[p] w' (Jh w' (.bool (JS p)))):=Jpa (fun w'=>QZ p w')
 have HBD:=Jpa (Jh1 (p:=p) hr.byte)
 have HU:Hid (Js p l=⟨Zh p l,(JT p l).src,if JS p then (JT p l).type*256+(JT p l).code else (JT p l).dst,(JT p l).flags⟩):=Jpa rfl
 rw[HU.out]
 generalize hdst:(if JS p then (JT p l).type*256+(JT p l).code else (JT p l).dst)=dst
 have HDS:=Jpa hdst
 clear hx hr hp HU hdst
 generalize JS p=bi at*
 generalize Zh p l=er at*
 unfold Jc8 at HT
 generalize JT p l=t at*
 obtain⟨q0,q1,q2,q3,q4,q5,q6,q7,q8,q9,q10,q11⟩:=t
 simp only at HT HBD HDS⊢
 generalize q8.length=nO at*
 generalize q11.length=nD at*
 go_enter Tryz.func38,Tryz.ntmps38
 go_wp2_with fail
 refine JQ [.h,.h,.h,.h,.h,.h,.h,.h,.h,.h] [] (fun _ _=>True) [] [(.w,10),(.q,11),(.q,12),(.q,13)] [(.w,15),(.q,16)] 14 (.cells Qx 149) (by kernel_rfl) (by kernel_rfl) rfl rfl ⟨fun _=>rfl,fun _ _=>by kernel_rfl⟩ (by kernel_rfl) (by kernel_rfl) ?_
 apply Exists.intro
 refine⟨fun wx hbx=>?_,by simp,?_⟩
 ·have hcx:wx.cell? ⟨b,34,none⟩=some (.int .u8 p):=(Je hbx hbl _ rfl).trans hc34
  have hcx40:wx.cell? ⟨b,40,none⟩=some (.slice oa n cap):=(Je hbx hbl _ rfl).trans hc40
  have hbx2:b<wx.heap.size:=Jpe hbl hbx.size
  simp only[JB]
  repeat go_big_quiet_step (fail)
  exact wpQuiet_nil rfl
 simp only[Qa,List.getElem?_cons_succ,List.getElem?_cons_zero]
 refine⟨fun v fl w2=>(∃oO cO oD cD,v=.tuple #[.agg #[.int .u8 q0,.int .u16 q1,.int .u16 q2,.int .u32 q3,.int .u32 q4,.int .u8 q5,.int .u16 q6,.int .u16 q7,.slice oO nO cO,.int .u8 q9,.int .u8 q10,.slice oD nD cD],.int .i64 er])∧Below w.heap.size w w2∧∀b',fl=some b'→w.heap.size≤b'∧w2.heap[b']? =some (.cells Qx 149 (0,0)),?_,fun _ _=>Xs,?_,?_⟩
 ·rintro fl-
  refine⟨rfl,fun w' hw'=>.inr ⟨77,#[p,.slice oa n cap],by kernel_rfl,?_⟩⟩
  obtain⟨⟨x,rfl⟩,hfb⟩:=hw'
  refine(HT.out x.world x.below).mono ?_
  rintro e w2 ⟨⟨oO,cO,oD,cD,rfl⟩,hb2⟩
  refine⟨_,rfl,⟨oO,cO,oD,cD,rfl⟩,Jo3 x.below hb2,fun b' hb'=>⟨(hfb b' hb').1,?_⟩⟩
  have:=(hfb b' hb').2
  exact(hb2.block b' (Jpb this).1).trans this
 ·rintro-v w2 ⟨h1,h3,-⟩
  exact⟨h1,Below.all h3 _,fun b' hb'=>by cases hb';exact⟨h3.size,heap_alloc_new _ _⟩⟩
 rintro v ⟨fl0,w20,⟨oO,cO,oD,cD,rfl⟩,-⟩
 refine⟨.tuple #[.agg #[.int .u8 q0,.int .u16 q1,.int .u16 q2,.int .u32 q3,.int .u32 q4,.int .u8 q5,.int .u16 q6,.int .u16 q7,.slice oO nO cO,.int .u8 q9,.int .u8 q10,.slice oD nD cD],.int .i64 er],⟨rfl,fun _=>by kernel_rfl⟩,?_⟩
 refine⟨.agg (JpA q0 (.int .u16 q1) (.int .u16 q2) (.int .u32 q3) (.int .u32 q4) q5 (.int .u16 q6) (.int .u16 q7) (.slice oO nO cO) q9 q10 (.slice oD nD cD)),⟨rfl,fun _=>by kernel_rfl⟩,?_⟩
 refine⟨.int .i64 er,⟨rfl,fun _=>by kernel_rfl⟩,?_⟩
 intro bs
 refine⟨fun v fl w2=>v=undef∧Below w.heap.size w w2∧w.heap.size≤bs∧w2.heap[bs]? =some (.cells (JpA q0 (.int .u16 q1) (.int .u16 q2) (.int .u32 q3) (.int .u32 q4) q5 (.int .u16 q6) (.int .u16 q7) (.slice oO nO cO) q9 q10 (.slice oD nD cD)) 149 (0,0)),?_,fun _ _=>Xs,(fun h=>by cases h),?_⟩
 ·rintro fl rfl
  refine Jv.skip rfl ?_
  rintro w' ⟨⟨oO',cO',oD',cD',he⟩,hb1,hb2⟩
  obtain⟨hbge,hbx⟩:=hb2 bs rfl
  exact⟨_,Xe _ w' bs (JpA q0 (.int .u16 q1) (.int .u16 q2) (.int .u32 q3) (.int .u32 q4) q5 (.int .u16 q6) (.int .u16 q7) (.slice oO nO cO) q9 q10 (.slice oD nD cD)) (by kernel_rfl) (by kernel_rfl) (by rw[Jc _ _ _ _ _ hbx];rfl) rfl rfl,hb1.trans (Jb _ hbge),hbge,Jd hbx⟩
 rintro v ⟨fl2,w22,rfl,-⟩
 refine⟨.int .i64 er,⟨rfl,fun _=>by kernel_rfl⟩,?_⟩
 rintro zz ⟨-,hzz,hbge,hsz⟩
 have HZ:=Jpa hzz
 have HSZ:=Jpa hsz
 have HXZ:=Jpa ((hzz.block b hbl).trans HX.out)
 have hbz:b<zz.heap.size:=Jpe hbl hzz.size
 have hsz':bs<zz.heap.size:=(Jpb hsz).1
 have hne:bs≠b:=by omega
 have s1:=cell_of_row _ _ 1 _ _ (0,0) hsz
 have s2:=cell_of_row _ _ 2 _ _ (0,0) hsz
 have s5:=cell_of_row _ _ 5 _ _ (0,0) hsz
 clear hzz hsz hc34 hc40 HX HT fl0 fl2 w20 w22
 unfold Q6
 simp only[Act.put,List.setIfInBounds_toArray,List.set_cons_succ,List.set_cons_zero]
 go_wp2_with fail
 refine JV [.h,.h,.h,.h,.h,.h,.h,.h,.h,.h,.h,.h,.h] [(1,1,0),(5,1,0),(6,1,0),(2,2,0),(7,2,0),(8,2,0)] (fun _ w'=>w'.cell? ⟨bs,2,none⟩=some (.int .u16 q2)∧w'.cell? ⟨bs,5,none⟩=some (.int .u8 q5)) [2] [(.w,13),(.q,14),(.q,15),(.q,16),(.q,17),(.w,18),(.q,19),(.q,20),(.q,21),(.w,22)] (by kernel_rfl) (by kernel_rfl) (by kernel_rfl) (by kernel_rfl) ?_
 apply Exists.intro
 refine⟨fun wx hbx=>?_,?_,?_⟩
 ·have c1:wx.cell? ⟨bs,1,none⟩=some (.int .u16 q1):=(Je hbx hsz' _ rfl).trans s1
  have c2:wx.cell? ⟨bs,2,none⟩=some (.int .u16 q2):=(Je hbx hsz' _ rfl).trans s2
  have c5:wx.cell? ⟨bs,5,none⟩=some (.int .u8 q5):=(Je hbx hsz' _ rfl).trans s5
  have hbx2:bs<wx.heap.size:=Jpe hsz' hbx.size
  simp only[JB]
  repeat go_big_quiet_step (fail)
  exact wpQuiet_nil rfl
 ·intro q hq oi hoi
  simp only[List.mem_cons,List.not_mem_nil,or_false] at hq
  rcases hq with rfl|rfl|rfl|rfl|rfl|rfl
  ·cases hoi;exact⟨_,rfl,rfl,fun w2 hw=>by kernel_rfl⟩
  ·cases hoi;exact⟨_,rfl,rfl,fun w2 hw=>by kernel_rfl⟩
  ·cases hoi;exact⟨_,rfl,rfl,fun w2 hw=>by simp[execOp,go_sem,hw.1]⟩
  ·cases hoi;exact⟨_,rfl,rfl,fun w2 hw=>by kernel_rfl⟩
  ·cases hoi;exact⟨_,rfl,rfl,fun w2 hw=>by kernel_rfl⟩
  ·cases hoi;exact⟨_,rfl,rfl,fun w2 hw=>by simp[execOp,go_sem,hw.2]⟩
 simp only[Qa,List.getElem?_cons_succ,List.getElem?_cons_zero]
 refine⟨fun v fq w2=>v=undef∧OB zz b (Jps s6 d6 p (.int .u16 q1) (.int .u16 dp) (.int .i64 ln) fl fr (.slice oa n cap) mo S D) 85 w2,?_,?_,(fun h=>by cases h),?_⟩
 ·rintro fl rfl
  refine Jv.skip rfl ?_
  rintro w' ⟨⟨x,rfl⟩,-⟩
  have hob:OB zz b (Jps s6 d6 p (.int .u16 sp) (.int .u16 dp) (.int .i64 ln) fl fr (.slice oa n cap) mo S D) 85 x.world:=OB.later ⟨HXZ.out,Jpd _ _,fun _ _ _=>rfl⟩ x.below
  have g1:=cell_of_row _ _ 35 _ _ (0,0) hob.1
  have g2:=frozen_of_row _ _ 35 _ _ hob.1
  refine⟨_,?_,hob.set 35 (.int .u16 q1)⟩
  simp[execOp,go_sem,g1,g2]
 ·rintro v fq g-w2 ⟨-,hob⟩
  have:=(hob.2.2 bs hne hsz')
  exact⟨(World.cell?_of_block (a:=⟨bs,2,none⟩) this).trans s2,(World.cell?_of_block (a:=⟨bs,5,none⟩) this).trans s5⟩
 rintro v ⟨gl0,w30,rfl,-⟩
 refine⟨.pointer (some ⟨b,0,none⟩),⟨rfl,fun _=>by kernel_rfl⟩,?_⟩
 refine⟨.pointer (some ⟨b,0,none⟩),⟨rfl,fun _=>by kernel_rfl⟩,?_⟩
 refine⟨.pointer (some ⟨b,0,none⟩),⟨rfl,fun _=>by kernel_rfl⟩,?_⟩
 refine⟨.pointer (some ⟨b,36,none⟩),⟨rfl,fun _=>by kernel_rfl⟩,?_⟩
 refine⟨fun v fq w2=>v=undef∧OB zz b (Jps s6 d6 p (.int .u16 q1) (.int .u16 q2) (.int .i64 ln) fl fr (.slice oa n cap) mo S D) 85 w2,?_,?_,(fun h=>by cases h),?_⟩
 ·rintro fl rfl
  refine Jv.skip rfl ?_
  rintro w' ⟨-,hob⟩
  have g1:=cell_of_row _ _ 36 _ _ (0,0) hob.1
  have g2:=frozen_of_row _ _ 36 _ _ hob.1
  refine⟨_,?_,hob.set 36 (.int .u16 q2)⟩
  simp[execOp,go_sem,g1,g2]
 ·rintro v fq g-w2 ⟨-,hob⟩
  have:=(hob.2.2 bs hne hsz')
  exact⟨(World.cell?_of_block (a:=⟨bs,2,none⟩) this).trans s2,(World.cell?_of_block (a:=⟨bs,5,none⟩) this).trans s5⟩
 rintro v ⟨gl1,w31,rfl,-⟩
 refine⟨.pointer (some ⟨b,0,none⟩),⟨rfl,fun _=>by kernel_rfl⟩,?_⟩
 refine⟨.pointer (some ⟨b,0,none⟩),⟨rfl,fun _=>by kernel_rfl⟩,?_⟩
 refine⟨.pointer (some ⟨b,38,none⟩),⟨rfl,fun _=>by kernel_rfl⟩,?_⟩
 refine⟨fun v fq w2=>v=undef∧OB zz b (Jps s6 d6 p (.int .u16 q1) (.int .u16 q2) (.int .i64 ln) q5 fr (.slice oa n cap) mo S D) 85 w2,?_,fun _ _=>JC rfl,(fun h=>by cases h),?_⟩
 ·rintro fl rfl
  refine Jv.skip rfl ?_
  rintro w' ⟨-,hob⟩
  have g1:=cell_of_row _ _ 38 _ _ (0,0) hob.1
  have g2:=frozen_of_row _ _ 38 _ _ hob.1
  refine⟨_,?_,hob.set 38 (.int .u8 q5)⟩
  simp[execOp,go_sem,g1,g2]
 rintro v ⟨gl2,w32,rfl,-⟩
 rintro z4 ⟨-,hob⟩
 have HOB:=Jpa hob
 have HS4:=Jpa ((hob.2.2 bs hne hsz').trans HSZ.out)
 have hc34:z4.cell? ⟨b,34,none⟩=some (.int .u8 p):=cell_of_row _ _ 34 _ _ (0,0) hob.1
 clear hob s1 s2 s5 gl0 gl1 gl2 w30 w31 w32
 go_wp2_with fail
 refine Jpc (HI.out z4) ?_
 rintro e z5 ⟨rfl,hb5⟩
 have HOB5:=Jpa (HOB.out.later hb5)
 have HS5:=Jpa ((hb5.block bs (Jpb HS4.out).1).trans HS4.out)
 clear hc34 hb5 HOB HS4
 have c9:=cell_of_row _ _ 9 _ _ (0,0) HS5.out
 have c10:=cell_of_row _ _ 10 _ _ (0,0) HS5.out
 have c36:=cell_of_row _ _ 36 _ _ (0,0) HOB5.out.1
 have f36:=frozen_of_row _ _ 36 _ _ HOB5.out.1
 have hfin:∀(cs:Array Value) (w2:World),OB zz b cs 85 w2→JbK w b cs er (.returned (.int .i64 er)) w2:=fun cs w2 h=>⟨rfl,h.1,(HZ.out.mono (Nat.le_of_lt hbl)).trans h.2.1,fun i hi hl=>(h.2.2 i hi (Jpe hl HZ.out.size)).trans (HZ.out.block i hl)⟩
 have HFIN:=Jpa hfin
 clear hfin
 obtain⟨⟨h90,h91⟩,h100,h101⟩:=HBD.out
 have HOR:bits .or .u16 (q9*256) q10=q9*256+q10:=Jl2 q9 q10 h90 h91 h100 h101
 cases bi
 ·go_wp2_with fail
  go_ret
  obtain rfl:q2=dst:=HDS.out
  exact HFIN.out _ _ HOB5.out
 ·go_wp2_with fail
  go_ret
  obtain rfl:q9*256+q10=dst:=HDS.out
  exact HFIN.out _ _ (HOB5.out.set 36 (.int .u16 (q9*256+q10)))
def JcQ:Array Value:=(JpJ false false (.int .i64 0) false false)
def Joz (o:JeH)(oa:Option Addr)(cap:Nat):Array Value:=#[.bool o.six,.int .u8 (o.src 0),.int .u8 (o.src 1),.int .u8 (o.src 2),.int .u8 (o.src 3),.int .u8 (o.src 4),.int .u8 (o.src 5),.int .u8 (o.src 6),.int .u8 (o.src 7),.int .u8 (o.src 8),.int .u8 (o.src 9),.int .u8 (o.src 10),.int .u8 (o.src 11),.int .u8 (o.src 12),.int .u8 (o.src 13),.int .u8 (o.src 14),.int .u8 (o.src 15),.bool o.six,.int .u8 (o.dst 0),.int .u8 (o.dst 1),.int .u8 (o.dst 2),.int .u8 (o.dst 3),.int .u8 (o.dst 4),.int .u8 (o.dst 5),.int .u8 (o.dst 6),.int .u8 (o.dst 7),.int .u8 (o.dst 8),.int .u8 (o.dst 9),.int .u8 (o.dst 10),.int .u8 (o.dst 11),.int .u8 (o.dst 12),.int .u8 (o.dst 13),.int .u8 (o.dst 14),.int .u8 (o.dst 15),.int .u8 o.proto,.int .u16 0,.int .u16 0,.int .i64 o.len,.int .u8 0,.bool o.frag,.slice oa o.body.length cap,.bool o.more]
def Jco (w:World)(o:JeH)(err:Int):Ending→World→Prop:=fun e w'=>
 (err≠0∧e=.returned (.tuple #[.agg JcQ,.int .i64 err])∧Below w.heap.size w w')∨
 (err=0∧∃oa cap,e=.returned (.tuple #[.agg (Joz o oa cap),.int .i64 0])∧JF w' w.heap.size 1 oa o.body.length cap (o.body.map (.int .u8))∧Below w.heap.size w w')
theorem JjI {R:Ending→World→Prop}{w':World}{tmps cs:Array Value}{u:Value}(b:Nat)(hp:tmps.getD 2 undef=.pointer (some ⟨b,0,none⟩))(h3:tmps.getD 3 undef=u)(hc:Jf w' b 0 42=cs)(hs:cs.size=42)(hR:R (.returned (.tuple #[.agg cs,u])) w'):
 bodyPost Tryz.prog Tryz.f79 R .ret { tmps:=tmps,defers:=[] } w':=
 bodyPost_ret (v:=.tuple #[.agg cs,u]) (Qi rfl _ _ b 42 _ _ Tryz.underlying85 rfl Jjp hp h3 cs hc hs) rfl hR
theorem Xu (l:List Int)(k n j:Nat)(hj:j<n):((l.drop k).take n).getD j 0=l.getD (k+j) 0:=by
 simp[List.getD_eq_getElem?_getD,List.getElem?_take,List.getElem?_drop,hj]
theorem Jfs {l:List Int}(h:Jm l=0):Qe l=0:=by
 unfold Jm at h
 by_cases h1:Qe l=0
 ·exact h1
 ·rw[if_pos h1] at h;exact h
theorem Jl3 (oa:Option Addr)(n cap:Nat)(l:List Int)(w:World)(hr:Ji w oa n cap l)(hn:n≤100000):
 Calls Tryz.prog 79 #[.slice oa n cap] w (Jco w (J8 l) (Jm l)):=by
 have hlen:=hr.len
 have hx:=heap_alloc_new w (.cells JcQ 85)
 have hB:Below w.heap.size w (w.alloc (.cells JcQ 85)):=Below.all (Jpd _ _) _
 have HR:=Jpa (hr.alloc (.cells JcQ 85))
 have HBY:=Jpa hr.byte
 unfold JcQ at hx hB HR
 clear hr
 go_enter Tryz.func79,Tryz.ntmps79
 go_wp2_with fail
 obtain⟨b0,hb0⟩:∃b,b=w.heap.size:=⟨_,rfl⟩
 rw[←hb0] at hx⊢
 have HB0:=Jpa hb0
 clear hb0
 generalize w.alloc (.cells (JpJ false false (.int .i64 0) false false) 85)=wa at*
 refine Jpc (Jj3 _ _ _ _ _ HR.out hn) ?_
 rintro e w1 ⟨ob,cb,rfl,ho,hb⟩
 have HO:=Jpa (ho.mono hB.size)
 have HNB:Hid (∀a,ob=some a→a.block≠b0):=Jpa (fun a ha=>by have:=(ho.lt ha).1;have h2:=(Jpb hx).1;omega)
 have HB1:=Jpa (Jo3 hB hb)
 have HX1:=Jpa ((hb.block b0 (Jpb hx).1).trans hx)
 have HR1:=Jpa (HR.out.below hb)
 have hb1:b0<w1.heap.size:=(Jpb HX1.out).1
 have hrf:Jg w1 b0 42=true:=by rw[Jc _ _ _ _ _ HX1.out];rfl
 clear hb ho hx hB HR
 by_cases h0:Jm l=0
 rotate_left
 ·have HE:=Jpa h0
  have hne:(Jm l != 0)=true:=by simpa using h0
  clear h0
  generalize Jm l=er at*
  generalize (Qf l).length=nb at*
  go_wp2_with fail
  exact JjI (cs:=JcQ) (u:=.int .i64 er) b0 rfl rfl (Ja (Jd HX1.out) rfl) rfl (.inl ⟨HE.out,rfl,HB1.out.trans (Jb _ (Nat.le_of_eq HB0.out.symm))⟩)
 have HL:Hid (Qf l=ZF l):=Jpa (by unfold Qf;rw[if_pos h0])
 have HE:Hid (Qe l=0):=Jpa (Jfs h0)
 have HOUT:Hid (J8 l=⟨false,JM ((l.drop 12).take 4),JM ((l.drop 16).take 4),l.getD 9 0,w2 l 2,decide (0<w2 l 6%8192),decide (w2 l 6/8192%2=1),ZF l⟩):=Jpa rfl
 have hl20:20≤l.length:=by have:=Jdq HE.out;omega
 have HS:Hid (((l.drop 12).take 4).length=4∧Jl ((l.drop 12).take 4)):=Jpa ⟨by rw[List.length_take,List.length_drop];omega,JU (JD HBY.out _) _⟩
 have HD:Hid (((l.drop 16).take 4).length=4∧Jl ((l.drop 16).take 4)):=Jpa ⟨by rw[List.length_take,List.length_drop];omega,JU (JD HBY.out _) _⟩
 have HPW:=QB HBY.out 2
 rw[HL.out] at HO⊢
 rw[h0]
 have H00:=Jpa h0
 clear h0 HL hl20
 generalize ZF l=L at*
 go_wp2_with fail
 refine Jpc (Jd1 _ _ _ _ _ HR1.out hn) ?_
 rintro e w2' (⟨hne,-,-⟩|⟨-,oh,ch,rfl,hoh,hb2⟩)
 ·exact absurd HE.out hne
 have HO2:=Jpa (JF.below HO.out hb2)
 have HB2:=Jpa (Jo3 HB1.out hb2)
 have HX2:=Jpa ((hb2.block b0 hb1).trans HX1.out)
 unfold ipA Jgm
 clear hoh hb2 HO HB1 HX1 HR1 hrf hb1
 have HS12:Hid (l.getD 12 0=((l.drop 12).take 4).getD 0 0∧l.getD 13 0=((l.drop 12).take 4).getD 1 0∧l.getD 14 0=((l.drop 12).take 4).getD 2 0∧l.getD 15 0=((l.drop 12).take 4).getD 3 0):=Jpa ⟨(Xu l 12 4 0 (by decide)).symm,(Xu l 12 4 1 (by decide)).symm,(Xu l 12 4 2 (by decide)).symm,(Xu l 12 4 3 (by decide)).symm⟩
 have HS16:Hid (l.getD 16 0=((l.drop 16).take 4).getD 0 0∧l.getD 17 0=((l.drop 16).take 4).getD 1 0∧l.getD 18 0=((l.drop 16).take 4).getD 2 0∧l.getD 19 0=((l.drop 16).take 4).getD 3 0):=Jpa ⟨(Xu l 16 4 0 (by decide)).symm,(Xu l 16 4 1 (by decide)).symm,(Xu l 16 4 2 (by decide)).symm,(Xu l 16 4 3 (by decide)).symm⟩
 rw[HS12.out.1,HS12.out.2.1,HS12.out.2.2.1,HS12.out.2.2.2,HS16.out.1,HS16.out.2.1,HS16.out.2.2.1,HS16.out.2.2.2]
 clear HS12 HS16
 generalize (l.drop 12).take 4=SL at*
 generalize (l.drop 16).take 4=DL at*
 have HSL:=Jpa (JmQ SL HS.out.1)
 have HDL:=Jpa (JmQ DL HD.out.1)
 generalize SL.getD 0 0=s0 at*
 generalize SL.getD 1 0=s1 at*
 generalize SL.getD 2 0=s2 at*
 generalize SL.getD 3 0=s3 at*
 generalize DL.getD 0 0=d0 at*
 generalize DL.getD 1 0=d1 at*
 generalize DL.getD 2 0=d2 at*
 generalize DL.getD 3 0=d3 at*
 generalize w2 l 2=tot at*
 generalize w2 l 6=fw at*
 generalize l.getD 9 0=pr at*
 generalize l.getD 1 0=x1 at*
 generalize w2 l 4=x4 at*
 generalize l.getD 8 0=x8 at*
 generalize decide (fw/16384%2=1)=dfb at*
 generalize decide (fw/8192%2=1)=mfb at*
 generalize fw%8192=fg at*
 generalize ipHl l=hl at*
 go_wp2_with fail
 obtain⟨bh,hbh⟩:∃b,b=w2'.heap.size:=⟨_,rfl⟩
 have hx3:=heap_alloc_new w2' (.cells (Jpr x1 (.int .u16 tot) (.int .u16 x4) dfb mfb (.int .u16 fg) x8 pr s0 s1 s2 s3 d0 d1 d2 d3 (.slice oh (hl-20) ch)) 113)
 have hb3:Below w2'.heap.size w2' (w2'.alloc (.cells (Jpr x1 (.int .u16 tot) (.int .u16 x4) dfb mfb (.int .u16 fg) x8 pr s0 s1 s2 s3 d0 d1 d2 d3 (.slice oh (hl-20) ch)) 113)):=Below.all (Jpd _ _) _
 rw[←hbh] at hx3⊢
 generalize w2'.alloc (.cells (Jpr x1 (.int .u16 tot) (.int .u16 x4) dfb mfb (.int .u16 fg) x8 pr s0 s1 s2 s3 d0 d1 d2 d3 (.slice oh (hl-20) ch)) 113)=w3 at*
 have HX3:=Jpa hx3
 have HB3:=Jpa (Jo3 HB2.out hb3)
 have HO3:=Jpa (JF.below HO2.out hb3)
 have HZ3:=Jpa ((hb3.block b0 (Jpb HX2.out).1).trans HX2.out)
 clear hx3 hb3 HB2 HO2 HX2 hbh
 refine Jpc (Jdl _ 4 4 SL w3 (XO HX3.out 8 4 SL HS.out.1 HS.out.2 (by decide) (fun j hj=>by rw[HSL.out];rcases j with _|_|_|_|j;rfl;rfl;rfl;rfl;omega)) (by decide)) ?_
 rintro e w4 ⟨rfl,hb4⟩
 rw[JdH HS.out.1]
 unfold adV
 generalize JM SL=S at*
 have HX4:=Jpa ((hb4.block bh (Jpb HX3.out).1).trans HX3.out)
 have HB4:=Jpa (Jo3 HB3.out hb4)
 have HO4:=Jpa (JF.below HO3.out hb4)
 have HZ4:=Jpa ((hb4.block b0 (Jpb HZ3.out).1).trans HZ3.out)
 clear hb4 HX3 HB3 HO3 HZ3
 go_wp2_with fail
 obtain⟨bs,hbs⟩:∃b,b=w4.heap.size:=⟨_,rfl⟩
 have hx5:=heap_alloc_new w4 (.cells (Jpm false S) 27)
 have hb5:Below w4.heap.size w4 (w4.alloc (.cells (Jpm false S) 27)):=Below.all (Jpd _ _) _
 rw[←hbs] at hx5⊢
 generalize w4.alloc (.cells (Jpm false S) 27)=w5 at*
 have HX5:=Jpa ((hb5.block bh (Jpb HX4.out).1).trans HX4.out)
 have HB5:=Jpa (Jo3 HB4.out hb5)
 have HO5:=Jpa (JF.below HO4.out hb5)
 have HZ5:=Jpa ((hb5.block b0 (Jpb HZ4.out).1).trans HZ4.out)
 have HS5:=Jpa hx5
 clear hb5 hx5 HX4 HB4 HO4 HZ4 hbs
 refine Jpc (Jdl _ 4 4 DL w5 (XO HX5.out 12 4 DL HD.out.1 HD.out.2 (by decide) (fun j hj=>by rw[HDL.out];rcases j with _|_|_|_|j;rfl;rfl;rfl;rfl;omega)) (by decide)) ?_
 rintro e w6 ⟨rfl,hb6⟩
 rw[JdH HD.out.1]
 unfold adV
 generalize JM DL=D at*
 have HX6:=Jpa ((hb6.block bh (Jpb HX5.out).1).trans HX5.out)
 have HB6:=Jpa (Jo3 HB5.out hb6)
 have HO6:=Jpa (JF.below HO5.out hb6)
 have HZ6:=Jpa ((hb6.block b0 (Jpb HZ5.out).1).trans HZ5.out)
 have HS6:=Jpa ((hb6.block bs (Jpb HS5.out).1).trans HS5.out)
 clear hb6 HX5 HB5 HO5 HZ5 HS5
 have lz:b0<w6.heap.size:=(Jpb HZ6.out).1
 have lh:bh<w6.heap.size:=(Jpb HX6.out).1
 have ls:bs<w6.heap.size:=(Jpb HS6.out).1
 have hrf:Jg w6 b0 42=true:=by rw[Jc _ _ _ _ _ HZ6.out];rfl
 have hps:Jf w6 bs 0 17=(Jpm false S:Array Value):=Ja HS6.out rfl
 have c1:=cell_of_row _ _ 1 _ _ (0,0) HX6.out
 have c4:=cell_of_row _ _ 4 _ _ (0,0) HX6.out
 have c5:=cell_of_row _ _ 5 _ _ (0,0) HX6.out
 have c7:=cell_of_row _ _ 7 _ _ (0,0) HX6.out
 have ht0:=HPW.1
 have ht1:=HPW.2
 have lz1:b0<w6.heap.size+1:=Nat.lt_succ_of_lt lz
 go_wp2_with fail
 refine JjI (cs:=(JpH false false pr (.int .i64 tot) (.bool (decide (0<fg))) (.slice ob L.length cb) mfb S D)) (u:=.int .i64 0) b0 rfl rfl ?_ rfl ?_
 ·exact Ja ((heap_alloc_old _ _ (by simpa using lz1)).trans ((heap_alloc_old _ _ (by simpa using lz)).trans (Jd HZ6.out))) rfl
 ·show Jco w (J8 l) (Jm l) _ _
  rw[HOUT.out,H00.out]
  exact .inr ⟨rfl,ob,cb,rfl,JF.below (JF.below (JF.keep HO6.out (by simp) (fun a ha=>setRow_other _ _ _ _ (by have:=(HNB.out a ha);omega))) (Below.all (Jpd _ _) _)) (Below.all (Jpd _ _) _),Below.all (Below.all (HB6.out.trans (Jb _ (Nat.le_of_eq HB0.out.symm))) _) _⟩
theorem Jl4 {R:Ending→World→Prop}{w':World}{tmps cs:Array Value}{u:Value}(b:Nat)(hp:tmps.getD 2 undef=.pointer (some ⟨b,0,none⟩))(h3:tmps.getD 3 undef=u)(hc:Jf w' b 0 42=cs)(hs:cs.size=42)(hR:R (.returned (.tuple #[.agg cs,u])) w'):
 bodyPost Tryz.prog Tryz.f80 R .ret { tmps:=tmps,defers:=[] } w':=
 bodyPost_ret (v:=.tuple #[.agg cs,u]) (Qi rfl _ _ b 42 _ _ Tryz.underlying85 rfl Jjp hp h3 cs hc hs) rfl hR
theorem Jm4 (oa:Option Addr)(n cap:Nat)(l:List Int)(w:World)(hr:Ji w oa n cap l)(hn:n≤100000):
 Calls Tryz.prog 80 #[.slice oa n cap] w (Jco w (Qy l) (Ju l)):=by
 have hlen:=hr.len
 have hx:=heap_alloc_new w (.cells JcQ 85)
 have hB:Below w.heap.size w (w.alloc (.cells JcQ 85)):=Below.all (Jpd _ _) _
 have HR:=Jpa (hr.alloc (.cells JcQ 85))
 have HBY:=Jpa hr.byte
 unfold JcQ at hx hB HR
 clear hr
 go_enter Tryz.func80,Tryz.ntmps80
 go_wp2_with fail
 obtain⟨b0,hb0⟩:∃b,b=w.heap.size:=⟨_,rfl⟩
 rw[←hb0] at hx⊢
 have HB0:=Jpa hb0
 clear hb0
 generalize w.alloc (.cells (JpJ false false (.int .i64 0) false false) 85)=wa at*
 refine Jpc (Jkj _ _ _ _ _ HR.out hn) ?_
 rintro e w1 (⟨h0,rfl,hb⟩|⟨h0,oe,ce,es,ob,cb,rfl,hes,ho,hb,hck,hbh,hp0,hp1⟩)
 ·have HB1:=Jpa (Jo3 hB hb)
  have HX1:=Jpa ((hb.block b0 (Jpb hx).1).trans hx)
  have hb1:b0<w1.heap.size:=(Jpb HX1.out).1
  have hb1':b0<w1.heap.size+1:=by omega
  have hrf:Jg w1 b0 42=true:=by rw[Jc _ _ _ _ _ HX1.out];rfl
  have HE:=Jpa h0
  have hne:(Ju l != 0)=true:=by simpa using h0
  clear hb hx hB HR h0
  generalize Ju l=er at*
  unfold sxZ sxF
  go_wp2_with fail
  refine Jl4 (cs:=JcQ) (u:=.int .i64 er) b0 rfl rfl ?_ rfl (.inl ⟨HE.out,rfl,?_⟩)
  ·exact Ja ((heap_alloc_old _ _ (by simpa using hb1')).trans ((heap_alloc_old _ _ (by simpa using hb1)).trans (Jd HX1.out))) rfl
  ·exact Below.all (Below.all (HB1.out.trans (Jb _ (Nat.le_of_eq HB0.out.symm))) _) _
 have HES:=Jpa hes
 have HO:=Jpa (ho.mono hB.size)
 have HNB:Hid (∀a,ob=some a→a.block≠b0):=Jpa (fun a ha=>by have:=(ho.lt ha).1;have h2:=(Jpb hx).1;omega)
 have HB1:=Jpa (Jo3 hB hb)
 have HX1:=Jpa ((hb.block b0 (Jpb hx).1).trans hx)
 have HCK:=Jpa hck
 have HBH:=Jpa hbh
 have H00:=Jpa h0
 have HDL:Hid (∀x∈QQ l,x.2.length≤100000):=Jpa (fun x hx=>by
  have:=hck.right x hx
  unfold JX at this
  split at this<;>simp only[Bool.and_eq_true,decide_eq_true_eq] at this<;>omega)
 have HFR:Hid (∀w' oe es lo,J2 w' lo oe ce (QQ l) es→Calls Tryz.prog 141 #[.agg #[.slice oe (QQ l).length ce,.int .u8 (Q5 l)]] w' (Jba w' (QQ l))):=Jpa (fun w' oe es lo h=>Jm0 lo oe ce _ es _ w' h HCK.out HDL.out HBH.out)
 have HOUT:Hid (Qy l=⟨true,JM ((l.drop 8).take 16),JM ((l.drop 24).take 16),Q5 l,40+w2 l 4,decide (0<Xv (QQ l)),QU (QQ l),Xb l⟩):=Jpa rfl
 have hl40:40≤l.length:=by
  have h1:Xk l=0:=by
   unfold Ju at h0
   by_cases h:Xk l=0
   ·exact h
   ·rw[if_pos h] at h0;exact h0
  unfold Xk at h1
  by_cases h:l.length<40
  ·rw[if_pos h] at h1;cases h1
  ·omega
 have HS:Hid (((l.drop 8).take 16).length=16∧Jl ((l.drop 8).take 16)):=Jpa ⟨by rw[List.length_take,List.length_drop];omega,JU (JD HBY.out _) _⟩
 have HD:Hid (((l.drop 24).take 16).length=16∧Jl ((l.drop 24).take 16)):=Jpa ⟨by rw[List.length_take,List.length_drop];omega,JU (JD HBY.out _) _⟩
 have HSJ:Hid (∀j,j<16→((l.drop 8).take 16).getD j 0=atB l 8 j):=Jpa (fun j hj=>Xu l 8 16 j hj)
 have HDJ:Hid (∀j,j<16→((l.drop 24).take 16).getD j 0=atB l 24 j):=Jpa (fun j hj=>Xu l 24 16 j hj)
 have hpw:=QB HBY.out 4
 clear hck hbh hes ho hb hx hB HR h0 hl40 HDL
 unfold sxA sxF
 generalize (l.drop 8).take 16=SL at*
 generalize (l.drop 24).take 16=DL at*
 generalize atB l 8=SB at*
 generalize atB l 24=DB at*
 generalize w2 l 4=tot at*
 generalize w4 l 0/1048576%256=x0 at*
 generalize w4 l 0%1048576=x1 at*
 generalize l.getD 6 0=x6 at*
 generalize l.getD 7 0=x7 at*
 generalize Q5 l=pr at*
 obtain⟨xs,hxs⟩:∃xs,QQ l=xs:=⟨_,rfl⟩
 rw[hxs] at HES HFR HOUT HCK⊢
 clear hxs
 obtain⟨kk,hkk⟩:∃k,xs.length=k:=⟨_,rfl⟩
 have HKK:=Jpa hkk
 rw[hkk] at HFR⊢
 clear hkk
 generalize Xb l=L at*
 go_wp2_with fail
 obtain⟨bh,hbh⟩:∃b,b=w1.heap.size:=⟨_,rfl⟩
 have hxa:=heap_alloc_new w1 (.cells (Jpy x0 (.int .u32 x1) (.int .u16 tot) x6 x7 SB DB) 118)
 have hba:=Below.all (Jpd w1.heap.size w1) (.cells (Jpy x0 (.int .u32 x1) (.int .u16 tot) x6 x7 SB DB) 118)
 obtain⟨wb,hwb⟩:∃x,w1.alloc (.cells (Jpy x0 (.int .u32 x1) (.int .u16 tot) x6 x7 SB DB) 118)=x:=⟨_,rfl⟩
 have hsb:wb.heap.size=bh+1:=by rw[←hwb,hbh];simp
 rw[hwb] at hxa hba⊢
 have hxc:=heap_alloc_new wb (.cells #[.slice oe kk ce,pr] 96)
 have hbc:=Below.all (Jpd wb.heap.size wb) (.cells #[.slice oe kk ce,pr] 96)
 obtain⟨w3,hw3⟩:∃x,wb.alloc (.cells #[.slice oe kk ce,pr] 96)=x:=⟨_,rfl⟩
 rw[hw3,hsb] at hxc
 rw[hw3] at hbc⊢
 rw[←hbh] at hxa⊢
 have hb3:=Jo3 hba hbc
 have HZ3:=Jpa ((hb3.block b0 (Jpb HX1.out).1).trans HX1.out)
 have HX3:=Jpa ((hbc.block bh (by omega)).trans hxa)
 have HC3:=Jpa hxc
 have HB3:=Jpa (Jo3 HB1.out hb3)
 have HO3:=Jpa (JF.below HO.out hb3)
 have HES3:=Jpa (HES.out.below hb3)
 clear hxa hba hwb hxc hbc hw3 hb3 hsb hbh HB1 HO HES HX1
 refine Jpc (Jdl _ 16 16 SL w3 (XO HX3.out 5 16 SL HS.out.1 HS.out.2 (by decide) (fun j hj=>by rw[HSJ.out j hj];rcases j with _|_|_|_|_|_|_|_|_|_|_|_|_|_|_|_|j;rfl;rfl;rfl;rfl;rfl;rfl;rfl;rfl;rfl;rfl;rfl;rfl;rfl;rfl;rfl;rfl;omega)) (by decide)) ?_
 rintro e w4 ⟨rfl,hb4⟩
 rw[JbQ HS.out.1]
 unfold adV
 generalize JM SL=S at*
 have HZ4:=Jpa ((hb4.block b0 (Jpb HZ3.out).1).trans HZ3.out)
 have HX4:=Jpa ((hb4.block bh (Jpb HX3.out).1).trans HX3.out)
 have HC4:=Jpa ((hb4.block (bh+1) (Jpb HC3.out).1).trans HC3.out)
 have HB4:=Jpa (Jo3 HB3.out hb4)
 have HO4:=Jpa (JF.below HO3.out hb4)
 have HES4:=Jpa (HES3.out.below hb4)
 clear hb4
 clear HZ3 HX3 HC3 HB3 HO3 HES3
 go_wp2_with fail
 obtain⟨bs,hbs⟩:∃b,b=w4.heap.size:=⟨_,rfl⟩
 have hx5:=heap_alloc_new w4 (.cells (Jpm true S) 27)
 have hb5:Below w4.heap.size w4 (w4.alloc (.cells (Jpm true S) 27)):=Below.all (Jpd _ _) _
 rw[←hbs] at hx5⊢
 generalize w4.alloc (.cells (Jpm true S) 27)=w5 at*
 have HZ5:=Jpa ((hb5.block b0 (Jpb HZ4.out).1).trans HZ4.out)
 have HX5:=Jpa ((hb5.block bh (Jpb HX4.out).1).trans HX4.out)
 have HC5:=Jpa ((hb5.block (bh+1) (Jpb HC4.out).1).trans HC4.out)
 have HB5:=Jpa (Jo3 HB4.out hb5)
 have HO5:=Jpa (JF.below HO4.out hb5)
 have HES5:=Jpa (HES4.out.below hb5)
 have HS5:=Jpa hx5
 clear hb5 hx5 hbs
 clear HZ4 HX4 HC4 HB4 HO4 HES4
 refine Jpc (Jdl _ 16 16 DL w5 (XO HX5.out 21 16 DL HD.out.1 HD.out.2 (by decide) (fun j hj=>by rw[HDJ.out j hj];rcases j with _|_|_|_|_|_|_|_|_|_|_|_|_|_|_|_|j;rfl;rfl;rfl;rfl;rfl;rfl;rfl;rfl;rfl;rfl;rfl;rfl;rfl;rfl;rfl;rfl;omega)) (by decide)) ?_
 rintro e w6 ⟨rfl,hb6⟩
 rw[JbQ HD.out.1]
 unfold adV
 generalize JM DL=D at*
 have HZ6:=Jpa ((hb6.block b0 (Jpb HZ5.out).1).trans HZ5.out)
 have HX6:=Jpa ((hb6.block bh (Jpb HX5.out).1).trans HX5.out)
 have HC6:=Jpa ((hb6.block (bh+1) (Jpb HC5.out).1).trans HC5.out)
 have HS6:=Jpa ((hb6.block bs (Jpb HS5.out).1).trans HS5.out)
 have HB6:=Jpa (Jo3 HB5.out hb6)
 have HO6:=Jpa (JF.below HO5.out hb6)
 have HES6:=Jpa (HES5.out.below hb6)
 clear hb6
 clear HZ5 HX5 HC5 HS5 HB5 HO5 HES5
 have lc:bh+1<w6.heap.size:=(Jpb HC6.out).1
 have hpc:Jf w6 (bh+1) 0 2=#[.slice oe kk ce,.int .u8 pr]:=Ja HC6.out rfl
 go_wp2_with fail
 obtain⟨bd,hbd⟩:∃b,b=w6.heap.size:=⟨_,rfl⟩
 have hx7:=heap_alloc_new w6 (.cells (Jpm true D) 27)
 have hb7:Below w6.heap.size w6 (w6.alloc (.cells (Jpm true D) 27)):=Below.all (Jpd _ _) _
 rw[←hbd] at hx7⊢
 generalize w6.alloc (.cells (Jpm true D) 27)=w7 at*
 have HZ7:=Jpa ((hb7.block b0 (Jpb HZ6.out).1).trans HZ6.out)
 have HX7:=Jpa ((hb7.block bh (Jpb HX6.out).1).trans HX6.out)
 have HC7:=Jpa ((hb7.block (bh+1) (Jpb HC6.out).1).trans HC6.out)
 have HS7:=Jpa ((hb7.block bs (Jpb HS6.out).1).trans HS6.out)
 have HB7:=Jpa (Jo3 HB6.out hb7)
 have HO7:=Jpa (JF.below HO6.out hb7)
 have HES7:=Jpa (HES6.out.below hb7)
 have HD7:=Jpa hx7
 clear hb7 hx7 hbd lc hpc
 clear HZ6 HX6 HC6 HS6 HB6 HO6 HES6
 refine Jpc (HFR.out _ _ _ _ HES7.out) ?_
 rintro e w8 ⟨⟨id,ok,rfl⟩,hb8⟩
 generalize Xv xs=fo at*
 generalize QU xs=fm at*
 have HZ8:=Jpa ((hb8.block b0 (Jpb HZ7.out).1).trans HZ7.out)
 have HX8:=Jpa ((hb8.block bh (Jpb HX7.out).1).trans HX7.out)
 have HC8:=Jpa ((hb8.block (bh+1) (Jpb HC7.out).1).trans HC7.out)
 have HS8:=Jpa ((hb8.block bs (Jpb HS7.out).1).trans HS7.out)
 have HD8:=Jpa ((hb8.block bd (Jpb HD7.out).1).trans HD7.out)
 have HB8:=Jpa (Jo3 HB7.out hb8)
 have HO8:=Jpa (JF.below HO7.out hb8)
 have HES8:=Jpa (HES7.out.below hb8)
 clear hb8
 clear HZ7 HX7 HC7 HS7 HD7 HB7 HO7 HES7
 have lz:b0<w8.heap.size:=(Jpb HZ8.out).1
 have lh:bh<w8.heap.size:=(Jpb HX8.out).1
 have lc:bh+1<w8.heap.size:=(Jpb HC8.out).1
 have ls:bs<w8.heap.size:=(Jpb HS8.out).1
 have ld:bd<w8.heap.size:=(Jpb HD8.out).1
 have hrf:Jg w8 b0 42=true:=by rw[Jc _ _ _ _ _ HZ8.out];rfl
 have hps:Jf w8 bs 0 17=(Jpm true S:Array Value):=Ja HS8.out rfl
 have hpd:Jf w8 bd 0 17=(Jpm true D:Array Value):=Ja HD8.out rfl
 have c1:=cell_of_row _ _ 1 _ _ (0,0) HC8.out
 have c2:=cell_of_row _ _ 2 _ _ (0,0) HX8.out
 have ht0:=hpw.1
 have ht1:=hpw.2
 go_wp2_with fail
 refine Jl4 (cs:=(JpH true true pr (.int .i64 (40+tot)) (.bool (decide (0<fo))) (.slice ob L.length cb) fm S D)) (u:=.int .i64 0) b0 rfl rfl ?_ rfl ?_
 ·exact Ja ((heap_alloc_old _ _ (by simpa using lz)).trans (Jd HZ8.out)) rfl
 ·show Jco w (Qy l) (Ju l) _ _
  rw[HOUT.out,H00.out]
  exact .inr ⟨rfl,ob,cb,rfl,JF.below (JF.keep HO8.out (by simp) (fun a ha=>setRow_other _ _ _ _ (by have:=(HNB.out a ha);omega))) (Below.all (Jpd _ _) _),Below.all (HB8.out.trans (Jb _ (Nat.le_of_eq HB0.out.symm))) _⟩
def Jnk (w:World)(b:Nat)(u:JiA)(s6 d6:Bool)(S D:Nat→Int)(p ln:Int)(fr mo:Bool)(oa:Option Addr)(n cap:Nat):Ending→World→Prop:=fun e w'=>∃(sp dp fl:Int),JbK w b (Jps s6 d6 p (.int .u16 sp) (.int .u16 dp) (.int .i64 ln) fl fr (.slice oa n cap) mo S D) u.err e w'∧(u.err=0→sp=u.src∧dp=u.dst∧fl=u.flags)
theorem Ji7 (oa:Option Addr)(n cap:Nat)(l:List Int)(i:Nat)(w:World)(hr:Ji w oa n cap l)(hi:i+2≤n)(hn:n≤100000)(iv:Int)(hiv:iv=(i:Int)):Calls Tryz.prog 81 #[.slice oa n cap,.int .i64 iv,.int .i64 2] w (Jh w (.tuple #[.int .u64 (w2 l i),.int .i64 0])):=by
 subst hiv
 have hl:=hr.len
 have:=get_ok oa n cap l i 2 w hr (by decide) (by decide) (by omega) (by omega)
 rwa [JY l i (by omega)] at this
theorem Jl5 (oa:Option Addr)(n cap:Nat)(l:List Int)(i:Nat)(w:World)(hr:Ji w oa n cap l)(hi:n<i+2)(hi2:i≤10)(hn:n≤100000)(iv:Int)(hiv:iv=(i:Int)):Calls Tryz.prog 81 #[.slice oa n cap,.int .i64 iv,.int .i64 2] w (Jh w (.tuple #[.int .u64 0,.int .i64 10])):=by
 subst hiv
 exact get_short oa n cap i 2 w (by decide) (by decide) (by omega) (by omega) (by omega)
theorem Jdw (b:Nat)(s6 d6:Bool)(S D:Nat→Int)(p ln:Int)(fr mo:Bool)(oa:Option Addr)(n cap:Nat)(l:List Int)(w:World)(hp:p=6∨p=17∨p=1∨p=58)(hr:Ji w oa n cap l)(hn:n≤100000)(hob:∀a,oa=some a→a.block≠b)
 (hx:w.heap[b]? =some (.cells (JpH s6 d6 p (.int .i64 ln) fr (.slice oa n cap) mo S D) 85 (0,0))):
 Calls Tryz.prog 37 #[.pointer (some ⟨b,0,none⟩)] w (Jnk w b (JA p l) s6 d6 S D p ln fr mo oa n cap):=by
 have hl:=hr.len
 by_cases hi:JS p=true
 ·have hu:JA p l=if l.length<2 then ⟨10,0,0,0⟩ else ⟨0,0,w2 l 0,0⟩:=by unfold JA;rw[if_pos hi]
  by_cases h2:n<2
  ·refine(Jh0 b s6 d6 S D p 0 0 ln 0 fr mo oa n cap w 0 10 hi (by decide) hx (fun x=>Jl5 oa n cap l 0 x.world (hr.later x) (by omega) (by omega) hn 0 rfl)).mono (fun e w' h=>⟨0,0,0,?_,?_⟩)
   ·rw[hu,if_pos (by omega)];exact h
   ·rw[hu,if_pos (by omega)];intro h;exact absurd h (by decide)
  ·refine(Jh0 b s6 d6 S D p 0 0 ln 0 fr mo oa n cap w (w2 l 0) 0 hi (QB hr.byte 0) hx (fun x=>Ji7 oa n cap l 0 x.world (hr.later x) (by omega) hn 0 rfl)).mono (fun e w' h=>⟨0,w2 l 0,0,?_,?_⟩)
   ·rw[hu,if_neg (by omega)];exact h
   ·rw[hu,if_neg (by omega)];exact fun _=>⟨rfl,rfl,rfl⟩
 have hi':JS p=false:=by simpa using hi
 have hu:JA p l=if l.length<4 then ⟨10,0,0,0⟩ else ⟨0,w2 l 0,w2 l 2,if p=6∧14≤l.length then l.getD 13 0 else 0⟩:=by unfold JA;rw[if_neg hi]
 obtain⟨v,e0,hv,hg⟩:∃v e0,(0≤v∧v<65536∧(2≤n→v=w2 l 0))∧∀x:Jz w,Calls Tryz.prog 81 #[.slice oa n cap,.int .i64 0,.int .i64 2] x.world (Jh x.world (.tuple #[.int .u64 v,.int .i64 e0])):=by
  by_cases h2:n<2
  ·exact⟨0,10,⟨by decide,by decide,fun h=>by omega⟩,fun x=>Jl5 oa n cap l 0 x.world (hr.later x) (by omega) (by omega) hn 0 rfl⟩
  ·exact⟨w2 l 0,0,⟨(QB hr.byte 0).1,(QB hr.byte 0).2,fun _=>rfl⟩,fun x=>Ji7 oa n cap l 0 x.world (hr.later x) (by omega) hn 0 rfl⟩
 obtain⟨u,e1,hu1,hg2⟩:∃u e1,(0≤u∧u<65536∧(e1=0→4≤n∧u=w2 l 2)∧(n<4→e1=10)∧(4≤n→e1=0))∧∀x:Jz w,Calls Tryz.prog 81 #[.slice oa n cap,.int .i64 2,.int .i64 2] x.world (Jh x.world (.tuple #[.int .u64 u,.int .i64 e1])):=by
  by_cases h2:n<4
  ·exact⟨0,10,⟨by decide,by decide,fun h=>by omega,fun _=>rfl,fun h=>by omega⟩,fun x=>Jl5 oa n cap l 2 x.world (hr.later x) (by omega) (by omega) hn 2 rfl⟩
  ·exact⟨w2 l 2,0,⟨(QB hr.byte 2).1,(QB hr.byte 2).2,fun _=>⟨by omega,rfl⟩,fun h=>by omega,fun _=>rfl⟩,fun x=>Ji7 oa n cap l 2 x.world (hr.later x) (by omega) hn 2 rfl⟩
 have herr:(JA p l).err=e1:=by
  rw[hu]
  by_cases h2:n<4
  ·rw[if_pos (by omega),hu1.2.2.2.1 h2]
  ·rw[if_neg (by omega),hu1.2.2.2.2 (by omega)]
 have hval:∀fl,(4≤n→fl=if p=6∧14≤l.length then l.getD 13 0 else 0)→((JA p l).err=0→v=(JA p l).src∧u=(JA p l).dst∧fl=(JA p l).flags):=by
  intro fl hfl h0
  rw[herr] at h0
  obtain⟨h4,hue⟩:=hu1.2.2.1 h0
  rw[hu,if_neg (by omega)]
  exact⟨hv.2.2 (by omega),hue,hfl h4⟩
 by_cases h6:p=6
 ·subst h6
  by_cases h14:n<14
  ·refine(JeX b s6 d6 S D 0 0 ln 0 fr mo oa n cap w v e0 u e1 h14 ⟨hu1.1,hu1.2.1⟩ ⟨hv.1,hv.2.1⟩ hx hg hg2).mono (fun e w' h=>⟨v,u,0,?_,hval 0 (fun _=>by rw[if_neg (by omega)])⟩)
   rw[herr];exact h
  ·obtain⟨g,off,rfl,hgl,hc⟩:=hr.here (by omega)
   refine(JgH b s6 d6 S D 0 0 ln 0 fr mo g off n cap w v e0 u e1 (by omega) (l.getD 13 0) (hc 13 (by omega)) (hob _ rfl) hgl ⟨hu1.1,hu1.2.1⟩ ⟨hv.1,hv.2.1⟩ hx hg hg2).mono (fun e w' h=>⟨v,u,l.getD 13 0,?_,hval _ (fun _=>by rw[if_pos ⟨rfl,by omega⟩])⟩)
   rw[herr];exact h
 ·refine(Jm3 b s6 d6 S D p 0 0 ln 0 fr mo oa n cap w v e0 u e1 hi' h6 ⟨hu1.1,hu1.2.1⟩ ⟨hv.1,hv.2.1⟩ hx hg hg2).mono (fun e w' h=>⟨v,u,0,?_,hval 0 (fun _=>by rw[if_neg (fun h=>h6 h.1)])⟩)
  rw[herr];exact h
theorem Jdx (b:Nat)(s6 d6:Bool)(S D:Nat→Int)(p ln:Int)(fr mo:Bool)(oa:Option Addr)(n cap:Nat)(l:List Int)(w:World)(hp:p=6∨p=17∨p=1∨p=58)(hr:Ji w oa n cap l)(hn:n≤100000)
 (hx:w.heap[b]? =some (.cells (JpH s6 d6 p (.int .i64 ln) fr (.slice oa n cap) mo S D) 85 (0,0))):
 Calls Tryz.prog 38 #[.pointer (some ⟨b,0,none⟩)] w (Jnk w b (Js p l) s6 d6 S D p ln fr mo oa n cap):=
 (JkD b s6 d6 S D p 0 0 ln 0 fr mo oa n cap l w hp hr hn hx).mono (fun e w' h=>⟨_,_,_,h,fun _=>⟨rfl,rfl,rfl⟩⟩)
def X4:Array Value:=(Jpq false false (.int .i64 0) false)
theorem Jl6:XJ pkZ=X4:=rfl
theorem Qh {w w':World}{l:List Int}{tmps cs:Array Value}{err:Int}(b:Nat)(hp:tmps.getD 2 undef=.pointer (some ⟨b,0,none⟩))(h3:tmps.getD 3 undef=.int .i64 err)(hc:Jf w' b 0 40=cs)(hs:cs.size=40)(hv:pkR l=.tuple #[.agg cs,.int .i64 err])(hb:Below w.heap.size w w'):
 bodyPost Tryz.prog Tryz.f11 (Jh w (pkR l)) .ret { tmps:=tmps,defers:=[] } w':=
 bodyPost_ret (v:=.tuple #[.agg cs,.int .i64 err]) (Qi rfl _ _ b 40 _ _ Tryz.underlying32 rfl JmB hp h3 cs hc hs) rfl (.mk hv.symm hb)
theorem QS {l:List Int}{err:Int}(h:Qj l=err)(h0:err≠0):pkR l=.tuple #[.agg X4,.int .i64 err]:=by
 unfold pkR Jlg;rw[h,if_pos h0,Jl6]
def JkE (y:World)(r:Nat)(fl:Option Nat)(w:World):Prop:=Below y.heap.size y w∧y.heap.size≤r∧w.heap[r]? =some (.map Zg 2)∧∀b,fl=some b→y.heap.size≤b∧w.heap[b]? =some (.cells #[.nilFunc] 79 (0,0))
theorem Qo {w:World}{b:Nat}{a c:Array Value}{t:TypeId}(h:w.heap[b]? =some (.cells (a++c) t (0,0)))(hs:a.size=40):Jf w b 0 40=a:=by
 rw[Jq _ _ _ _ _ _ _ h,show(0+40:Nat)=a.size by rw[hs],Array.extract_append]
 simp
theorem Jh2 (oa:Option Addr)(n cap:Nat)(l:List Int)(w:World)(hr:Ji w oa n cap l)(hn:2048<n):
 Calls Tryz.prog 11 #[.slice oa n cap] w (Jh w (pkR l)):=by
 have hlen:=hr.len
 have hx:=heap_alloc_new w (.cells X4 32)
 have hB:Below w.heap.size w (w.alloc (.cells X4 32)):=Below.all (Jpd _ _) _
 have HR:=Jpa (hr.alloc (.cells X4 32))
 have HBY:=Jpa hr.byte
 unfold X4 at hx hB HR
 clear hr
 have hd:decide ((n:Int)>2048)=true:=by simp;omega
 have HE:=Jpa (QS (l:=l) (err:=3) (by unfold Qj;rw[if_pos (by omega)]) (by decide))
 obtain⟨b0,hb0⟩:∃b,b=w.heap.size:=⟨_,rfl⟩
 have hrf:Jg (w.alloc (.cells (Jpq false false (.int .i64 0) false) 32)) w.heap.size 40=true:=by rw[Jc _ _ _ _ _ hx];rfl
 have HX:=Jpa hx
 have HB:=Jpa hB
 clear hx hB
 go_enter Tryz.func11,Tryz.ntmps11
 go_wp2_with fail
 exact Qh (cs:=X4) w.heap.size rfl rfl (Ja HX.out rfl) rfl HE.out HB.out
theorem Ji8 (oa:Option Addr)(n cap:Nat)(l:List Int)(w:World)(hr:Ji w oa n cap l)(hn:n=0):
 Calls Tryz.prog 11 #[.slice oa n cap] w (Jh w (pkR l)):=by
 have hlen:=hr.len
 have hx:=heap_alloc_new w (.cells X4 32)
 have hB:Below w.heap.size w (w.alloc (.cells X4 32)):=Below.all (Jpd _ _) _
 have HR:=Jpa (hr.alloc (.cells X4 32))
 have HBY:=Jpa hr.byte
 unfold X4 at hx hB HR
 clear hr
 have hd:decide ((n:Int)>2048)=false:=by simp;omega
 have hd2:((n:Int)==0)=true:=by simp;omega
 have HE:=Jpa (QS (l:=l) (err:=10) (by unfold Qj;rw[if_neg (by omega),if_pos (by omega)]) (by decide))
 obtain⟨b0,hb0⟩:∃b,b=w.heap.size:=⟨_,rfl⟩
 have hrf:Jg (w.alloc (.cells (Jpq false false (.int .i64 0) false) 32)) w.heap.size 40=true:=by rw[Jc _ _ _ _ _ hx];rfl
 have HX:=Jpa hx
 have HB:=Jpa hB
 clear hx hB
 go_enter Tryz.func11,Tryz.ntmps11
 go_wp2_with fail
 exact Qh (cs:=X4) w.heap.size rfl rfl (Ja HX.out rfl) rfl HE.out HB.out
theorem Jdh (oa:Option Addr)(n cap:Nat)(l:List Int)(w:World)(hr:Ji w oa n cap l)(hn1:0<n)(hn2:n≤2048)(hk:¬l.getD 0 0/16=4∧¬l.getD 0 0/16=6):
 Calls Tryz.prog 11 #[.slice oa n cap] w (Jh w (pkR l)):=by
 obtain⟨g,off,rfl,hgl,hcs⟩:=hr.here hn1
 have hc0:=hcs 0 hn1
 have hx0:=Jy hr.byte 0
 rw[Nat.add_zero] at hc0
 obtain⟨x0,e0⟩:∃x:Nat,l.getD 0 0=(x:Int):=⟨(l.getD 0 0).toNat,by omega⟩
 have HE0:=Jpa e0
 rw[e0] at hc0 hx0 hk
 have hd:decide ((n:Int)>2048)=false:=by simp;omega
 have hd2:((n:Int)==0)=false:=by simp;omega
 have hn0:(0:Int)<(n:Int):=by omega
 have hlen:=hr.len
 have hx:=heap_alloc_new w (.cells X4 32)
 have hB:Below w.heap.size w (w.alloc (.cells X4 32)):=Below.all (Jpd _ _) _
 have HR:=Jpa (hr.alloc (.cells X4 32))
 have HBY:=Jpa hr.byte
 unfold X4 at hx hB HR
 clear hr
 have hcy:=(Je hB hgl (⟨g,off,none⟩:Addr) rfl).trans hc0
 have hgy:g<(w.alloc (.cells (Jpq false false (.int .i64 0) false) 32)).heap.size:=Jpe hgl hB.size
 have HLK:Hid (∀r w',w'.heap[r]? =some (.map Zg 2)→(Instr.lookup 81 (.map (some r)) (.int .u8 ((x0:Int)/16)) true).run Tryz.prog w'=.ok (.tuple #[.agg #[.nilFunc],false]) w'):=Jpa (fun r w' h=>Jei _ hk.1 hk.2 r w' h)
 clear hcs e0 hc0
 go_enter Tryz.func11,Tryz.ntmps11
 go_wp2_with fail
 obtain⟨b0,hb0⟩:∃b,b=w.heap.size:=⟨_,rfl⟩
 rw[←hb0] at hx⊢
 have HB0:=Jpa hb0
 clear hb0
 generalize w.alloc (.cells (Jpq false false (.int .i64 0) false) 32)=y at*
 have hb0y:b0<y.heap.size:=(Jpb hx).1
 have HX:=Jpa hx
 have HB:=Jpa hB
 clear hx hB
 refine JQ [.w,.h,.h,.h,.h] [(1,1,0),(2,1,0),(3,1,0),(4,1,0)] (fun _ w'=>w'.cell? ⟨g,off,none⟩=some (.int .u8 (x0:Int))) [1] [(.w,0),(.w,5),(.q,6),(.q,7),(.q,8)] [(.w,10),(.q,11)] 9 (.cells #[.nilFunc] 79) (by kernel_rfl) (by kernel_rfl) rfl rfl ⟨fun _=>rfl,fun _ _=>by kernel_rfl⟩ (by kernel_rfl) (by kernel_rfl) ?_
 apply Exists.intro
 refine⟨fun wx hbx=>?_,?_,?_⟩
 ·have hcx:wx.cell? ⟨g,off,none⟩=some (.int .u8 (x0:Int)):=(Je hbx hgy _ rfl).trans hcy
  have hbx2:g<wx.heap.size:=Jpe hgy hbx.size
  simp only[JB]
  repeat go_big_quiet_step (fail)
  exact wpQuiet_nil rfl
 ·intro q hq oi hoi
  simp only[List.mem_cons,List.not_mem_nil,or_false] at hq
  rcases hq with rfl|rfl|rfl|rfl
  ·cases hoi;exact⟨_,rfl,rfl,fun w2 hw=>by kernel_rfl⟩
  ·cases hoi;exact⟨_,rfl,rfl,fun w2 hw=>by simp[execOp,go_sem,hn0];intro h;exfalso;omega⟩
  ·cases hoi;exact⟨_,rfl,rfl,fun w2 hw=>by simp[execOp,go_sem,hw]⟩
  ·cases hoi;exact⟨_,rfl,rfl,fun w2 hw=>by simp[execOp,go_sem,hw]⟩
 simp only[Qa,List.getElem?_cons_succ,List.getElem?_cons_zero]
 refine⟨fun v fl w2=>∃r,v=.map (some r)∧JkE y r fl w2,?_,?_,?_,?_⟩
 ·rintro fl-
  refine⟨rfl,fun w' hw'=>.inr ⟨34,#[],by kernel_rfl,?_⟩⟩
  obtain⟨⟨x,rfl⟩,hfb⟩:=hw'
  refine(JaR x.world).mono ?_
  rintro e w2 ⟨r,rfl,hr1,hr2,hb2⟩
  refine⟨_,rfl,r,rfl,Jo3 x.below hb2,Nat.le_trans x.below.size hr1,hr2,fun b hb'=>⟨(hfb b hb').1,?_⟩⟩
  have:=(hfb b hb').2
  exact(hb2.block b (Jpb this).1).trans this
 ·rintro v fl g'-w2 ⟨r,-,hst⟩
  exact(Je hst.1 hgy _ rfl).trans hcy
 ·rintro-v w2 ⟨r,rfl,h1,h2,h3,-⟩
  exact⟨r,rfl,Below.all h1 _,h2,(heap_alloc_old _ _ (Jpb h3).1).trans h3,fun b hb'=>by cases hb';exact⟨h1.size,heap_alloc_new _ _⟩⟩
 rintro v ⟨fl0,w20,r,rfl,-⟩
 refine⟨fun v fl w2=>v=.tuple #[.agg #[.nilFunc],false]∧JkE y r fl w2,?_,fun _ _=>JC rfl,?_,?_⟩
 ·rintro fl-
  refine Jv.made rfl ?_
  rintro w' ⟨r',hr',hst⟩
  cases hr'
  exact⟨.tuple #[.agg #[.nilFunc],false],w',QX _ _ (vm:=.map (some r)) (vx:=.int .u8 ((x0:Int)/16)) (by kernel_rfl) (by kernel_rfl) (HLK.out r w' hst.2.2.1),rfl,hst⟩
 ·rintro-v w2 ⟨h0,h1,h2,h3,-⟩
  exact⟨h0,Below.all h1 _,h2,(heap_alloc_old _ _ (Jpb h3).1).trans h3,fun b hb'=>by cases hb';exact⟨h1.size,heap_alloc_new _ _⟩⟩
 rintro v ⟨fl1,w21,rfl,-⟩
 refine⟨.tuple #[.agg #[.nilFunc],false],⟨rfl,fun _=>by kernel_rfl⟩,?_⟩
 refine⟨.agg #[.nilFunc],⟨rfl,fun _=>by kernel_rfl⟩,?_⟩
 refine⟨.bool false,⟨rfl,fun _=>by kernel_rfl⟩,?_⟩
 intro bp
 refine⟨fun v fl w2=>v=undef∧Below y.heap.size y w2∧y.heap.size≤bp∧w2.heap[bp]? =some (.cells #[.nilFunc] 79 (0,0)),?_,fun _ _=>JC rfl,(fun h=>by cases h),?_⟩
 ·rintro fl rfl
  refine Jv.skip rfl ?_
  rintro w' ⟨-,hst⟩
  obtain⟨hbge,hbx⟩:=hst.2.2.2 bp rfl
  have q1:=cell_of_row _ _ 0 _ _ (0,0) hbx
  have q2:=frozen_of_row _ _ 0 _ _ hbx
  refine⟨_,?_,hst.1.setCell (p:=⟨bp,0,none⟩) hbge (.nilFunc),hbge,(heap_setCell_same _ bp 0 _ _ (.nilFunc) hbx).trans rfl⟩
  simp[execOp,go_sem,Q6,q1,q2]
 rintro v ⟨fl2,w22,rfl,-⟩
 refine⟨.bool false,⟨rfl,fun _=>by kernel_rfl⟩,?_⟩
 rintro zz ⟨-,hzz,hbge,hpz⟩
 have HZ:=Jpa (Jo3 HB.out hzz)
 have HXZ:=Jpa ((hzz.block b0 hb0y).trans HX.out)
 have HRZ:=Jpa (HR.out.below hzz)
 have HPZ:=Jpa hpz
 have hb0z:b0<zz.heap.size:=Jpe hb0y hzz.size
 have hne:bp≠b0:=by omega
 have hrf:Jg zz b0 40=true:=by rw[Jc _ _ _ _ _ HXZ.out];rfl
 clear hzz hpz hbge hcy hgy hb0y w20 w21 w22 fl0 fl1 fl2 HX HB HR HLK
 unfold Q6
 simp only[Act.put,List.setIfInBounds_toArray,List.set_cons_succ,List.set_cons_zero]
 have HE:=Jpa (QS (l:=l) (err:=50) (by unfold Qj;rw[if_neg (by omega),if_neg (by omega),HE0.out,if_neg hk.1,if_neg hk.2]) (by decide))
 clear hk
 go_wp2_with fail
 exact Qh (cs:=X4) b0 rfl rfl (Ja (Jd HXZ.out) rfl) rfl HE.out (HZ.out.trans (Jb _ (Nat.le_of_eq HB0.out.symm)))
theorem Jl7 {l:List Int}(h:Jl l):Jl (J8 l).body:=JU (JD h _) _
theorem Jm5 {l:List Int}(h:Jl l):Jl (Qy l).body:=JD (JU (JD h _) _) _
theorem JjJ (l:List Int):(J8 l).body.length≤l.length:=by
 show(ZF l).length≤_;unfold ZF;rw[List.length_take,List.length_drop];omega
theorem Jl8 (l:List Int):(Qy l).body.length≤l.length:=by
 show(Xb l).length≤_;unfold Xb;rw[List.length_drop,List.length_take,List.length_drop];omega
end
end Go.Proofs.YtkgjbipfhhjlpaaGreatDoor
