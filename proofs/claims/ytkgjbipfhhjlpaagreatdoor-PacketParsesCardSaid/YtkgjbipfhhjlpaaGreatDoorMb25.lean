import Derived.Test.YtkgjbipfhhjlpaaGreatDoorMb24
set_option linter.unusedVariables false
set_option linter.unusedSimpArgs false
set_option maxRecDepth 100000
set_option maxHeartbeats 32000000
namespace Go.Proofs.YtkgjbipfhhjlpaaGreatDoor
section
open Go.RowKit
theorem JkA (s:Bool)(S T:Nat→Int)(p a b f:Int)(d:Nat)(hd:d≤2048)(hS:U8 S)(hT:U8 T)(hip:JO p=false)(hii:JS p=true)(hb:0≤b∧b<65536)(w:World):
 Calls Tryz.prog 43 #[.agg (spC s S s T p a b f d)] w (Jw w (JcW p (b/256) (b%256) 0 (Qt d) (Jn s S) (Jn s T)) 0):=by
 have HP:Hid (∀w',Calls Tryz.prog 35 #[p] w' (Jh w' (.bool (JO p)))):=Jpa (fun w'=>Xt p w')
 have HI:Hid (∀w',Calls Tryz.prog 36 #[p] w' (Jh w' (.bool (JS p)))):=Jpa (fun w'=>QZ p w')
 have hpi:p=1∨p=58:=by simpa[JS] using hii
 rw[hip] at HP
 rw[hii] at HI
 have HBB:=Jpa hb
 have HPU:Hid (∀(oD:Option Addr) (n cD:Nat) (o1 o2:Option Addr) (k c1 c2:Nat) (w:World),Ji w oD n cD (Qt d)→Ji w o1 k c1 (Jn s S)→Ji w o2 k c2 (Jn s T)→(k=4∨k=16)→n≤60000→Calls Tryz.prog 94 #[.agg (QL p 0 0 0 (b/256) (b%256) oD n cD),.slice o1 k c1,.slice o2 k c2] w (Jw w (JcW p (b/256) (b%256) 0 (Qt d) (Jn s S) (Jn s T)) 0)):=Jpa (fun oD n cD o1 o2 k c1 c2 w h0 h1 h2 h3 h4=>JlR p (b/256) (b%256) oD n cD (Qt d) o1 o2 k c1 c2 _ _ w h0 h1 h2 h3 h4 (by omega) (by omega) hpi)
 generalize JcW p (b/256) (b%256) 0 (Qt d) (Jn s S) (Jn s T)=L at*
 have HD:=Jpa hd
 have hX:(w.alloc (.cells (spC s S s T p a b f d) 47)).heap[w.heap.size]? =some (.cells (spC s S s T p a b f d) 47 (0,0)):=heap_alloc_new w _
 have HB:Hid (Below w.heap.size w (w.alloc (.cells (spC s S s T p a b f d) 47))):=Jpa (Below.all (Jpd _ _) _)
 clear hd hip hii hb hpi
 unfold spC at HB hX⊢
 go_enter Tryz.func43,Tryz.ntmps43
 go_wp2_with fail
 obtain⟨b0,hb0⟩:∃b,b=w.heap.size:=⟨_,rfl⟩
 have HB0:=Jpa hb0
 rw[←hb0] at hX⊢
 clear hb0
 generalize w.alloc _=y at*
 have hlt:b0<y.heap.size:=(Jpb hX).1
 have HY:=Jpa hX
 clear hX
 have hc0:y.cell? ⟨b0,34,none⟩=some (.int .u8 p):=cell_of_row _ _ 34 _ _ (0,0) HY.out
 refine JQ [.h,.h,.h,.h,.h] [(0,1,0),(1,1,0),(2,1,0)] (fun _ w'=>w'.cell? ⟨b0,34,none⟩=some (.int .u8 p)) [1] [(.w,5),(.q,6)] [(.w,8)] 7 (.cells Qx 149) (by kernel_rfl) (by kernel_rfl) rfl rfl ⟨fun _=>rfl,fun _ _=>by kernel_rfl⟩ (by kernel_rfl) (by kernel_rfl) ?_
 apply Exists.intro
 refine⟨fun wx hbx=>?_,?_,?_⟩
 ·have hxx:=(hbx.block b0 hlt).trans HY.out
  have hbx2:b0<wx.heap.size:=Jpe hlt hbx.size
  have c34:wx.cell? ⟨b0,34,none⟩=some (.int .u8 p):=cell_of_row _ _ 34 _ _ (0,0) hxx
  have c38:wx.cell? ⟨b0,38,none⟩=some (.int .i64 d):=cell_of_row _ _ 38 _ _ (0,0) hxx
  clear hxx hbx
  simp only[JB]
  repeat go_big_quiet_step (fail)
  exact wpQuiet_nil rfl
 ·intro q hq oi hoi
  simp only[List.mem_cons,List.not_mem_nil,or_false] at hq
  rcases hq with rfl|rfl|rfl
  ·cases hoi;exact⟨_,rfl,rfl,fun w2 hw=>by kernel_rfl⟩
  ·cases hoi;exact⟨_,rfl,rfl,fun w2 hw=>by kernel_rfl⟩
  ·cases hoi;exact⟨_,rfl,rfl,fun w2 hw=>by simp[execOp,go_sem,hw]⟩
 simp only[Qa,List.getElem?_cons_succ,List.getElem?_cons_zero]
 refine⟨fun v fl w2=>∃r,v=.slice (some ⟨r,0,none⟩) d d∧y.heap.size≤r∧Below y.heap.size y w2∧w2.heap[r]? =some (.cells ((Qt d).map (.int .u8)).toArray 5 (0,0))∧∀b',fl=some b'→y.heap.size≤b'∧b'≠r∧w2.heap[b']? =some (.cells Qx 149 (0,0)),?_,?_,?_,?_⟩
 ·rintro fl-
  refine Jv.made rfl ?_
  rintro w' ⟨⟨x,rfl⟩,hfb⟩
  refine⟨_,_,Jeo _ _ (vx:=.int .i64 d) (vy:=.int .i64 d) (by kernel_rfl) (by kernel_rfl) (Jen x.world d HD.out),x.world.heap.size,rfl,x.below.size,Below.all x.below _,heap_alloc_new _ _,fun b' hb'=>?_⟩
  have h1:=(hfb b' hb')
  have h2:=(Jpb h1.2).1
  exact⟨h1.1,by omega,(heap_alloc_old _ _ h2).trans h1.2⟩
 ·rintro v fl g-w2 ⟨r,-,-,h3,-⟩
  exact(Je h3 hlt _ rfl).trans hc0
 ·rintro-v w2 ⟨r,h1,h2,h3,h4,-⟩
  have hr:=(Jpb h4).1
  exact⟨r,h1,h2,Below.all h3 _,(heap_alloc_old _ _ hr).trans h4,fun b' hb'=>by cases hb';exact⟨h3.size,by omega,heap_alloc_new _ _⟩⟩
 rintro v ⟨fl0,w20,r,rfl,-⟩
 refine⟨.agg (QL p 0 0 0 0 0 (some ⟨r,0,none⟩) d d),⟨rfl,fun _=>by kernel_rfl⟩,?_⟩
 intro bs
 refine⟨fun v fl w2=>v=undef∧(y.heap.size≤bs∧y.heap.size≤r∧bs≠r∧Below y.heap.size y w2∧w2.heap[r]? =some (.cells ((Qt d).map (.int .u8)).toArray 5 (0,0))∧w2.heap[bs]? =some (.cells (QL p 0 0 0 0 0 (some ⟨r,0,none⟩) d d) 149 (0,0))),?_,fun _ _=>JC rfl,(fun h=>by cases h),?_⟩
 ·rintro fl rfl
  refine Jv.skip rfl ?_
  rintro w' ⟨r',hr',h2,h3,h4,hfb⟩
  obtain rfl:r=r':=by simpa using hr'
  obtain⟨hbge,hne,hbx⟩:=hfb bs rfl
  exact⟨_,Xe _ w' bs (QL p 0 0 0 0 0 (some ⟨r,0,none⟩) d d) (by kernel_rfl) (by kernel_rfl) (by rw[Jc _ _ _ _ _ hbx];rfl) rfl rfl,hbge,h2,hne,h3.trans (Jb _ hbge),(setRow_other _ bs _ _ (fun h=>hne h.symm)).trans h4,Jd hbx⟩
 rintro v ⟨fl2,w22,rfl,-⟩
 rintro zz ⟨-,hbs,hr0,hne,hzz,hzr,hsz⟩
 have HZ:=Jpa hzz
 have HS:=Jpa hsz
 have HR:=Jpa hzr
 have HX:=Jpa ((hzz.block b0 hlt).trans HY.out)
 have hbz:b0<zz.heap.size:=Jpe hlt hzz.size
 have hsz':bs<zz.heap.size:=(Jpb hsz).1
 have hrz:r<zz.heap.size:=(Jpb hzr).1
 have hne0:bs≠b0:=by omega
 have c34:zz.cell? ⟨b0,34,none⟩=some (.int .u8 p):=cell_of_row _ _ 34 _ _ (0,0) HX.out
 clear hzz hsz hzr fl0 fl2 w20 w22 HY hc0
 unfold Q6
 simp only[Act.put,List.setIfInBounds_toArray,List.set_cons_succ,List.set_cons_zero]
 go_wp2_with fail
 refine Jpc (HP.out zz) ?_
 rintro e z2 ⟨rfl,hb2⟩
 have HZ2:=Jpa (Jo3 HZ.out hb2)
 have HX2:=Jpa ((hb2.block b0 hbz).trans HX.out)
 have HS2:=Jpa ((hb2.block bs hsz').trans HS.out)
 have HR2:=Jpa ((hb2.block r hrz).trans HR.out)
 clear hb2 c34 HX HS HR HZ
 have hb02:b0<z2.heap.size:=(Jpb HX2.out).1
 have hbs2:bs<z2.heap.size:=(Jpb HS2.out).1
 have hr2:r<z2.heap.size:=(Jpb HR2.out).1
 have c34:z2.cell? ⟨b0,34,none⟩=some (.int .u8 p):=cell_of_row _ _ 34 _ _ (0,0) HX2.out
 go_wp2_with fail
 refine Jpc (HI.out z2) ?_
 rintro e z3 ⟨rfl,hb3⟩
 have HZ3:=Jpa (Jo3 HZ2.out hb3)
 have HX3:=Jpa ((hb3.block b0 hb02).trans HX2.out)
 have HS3:=Jpa ((hb3.block bs hbs2).trans HS2.out)
 have HR3:=Jpa ((hb3.block r hr2).trans HR2.out)
 clear hb3 c34 HX2 HS2 HR2 HZ2 hb02 hbs2 hr2
 go_wp2_with fail
 have hb02:b0<z3.heap.size:=(Jpb HX3.out).1
 have hbs2:bs<z3.heap.size:=(Jpb HS3.out).1
 have hr2:r<z3.heap.size:=(Jpb HR3.out).1
 have hw1:IntKind.u8.wrap (b/256)=b/256:=by rw[IntKind.wrap_u8];have:=HBB.out;omega
 have hw2:IntKind.u8.wrap b=b%256:=by rw[IntKind.wrap_u8]
 have bb0:=HBB.out.1
 have bb1:=HBB.out.2
 refine JV [.h,.h,.h,.h,.h,.h,.h,.h,.h,.h] [(5,1,0),(6,1,0),(7,1,0),(8,1,0)] (fun _ w'=>w'.cell? ⟨b0,36,none⟩=some (.int .u16 b)) [1] [(.w,10),(.q,11),(.w,12)] (by kernel_rfl) (by kernel_rfl) (by kernel_rfl) (by kernel_rfl) ?_
 apply Exists.intro
 refine⟨fun wx hbx=>?_,?_,?_⟩
 ·have hxx:=(hbx.block b0 hb02).trans HX3.out
  have e36:wx.cell? ⟨b0,36,none⟩=some (.int .u16 b):=cell_of_row _ _ 36 _ _ (0,0) hxx
  have hbx2:b0<wx.heap.size:=Jpe hb02 hbx.size
  clear hxx hbx
  simp only[JB]
  repeat go_big_quiet_step (fail)
  exact wpQuiet_nil rfl
 ·intro q hq oi hoi
  simp only[List.mem_cons,List.not_mem_nil,or_false] at hq
  rcases hq with rfl|rfl|rfl|rfl
  ·cases hoi;exact⟨_,rfl,rfl,fun w2 hw=>by kernel_rfl⟩
  ·cases hoi;exact⟨_,rfl,rfl,fun w2 hw=>by kernel_rfl⟩
  ·cases hoi;exact⟨_,rfl,rfl,fun w2 hw=>by simp[execOp,go_sem,hw]⟩
  ·cases hoi;exact⟨_,rfl,rfl,fun w2 hw=>by simp[execOp,go_sem,hw2]⟩
 have d36:z3.cell? ⟨b0,36,none⟩=some (.int .u16 b):=cell_of_row _ _ 36 _ _ (0,0) HX3.out
 simp only[Qa,List.getElem?_cons_succ,List.getElem?_cons_zero]
 refine⟨fun v fq w2=>v=undef∧OBx z3 bs (QL p 0 0 0 (b/256) 0 (some ⟨r,0,none⟩) d d) 149 w2,?_,?_,(fun h=>by cases h),?_⟩
 ·rintro fl rfl
  refine Jv.skip rfl ?_
  rintro w' ⟨⟨x,rfl⟩,-⟩
  have hob:OBx z3 bs (QL p 0 0 0 0 0 (some ⟨r,0,none⟩) d d) 149 x.world:=OBx.later ⟨HS3.out,Jpd _ _,fun _ _ _=>rfl⟩ x.below
  have g1:x.world.cell? ⟨bs,9,none⟩=some (.int .u8 0):=cell_of_row _ _ 9 _ _ (0,0) hob.1
  have g2:=frozen_of_row _ _ 9 _ _ hob.1
  refine⟨_,?_,hob.set 9 (.int .u8 (b/256))⟩
  simp[execOp,go_sem,g1,g2]
 ·rintro v fq g-w2 ⟨-,hob⟩
  have:=(hob.2.2 b0 (fun h=>hne0 h.symm) hb02)
  exact(World.cell?_of_block (a:=⟨b0,36,none⟩) this).trans d36
 rintro v ⟨gl0,w30,rfl,-⟩
 refine⟨.pointer (some ⟨bs,10,none⟩),⟨rfl,fun _=>by kernel_rfl⟩,?_⟩
 refine⟨fun v fq w2=>v=undef∧OBx z3 bs (QL p 0 0 0 (b/256) (b%256) (some ⟨r,0,none⟩) d d) 149 w2,?_,fun _ _=>JC rfl,(fun h=>by cases h),?_⟩
 ·rintro fl rfl
  refine Jv.skip rfl ?_
  rintro w' ⟨-,hob⟩
  have g1:w'.cell? ⟨bs,10,none⟩=some (.int .u8 0):=cell_of_row _ _ 10 _ _ (0,0) hob.1
  have g2:=frozen_of_row _ _ 10 _ _ hob.1
  refine⟨_,?_,hob.set 10 (.int .u8 (b%256))⟩
  simp[execOp,go_sem,g1,g2]
 rintro v ⟨gl2,w32,rfl,-⟩
 rintro z4 ⟨-,hob⟩
 have HS4:=Jpa hob.1
 have HX4:=Jpa ((hob.2.2 b0 (fun h=>hne0 h.symm) hb02).trans HX3.out)
 have HR4:=Jpa ((hob.2.2 r (fun h=>hne h.symm) hr2).trans HR3.out)
 have HZ4:Hid (Below y.heap.size y z4):=Jpa (HZ3.out.trans (hob.2.1.mono hbs))
 clear hob d36 gl0 gl2 w30 w32 HS3 HX3 HR3 HZ3 hb02 hbs2 hr2 hw1 hw2 bb0 bb1
 have HSZ:Hid ((QL p 0 0 0 (b/256) (b%256) (some ⟨r,0,none⟩) d d).size=12):=Jpa rfl
 simp only[Act.put,List.setIfInBounds_toArray,List.set_cons_succ,List.set_cons_zero]
 go_wp2_with fail
 have hb04:b0<z4.heap.size:=(Jpb HX4.out).1
 have hbs4:bs<z4.heap.size:=(Jpb HS4.out).1
 obtain⟨k1,hk1⟩:∃m,(Jn s S).length=m:=⟨_,rfl⟩
 have hk2:(Jn s T).length=k1:=by rw[J5,←hk1,J5]
 have HK:Hid (k1=4∨k1=16):=Jpa (by rw[←hk1,J5];cases s;exact .inl rfl;exact .inr rfl)
 have HA1:Hid (∀w',Calls Tryz.prog 64 #[adV s S] w' (JnW w' k1 (Jn s S))):=Jpa fun w'=>(bytes_any s S w').mono fun _ _ h=>h.n hk1 (Qr hS s)
 have HA2:Hid (∀w',Calls Tryz.prog 64 #[adV s T] w' (JnW w' k1 (Jn s T))):=Jpa fun w'=>(bytes_any s T w').mono fun _ _ h=>h.n hk2 (Qr hT s)
 have HRZ:=Jpa (Jep HR4.out HD.out)
 refine JV [.h,.h,.h,.h,.w,.h,.h,.h] [(0,2,0),(5,1,0),(6,1,0),(7,1,0)] (fun _ w'=>Jf w' bs 0 12=QL p 0 0 0 (b/256) (b%256) (some ⟨r,0,none⟩) d d∧Jf w' b0 17 17=(Jpm s T:Array Value)) [2] [(.w,4),(.w,8),(.w,9),(.q,10),(.q,11),(.q,12),(.q,13)] (by kernel_rfl) (by kernel_rfl) (by kernel_rfl) (by kernel_rfl) ?_
 apply Exists.intro
 refine⟨fun wx hbx=>?_,?_,?_⟩
 ·have hxx:=(hbx.block b0 hb04).trans HX4.out
  have hss:=(hbx.block bs hbs4).trans HS4.out
  have hbx2:b0<wx.heap.size:=Jpe hb04 hbx.size
  have hbx3:bs<wx.heap.size:=Jpe hbs4 hbx.size
  have p0:Jf wx bs 0 12=QL p 0 0 0 (b/256) (b%256) (some ⟨r,0,none⟩) d d:=Ja hss rfl
  have hld:∀x:Jz wx,Qz Tryz.prog 149 x.world (.pointer (some ⟨bs,0,none⟩))=.ok (.value (.agg (QL p 0 0 0 (b/256) (b%256) (some ⟨r,0,none⟩) d d))) x.world:=fun x=>by
   have e:Jf x.world bs 0 12=_:=(Jz.part x bs 0 12 hbx3).trans p0
   rw[Xc x.world bs 0 (by rw[e];rfl),e]
  have p1:Jf wx b0 0 17=(Jpm s S:Array Value):=by rw[Jq _ _ _ _ _ _ _ hxx];simp
  have p2:Jf wx b0 17 17=(Jpm s T:Array Value):=by rw[Jq _ _ _ _ _ _ _ hxx];simp
  clear hxx hss hbx
  simp only[JB]
  repeat go_big_quiet_step (fail)
  exact wpQuiet_nil rfl
 ·intro q hq oi hoi
  simp only[List.mem_cons,List.not_mem_nil,or_false] at hq
  rcases hq with rfl|rfl|rfl|rfl
  ·cases hoi;exact⟨_,rfl,rfl,fun w2 hw=>Jeb _ w2 bs _ (by kernel_rfl) hw.1 rfl⟩
  ·cases hoi;exact⟨_,rfl,rfl,fun w2 hw=>by kernel_rfl⟩
  ·cases hoi;exact⟨_,rfl,rfl,fun w2 hw=>by kernel_rfl⟩
  ·cases hoi;exact⟨_,rfl,rfl,fun w2 hw=>by simp[execOp,go_sem,hw.2]⟩
 have q0:Jf z4 bs 0 12=QL p 0 0 0 (b/256) (b%256) (some ⟨r,0,none⟩) d d:=Ja HS4.out rfl
 have q2:Jf z4 b0 17 17=(Jpm s T:Array Value):=by rw[Jq _ _ _ _ _ _ _ HX4.out];simp
 simp only[Qa,List.getElem?_cons_succ,List.getElem?_cons_zero]
 refine⟨fun v fl w2=>∃o1 c1,v=.slice o1 k1 c1∧Ji w2 o1 k1 c1 (Jn s S)∧Below z4.heap.size z4 w2,?_,?_,(fun h=>by cases h),?_⟩
 ·rintro fl rfl
  refine⟨rfl,fun w' hw'=>.inr ⟨64,#[adV s S],by kernel_rfl,?_⟩⟩
  obtain⟨⟨x,rfl⟩,-⟩:=hw'
  refine(HA1.out x.world).mono ?_
  rintro e w2 ⟨o1,c1,rfl,h1,hb⟩
  exact⟨_,rfl,o1,c1,rfl,h1,Jo3 x.below hb⟩
 ·rintro v fq g-w2 ⟨o1,c1,-,-,hb⟩
  exact⟨(QD hb bs 0 12 hbs4).trans q0,(QD hb b0 17 17 hb04).trans q2⟩
 rintro v ⟨gl0,w30,o1,c1,rfl,-⟩
 refine⟨fun v fl w2=>∃o2 c2,v=.slice o2 k1 c2∧Ji w2 o1 k1 c1 (Jn s S)∧Ji w2 o2 k1 c2 (Jn s T)∧Below z4.heap.size z4 w2,?_,?_,(fun h=>by cases h),?_⟩
 ·rintro fl rfl
  refine⟨rfl,fun w' hw'=>.inr ⟨64,#[adV s T],by kernel_rfl,?_⟩⟩
  obtain⟨o1',c1',he,h1,hb1⟩:=hw'
  obtain⟨rfl,rfl⟩:o1=o1'∧c1=c1':=by simpa using he
  refine(HA2.out w').mono ?_
  rintro e w2 ⟨o2,c2,rfl,h2,hb⟩
  exact⟨_,rfl,o2,c2,rfl,h1.below hb,h2,Jo3 hb1 hb⟩
 ·rintro v fq g-w2 ⟨o2,c2,-,-,-,hb⟩
  exact⟨(QD hb bs 0 12 hbs4).trans q0,(QD hb b0 17 17 hb04).trans q2⟩
 rintro v ⟨gl1,w31,o2,c2,rfl,-⟩
 refine⟨fun v fl w2=>∃oP cP,v=.tuple #[.slice oP L.length cP,.int .i64 0]∧JF w2 z4.heap.size 1 oP L.length cP (L.map (.int .u8))∧Below z4.heap.size z4 w2,?_,fun _ _=>JC rfl,(fun h=>by cases h),?_⟩
 ·rintro fl rfl
  refine⟨rfl,fun w' hw'=>.inr ⟨94,#[.agg (QL p 0 0 0 (b/256) (b%256) (some ⟨r,0,none⟩) d d),.slice o1 k1 c1,.slice o2 k1 c2],by kernel_rfl,?_⟩⟩
  obtain⟨o2',c2',he,h1,h2,hb1⟩:=hw'
  obtain⟨rfl,rfl⟩:o2=o2'∧c2=c2':=by simpa using he
  refine(HPU.out _ d d o1 o2 k1 c1 c2 w' (HRZ.out.below hb1) h1 h2 HK.out (by have:=HD.out;omega)).mono ?_
  rintro e w2 ⟨oP,cP,rfl,ho,hb⟩
  exact⟨_,rfl,oP,cP,rfl,ho.mono hb1.size,Jo3 hb1 hb⟩
 rintro v ⟨gl2,w32,oP,cP,rfl,-⟩
 refine⟨.slice oP L.length cP,⟨rfl,fun _=>by kernel_rfl⟩,?_⟩
 refine⟨.int .i64 0,⟨rfl,fun _=>by kernel_rfl⟩,?_⟩
 refine⟨.slice oP L.length cP,⟨rfl,fun _=>by kernel_rfl⟩,?_⟩
 refine⟨.int .i64 0,⟨rfl,fun _=>by kernel_rfl⟩,?_⟩
 rintro y3 ⟨oP',cP',he,hoP,hb3⟩
 obtain⟨rfl,rfl⟩:oP=oP'∧cP=cP':=by simpa using he
 have HOP:=Jpa hoP
 have HB3:=Jpa hb3
 clear he gl0 gl1 gl2 w30 w31 w32 q0 q2 hk1 hk2 hoP hb3 hb04 hbs4 hbz hsz' hrz hlt hne hne0 hbs hr0 hS hT
 simp only[Act.put,List.setIfInBounds_toArray,List.set_cons_succ,List.set_cons_zero]
 go_wp2_with fail
 go_ret2
 exact⟨_,_,rfl,HOP.out.mono (Nat.le_trans HB.out.size HZ4.out.size),HB.out.trans ((HZ4.out.trans (HB3.out.mono HZ4.out.size)).mono HB.out.size)⟩
def JlX (n nx:Int)(A D:List Int):List Int:=Bits.be4 1610612736++be2 n++[nx,64]++A++D
theorem Jm2 (s:Sp):(Qt s.n.toNat).length=s.n.toNat:=by simp[Qt]
theorem JjF {s:Sp}(hs:s.k.s=false):XC s=Jdc ⟨0,20+((QR s).length:Int),0,false,false,0,64,s.k.p,Jn false s.k.S,Jn false s.k.T,[]⟩:=by
 unfold XC;rw[hs,if_neg (by decide)];rfl
theorem JjG {s:Sp}(hs:s.k.s=true):XC s=JlX ((QR s).length:Nat) s.k.p (Jn true s.k.S) (Jn true s.k.T):=by
 unfold XC;rw[hs,if_pos rfl];rfl
theorem JlY (h:IpH)(hA:h.src.length=4)(hD:h.dst.length=4)(ho:h.opt=[]):(Jdc h).length=20:=by
 unfold Jdc Qn
 simp[be2,hA,hD,ho]
theorem JkB (n nx:Int)(A D:List Int)(hA:A.length=16)(hD:D.length=16):(JlX n nx A D).length=40:=by
 simp[JlX,be2,Bits.be4,hA,hD]
theorem Jer {s:Sp}:(XC s).length=if s.k.s=true then 40 else 20:=by
 cases hs:s.k.s
 ·rw[JjF hs,JlY _ (J5 _ _) (J5 _ _) rfl];rfl
 ·rw[JjG hs,JkB _ _ _ _ (J5 _ _) (J5 _ _)];rfl
theorem Ji5 {s:Sp}(h:JdP s=true):Z6 s=2∧spL s=[]:=by
 have:Z6 s=2:=by unfold Z6;rw[if_pos h]
 exact⟨this,by unfold spL;rw[this];rfl⟩
theorem Jnj {s:Sp}(h:JdP s=false)(hn:2048<s.n):Z6 s=3∧spL s=[]:=by
 have:Z6 s=3:=by unfold Z6;rw[if_neg (by rw[h];decide),if_pos hn]
 exact⟨this,by unfold spL;rw[this];rfl⟩
theorem JlZ {s:Sp}(h:JdP s=false)(hn:¬2048<s.n)(hl:2048<(XC s++QR s).length):Z6 s=3∧spL s=[]:=by
 have:Z6 s=3:=by unfold Z6;rw[if_neg (by rw[h];decide),if_neg hn,if_pos hl]
 exact⟨this,by unfold spL;rw[this];rfl⟩
theorem Jl0 {s:Sp}(h:JdP s=false)(hn:¬2048<s.n)(hl:¬2048<(XC s++QR s).length):Z6 s=0∧spL s=XC s++QR s:=by
 have:Z6 s=0:=by unfold Z6;rw[if_neg (by rw[h];decide),if_neg hn,if_neg hl]
 exact⟨this,by unfold spL;rw[this];rfl⟩
theorem JjH (p a b f:Int)(d src dst:List Int):(JcW p a b f d src dst).length≤20+d.length:=by
 unfold JcW Jr
 split
 ·simp[be2];omega
 ·split
  ·simp[be2];omega
  ·simp[be2];omega
theorem JhY (p a b f:Int)(d src dst:List Int)(hp:¬(p=6∨p=17)→(0≤a∧a<256)∧(0≤b∧b<256))(hf:0≤f∧f<256)(hd:Jl d):Jl (JcW p a b f d src dst):=by
 unfold JcW Jr
 split
 ·refine Jj (Jj (Jj (Jj (Jj (JI _) (JI _)) ?_) (JI _)) ?_) hd
  ·intro v hv
   simp only[List.mem_cons,List.not_mem_nil,or_false] at hv
   rcases hv with rfl|rfl|rfl|rfl|rfl|rfl|rfl|rfl|rfl|rfl|rfl|rfl<;>first|exact hf|decide
  ·intro v hv
   simp only[List.mem_cons,List.not_mem_nil,or_false] at hv
   rcases hv with rfl|rfl<;>decide
 ·split
  ·exact Jj (Jj (Jj (Jj (JI _) (JI _)) (JI _)) (JI _)) hd
  ·rename_i h1 h2
   have:=hp (by omega)
   refine Jj (Jj ?_ (JI _)) hd
   intro v hv
   simp only[List.mem_cons,List.not_mem_nil,or_false] at hv
   rcases hv with rfl|rfl
   ·exact this.1
   ·exact this.2
theorem JaT (n:Nat):Jl (Qt n):=fun v hv=>by rw[(List.mem_replicate.1 hv).2];decide
theorem Jfr (s:Sp):(QR s).length≤20+s.n.toNat:=by
 unfold QR
 have hz:=Jm2 s
 simp only
 split
 ·have:=JjH s.k.p s.k.a s.k.b s.f (Qt s.n.toNat) (Jn s.k.s s.k.S) (Jn s.k.t s.k.T);omega
 ·split
  ·have:=JjH s.k.p (s.k.b/256) (s.k.b%256) 0 (Qt s.n.toNat) (Jn s.k.s s.k.S) (Jn s.k.t s.k.T);omega
  ·omega
theorem JbJ {s:Sp}(ho:Jmz s):Jl (QR s):=by
 unfold QR
 have hb:=ho.k.b
 simp only
 split
 ·rename_i h
  have h':s.k.p=6∨s.k.p=17:=by simpa[JO] using h
  exact JhY _ _ _ _ _ _ _ (fun h=>absurd h' h) ho.f (JaT _)
 ·split
  ·exact JhY _ _ _ _ _ _ _ (fun _=>⟨by omega,by omega⟩) (by decide) (JaT _)
  ·exact JaT _
theorem Ji6 {s:Sp}(ho:Jmz s):Jl (XC s):=by
 unfold XC
 have hp:=ho.k.p
 split
 ·unfold Jn7
  refine Jj (Jj (Jj (Jj (JlM _) (JI _)) ?_) (Qr ho.k.S _)) (Qr ho.k.T _)
  intro v hv
  simp only[List.mem_cons,List.not_mem_nil,or_false] at hv
  rcases hv with rfl|rfl
  ·exact hp
  ·decide
 ·unfold Jdc Qn Jnb
  refine Jj (Jj (Jj (Jj (Jj (Jj ?_ (JI _)) (JI _)) (JI _)) ?_) (JI _)) (Jj (Jj (Qr ho.k.S _) (Qr ho.k.T _)) (fun v hv=>by cases hv))
  ·intro v hv
   simp only[List.mem_cons,List.not_mem_nil,or_false,List.length_nil] at hv
   rcases hv with rfl|rfl<;>decide
  ·intro v hv
   simp only[List.mem_cons,List.not_mem_nil,or_false] at hv
   rcases hv with rfl|rfl
   ·decide
   ·exact hp
theorem JgG {s:Sp}(ho:Jmz s):Jl (spL s):=by
 unfold spL
 split
 ·exact Jj (Ji6 ho) (JbJ ho)
 ·intro v hv;cases hv
theorem ZD {w w':World}{err:Int}(h:Below w.heap.size w w'):Jw w [] err (.returned (.tuple #[Jpj,.int .i64 err])) w':=
 ⟨none,0,rfl,by simpa using JF.nil w' w.heap.size 1,h⟩
theorem Jc9 (p:Int)(w:World):Calls Tryz.prog 42 #[.agg #[.slice none 0 0,.int .u8 p]] w (Jh w (.bool (!JJ p))):=by
 have:=Jek 0 none 0 [] [] p w ⟨JF.nil _ _ _,rfl,fun i e x h=>by simp at h⟩ .nil (fun x hx=>by cases hx)
 rwa [show JE []=false from rfl,Bool.or_false] at this
theorem JhZ (s:Bool)(S:Nat→Int)(t:Bool)(T:Nat→Int)(p a b f:Int)(d:Nat)(hd:d≤2048)(hk:JnT ⟨s,S,t,T,p,a,b⟩)(hf:0≤f∧f<256)(hg:JdP ⟨⟨s,S,t,T,p,a,b⟩,f,d⟩=false)(w:World):
 Calls Tryz.prog 43 #[.agg (spC s S t T p a b f d)] w (Jw w (QR ⟨⟨s,S,t,T,p,a,b⟩,f,d⟩) 0):=by
 have hp:=hk.p
 have ha:=hk.a
 have hb:=hk.b
 simp only at hp ha hb
 unfold JdP at hg
 simp only[Bool.or_eq_false_iff,Bool.not_eq_false',Bool.and_eq_false_iff,bne_eq_false_iff_eq,decide_eq_false_iff_not] at hg
 obtain⟨hkr,-,hfl,-⟩:=hg
 unfold J9 at hkr
 simp only[Bool.and_eq_true,beq_iff_eq] at hkr
 obtain rfl:s=t:=hkr.2.2.1
 have hS:=hk.S
 have hT:=hk.T
 simp only at hS hT
 unfold QR
 simp only[Int.toNat_natCast]
 cases hip:JO p with
 |true=>
  rw[if_pos rfl]
  rcases(by simpa[JO] using hip:p=6∨p=17) with rfl|rfl
  ·exact Jeq s S T 6 a b f d hd hS hT hip (fun l=>JcW 6 a b f l (Jn s S) (Jn s T)) (fun oD n cD l o1 o2 k c1 c2 w h0 h1 h2 hk hn=>JmV a b f oD n cD l o1 o2 k c1 c2 _ _ w h0 h1 h2 hk hn ha hb hf) w
  ·obtain rfl:f=0:=by rcases hfl with h|h;exact h;cases h
   exact Jeq s S T 17 a b 0 d hd hS hT hip (fun l=>JcW 17 a b 0 l (Jn s S) (Jn s T)) (fun oD n cD l o1 o2 k c1 c2 w h0 h1 h2 hk hn=>JmU a b oD n cD l o1 o2 k c1 c2 _ _ w h0 h1 h2 hk hn ha hb) w
 |false=>
  rw[if_neg (by decide)]
  cases hii:JS p with
  |true=>
   rw[if_pos rfl]
   exact JkA s S T p a b f d hd hS hT hip hii hb w
  |false=>
   rw[if_neg (by decide)]
   exact Jkz s S T p a b f d hd hip hii w
theorem JkC (S:Nat→Int)(t:Bool)(T:Nat→Int)(p a b f d:Int)(ho:Jmz ⟨⟨false,S,t,T,p,a,b⟩,f,d⟩)(w:World):
 Calls Tryz.prog 15 #[.agg (spC false S t T p a b f d)] w (Jw w (spL ⟨⟨false,S,t,T,p,a,b⟩,f,d⟩) (Z6 ⟨⟨false,S,t,T,p,a,b⟩,f,d⟩)):=by
 have HK:Hid (JnT ⟨false,S,t,T,p,a,b⟩):=Jpa ho.k
 have HF:Hid (0≤f∧f<256):=Jpa ho.f
 have HOK:=Jpa ho
 have HR:Hid (∀w,Calls Tryz.prog 26 #[.agg (kyC false S t T p a b)] w (Jh w (.bool (J9 ⟨false,S,t,T,p,a,b⟩)))):=Jpa fun w=>Ja9 false S t T p a b w
 have HC:Hid (∀w,Calls Tryz.prog 42 #[.agg #[.slice none 0 0,.int .u8 p]] w (Jh w (.bool (!JJ p)))):=Jpa fun w=>Jc9 p w
 obtain⟨sp,hsp⟩:∃sp:Sp,sp=⟨⟨false,S,t,T,p,a,b⟩,f,d⟩:=⟨_,rfl⟩
 rw[←hsp]
 have HSP:=Jpa hsp
 obtain⟨r,hr⟩:∃r,J9 ⟨false,S,t,T,p,a,b⟩=r:=⟨_,rfl⟩
 obtain⟨bh,hbh⟩:∃r,JJ p=r:=⟨_,rfl⟩
 rw[hr] at HR
 rw[hbh] at HC
 have HBAD:Hid (JdP sp=(!r||((false&&bh)||((f != 0&&p != 6)||decide (d<0))))):=Jpa (by rw[hsp,←hr,←hbh];rfl)
 have hd0:=ho.n
 clear hr hbh ho hsp
 have hbx:=((Bx.start w).box (spC false S t T p a b f d) 47).box (kyC false S t T p a b) 30
 rw[show(w.alloc (.cells (spC false S t T p a b f d) 47)).heap.size=w.heap.size+1 by simp] at hbx
 have BX0:=Jpa hbx
 clear hbx
 unfold spC kyC at*
 go_enter Tryz.func15,Tryz.ntmps15
 go_wp2_with fail
 refine BX0.out.ret (HR.out _) ?_
 intro z1 hb1 BX1
 clear hb1 BX0
 cases r
 ·obtain⟨e1,e2⟩:=Ji5 (s:=sp) (by rw[HBAD.out];rfl)
  have HEE:=Jpa (And.intro e1 e2)
  clear e1 e2 hd0
  go_wp2_with fail
  go_ret2
  rw[HEE.out.1,HEE.out.2]
  exact ZD BX1.out.out
 have c37:z1.cell? ⟨w.heap.size,37,none⟩=some (.int .u8 f):=BX1.out.cell 1 37 rfl rfl
 have c38:z1.cell? ⟨w.heap.size,38,none⟩=some (.int .i64 d):=BX1.out.cell 1 38 rfl rfl
 have c34:z1.cell? ⟨w.heap.size+1,34,none⟩=some (.int .u8 p):=BX1.out.cell 0 34 rfl rfl
 have p39:Jf z1 w.heap.size 0 39=(JpI false t p (.int .u16 a) (.int .u16 b) f (.int .i64 d) S T:Array Value):=BX1.out.part 1 rfl rfl
 rcases(by cases h1:(f != 0)<;>cases h2:(p != 6)<;>simp:(f != 0)=false∨((f != 0)=true∧(p != 6)=false)∨((f != 0)=true∧(p != 6)=true)) with hq|⟨hq,hq2⟩|⟨hq,hq2⟩
 rotate_right
 ·obtain⟨e1,e2⟩:=Ji5 (s:=sp) (by rw[HBAD.out,hq,hq2];simp)
  have HEE:=Jpa (And.intro e1 e2)
  clear e1 e2 hd0
  go_wp2_with fail
  go_ret2
  rw[HEE.out.1,HEE.out.2]
  exact ZD BX1.out.out
 all_goals
  by_cases hdn:d<0
  ·have h2:decide (d<0)=true:=by simpa using hdn
   obtain⟨e1,e2⟩:=Ji5 (s:=sp) (by rw[HBAD.out,hq,h2];simp)
   have HEE:=Jpa (And.intro e1 e2)
   clear e1 e2 hd0 hdn
   go_wp2_with fail
   go_ret2
   rw[HEE.out.1,HEE.out.2]
   exact ZD BX1.out.out
  ·have h2:decide (d<0)=false:=by simpa using hdn
   have hg:JdP sp=false:=by rw[HBAD.out,h2];first|(rw[hq,hq2];rfl)|(rw[hq];rfl)
   by_cases hbig:2048<d
   ·have h3:decide (2048<d)=true:=by simpa using hbig
    obtain⟨e1,e2⟩:=Jnj (s:=sp) hg (by rw[HSP.out];exact hbig)
    have HEE:=Jpa (And.intro e1 e2)
    clear e1 e2 hd0 hdn hbig hg
    go_wp2_with fail
    go_ret2
    rw[HEE.out.1,HEE.out.2]
    exact ZD BX1.out.out
   ·have h3:decide (2048<d)=false:=by simpa using hbig
    have HG:=Jpa hg
    have HNB:Hid (¬2048<sp.n):=Jpa (by rw[HSP.out];exact hbig)
    obtain⟨dn,hdd⟩:=Int.eq_ofNat_of_zero_le (show 0≤d by omega)
    have hdl:dn≤2048:=by omega
    have HSG:Hid (∀w,Calls Tryz.prog 43 #[.agg #[.bool false,.int .u8 (S 0),.int .u8 (S 1),.int .u8 (S 2),.int .u8 (S 3),.int .u8 (S 4),.int .u8 (S 5),.int .u8 (S 6),.int .u8 (S 7),.int .u8 (S 8),.int .u8 (S 9),.int .u8 (S 10),.int .u8 (S 11),.int .u8 (S 12),.int .u8 (S 13),.int .u8 (S 14),.int .u8 (S 15),.bool t,.int .u8 (T 0),.int .u8 (T 1),.int .u8 (T 2),.int .u8 (T 3),.int .u8 (T 4),.int .u8 (T 5),.int .u8 (T 6),.int .u8 (T 7),.int .u8 (T 8),.int .u8 (T 9),.int .u8 (T 10),.int .u8 (T 11),.int .u8 (T 12),.int .u8 (T 13),.int .u8 (T 14),.int .u8 (T 15),.int .u8 p,.int .u16 a,.int .u16 b,.int .u8 f,.int .i64 d]] w (Jw w (QR sp) 0)):=Jpa (fun w=>by
     have:=JhZ false S t T p a b f dn hdl HK.out HF.out (by rw[←hdd,←HSP.out];exact hg) w
     rw[←hdd,←HSP.out] at this
     exact this)
    have hBl:(QR sp).length≤2068:=by have:=Jfr sp;rw[HSP.out] at this⊢;simp only at this;omega
    have hBb:Jl (QR sp):=JbJ (by rw[HSP.out];exact HOK.out)
    have HHD:Hid (∀w,Calls Tryz.prog 44 #[.agg #[.bool false,.int .u8 (S 0),.int .u8 (S 1),.int .u8 (S 2),.int .u8 (S 3),.int .u8 (S 4),.int .u8 (S 5),.int .u8 (S 6),.int .u8 (S 7),.int .u8 (S 8),.int .u8 (S 9),.int .u8 (S 10),.int .u8 (S 11),.int .u8 (S 12),.int .u8 (S 13),.int .u8 (S 14),.int .u8 (S 15),.bool t,.int .u8 (T 0),.int .u8 (T 1),.int .u8 (T 2),.int .u8 (T 3),.int .u8 (T 4),.int .u8 (T 5),.int .u8 (T 6),.int .u8 (T 7),.int .u8 (T 8),.int .u8 (T 9),.int .u8 (T 10),.int .u8 (T 11),.int .u8 (T 12),.int .u8 (T 13),.int .u8 (T 14),.int .u8 (T 15),.int .u8 p,.int .u16 a,.int .u16 b,.int .u8 f,.int .i64 d],.int .i64 ((QR sp).length:Nat)] w (Jw w (XC sp) 0)):=Jpa (fun w=>by
     have:=Ji4 S t T p a b f d (QR sp).length (by omega) HK.out.S HK.out.T HK.out.p w
     have hh:XC sp=_:=JjF (by rw[HSP.out])
     rw[hh]
     rw[HSP.out] at this⊢
     exact this)
    have hHl:(XC sp).length≤40:=by rw[Jer];split<;>omega
    have HLG:=Jpa (fun h=>JlZ (s:=sp) HG.out HNB.out h)
    have HGD:=Jpa (fun h=>Jl0 (s:=sp) HG.out HNB.out h)
    generalize QR sp=B at*
    generalize XC sp=H at*
    have HBB:=Jpa hBb
    obtain⟨nB,hnB⟩:∃n,B.length=n:=⟨_,rfl⟩
    obtain⟨nH,hnH⟩:∃n,H.length=n:=⟨_,rfl⟩
    unfold Jw at HSG HHD
    rw[hnB] at HSG HHD hBl
    rw[hnH] at HHD hHl
    have HNN:Hid (B.length=nB∧H.length=nH):=Jpa ⟨hnB,hnH⟩
    clear hg hbig hdn hd0 hdl hdd hBb hnB hnH
    go_wp2_with fail
    refine Jpc (HSG.out _) ?_
    rintro e z2 ⟨oB,cB,rfl,hoB,hb2⟩
    have BX2:=Jpa (BX1.out.go hb2)
    have HOB:=Jpa hoB
    have HRB:=Jpa (hoB.reads HBB.out)
    have HAB:=Jpa (fun a (h:oB=some a)=>(hoB.lt h).2)
    clear hoB hb2 BX1 c34 c37 c38 p39
    have q39:Jf z2 w.heap.size 0 39=(JpI false t p (.int .u16 a) (.int .u16 b) f (.int .i64 d) S T:Array Value):=BX2.out.part 1 rfl rfl
    go_wp2_with fail
    refine Jpc (HHD.out _) ?_
    rintro e z3 ⟨oH,cH,rfl,hoH,hb3⟩
    have BX3:=Jpa (BX2.out.go hb3)
    have HOH:=Jpa hoH
    have HRB3:=Jpa (HRB.out.below hb3)
    have HS3:=Jpa hb3.size
    have HZ2:=Jpa BX2.out.out.size
    clear hoH hb3 BX2 HRB HOB q39 HAB
    have hs1:IntKind.i64.wrap ((nH:Int)+(nB:Int))=(nH:Int)+(nB:Int):=by rw[IntKind.wrap_i64];omega
    by_cases hlong:2048<nH+nB
    ·have h4:decide ((2048:Int)<(nH:Int)+(nB:Int))=true:=by simpa using(by omega:(2048:Int)<(nH:Int)+(nB:Int))
     obtain⟨e1,e2⟩:=HLG.out (by rw[List.length_append,HNN.out.1,HNN.out.2];exact hlong)
     have HEE:=Jpa (And.intro e1 e2)
     clear e1 e2 hlong
     go_wp2_with fail
     go_ret2
     rw[HEE.out.1,HEE.out.2]
     exact ZD BX3.out.out
    ·have h4:decide ((2048:Int)<(nH:Int)+(nB:Int))=false:=by simpa using(by omega:¬(2048:Int)<(nH:Int)+(nB:Int))
     obtain⟨e1,e2⟩:=HGD.out (by rw[List.length_append,HNN.out.1,HNN.out.2];exact hlong)
     have HEE:=Jpa (And.intro e1 e2)
     clear e1 e2
     have HL:Hid (nH+nB≤2048):=Jpa (by omega)
     clear hlong hBl hHl
     go_wp2_with (at_builtin;refine Jt.of ?_)
     refine Jt.mk ?_
     refine JH _ rfl _ _ 22 rfl 5 z2.heap.size Tryz.underlying22 Bits.infoU8 oH nH cH _ rfl HOH.out oB nB cB B rfl HRB3.out (by have:=HL.out;omega) HS3.out ?_
     intro oa' cap' w' ho' hg' hd'
     have HB':=Jpa (Jo1 (BX3.out.out) (HOH.out.mono HZ2.out) (Jpf _) hg' (Nat.le_trans HZ2.out HS3.out))
     rw[←List.map_append] at ho'
     have HO':=Jpa ho'
     clear ho' hg' hd'
     go_wp2_with fail
     go_ret2
     rw[HEE.out.1,HEE.out.2]
     exact⟨oa',cap',by rw[List.length_append,HNN.out.1,HNN.out.2];rfl,by rw[List.length_append,HNN.out.1,HNN.out.2];exact HO'.out.mono HZ2.out,HB'.out⟩
theorem Jl1 (S:Nat→Int)(t:Bool)(T:Nat→Int)(p a b f d:Int)(ho:Jmz ⟨⟨true,S,t,T,p,a,b⟩,f,d⟩)(w:World):
 Calls Tryz.prog 15 #[.agg (spC true S t T p a b f d)] w (Jw w (spL ⟨⟨true,S,t,T,p,a,b⟩,f,d⟩) (Z6 ⟨⟨true,S,t,T,p,a,b⟩,f,d⟩)):=by
 have HK:Hid (JnT ⟨true,S,t,T,p,a,b⟩):=Jpa ho.k
 have HF:Hid (0≤f∧f<256):=Jpa ho.f
 have HOK:=Jpa ho
 have HR:Hid (∀w,Calls Tryz.prog 26 #[.agg (kyC true S t T p a b)] w (Jh w (.bool (J9 ⟨true,S,t,T,p,a,b⟩)))):=Jpa fun w=>Ja9 true S t T p a b w
 have HC:Hid (∀w,Calls Tryz.prog 42 #[.agg #[.slice none 0 0,.int .u8 p]] w (Jh w (.bool (!JJ p)))):=Jpa fun w=>Jc9 p w
 obtain⟨sp,hsp⟩:∃sp:Sp,sp=⟨⟨true,S,t,T,p,a,b⟩,f,d⟩:=⟨_,rfl⟩
 rw[←hsp]
 have HSP:=Jpa hsp
 obtain⟨r,hr⟩:∃r,J9 ⟨true,S,t,T,p,a,b⟩=r:=⟨_,rfl⟩
 obtain⟨bh,hbh⟩:∃r,JJ p=r:=⟨_,rfl⟩
 rw[hr] at HR
 rw[hbh] at HC
 have HBAD:Hid (JdP sp=(!r||((true&&bh)||((f != 0&&p != 6)||decide (d<0))))):=Jpa (by rw[hsp,←hr,←hbh];rfl)
 have hd0:=ho.n
 clear hr hbh ho hsp
 have hbx:=((Bx.start w).box (spC true S t T p a b f d) 47).box (kyC true S t T p a b) 30
 rw[show(w.alloc (.cells (spC true S t T p a b f d) 47)).heap.size=w.heap.size+1 by simp] at hbx
 have BX0:=Jpa hbx
 clear hbx
 unfold spC kyC at*
 go_enter Tryz.func15,Tryz.ntmps15
 go_wp2_with fail
 refine BX0.out.ret (HC.out _) ?_
 intro z0 hb0 BXA
 clear hb0 BX0
 have p37:Jf z0 (w.heap.size+1) 0 37=(JpD true t p (.int .u16 a) (.int .u16 b) S T:Array Value):=BXA.out.part 0 rfl rfl
 cases bh
 rotate_left
 ·obtain⟨e1,e2⟩:=Ji5 (s:=sp) (by rw[HBAD.out];cases r<;>rfl)
  have HEE:=Jpa (And.intro e1 e2)
  clear e1 e2 hd0
  go_wp2_with fail
  refine BXA.out.ret (HR.out _) ?_
  intro z1 hb1 BX1
  clear hb1 BXA p37
  cases r
  all_goals
   go_wp2_with fail
   go_ret2
   rw[HEE.out.1,HEE.out.2]
   exact ZD BX1.out.out
 go_wp2_with fail
 refine BXA.out.ret (HR.out _) ?_
 intro z1 hb1 BX1
 clear hb1 BXA p37
 cases r
 ·obtain⟨e1,e2⟩:=Ji5 (s:=sp) (by rw[HBAD.out];rfl)
  have HEE:=Jpa (And.intro e1 e2)
  clear e1 e2 hd0
  go_wp2_with fail
  go_ret2
  rw[HEE.out.1,HEE.out.2]
  exact ZD BX1.out.out
 have c37:z1.cell? ⟨w.heap.size,37,none⟩=some (.int .u8 f):=BX1.out.cell 1 37 rfl rfl
 have c38:z1.cell? ⟨w.heap.size,38,none⟩=some (.int .i64 d):=BX1.out.cell 1 38 rfl rfl
 have c34:z1.cell? ⟨w.heap.size+1,34,none⟩=some (.int .u8 p):=BX1.out.cell 0 34 rfl rfl
 have p39:Jf z1 w.heap.size 0 39=(JpI true t p (.int .u16 a) (.int .u16 b) f (.int .i64 d) S T:Array Value):=BX1.out.part 1 rfl rfl
 rcases(by cases h1:(f != 0)<;>cases h2:(p != 6)<;>simp:(f != 0)=false∨((f != 0)=true∧(p != 6)=false)∨((f != 0)=true∧(p != 6)=true)) with hq|⟨hq,hq2⟩|⟨hq,hq2⟩
 rotate_right
 ·obtain⟨e1,e2⟩:=Ji5 (s:=sp) (by rw[HBAD.out,hq,hq2];simp)
  have HEE:=Jpa (And.intro e1 e2)
  clear e1 e2 hd0
  go_wp2_with fail
  go_ret2
  rw[HEE.out.1,HEE.out.2]
  exact ZD BX1.out.out
 all_goals
  by_cases hdn:d<0
  ·have h2:decide (d<0)=true:=by simpa using hdn
   obtain⟨e1,e2⟩:=Ji5 (s:=sp) (by rw[HBAD.out,hq,h2];simp)
   have HEE:=Jpa (And.intro e1 e2)
   clear e1 e2 hd0 hdn
   go_wp2_with fail
   go_ret2
   rw[HEE.out.1,HEE.out.2]
   exact ZD BX1.out.out
  ·have h2:decide (d<0)=false:=by simpa using hdn
   have hg:JdP sp=false:=by rw[HBAD.out,h2];first|(rw[hq,hq2];rfl)|(rw[hq];rfl)
   by_cases hbig:2048<d
   ·have h3:decide (2048<d)=true:=by simpa using hbig
    obtain⟨e1,e2⟩:=Jnj (s:=sp) hg (by rw[HSP.out];exact hbig)
    have HEE:=Jpa (And.intro e1 e2)
    clear e1 e2 hd0 hdn hbig hg
    go_wp2_with fail
    go_ret2
    rw[HEE.out.1,HEE.out.2]
    exact ZD BX1.out.out
   ·have h3:decide (2048<d)=false:=by simpa using hbig
    have HG:=Jpa hg
    have HNB:Hid (¬2048<sp.n):=Jpa (by rw[HSP.out];exact hbig)
    obtain⟨dn,hdd⟩:=Int.eq_ofNat_of_zero_le (show 0≤d by omega)
    have hdl:dn≤2048:=by omega
    have HSG:Hid (∀w,Calls Tryz.prog 43 #[.agg #[.bool true,.int .u8 (S 0),.int .u8 (S 1),.int .u8 (S 2),.int .u8 (S 3),.int .u8 (S 4),.int .u8 (S 5),.int .u8 (S 6),.int .u8 (S 7),.int .u8 (S 8),.int .u8 (S 9),.int .u8 (S 10),.int .u8 (S 11),.int .u8 (S 12),.int .u8 (S 13),.int .u8 (S 14),.int .u8 (S 15),.bool t,.int .u8 (T 0),.int .u8 (T 1),.int .u8 (T 2),.int .u8 (T 3),.int .u8 (T 4),.int .u8 (T 5),.int .u8 (T 6),.int .u8 (T 7),.int .u8 (T 8),.int .u8 (T 9),.int .u8 (T 10),.int .u8 (T 11),.int .u8 (T 12),.int .u8 (T 13),.int .u8 (T 14),.int .u8 (T 15),.int .u8 p,.int .u16 a,.int .u16 b,.int .u8 f,.int .i64 d]] w (Jw w (QR sp) 0)):=Jpa (fun w=>by
     have:=JhZ true S t T p a b f dn hdl HK.out HF.out (by rw[←hdd,←HSP.out];exact hg) w
     rw[←hdd,←HSP.out] at this
     exact this)
    have hBl:(QR sp).length≤2068:=by have:=Jfr sp;rw[HSP.out] at this⊢;simp only at this;omega
    have hBb:Jl (QR sp):=JbJ (by rw[HSP.out];exact HOK.out)
    have HHD:Hid (∀w,Calls Tryz.prog 44 #[.agg #[.bool true,.int .u8 (S 0),.int .u8 (S 1),.int .u8 (S 2),.int .u8 (S 3),.int .u8 (S 4),.int .u8 (S 5),.int .u8 (S 6),.int .u8 (S 7),.int .u8 (S 8),.int .u8 (S 9),.int .u8 (S 10),.int .u8 (S 11),.int .u8 (S 12),.int .u8 (S 13),.int .u8 (S 14),.int .u8 (S 15),.bool t,.int .u8 (T 0),.int .u8 (T 1),.int .u8 (T 2),.int .u8 (T 3),.int .u8 (T 4),.int .u8 (T 5),.int .u8 (T 6),.int .u8 (T 7),.int .u8 (T 8),.int .u8 (T 9),.int .u8 (T 10),.int .u8 (T 11),.int .u8 (T 12),.int .u8 (T 13),.int .u8 (T 14),.int .u8 (T 15),.int .u8 p,.int .u16 a,.int .u16 b,.int .u8 f,.int .i64 d],.int .i64 ((QR sp).length:Nat)] w (Jw w (XC sp) 0)):=Jpa (fun w=>by
     have:=Jkx S t T p a b f d (QR sp).length (by omega) HK.out.S HK.out.T HK.out.p w
     have hh:XC sp=_:=JjG (by rw[HSP.out])
     rw[hh]
     rw[HSP.out] at this⊢
     exact this)
    have hHl:(XC sp).length≤40:=by rw[Jer];split<;>omega
    have HLG:=Jpa (fun h=>JlZ (s:=sp) HG.out HNB.out h)
    have HGD:=Jpa (fun h=>Jl0 (s:=sp) HG.out HNB.out h)
    generalize QR sp=B at*
    generalize XC sp=H at*
    have HBB:=Jpa hBb
    obtain⟨nB,hnB⟩:∃n,B.length=n:=⟨_,rfl⟩
    obtain⟨nH,hnH⟩:∃n,H.length=n:=⟨_,rfl⟩
    unfold Jw at HSG HHD
    rw[hnB] at HSG HHD hBl
    rw[hnH] at HHD hHl
    have HNN:Hid (B.length=nB∧H.length=nH):=Jpa ⟨hnB,hnH⟩
    clear hg hbig hdn hd0 hdl hdd hBb hnB hnH
    go_wp2_with fail
    refine Jpc (HSG.out _) ?_
    rintro e z2 ⟨oB,cB,rfl,hoB,hb2⟩
    have BX2:=Jpa (BX1.out.go hb2)
    have HOB:=Jpa hoB
    have HRB:=Jpa (hoB.reads HBB.out)
    have HAB:=Jpa (fun a (h:oB=some a)=>(hoB.lt h).2)
    clear hoB hb2 BX1 c34 c37 c38 p39
    have q39:Jf z2 w.heap.size 0 39=(JpI true t p (.int .u16 a) (.int .u16 b) f (.int .i64 d) S T:Array Value):=BX2.out.part 1 rfl rfl
    go_wp2_with fail
    refine Jpc (HHD.out _) ?_
    rintro e z3 ⟨oH,cH,rfl,hoH,hb3⟩
    have BX3:=Jpa (BX2.out.go hb3)
    have HOH:=Jpa hoH
    have HRB3:=Jpa (HRB.out.below hb3)
    have HS3:=Jpa hb3.size
    have HZ2:=Jpa BX2.out.out.size
    clear hoH hb3 BX2 HRB HOB q39 HAB
    have hs1:IntKind.i64.wrap ((nH:Int)+(nB:Int))=(nH:Int)+(nB:Int):=by rw[IntKind.wrap_i64];omega
    by_cases hlong:2048<nH+nB
    ·have h4:decide ((2048:Int)<(nH:Int)+(nB:Int))=true:=by simpa using(by omega:(2048:Int)<(nH:Int)+(nB:Int))
     obtain⟨e1,e2⟩:=HLG.out (by rw[List.length_append,HNN.out.1,HNN.out.2];exact hlong)
     have HEE:=Jpa (And.intro e1 e2)
     clear e1 e2 hlong
     go_wp2_with fail
     go_ret2
     rw[HEE.out.1,HEE.out.2]
     exact ZD BX3.out.out
    ·have h4:decide ((2048:Int)<(nH:Int)+(nB:Int))=false:=by simpa using(by omega:¬(2048:Int)<(nH:Int)+(nB:Int))
     obtain⟨e1,e2⟩:=HGD.out (by rw[List.length_append,HNN.out.1,HNN.out.2];exact hlong)
     have HEE:=Jpa (And.intro e1 e2)
     clear e1 e2
     have HL:Hid (nH+nB≤2048):=Jpa (by omega)
     clear hlong hBl hHl
     go_wp2_with (at_builtin;refine Jt.of ?_)
     refine Jt.mk ?_
     refine JH _ rfl _ _ 22 rfl 5 z2.heap.size Tryz.underlying22 Bits.infoU8 oH nH cH _ rfl HOH.out oB nB cB B rfl HRB3.out (by have:=HL.out;omega) HS3.out ?_
     intro oa' cap' w' ho' hg' hd'
     have HB':=Jpa (Jo1 (BX3.out.out) (HOH.out.mono HZ2.out) (Jpf _) hg' (Nat.le_trans HZ2.out HS3.out))
     rw[←List.map_append] at ho'
     have HO':=Jpa ho'
     clear ho' hg' hd'
     go_wp2_with fail
     go_ret2
     rw[HEE.out.1,HEE.out.2]
     exact⟨oa',cap',by rw[List.length_append,HNN.out.1,HNN.out.2];rfl,by rw[List.length_append,HNN.out.1,HNN.out.2];exact HO'.out.mono HZ2.out,HB'.out⟩
theorem Jes (s:Sp)(ho:Jmz s)(w:World):Calls Tryz.prog 15 #[.agg (spV s)] w (Jw w (spL s) (Z6 s)):=by
 obtain⟨⟨s,S,t,T,p,a,b⟩,f,d⟩:=s
 cases s
 ·exact JkC S t T p a b f d ho w
 ·exact Jl1 S t T p a b f d ho w
open Go.RowKit Bits
def JbK (w:World)(b:Nat)(cs:Array Value)(err:Int):Ending→World→Prop:=fun e w'=>e=.returned (.int .i64 err)∧w'.heap[b]? =some (.cells cs 85 (0,0))∧Below b w w'∧∀i,i≠b→i<w.heap.size→w'.heap[i]? =w.heap[i]?
theorem Jh0 (b:Nat)(s6 d6:Bool)(S D:Nat→Int)(p sp dp ln fl:Int)(fr mo:Bool)(oa:Option Addr)(n cap:Nat)(w:World)(v err:Int)(hp:JS p=true)(hv:0≤v∧v<65536)
 (hx:w.heap[b]? =some (.cells (Jps s6 d6 p (.int .u16 sp) (.int .u16 dp) (.int .i64 ln) fl fr (.slice oa n cap) mo S D) 85 (0,0)))
 (hg:∀x:Jz w,Calls Tryz.prog 81 #[.slice oa n cap,.int .i64 0,.int .i64 2] x.world (Jh x.world (.tuple #[.int .u64 v,.int .i64 err]))):
 Calls Tryz.prog 37 #[.pointer (some ⟨b,0,none⟩)] w (JbK w b (Jps s6 d6 p (.int .u16 sp) (.int .u16 v) (.int .i64 ln) fl fr (.slice oa n cap) mo S D) err):=by
 have HX:=Jpa hx
 have HG:=Jpa (hg ⟨w,Jpd _ _⟩)
 have hbl:b<w.heap.size:=(Jpb hx).1
 have hc40:w.cell? ⟨b,40,none⟩=some (.slice oa n cap):=cell_of_row _ _ 40 _ _ (0,0) hx
 have HI:Hid (∀w',Calls Tryz.prog 36 #[p] w' (Jh w' (.bool true))):=Jpa (fun w'=>by rw[←hp];exact QZ p w')
 clear hx hg hp
 go_enter Tryz.func37,Tryz.ntmps37
 go_wp2_with fail
 refine Jpc HG.out ?_
 rintro e w1 ⟨rfl,hb⟩
 have HX1:=Jpa ((hb.block b hbl).trans HX.out)
 have HB1:=Jpa hb
 have hc34:w1.cell? ⟨b,34,none⟩=some (.int .u8 p):=cell_of_row _ _ 34 _ _ (0,0) HX1.out
 clear hb hc40
 go_wp2_with fail
 refine Jpc (HI.out w1) ?_
 rintro e w2 ⟨rfl,hb⟩
 have HX2:=Jpa ((hb.block b (Jpb HX1.out).1).trans HX1.out)
 have HB2:=Jpa (Jo3 HB1.out hb)
 have hc36:w2.cell? ⟨b,36,none⟩=some (.int .u16 dp):=cell_of_row _ _ 36 _ _ (0,0) HX2.out
 have hf36:=frozen_of_row _ _ 36 _ _ HX2.out
 clear hb hc34
 go_wp2_with fail
 go_ret
 exact⟨rfl,(heap_setCell_same _ b 36 (Jps s6 d6 p (.int .u16 sp) (.int .u16 dp) (.int .i64 ln) fl fr (.slice oa n cap) mo S D) _ _ HX2.out).trans rfl,(HB2.out.mono (Nat.le_of_lt hbl)).setCell (Jpf _) _,fun i hi hl=>(Below.heap_setCell _ _ _ _ hi).trans (HB2.out.block i hl)⟩
open Go.RowKit Bits
theorem Jm3 (b:Nat)(s6 d6:Bool)(S D:Nat→Int)(p sp dp ln fl:Int)(fr mo:Bool)(oa:Option Addr)(n cap:Nat)(w:World)(v e0 u err:Int)(hp:JS p=false)(h6:p≠6)(hu:0≤u∧u<65536)(hv:0≤v∧v<65536)
 (hx:w.heap[b]? =some (.cells (Jps s6 d6 p (.int .u16 sp) (.int .u16 dp) (.int .i64 ln) fl fr (.slice oa n cap) mo S D) 85 (0,0)))
 (hg:∀x:Jz w,Calls Tryz.prog 81 #[.slice oa n cap,.int .i64 0,.int .i64 2] x.world (Jh x.world (.tuple #[.int .u64 v,.int .i64 e0])))
 (hg2:∀x:Jz w,Calls Tryz.prog 81 #[.slice oa n cap,.int .i64 2,.int .i64 2] x.world (Jh x.world (.tuple #[.int .u64 u,.int .i64 err]))):
 Calls Tryz.prog 37 #[.pointer (some ⟨b,0,none⟩)] w (JbK w b (Jps s6 d6 p (.int .u16 v) (.int .u16 u) (.int .i64 ln) fl fr (.slice oa n cap) mo S D) err):=by
 have HX:=Jpa hx
 have HG:=Jpa (hg ⟨w,Jpd _ _⟩)
 have hbl:b<w.heap.size:=(Jpb hx).1
 have hc40:w.cell? ⟨b,40,none⟩=some (.slice oa n cap):=cell_of_row _ _ 40 _ _ (0,0) hx
 have HI:Hid (∀w',Calls Tryz.prog 36 #[p] w' (Jh w' (.bool false))):=Jpa (fun w'=>by rw[←hp];exact QZ p w')
 have HG2:=Jpa hg2
 have h6b:(p==6)=false:=by simpa using h6
 have h6d:decide (p=6)=false:=by simpa using h6
 clear hx hg hp hg2
 go_enter Tryz.func37,Tryz.ntmps37
 go_wp2_with fail
 refine Jpc HG.out ?_
 rintro e w1 ⟨rfl,hb⟩
 have HX1:=Jpa ((hb.block b hbl).trans HX.out)
 have HB1:=Jpa hb
 have hc34:w1.cell? ⟨b,34,none⟩=some (.int .u8 p):=cell_of_row _ _ 34 _ _ (0,0) HX1.out
 clear hb hc40
 go_wp2_with fail
 refine Jpc (HI.out w1) ?_
 rintro e w2 ⟨rfl,hb⟩
 have HX2:=Jpa ((hb.block b (Jpb HX1.out).1).trans HX1.out)
 have HB2:=Jpa (Jo3 HB1.out hb)
 have hc40:w2.cell? ⟨b,40,none⟩=some (.slice oa n cap):=cell_of_row _ _ 40 _ _ (0,0) HX2.out
 clear hb hc34
 go_wp2_with fail
 refine Jpc (HG2.out ⟨w2,HB2.out⟩) ?_
 rintro e w3 ⟨rfl,hb⟩
 have HX3:=Jpa ((hb.block b (Jpb HX2.out).1).trans HX2.out)
 have HB3:=Jpa (Jo3 HB2.out hb)
 have hc35:w3.cell? ⟨b,35,none⟩=some (.int .u16 sp):=cell_of_row _ _ 35 _ _ (0,0) HX3.out
 have hc36:w3.cell? ⟨b,36,none⟩=some (.int .u16 dp):=cell_of_row _ _ 36 _ _ (0,0) HX3.out
 have hf35:=frozen_of_row _ _ 35 _ _ HX3.out
 have hf36:=frozen_of_row _ _ 36 _ _ HX3.out
 have hc34:w3.cell? ⟨b,34,none⟩=some (.int .u8 p):=cell_of_row _ _ 34 _ _ (0,0) HX3.out
 clear hb hc40
 go_wp2_with fail
 go_ret
 have q1:(w3.setCell ⟨b,35,none⟩ (.int .u16 v)).heap[b]? =some (.cells (Jps s6 d6 p (.int .u16 v) (.int .u16 dp) (.int .i64 ln) fl fr (.slice oa n cap) mo S D) 85 (0,0)):=(heap_setCell_same _ b 35 (Jps s6 d6 p (.int .u16 sp) (.int .u16 dp) (.int .i64 ln) fl fr (.slice oa n cap) mo S D) _ _ HX3.out).trans rfl
 exact⟨rfl,(heap_setCell_same _ b 36 (Jps s6 d6 p (.int .u16 v) (.int .u16 dp) (.int .i64 ln) fl fr (.slice oa n cap) mo S D) _ _ q1).trans rfl,((HB3.out.mono (Nat.le_of_lt hbl)).setCell (Jpf _) _).setCell (Jpf _) _,fun i hi hl=>(Below.heap_setCell _ _ _ _ hi).trans ((Below.heap_setCell _ _ _ _ hi).trans (HB3.out.block i hl))⟩
open Go.RowKit Bits
theorem JeX (b:Nat)(s6 d6:Bool)(S D:Nat→Int)(sp dp ln fl:Int)(fr mo:Bool)(oa:Option Addr)(n cap:Nat)(w:World)(v e0 u err:Int)(h14:n<14)(hu:0≤u∧u<65536)(hv:0≤v∧v<65536)
 (hx:w.heap[b]? =some (.cells (Jps s6 d6 (6:Int) (.int .u16 sp) (.int .u16 dp) (.int .i64 ln) fl fr (.slice oa n cap) mo S D) 85 (0,0)))
 (hg:∀x:Jz w,Calls Tryz.prog 81 #[.slice oa n cap,.int .i64 0,.int .i64 2] x.world (Jh x.world (.tuple #[.int .u64 v,.int .i64 e0])))
 (hg2:∀x:Jz w,Calls Tryz.prog 81 #[.slice oa n cap,.int .i64 2,.int .i64 2] x.world (Jh x.world (.tuple #[.int .u64 u,.int .i64 err]))):
 Calls Tryz.prog 37 #[.pointer (some ⟨b,0,none⟩)] w (JbK w b (Jps s6 d6 (6:Int) (.int .u16 v) (.int .u16 u) (.int .i64 ln) fl fr (.slice oa n cap) mo S D) err):=by
 have HX:=Jpa hx
 have HG:=Jpa (hg ⟨w,Jpd _ _⟩)
 have hbl:b<w.heap.size:=(Jpb hx).1
 have hc40:w.cell? ⟨b,40,none⟩=some (.slice oa n cap):=cell_of_row _ _ 40 _ _ (0,0) hx
 have HI:Hid (∀w',Calls Tryz.prog 36 #[(6:Int)] w' (Jh w' (.bool false))):=Jpa (fun w'=>QZ 6 w')
 have HG2:=Jpa hg2
 have hn14:decide ((n:Int)≥14)=false:=by simp;omega
 clear hx hg hg2
 go_enter Tryz.func37,Tryz.ntmps37
 go_wp2_with fail
 refine Jpc HG.out ?_
 rintro e w1 ⟨rfl,hb⟩
 have HX1:=Jpa ((hb.block b hbl).trans HX.out)
 have HB1:=Jpa hb
 have hc34:w1.cell? ⟨b,34,none⟩=some (.int .u8 6):=cell_of_row _ _ 34 _ _ (0,0) HX1.out
 clear hb hc40
 go_wp2_with fail
 refine Jpc (HI.out w1) ?_
 rintro e w2 ⟨rfl,hb⟩
 have HX2:=Jpa ((hb.block b (Jpb HX1.out).1).trans HX1.out)
 have HB2:=Jpa (Jo3 HB1.out hb)
 have hc40:w2.cell? ⟨b,40,none⟩=some (.slice oa n cap):=cell_of_row _ _ 40 _ _ (0,0) HX2.out
 clear hb hc34
 go_wp2_with fail
 refine Jpc (HG2.out ⟨w2,HB2.out⟩) ?_
 rintro e w3 ⟨rfl,hb⟩
 have HX3:=Jpa ((hb.block b (Jpb HX2.out).1).trans HX2.out)
 have HB3:=Jpa (Jo3 HB2.out hb)
 have hc35:w3.cell? ⟨b,35,none⟩=some (.int .u16 sp):=cell_of_row _ _ 35 _ _ (0,0) HX3.out
 have hc36:w3.cell? ⟨b,36,none⟩=some (.int .u16 dp):=cell_of_row _ _ 36 _ _ (0,0) HX3.out
 have hf35:=frozen_of_row _ _ 35 _ _ HX3.out
 have hf36:=frozen_of_row _ _ 36 _ _ HX3.out
 have hc40:w3.cell? ⟨b,40,none⟩=some (.slice oa n cap):=cell_of_row _ _ 40 _ _ (0,0) HX3.out
 have hc34:w3.cell? ⟨b,34,none⟩=some (.int .u8 6):=cell_of_row _ _ 34 _ _ (0,0) HX3.out
 clear hb
 go_wp2_with fail
 go_ret
 have q1:(w3.setCell ⟨b,35,none⟩ (.int .u16 v)).heap[b]? =some (.cells (Jps s6 d6 (6:Int) (.int .u16 v) (.int .u16 dp) (.int .i64 ln) fl fr (.slice oa n cap) mo S D) 85 (0,0)):=(heap_setCell_same _ b 35 (Jps s6 d6 (6:Int) (.int .u16 sp) (.int .u16 dp) (.int .i64 ln) fl fr (.slice oa n cap) mo S D) _ _ HX3.out).trans rfl
 exact⟨rfl,(heap_setCell_same _ b 36 (Jps s6 d6 (6:Int) (.int .u16 v) (.int .u16 dp) (.int .i64 ln) fl fr (.slice oa n cap) mo S D) _ _ q1).trans rfl,((HB3.out.mono (Nat.le_of_lt hbl)).setCell (Jpf _) _).setCell (Jpf _) _,fun i hi hl=>(Below.heap_setCell _ _ _ _ hi).trans ((Below.heap_setCell _ _ _ _ hi).trans (HB3.out.block i hl))⟩
open Go.RowKit Bits
theorem JgH (b:Nat)(s6 d6:Bool)(S D:Nat→Int)(sp dp ln fl:Int)(fr mo:Bool)(g off n cap:Nat)(w:World)(v e0 u err:Int)(h14:14≤n)(fb:Int)(hfb:w.cell? ⟨g,off+13,none⟩=some (.int .u8 fb))(hgb:g≠b)(hgl:g<w.heap.size)(hu:0≤u∧u<65536)(hv:0≤v∧v<65536)
 (hx:w.heap[b]? =some (.cells (Jps s6 d6 (6:Int) (.int .u16 sp) (.int .u16 dp) (.int .i64 ln) fl fr (.slice (some ⟨g,off,none⟩) n cap) mo S D) 85 (0,0)))
 (hg:∀x:Jz w,Calls Tryz.prog 81 #[.slice (some ⟨g,off,none⟩) n cap,.int .i64 0,.int .i64 2] x.world (Jh x.world (.tuple #[.int .u64 v,.int .i64 e0])))
 (hg2:∀x:Jz w,Calls Tryz.prog 81 #[.slice (some ⟨g,off,none⟩) n cap,.int .i64 2,.int .i64 2] x.world (Jh x.world (.tuple #[.int .u64 u,.int .i64 err]))):
 Calls Tryz.prog 37 #[.pointer (some ⟨b,0,none⟩)] w (JbK w b (Jps s6 d6 (6:Int) (.int .u16 v) (.int .u16 u) (.int .i64 ln) fb fr (.slice (some ⟨g,off,none⟩) n cap) mo S D) err):=by
 have HX:=Jpa hx
 have HG:=Jpa (hg ⟨w,Jpd _ _⟩)
 have hbl:b<w.heap.size:=(Jpb hx).1
 have hc40:w.cell? ⟨b,40,none⟩=some (.slice (some ⟨g,off,none⟩) n cap):=cell_of_row _ _ 40 _ _ (0,0) hx
 have HI:Hid (∀w',Calls Tryz.prog 36 #[(6:Int)] w' (Jh w' (.bool false))):=Jpa (fun w'=>QZ 6 w')
 have HG2:=Jpa hg2
 have HFB:=Jpa hfb
 have hn14:decide ((n:Int)≥14)=true:=by simp;omega
 clear hx hg hg2 hfb
 go_enter Tryz.func37,Tryz.ntmps37
 go_wp2_with fail
 refine Jpc HG.out ?_
 rintro e w1 ⟨rfl,hb⟩
 have HX1:=Jpa ((hb.block b hbl).trans HX.out)
 have HB1:=Jpa hb
 have hc34:w1.cell? ⟨b,34,none⟩=some (.int .u8 6):=cell_of_row _ _ 34 _ _ (0,0) HX1.out
 clear hb hc40
 go_wp2_with fail
 refine Jpc (HI.out w1) ?_
 rintro e w2 ⟨rfl,hb⟩
 have HX2:=Jpa ((hb.block b (Jpb HX1.out).1).trans HX1.out)
 have HB2:=Jpa (Jo3 HB1.out hb)
 have hc40:w2.cell? ⟨b,40,none⟩=some (.slice (some ⟨g,off,none⟩) n cap):=cell_of_row _ _ 40 _ _ (0,0) HX2.out
 clear hb hc34
 go_wp2_with fail
 refine Jpc (HG2.out ⟨w2,HB2.out⟩) ?_
 rintro e w3 ⟨rfl,hb⟩
 have HX3:=Jpa ((hb.block b (Jpb HX2.out).1).trans HX2.out)
 have HB3:=Jpa (Jo3 HB2.out hb)
 have hc35:w3.cell? ⟨b,35,none⟩=some (.int .u16 sp):=cell_of_row _ _ 35 _ _ (0,0) HX3.out
 have hc36:w3.cell? ⟨b,36,none⟩=some (.int .u16 dp):=cell_of_row _ _ 36 _ _ (0,0) HX3.out
 have hf35:=frozen_of_row _ _ 35 _ _ HX3.out
 have hf36:=frozen_of_row _ _ 36 _ _ HX3.out
 have hc40:w3.cell? ⟨b,40,none⟩=some (.slice (some ⟨g,off,none⟩) n cap):=cell_of_row _ _ 40 _ _ (0,0) HX3.out
 have hc34:w3.cell? ⟨b,34,none⟩=some (.int .u8 6):=cell_of_row _ _ 34 _ _ (0,0) HX3.out
 have hc38:w3.cell? ⟨b,38,none⟩=some (.int .u8 fl):=cell_of_row _ _ 38 _ _ (0,0) HX3.out
 have hf38:=frozen_of_row _ _ 38 _ _ HX3.out
 have hcg:w3.cell? ⟨g,off+13,none⟩=some (.int .u8 fb):=(Je HB3.out hgl _ rfl).trans HFB.out
 clear hb
 go_wp2_with fail
 go_ret
 have q1:(w3.setCell ⟨b,35,none⟩ (.int .u16 v)).heap[b]? =some (.cells (Jps s6 d6 (6:Int) (.int .u16 v) (.int .u16 dp) (.int .i64 ln) fl fr (.slice (some ⟨g,off,none⟩) n cap) mo S D) 85 (0,0)):=(heap_setCell_same _ b 35 (Jps s6 d6 (6:Int) (.int .u16 sp) (.int .u16 dp) (.int .i64 ln) fl fr (.slice (some ⟨g,off,none⟩) n cap) mo S D) _ _ HX3.out).trans rfl
 have q2:((w3.setCell ⟨b,35,none⟩ (.int .u16 v)).setCell ⟨b,36,none⟩ (.int .u16 u)).heap[b]? =some (.cells (Jps s6 d6 (6:Int) (.int .u16 v) (.int .u16 u) (.int .i64 ln) fl fr (.slice (some ⟨g,off,none⟩) n cap) mo S D) 85 (0,0)):=(heap_setCell_same _ b 36 (Jps s6 d6 (6:Int) (.int .u16 v) (.int .u16 dp) (.int .i64 ln) fl fr (.slice (some ⟨g,off,none⟩) n cap) mo S D) _ _ q1).trans rfl
 exact⟨rfl,(heap_setCell_same _ b 38 (Jps s6 d6 (6:Int) (.int .u16 v) (.int .u16 u) (.int .i64 ln) fl fr (.slice (some ⟨g,off,none⟩) n cap) mo S D) _ _ q2).trans rfl,(((HB3.out.mono (Nat.le_of_lt hbl)).setCell (Jpf _) _).setCell (Jpf _) _).setCell (Jpf _) _,fun i hi hl=>(Below.heap_setCell _ _ _ _ hi).trans ((Below.heap_setCell _ _ _ _ hi).trans ((Below.heap_setCell _ _ _ _ hi).trans (HB3.out.block i hl)))⟩
end
end Go.Proofs.YtkgjbipfhhjlpaaGreatDoor
