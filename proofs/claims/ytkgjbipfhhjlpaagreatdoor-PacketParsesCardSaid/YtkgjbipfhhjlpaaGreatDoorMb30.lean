import Derived.Test.YtkgjbipfhhjlpaaGreatDoorMb29
import Derived.Test.YtkgjbipfhhjlpaaGreatDoorMb28
set_option linter.unusedVariables false
set_option linter.unusedSimpArgs false
set_option maxRecDepth 100000
set_option maxHeartbeats 32000000
namespace Go.Proofs.YtkgjbipfhhjlpaaGreatDoor
section
open Go.RowKit Bits
theorem Jcr {R:Ending→World→Prop}{w':World}{tmps cs cs2:Array Value}{v u:Value}{t2:TypeId}(b b2:Nat)(hp:tmps.getD 2 undef=.pointer (some ⟨b,0,none⟩))(hq:tmps.getD 3 undef=.pointer (some ⟨b2,0,none⟩))(h4:tmps.getD 4 undef=v)(h5:tmps.getD 5 undef=u)(hc:Jf w' b 0 7=cs)(hs:cs.size=7)(hbx:w'.heap[b2]? =some (.cells cs2 t2 (0,0)))(hs2:cs2.size=2)(hR:R (.returned (.tuple #[.agg cs,.agg cs2,v,u])) w'):
 bodyPost Tryz.prog Tryz.f85 R .ret { tmps:=tmps,defers:=[] } w':=
 bodyPost_ret (v:=.tuple #[.agg cs,.agg cs2,v,u]) (Jch rfl _ _ b b2 7 2 _ _ _ _ Tryz.underlying109 rfl Jho Tryz.underlying161 rfl Jew hp hq h4 h5 cs cs2 hc hs (Ja hbx hs2) hs2) rfl hR
theorem Jjc (oa:Option Addr)(n cap:Nat)(l:List Int)(w:World)(hr:Ji w oa n cap l)(hn:n≤100000)(hA:∀a,oa=some a→a.block<w.heap.size):Calls Tryz.prog 85 #[.slice oa n cap] w (Jah w oa l):=by
 have hlen:=hr.len
 have HBY:=Jpa hr.byte
 have hxa:=heap_alloc_new w (.cells Jdf 109)
 have hba:=Below.all (Jpd w.heap.size w) (.cells Jdf 109)
 obtain⟨wa,hwa⟩:∃x,w.alloc (.cells Jdf 109)=x:=⟨_,rfl⟩
 have hsa:wa.heap.size=w.heap.size+1:=by rw[←hwa];simp
 rw[hwa] at hxa hba
 have hxc:=heap_alloc_new wa (.cells #[Jpj,()] 161)
 have hbc:=Below.all (Jpd wa.heap.size wa) (.cells #[Jpj,()] 161)
 obtain⟨w1,hw1⟩:∃x,wa.alloc (.cells #[Jpj,()] 161)=x:=⟨_,rfl⟩
 rw[hw1,hsa] at hxc
 rw[hw1] at hbc
 have HB1:Hid (Below w.heap.size w w1):=Jpa (Jo3 hba hbc)
 have HR1:=Jpa (hr.below HB1.out)
 have HH1:=Jpa ((hbc.block _ (by omega)).trans hxa)
 have HC1:=Jpa hxc
 have hs1:w1.heap.size=w.heap.size+2:=by rw[←hw1];simp[hsa]
 have HW1:Hid ((w.alloc (.cells Jdf 109)).alloc (.cells #[Jpj,()] 161)=w1):=Jpa (by rw[hwa,hw1])
 clear hxa hba hwa hsa hxc hbc hw1 hr
 have HP:=Jpa (JhL oa n cap l w1 HR1.out hn)
 obtain⟨b2,hb2⟩:∃b,b=w.heap.size:=⟨_,rfl⟩
 have HB2:=Jpa hb2
 unfold Jdf at HW1 HH1
 by_cases h0:Xk l=0
 rotate_left
 ·have HV:Hid (Jj9 l=.tuple #[.agg Jdf,.int .i64 (Xk l)]):=Jpa (by unfold Jj9;rw[if_neg h0])
  have HE:Hid (Ju l=Xk l):=Jpa (by unfold Ju;rw[if_pos h0])
  have hne:(Xk l != 0)=true:=by simpa using h0
  have HN:=Jpa h0
  have HPO:Hid (∀w',Below w.heap.size w w'→Jah w oa l (.returned (.tuple #[.agg Jdf,.agg #[.slice none 0 0,.int .u8 0],Jpj,.int .i64 (Xk l)])) w'):=Jpa (fun w' hb=>.inl ⟨by rw[HE.out];exact h0,by rw[HE.out],hb⟩)
  rw[HV.out] at HP
  clear h0 HV HE
  generalize Xk l=er at*
  unfold Jdf at HP
  go_enter Tryz.func85,Tryz.ntmps85
  go_wp2_with fail
  rw[HW1.out]
  rw[←hb2] at HH1 HC1 hs1⊢
  clear hb2
  refine Jpc HP.out ?_
  rintro e z ⟨rfl,hbz⟩
  have HHZ:=Jpa ((hbz.block _ (by omega)).trans HH1.out)
  have HCZ:=Jpa ((hbz.block _ (by omega)).trans HC1.out)
  have HBZ:=Jpa (Jo3 HB1.out hbz)
  have l0:b2<z.heap.size:=(Jpb HHZ.out).1
  have l1:b2+1<z.heap.size:=(Jpb HCZ.out).1
  have hrf:Jg z b2 7=true:=by rw[Jc _ _ _ _ _ HHZ.out];rfl
  have hrf2:Jg z (b2+1) 2=true:=by rw[Jc _ _ _ _ _ HCZ.out];rfl
  clear hbz
  have HHX:=HHZ
  have HCX:=HCZ
  go_wp2_with fail
  refine Jcr (cs:=Jdf) (cs2:=#[Jpj,()]) (v:=.slice none 0 0) (u:=.int .i64 er) b2 (b2+1) rfl rfl rfl rfl (Ja ((heap_alloc_old _ _ (by simp;omega)).trans ((setRow_other _ _ _ _ (by omega)).trans (Jd HHX.out))) rfl) rfl ((heap_alloc_old _ _ (by simp;omega)).trans (Jd ((setRow_other _ _ _ _ (by omega)).trans HCX.out))) rfl ?_
  exact HPO.out _ (Below.all ((HBZ.out.trans (Jb JpM (Nat.le_of_eq HB2.out.symm))).trans (Jb #[Jpj,()] (by have:=HB2.out;omega))) _)
 have HV:Hid (Jj9 l=.tuple #[.agg (Jnf l),.int .i64 0]):=Jpa (by unfold Jj9;rw[if_pos h0])
 have hl40:40≤n:=by
  unfold Xk at h0
  by_cases h:l.length<40
  ·rw[if_pos h] at h0;cases h0
  ·omega
 have hbd:=QB HBY.out 4
 have hnb:=Jy HBY.out 6
 have HE1:Hid (Ju l=if (l.length:Int)<40+w2 l 4 then 10 else match Q4 l with
  | .err e=>e
  | .done _ _ _=>0):=Jpa (by unfold Ju;rw[if_neg (by rw[h0];decide)];cases Q4 l<;>rfl)
 have HZ10:Hid (Ju l=10→∀w',Below w.heap.size w w'→Jah w oa l (.returned (.tuple #[.agg Jdf,.agg #[.slice none 0 0,.int .u8 0],Jpj,.int .i64 10])) w'):=Jpa (fun h w' hb=>.inl ⟨by rw[h];decide,by rw[h],hb⟩)
 have HCHN:Hid (Q4 l=XU 17 [] (l.getD 6 0) 0 ((l.drop 40).take (w2 l 4).toNat)):=Jpa rfl
 have HA0:Hid (Jnf l=(Jpt (.int .u8 (w4 l 0/1048576%256)) (.int .u32 (w4 l 0%1048576)) (.int .u16 (w2 l 4)) (.int .u8 (l.getD 6 0)) (.int .u8 (l.getD 7 0)) (.string (strOfNums ((l.drop 8).take 16))) (.string (strOfNums ((l.drop 24).take 16))):Array Value)):=Jpa rfl
 rw[HV.out,HA0.out] at HP
 clear h0 HV
 generalize w4 l 0/1048576%256=a0 at*
 generalize w4 l 0%1048576=a1 at*
 generalize l.getD 7 0=a4 at*
 generalize l.getD 6 0=nx at*
 generalize strOfNums ((l.drop 8).take 16)=S1 at*
 generalize strOfNums ((l.drop 24).take 16)=S2 at*
 obtain⟨tot,htot⟩:∃t:Nat,w2 l 4=(t:Int):=⟨(w2 l 4).toNat,by omega⟩
 have HTOT:=Jpa htot
 rw[htot] at HP hbd HE1 HCHN HA0
 rw[hlen] at HE1
 have ht0:(0:Int)≤(tot:Int):=by omega
 have ht1:(tot:Int)≤65535:=by omega
 clear hbd
 go_enter Tryz.func85,Tryz.ntmps85
 go_wp2_with fail
 rw[HW1.out]
 rw[←hb2] at HH1 HC1 hs1⊢
 clear hb2
 refine Jpc HP.out ?_
 rintro e z0 ⟨rfl,hbz⟩
 have hxh:=heap_alloc_new z0 (.cells (Jpt a0 (.int .u32 a1) (.int .u16 (tot:Int)) nx a4 (.string S1) (.string S2)) 109)
 have hbh:=Below.all (Jpd z0.heap.size z0) (.cells (Jpt a0 (.int .u32 a1) (.int .u16 (tot:Int)) nx a4 (.string S1) (.string S2)) 109)
 have HHZ0:=Jpa ((hbz.block _ (by omega)).trans HH1.out)
 have HCZ0:=Jpa ((hbz.block _ (by omega)).trans HC1.out)
 have HBZ0:=Jpa (Jo3 HB1.out hbz)
 have HRZ0:=Jpa (HR1.out.below hbz)
 have l00:b2<z0.heap.size:=(Jpb HHZ0.out).1
 have l01:b2+1<z0.heap.size:=(Jpb HCZ0.out).1
 have hrf:Jg z0 b2 7=true:=by rw[Jc _ _ _ _ _ HHZ0.out];rfl
 have hrf2:Jg z0 (b2+1) 2=true:=by rw[Jc _ _ _ _ _ HCZ0.out];rfl
 clear hbz HH1 HC1 HB1 HR1 HP
 by_cases hs:n<40+tot
 ·have hd:decide ((n:Int)<40+(tot:Int))=true:=by simp;omega
  have HE:=Jpa (HZ10.out (by rw[HE1.out,if_pos (by omega)]))
  have HHX:=HHZ0
  have HCX:=HCZ0
  clear HE1 HZ10 hs hxh hbh
  go_wp2_with fail
  refine Jcr (cs:=Jdf) (cs2:=#[Jpj,()]) (v:=.slice none 0 0) (u:=.int .i64 10) b2 (b2+1) rfl rfl rfl rfl (Ja ((heap_alloc_old _ _ (by simp;omega)).trans ((setRow_other _ _ _ _ (by omega)).trans (Jd HHX.out))) rfl) rfl ((heap_alloc_old _ _ (by simp;omega)).trans (Jd ((setRow_other _ _ _ _ (by omega)).trans HCX.out))) rfl ?_
  exact HE.out _ (Below.all ((HBZ0.out.trans (Jb JpM (Nat.le_of_eq HB2.out.symm))).trans (Jb #[Jpj,()] (by have:=HB2.out;omega))) _)
 have hd:decide ((n:Int)<40+(tot:Int))=false:=by simp;omega
 have HE2:Hid (Ju l=match Q4 l with
  | .err e=>e
  | .done _ _ _=>0):=Jpa (by rw[HE1.out,if_neg (by omega)])
 have hle:=HRZ0.out.le
 have hcut:∀w,(Instr.slice 22 (.slice oa n cap) (some (.int .i64 40)) (some (.int .i64 (40+(tot:Int)))) none).run Tryz.prog w=.ok (.slice (Jk oa 40 cap 1) tot (cap-40)) w:=fun w=>by
  have:=JW (P:=Tryz.prog) 22 oa n cap 1 elemBytes sizeBytes 40 (40+tot) 40 (40+(tot:Int)) rfl (by omega) (by omega) (by omega) w
  rwa [show 40+tot-40=tot by omega] at this
 clear HE1 HZ10 hxh
 go_wp2_with fail
 obtain⟨bh,hbhe⟩:∃b,b=z0.heap.size:=⟨_,rfl⟩
 have hxh:=heap_alloc_new z0 (.cells (Jpt a0 (.int .u32 a1) (.int .u16 (tot:Int)) nx a4 (.string S1) (.string S2)) 109)
 rw[←hbhe] at hxh⊢
 generalize z0.alloc (.cells (Jpt a0 (.int .u32 a1) (.int .u16 (tot:Int)) nx a4 (.string S1) (.string S2)) 109)=z at*
 have HHZ:=Jpa ((hbh.block _ l00).trans HHZ0.out)
 have HCZ:=Jpa ((hbh.block _ l01).trans HCZ0.out)
 have HBZ:=Jpa (Jo3 HBZ0.out hbh)
 have HRZ:=Jpa (HRZ0.out.below hbh)
 have HXZ:=Jpa hxh
 have lbh:b2+1<bh:=by omega
 have lhz:bh<z.heap.size:=(Jpb hxh).1
 have HRC:Hid (Ji z (Jk oa 40 cap 1) tot (cap-40) ((l.drop 40).take tot)):=Jpa ((HRZ.out.cut 40 (by omega)).take tot (by omega))
 have HAC:Hid (∀a,Jk oa 40 cap 1=some a→a.block<w.heap.size):=Jpa (fun a ha=>by
  obtain⟨a0,h1,h2⟩:=Ja5 _ _ _ _ _ ha
  rw[←h2];exact hA a0 h1)
 have HIC:=Jpa (fun a=>Ja5 oa 40 cap 1 a)
 obtain⟨LR,hLR⟩:∃L,(l.drop 40).take tot=L:=⟨_,rfl⟩
 have HLR:=Jpa hLR
 have hLRl:LR.length=tot:=by rw[←hLR,List.length_take,List.length_drop];omega
 rw[hLR] at HRC
 rw[Int.toNat_natCast,hLR] at HCHN
 generalize Jk oa 40 cap 1=A40 at*
 generalize cap-40=c40 at*
 have hg3:z.cell? ⟨bh,3,none⟩=some (.int .u8 nx):=cell_of_row _ _ 3 _ _ (0,0) hxh
 clear hxh hbh hbhe HHZ0 HCZ0 HBZ0 HRZ0 l00 l01 hrf hrf2 hLR
 have HPC:=Jpa (Jjb nx A40 tot c40 LR z HRC.out (fun a ha=>by have:=HAC.out a ha;have:=HBZ.out.size;omega) (by omega) hnb)
 rw[←HCHN.out] at HPC
 have HXC:Hid (QQ l=(match Q4 l with| .err _=>[]| .done xs _ _=>xs)∧Q5 l=(match Q4 l with| .err _=>0| .done _ p _=>p)∧Jn6 l=(match Q4 l with| .err _=>0| .done _ _ i=>i)):=Jpa ⟨rfl,rfl,rfl⟩
 have HBL:Hid (Xb l=LR.drop (Jn6 l)):=Jpa (by unfold Xb;rw[HTOT.out,Int.toNat_natCast,HLR.out])
 generalize Q4 l=SC at*
 clear HCHN
 refine Jpc HPC.out ?_
 intro e z1 hpost
 cases SC with
 |err er=>
  obtain⟨rfl,her,hb1⟩:=hpost
  have HE:=Jpa HE2.out
  simp only at HE
  have hne:(er != 0)=true:=by simpa using her
  have HPO:Hid (∀w',Below w.heap.size w w'→Jah w oa l (.returned (.tuple #[.agg Jdf,.agg #[.slice none 0 0,.int .u8 0],Jpj,.int .i64 er])) w'):=Jpa (fun w' hb=>.inl ⟨by rw[HE.out];exact her,by rw[HE.out],hb⟩)
  have HHX:=Jpa ((hb1.block _ (by omega)).trans HHZ.out)
  have HCX:=Jpa ((hb1.block _ (by omega)).trans HCZ.out)
  have HBX:=Jpa (Jo3 HBZ.out hb1)
  have l10:b2<z1.heap.size:=(Jpb HHX.out).1
  have l11:b2+1<z1.heap.size:=(Jpb HCX.out).1
  have hrf:Jg z1 b2 7=true:=by rw[Jc _ _ _ _ _ HHX.out];rfl
  have hrf2:Jg z1 (b2+1) 2=true:=by rw[Jc _ _ _ _ _ HCX.out];rfl
  clear hb1 HE2 HPC HXC her hg3
  go_wp2_with fail
  refine Jcr (cs:=Jdf) (cs2:=#[Jpj,()]) (v:=.slice none 0 0) (u:=.int .i64 er) b2 (b2+1) rfl rfl rfl rfl (Ja ((heap_alloc_old _ _ (by simp;omega)).trans ((setRow_other _ _ _ _ (by omega)).trans (Jd HHX.out))) rfl) rfl ((heap_alloc_old _ _ (by simp;omega)).trans (Jd ((setRow_other _ _ _ _ (by omega)).trans HCX.out))) rfl ?_
  exact HPO.out _ (Below.all ((HBX.out.trans (Jb JpM (Nat.le_of_eq HB2.out.symm))).trans (Jb #[Jpj,()] (by have:=HB2.out;omega))) _)
 |done xs p i=>
  obtain⟨⟨oe,ce,rfl,hes⟩,hb1,hck,hbb,hpp,hii⟩:=hpost
  have HE:=Jpa HE2.out
  simp only at HE HXC
  obtain⟨kx,hkx⟩:∃k,xs.length=k:=⟨_,rfl⟩
  have HKX:=Jpa hkx
  rw[hkx]
  have HES:=Jpa (JF.mono hes (show w.heap.size≤z.heap.size from HBZ.out.size))
  have HNO:Hid (∀a,oe=some a→z.heap.size≤a.block):=Jpa (fun a ha=>(hes.lt ha).1)
  have HHX:=Jpa ((hb1.block _ (by omega)).trans HHZ.out)
  have HCX:=Jpa ((hb1.block _ (by omega)).trans HCZ.out)
  have HGX:=Jpa ((hb1.block _ lhz).trans HXZ.out)
  have HBX:=Jpa (Jo3 HBZ.out hb1)
  have HRX:=Jpa (HRC.out.below hb1)
  have hzz:=hb1.size
  have hCK:=Jpa (And.intro hck (And.intro hbb hpp))
  clear hb1 hes hck hbb hpp HE2 HPC hg3 hkx HHZ HCZ HXZ HBZ HRZ HRC
  go_wp2_with fail
  have hxc:=heap_alloc_new z1 (.cells #[.slice oe kx ce,p] 161)
  have hbc:=Below.all (Jpd z1.heap.size z1) (.cells #[.slice oe kx ce,p] 161)
  obtain⟨bc,hbce⟩:∃b,b=z1.heap.size:=⟨_,rfl⟩
  rw[←hbce] at hxc⊢
  generalize z1.alloc (.cells #[.slice oe kx ce,p] 161)=y at*
  have HHY:=Jpa ((hbc.block _ (by omega)).trans HHX.out)
  have HCY:=Jpa ((hbc.block _ (by omega)).trans HCX.out)
  have HGY:=Jpa ((hbc.block _ (by omega)).trans HGX.out)
  have HXY:=Jpa hxc
  have HBY2:=Jpa (Jo3 HBX.out hbc)
  have HRY:=Jpa (HRX.out.below hbc)
  have HEY:=Jpa (JF.below HES.out hbc)
  have lcy:bc<y.heap.size:=(Jpb hxc).1
  have lhy:bh<y.heap.size:=by omega
  have lbc:bh<bc:=by omega
  have hle2:=HRX.out.le
  have hcut2:∀w,(Instr.slice 22 (.slice A40 tot c40) (some (.int .i64 (i:Int))) none none).run Tryz.prog w=.ok (.slice (Jk A40 i c40 1) (tot-i) (c40-i)) w:=fun w=>Jcs _ A40 tot c40 1 elemBytes sizeBytes i _ rfl hii w
  have hcutIn:=fun a=>Ja5 A40 i c40 1 a
  have HRW:Hid (Ji y (Jk A40 i c40 1) (tot-i) (c40-i) (LR.drop i)):=Jpa (HRY.out.cut i hii)
  have HAW:Hid (∀a,Jk A40 i c40 1=some a→a.block<w.heap.size):=Jpa (fun a ha=>by
   obtain⟨a0,h1,h2⟩:=hcutIn a ha
   rw[←h2];exact HAC.out a0 h1)
  have HIW:Hid (∀a,Jk A40 i c40 1=some a→∃a0,oa=some a0∧a0.block=a.block):=Jpa (fun a ha=>by
   obtain⟨a1,h1,h2⟩:=hcutIn a ha
   obtain⟨a2,h3,h4⟩:=HIC.out a1 h1
   exact⟨a2,h3,h4.trans h2⟩)
  generalize Jk A40 i c40 1=AW at*
  generalize c40-i=cW at*
  clear hxc hbc hbce HHX HCX HGX HBX HRX HES hcutIn hcut
  refine JV [.h,.h,.h,.h,.h] [(1,1,0),(2,2,0),(3,2,0),(4,2,0)] (fun _ w'=>Jf w' bc 0 2=#[.slice oe kx ce,.int .u8 p]) [2] [(.w,5),(.w,6),(.w,7),(.w,8)] (by kernel_rfl) (by kernel_rfl) (by kernel_rfl) (by kernel_rfl) ?_
  apply Exists.intro
  refine⟨fun wx hbx=>?_,?_,?_⟩
  ·have hbx1:bh<wx.heap.size:=Jpe lhy hbx.size
   have hbx2:bc<wx.heap.size:=Jpe lcy hbx.size
   have hq1:Jf wx bh 0 7=(Jpt a0 (.int .u32 a1) (.int .u16 (tot:Int)) nx a4 (.string S1) (.string S2):Array Value):=Ja ((hbx.block bh lhy).trans HGY.out) rfl
   have hq2:Jf wx bc 0 2=#[.slice oe kx ce,.int .u8 p]:=Ja ((hbx.block bc lcy).trans HXY.out) rfl
   simp only[JB]
   repeat go_big_quiet_step (fail)
   exact wpQuiet_nil rfl
  ·intro q hq oi hoi
   simp only[List.mem_cons,List.not_mem_nil,or_false] at hq
   rcases hq with rfl|rfl|rfl|rfl
   ·cases hoi;exact⟨_,rfl,rfl,fun w2 hw=>JhN _ w2 bc #[.slice oe kx ce,p] (by kernel_rfl) hw rfl⟩
   ·cases hoi;exact⟨_,rfl,rfl,fun w2 hw=>by kernel_rfl⟩
   ·cases hoi;exact⟨_,rfl,rfl,fun w2 hw=>by kernel_rfl⟩
   ·cases hoi;exact⟨_,rfl,rfl,fun w2 hw=>by simp[execOp,go_sem,hcut2]⟩
  simp only[Qa,List.getElem?_cons_succ,List.getElem?_cons_zero]
  refine⟨fun v fl w2=>v=undef∧∃x:Jz y,w2=x.world.setRow b2 (Jpt a0 (.int .u32 a1) (.int .u16 (tot:Int)) nx a4 (.string S1) (.string S2)),?_,?_,(fun h=>by cases h),?_⟩
  ·rintro fl rfl
   refine Jv.skip rfl ?_
   rintro w' ⟨⟨x,rfl⟩,-⟩
   have hbx:=(x.below.block b2 (by omega)).trans HHY.out
   exact⟨_,JgA _ x.world b2 (Jpt a0 (.int .u32 a1) (.int .u16 (tot:Int)) nx a4 (.string S1) (.string S2)) (by kernel_rfl) (by kernel_rfl) (by rw[Jc _ _ _ _ _ hbx];rfl) rfl rfl,x,rfl⟩
  ·rintro v fl g-w2 ⟨-,x,rfl⟩
   exact Ja ((setRow_other _ _ _ _ (by omega)).trans ((x.below.block bc lcy).trans HXY.out)) rfl
  rintro v ⟨fl0,w20,rfl,-⟩
  refine⟨fun v fl w2=>v=undef∧∃x:Jz y,w2=(x.world.setRow b2 (Jpt a0 (.int .u32 a1) (.int .u16 (tot:Int)) nx a4 (.string S1) (.string S2))).setRow (b2+1) #[.slice oe kx ce,p],?_,?_,(fun h=>by cases h),?_⟩
  ·rintro fl rfl
   refine Jv.skip rfl ?_
   rintro w' ⟨-,x,rfl⟩
   have hbx:=(setRow_other x.world b2 (b2+1) (Jpt a0 (.int .u32 a1) (.int .u16 (tot:Int)) nx a4 (.string S1) (.string S2)) (by omega)).trans ((x.below.block (b2+1) (by omega)).trans HCY.out)
   exact⟨_,Jgz _ _ (b2+1) #[.slice oe kx ce,p] (by kernel_rfl) (by kernel_rfl) (by rw[Jc _ _ _ _ _ hbx];rfl) rfl rfl,x,rfl⟩
  ·rintro v fl g-w2 ⟨-,x,rfl⟩
   exact Ja ((setRow_other _ _ _ _ (by omega)).trans ((setRow_other _ _ _ _ (by omega)).trans ((x.below.block bc lcy).trans HXY.out))) rfl
  rintro v ⟨fl1,w21,rfl,-⟩
  refine⟨fun v fl w2=>v=.slice AW (tot-i) cW∧∃x:Jz y,w2=(x.world.setRow b2 (Jpt a0 (.int .u32 a1) (.int .u16 (tot:Int)) nx a4 (.string S1) (.string S2))).setRow (b2+1) #[.slice oe kx ce,p],?_,fun _ _=>JC rfl,(fun h=>by cases h),?_⟩
  ·rintro fl rfl
   refine Jv.made rfl ?_
   rintro w' ⟨-,hx'⟩
   exact⟨.slice AW (tot-i) cW,w',by kernel_rfl,rfl,hx'⟩
  rintro v ⟨fl2,w22,rfl,-⟩
  refine⟨fun v fl w2=>v=.int .i64 0∧∃x:Jz y,w2=(x.world.setRow b2 (Jpt a0 (.int .u32 a1) (.int .u16 (tot:Int)) nx a4 (.string S1) (.string S2))).setRow (b2+1) #[.slice oe kx ce,p],?_,fun _ _=>JC rfl,(fun h=>by cases h),?_⟩
  ·rintro fl rfl
   refine Jv.made rfl ?_
   rintro w' ⟨-,hx'⟩
   exact⟨.int .i64 0,w',by kernel_rfl,rfl,hx'⟩
  rintro v ⟨fl3,w23,rfl,-⟩
  rintro zf ⟨-,x,rfl⟩
  have hk1:=(x.below.block b2 (by omega)).trans HHY.out
  have hk2:=(x.below.block (b2+1) (by omega)).trans HCY.out
  have HF1:=Jpa ((setRow_other (x.world.setRow b2 (Jpt a0 (.int .u32 a1) (.int .u16 (tot:Int)) nx a4 (.string S1) (.string S2))) (b2+1) b2 #[.slice oe kx ce,p] (by omega)).trans (Jd hk1))
  have HF2:=Jpa (Jd (cs:=#[.slice oe kx ce,p]) ((setRow_other x.world b2 (b2+1) (Jpt a0 (.int .u32 a1) (.int .u16 (tot:Int)) nx a4 (.string S1) (.string S2)) (by omega)).trans hk2))
  have HFB:Hid (Below w.heap.size w ((x.world.setRow b2 (Jpt a0 (.int .u32 a1) (.int .u16 (tot:Int)) nx a4 (.string S1) (.string S2))).setRow (b2+1) #[.slice oe kx ce,p])):=Jpa (((Jo3 HBY2.out x.below).trans (Jb _ (Nat.le_of_eq HB2.out.symm))).trans (Jb _ (by have:=HB2.out;omega)))
  have HFR:Hid (Ji ((x.world.setRow b2 (Jpt a0 (.int .u32 a1) (.int .u16 (tot:Int)) nx a4 (.string S1) (.string S2))).setRow (b2+1) #[.slice oe kx ce,p]) AW (tot-i) cW (LR.drop i)):=Jpa ((HRW.out.below x.below).keep (by simp) (fun a ha _=>(setRow_other _ _ _ _ (by have:=HAW.out a ha;have:=HB2.out;omega)).trans (setRow_other _ _ _ _ (by have:=HAW.out a ha;have:=HB2.out;omega))))
  have HFE:Hid (Jcq ((x.world.setRow b2 (Jpt a0 (.int .u32 a1) (.int .u16 (tot:Int)) nx a4 (.string S1) (.string S2))).setRow (b2+1) #[.slice oe kx ce,p]) w.heap.size oe ce xs):=Jpa (JF.keep (JF.below HEY.out x.below) (by simp) (fun a ha=>(setRow_other _ _ _ _ (by have:=HNO.out a ha;omega)).trans (setRow_other _ _ _ _ (by have:=HNO.out a ha;omega))))
  clear hk1 hk2 fl0 fl1 fl2 fl3 w20 w21 w22 w23
  generalize (x.world.setRow b2 (Jpt a0 (.int .u32 a1) (.int .u16 (tot:Int)) nx a4 (.string S1) (.string S2))).setRow (b2+1) #[.slice oe kx ce,p]=zz at*
  go_wp2_with fail
  refine Jcr (cs:=(Jpt a0 (.int .u32 a1) (.int .u16 (tot:Int)) nx a4 (.string S1) (.string S2))) (cs2:=#[.slice oe kx ce,p]) (v:=.slice AW (tot-i) cW) (u:=.int .i64 0) b2 (b2+1) rfl rfl rfl rfl (Ja HF1.out rfl) rfl HF2.out rfl (.inr ⟨by rw[HE.out],oe,ce,AW,cW,?_,?_,?_,HFB.out,?_,?_,?_,HIW.out⟩)
  ·rw[HA0.out,HXC.out.1,HXC.out.2.1,HBL.out,HXC.out.2.2,HKX.out,List.length_drop,hLRl]
  ·rw[HXC.out.1];exact HFE.out
  ·rw[HBL.out,HXC.out.2.2,List.length_drop,hLRl];exact HFR.out
  ·rw[HXC.out.1];exact hCK.out.1
  ·rw[HXC.out.1,HXC.out.2.1];exact hCK.out.2.1
  ·rw[HXC.out.2.1];exact hCK.out.2.2
theorem Jh6 {R:Ending→World→Prop}{w':World}{tmps cs:Array Value}{v u x:Value}(b:Nat)(hp:tmps.getD 2 undef=.pointer (some ⟨b,0,none⟩))(h3:tmps.getD 3 undef=v)(h4:tmps.getD 4 undef=u)(h5:tmps.getD 5 undef=x)(hc:Jf w' b 0 40=cs)(hs:cs.size=40)(hR:R (.returned (.tuple #[.agg cs,v,u,x])) w'):
 bodyPost Tryz.prog Tryz.f40 R .ret { tmps:=tmps,defers:=[] } w':=
 bodyPost_ret (v:=.tuple #[.agg cs,v,u,x]) (Jda rfl _ _ b 40 _ _ _ _ Tryz.underlying40 rfl Jb0 hp h3 h4 h5 cs hc hs) rfl hR
theorem Jma (oa:Option Addr)(n cap:Nat)(l:List Int)(w:World)(hr:Ji w oa n cap l)(hn:n≤100000)(hA:∀a,oa=some a→a.block<w.heap.size):
 Calls Tryz.prog 40 #[.slice oa n cap] w (Jdy w oa (Qy l) (Ju l)):=by
 have hlen:=hr.len
 have hx:=heap_alloc_new w (.cells X4 40)
 have hB:Below w.heap.size w (w.alloc (.cells X4 40)):=Below.all (Jpd _ _) _
 have HR:=Jpa (hr.alloc (.cells X4 40))
 have HBY:=Jpa hr.byte
 unfold X4 at hx hB HR
 clear hr
 go_enter Tryz.func40,Tryz.ntmps40
 go_wp2_with fail
 obtain⟨b0,hb0⟩:∃b,b=w.heap.size:=⟨_,rfl⟩
 rw[←hb0] at hx⊢
 have HB0:=Jpa hb0
 generalize w.alloc (.cells (Jpq false false (.int .i64 0) false) 40)=wa at*
 have hbw:w.heap.size≤b0:=by omega
 clear hb0
 have hsz:=hB.size
 have HOA:Hid (∀a,oa=some a→a.block<b0):=Jpa (fun a ha=>by have:=hA a ha;omega)
 refine Jpc (Jjc _ _ _ _ _ HR.out hn (fun a ha=>by have:=hA a ha;omega)) ?_
 rintro e w1 (⟨h0,rfl,hb⟩|⟨h0,oe,ce,ob,cb,rfl,hes,ho,hb,hck,hbh,hpp,hin⟩)
 ·have HB1:=Jpa (Jo3 hB hb)
  have HX1:=Jpa ((hb.block b0 (Jpb hx).1).trans hx)
  have hb1:b0<w1.heap.size:=(Jpb HX1.out).1
  have hb1':b0<w1.heap.size+1:=by omega
  have hrf:Jg w1 b0 40=true:=by rw[Jc _ _ _ _ _ HX1.out];rfl
  have HE:=Jpa h0
  have hne:(Ju l != 0)=true:=by simpa using h0
  clear hb hx hB HR h0
  generalize Ju l=er at*
  unfold Jdf
  go_wp2_with fail
  refine Jh6 (cs:=X4) (v:=.slice none 0 0) (u:=.bool false) (x:=.int .i64 er) b0 rfl rfl rfl rfl ?_ rfl (.inl ⟨HE.out,rfl,?_⟩)
  ·exact Ja ((heap_alloc_old _ _ (by simpa using hb1')).trans ((heap_alloc_old _ _ (by simpa using hb1)).trans (Jd HX1.out))) rfl
  ·exact Below.all (Below.all (HB1.out.trans (Jb _ hbw)) _) _
 have HIN:=Jpa hin
 have HES:=Jpa hes
 have HO:=Jpa ho
 have HNO:Hid (∀a,ob=some a→a.block≠b0):=Jpa (fun a ha=>by
  obtain⟨a0,h1,h2⟩:=hin a ha
  have:=HOA.out a0 h1
  omega)
 have HB1:=Jpa (Jo3 hB hb)
 have HX1:=Jpa ((hb.block b0 (Jpb hx).1).trans hx)
 have HCK:=Jpa hck
 have HBH:=Jpa hbh
 have H00:=Jpa h0
 have HDL:Hid (∀x∈QQ l,x.2.length≤100000):=Jpa (fun x hx=>by
  have:=hck.right x hx
  unfold JX at this
  split at this<;>simp only[Bool.and_eq_true,decide_eq_true_eq] at this<;>omega)
 have HFR:Hid (∀w',Jcq w' wa.heap.size oe ce (QQ l)→Calls Tryz.prog 86 #[.agg #[.slice oe (QQ l).length ce,.int .u8 (Q5 l)]] w' (Jba w' (QQ l))):=Jpa (fun w' h=>Jl9 wa.heap.size oe ce _ _ w' h HCK.out HDL.out HBH.out)
 have HOUT:Hid (Qy l=⟨true,JM ((l.drop 8).take 16),JM ((l.drop 24).take 16),Q5 l,40+w2 l 4,decide (0<Xv (QQ l)),QU (QQ l),Xb l⟩):=Jpa rfl
 have hl40:40≤l.length:=by
  have h1:Xk l=0:=by
   unfold Ju at h0
   by_cases h:Xk l=0
   ·exact h
   ·rw[if_pos h] at h0;exact h0
  unfold Xk at h1
  by_cases h:l.length<40
  ·rw[if_pos h] at h1;cases h1
  ·omega
 have HS:Hid (((l.drop 8).take 16).length=16∧Jl ((l.drop 8).take 16)):=Jpa ⟨by rw[List.length_take,List.length_drop];omega,JU (JD HBY.out _) _⟩
 have HD:Hid (((l.drop 24).take 16).length=16∧Jl ((l.drop 24).take 16)):=Jpa ⟨by rw[List.length_take,List.length_drop];omega,JU (JD HBY.out _) _⟩
 have HA1:Hid (∀w',Calls Tryz.prog 84 #[.string (strOfNums ((l.drop 8).take 16))] w' (Jh w' (adV true (JM ((l.drop 8).take 16))))):=Jpa (fun w'=>Jem _ HS.out.2 HS.out.1 w')
 have HA2:Hid (∀w',Calls Tryz.prog 84 #[.string (strOfNums ((l.drop 24).take 16))] w' (Jh w' (adV true (JM ((l.drop 24).take 16))))):=Jpa (fun w'=>Jem _ HD.out.2 HD.out.1 w')
 have hpw:=QB HBY.out 4
 unfold adV at HA1 HA2
 clear hck hbh hes ho hb hx hB HR h0 hl40 HDL HS HD hin hpp
 unfold Jnf
 generalize JM ((l.drop 8).take 16)=S at*
 generalize JM ((l.drop 24).take 16)=D at*
 generalize strOfNums ((l.drop 8).take 16)=S1 at*
 generalize strOfNums ((l.drop 24).take 16)=S2 at*
 generalize w2 l 4=tot at*
 generalize w4 l 0/1048576%256=x0 at*
 generalize w4 l 0%1048576=x1 at*
 generalize l.getD 6 0=x6 at*
 generalize l.getD 7 0=x7 at*
 generalize Q5 l=pr at*
 obtain⟨xs,hxs⟩:∃xs,QQ l=xs:=⟨_,rfl⟩
 rw[hxs] at HES HFR HOUT HCK⊢
 clear hxs
 obtain⟨kk,hkk⟩:∃k,xs.length=k:=⟨_,rfl⟩
 have HKK:=Jpa hkk
 have HFR2:Hid (∀w',Jcq w' wa.heap.size oe ce xs→Calls Tryz.prog 86 #[.agg #[.slice oe kk ce,.int .u8 pr]] w' (Jba w' xs)):=Jpa (fun w' h=>by rw[←HKK.out];exact HFR.out w' h)
 rw[hkk]
 clear hkk HFR
 generalize Xb l=L at*
 obtain⟨nb,hnb⟩:∃k,L.length=k:=⟨_,rfl⟩
 have HNB:=Jpa hnb
 rw[hnb] at HO⊢
 clear hnb
 go_wp2_with fail
 obtain⟨bh,hbhe⟩:∃b,b=w1.heap.size:=⟨_,rfl⟩
 have hxa:=heap_alloc_new w1 (.cells (Jpt x0 (.int .u32 x1) (.int .u16 tot) x6 x7 (.string S1) (.string S2)) 109)
 have hba:=Below.all (Jpd w1.heap.size w1) (.cells (Jpt x0 (.int .u32 x1) (.int .u16 tot) x6 x7 (.string S1) (.string S2)) 109)
 obtain⟨wb,hwb⟩:∃x,w1.alloc (.cells (Jpt x0 (.int .u32 x1) (.int .u16 tot) x6 x7 (.string S1) (.string S2)) 109)=x:=⟨_,rfl⟩
 have hsb:wb.heap.size=bh+1:=by rw[←hwb,hbhe];simp
 rw[hwb] at hxa hba⊢
 have hxc:=heap_alloc_new wb (.cells #[.slice oe kk ce,pr] 161)
 have hbc:=Below.all (Jpd wb.heap.size wb) (.cells #[.slice oe kk ce,pr] 161)
 obtain⟨w3,hw3⟩:∃x,wb.alloc (.cells #[.slice oe kk ce,pr] 161)=x:=⟨_,rfl⟩
 rw[hw3,hsb] at hxc
 rw[hw3] at hbc⊢
 rw[←hbhe] at hxa⊢
 have hb3:=Jo3 hba hbc
 have HX3:=Jpa ((hb3.block b0 (Jpb HX1.out).1).trans HX1.out)
 have HH3:=Jpa ((hbc.block bh (by omega)).trans hxa)
 have HC3:=Jpa hxc
 have HB3:=Jpa (Jo3 HB1.out hb3)
 have HO3:=Jpa (HO.out.below hb3)
 have HES3:=Jpa (JF.below HES.out hb3)
 clear hxa hba hwb hxc hbc hw3 hb3 hsb hbhe HB1 HO HES HX1
 refine Jpc (HFR2.out _ HES3.out) ?_
 rintro e w4 ⟨⟨id,ok,rfl⟩,hb4⟩
 generalize Xv xs=fo at*
 generalize QU xs=fm at*
 have HX4:=Jpa ((hb4.block b0 (Jpb HX3.out).1).trans HX3.out)
 have HH4:=Jpa ((hb4.block bh (Jpb HH3.out).1).trans HH3.out)
 have HC4:=Jpa ((hb4.block (bh+1) (Jpb HC3.out).1).trans HC3.out)
 have HB4:=Jpa (Jo3 HB3.out hb4)
 have HO4:=Jpa (HO3.out.below hb4)
 clear hb4 HX3 HH3 HC3 HB3 HO3 HES3 HFR2
 have lh:bh<w4.heap.size:=(Jpb HH4.out).1
 have lc:bh+1<w4.heap.size:=(Jpb HC4.out).1
 have c2:=cell_of_row _ _ 2 _ _ (0,0) HH4.out
 have c5:=cell_of_row _ _ 5 _ _ (0,0) HH4.out
 have c6:=cell_of_row _ _ 6 _ _ (0,0) HH4.out
 have d1:=cell_of_row _ _ 1 _ _ (0,0) HC4.out
 have ht0:=hpw.1
 have ht1:=hpw.2
 clear hpw
 go_wp2_with fail
 refine JV [.h,.h,.h,.h,.h,.h,.h,.h,.h,.h,.h,.h,.h,.h,.h,.h,.h,.h] [(16,1,0),(17,2,0)] (fun _ _=>True) [2] [(.w,18),(.w,19),(.w,20),(.w,21)] (by kernel_rfl) (by kernel_rfl) (by kernel_rfl) (by kernel_rfl) ?_
 apply Exists.intro
 refine⟨fun wx hbx=>?_,?_,?_⟩
 ·have lhx:bh<wx.heap.size:=Jpe lh hbx.size
  have lcx:bh+1<wx.heap.size:=Jpe lc hbx.size
  have e2:=(Je hbx lh (⟨bh,2,none⟩:Addr) rfl).trans c2
  have e5:=(Je hbx lh (⟨bh,5,none⟩:Addr) rfl).trans c5
  have e6:=(Je hbx lh (⟨bh,6,none⟩:Addr) rfl).trans c6
  have e1:=(Je hbx lc (⟨bh+1,1,none⟩:Addr) rfl).trans d1
  simp only[JB]
  repeat go_big_quiet_step ((first|(with_reducible exact Jp (HA1.out _))|(with_reducible exact Jp (HA2.out _))))
  exact wpQuiet_nil rfl
 ·intro q hq oi hoi
  simp only[List.mem_cons,List.not_mem_nil,or_false] at hq
  rcases hq with rfl|rfl
  ·cases hoi;exact⟨_,rfl,rfl,fun w2 hw=>by kernel_rfl⟩
  ·cases hoi;exact⟨_,rfl,rfl,fun w2 hw=>by kernel_rfl⟩
 simp only[Qa,List.getElem?_cons_succ,List.getElem?_cons_zero]
 refine⟨fun v fl w2=>v=undef∧∃x:Jz w4,w2=x.world.setRow b0 (Jpn true true pr (.int .i64 (40+tot)) (.bool (decide (0<fo))) S D),?_,?_,(fun h=>by cases h),?_⟩
 ·rintro fl rfl
  refine Jv.skip rfl ?_
  rintro w' ⟨⟨x,rfl⟩,-⟩
  have hbx:=(x.below.block b0 (Jpb HX4.out).1).trans HX4.out
  exact⟨_,Jce _ x.world b0 (Jpn true true pr (.int .i64 (40+tot)) (.bool (decide (0<fo))) S D) (by kernel_rfl) (by kernel_rfl) (by rw[Jc _ _ _ _ _ hbx];rfl) rfl rfl,x,rfl⟩
 ·rintro v fl g-w2-
  trivial
 rintro v ⟨fl0,w20,rfl,-⟩
 refine⟨fun v fl w2=>v=.slice ob nb cb∧∃x:Jz w4,w2=x.world.setRow b0 (Jpn true true pr (.int .i64 (40+tot)) (.bool (decide (0<fo))) S D),?_,?_,(fun h=>by cases h),?_⟩
 ·rintro fl rfl
  refine Jv.made rfl ?_
  rintro w' ⟨-,hx'⟩
  exact⟨.slice ob nb cb,w',by kernel_rfl,rfl,hx'⟩
 ·rintro v fl g-w2-
  trivial
 rintro v ⟨fl1,w21,rfl,-⟩
 refine⟨fun v fl w2=>v=.bool fm∧∃x:Jz w4,w2=x.world.setRow b0 (Jpn true true pr (.int .i64 (40+tot)) (.bool (decide (0<fo))) S D),?_,fun _ _=>JC rfl,(fun h=>by cases h),?_⟩
 ·rintro fl rfl
  refine Jv.made rfl ?_
  rintro w' ⟨-,hx'⟩
  exact⟨.bool fm,w',by kernel_rfl,rfl,hx'⟩
 rintro v ⟨fl2,w22,rfl,-⟩
 refine⟨fun v fl w2=>v=.int .i64 0∧∃x:Jz w4,w2=x.world.setRow b0 (Jpn true true pr (.int .i64 (40+tot)) (.bool (decide (0<fo))) S D),?_,fun _ _=>JC rfl,(fun h=>by cases h),?_⟩
 ·rintro fl rfl
  refine Jv.made rfl ?_
  rintro w' ⟨-,hx'⟩
  exact⟨.int .i64 0,w',by kernel_rfl,rfl,hx'⟩
 rintro v ⟨fl3,w23,rfl,-⟩
 rintro zf ⟨-,x,rfl⟩
 have HB5:=Jpa (Jo3 HB4.out x.below)
 have HO5:=Jpa (HO4.out.below x.below)
 have HX5:=Jpa ((x.below.block b0 (Jpb HX4.out).1).trans HX4.out)
 clear HB4 HO4 HX4 fl0 w20 fl1 w21 fl2 w22 fl3 w23
 generalize x.world=w5 at*
 go_wp2_with fail
 refine Jh6 (cs:=(Jpn true true pr (.int .i64 (40+tot)) (.bool (decide (0<fo))) S D)) (v:=.slice ob nb cb) (u:=.bool fm) (x:=.int .i64 0) b0 rfl rfl rfl rfl (Ja (Jd HX5.out) rfl) rfl ?_
 show Jdy w oa (Qy l) (Ju l) _ _
 rw[HOUT.out,H00.out]
 refine .inr ⟨rfl,ob,cb,?_,?_,HB5.out.trans (Jb _ (Nat.le_of_eq HB0.out.symm)),HIN.out⟩
 ·show Ending.returned (.tuple #[_,.slice ob nb cb,_,_])=.returned (.tuple #[_,.slice ob L.length cb,_,_])
  rw[HNB.out];rfl
 ·show Ji _ _ L.length _ _
  rw[HNB.out]
  exact HO5.out.keep (by simp) (fun a ha _=>setRow_other _ _ _ _ (HNO.out a ha))
theorem XT {w w':World}{V:Value}{tmps cs:Array Value}{err:Int}(b:Nat)(hp:tmps.getD 2 undef=.pointer (some ⟨b,0,none⟩))(h3:tmps.getD 3 undef=.int .i64 err)(hc:Jf w' b 0 40=cs)(hs:cs.size=40)(hv:V=.tuple #[.agg cs,.int .i64 err])(hb:Below w.heap.size w w'):
 bodyPost Tryz.prog Tryz.f12 (Jh w V) .ret { tmps:=tmps,defers:=[] } w':=
 bodyPost_ret (v:=.tuple #[.agg cs,.int .i64 err]) (Qi rfl _ _ b 40 _ _ Tryz.underlying40 rfl Jb0 hp h3 cs hc hs) rfl (.mk hv.symm hb)
theorem JgI (oa:Option Addr)(n cap:Nat)(l:List Int)(w:World)(hr:Ji w oa n cap l)(hn:2048<n):
 Calls Tryz.prog 12 #[.slice oa n cap] w (Jh w (pkR l)):=by
 have hlen:=hr.len
 have hd:decide ((n:Int)>2048)=true:=by simp;omega
 have HE:=Jpa (QS (l:=l) (err:=3) (by unfold Qj;rw[if_pos (by omega)]) (by decide))
 have hx:=heap_alloc_new w (.cells (Jpq false false (.int .i64 0) false) 40)
 have hrf:Jg (w.alloc (.cells (Jpq false false (.int .i64 0) false) 40)) w.heap.size 40=true:=by rw[Jc _ _ _ _ _ hx];rfl
 have HX:=Jpa hx
 have HB:Hid (Below w.heap.size w (w.alloc (.cells (Jpq false false (.int .i64 0) false) 40))):=Jpa (Below.all (Jpd _ _) _)
 clear hx hr
 go_enter Tryz.func12,Tryz.ntmps12
 go_wp2_with fail
 exact XT (cs:=X4) w.heap.size rfl rfl (Ja HX.out rfl) rfl HE.out HB.out
theorem Jh7 (oa:Option Addr)(n cap:Nat)(l:List Int)(w:World)(hr:Ji w oa n cap l)(hn:n=0):
 Calls Tryz.prog 12 #[.slice oa n cap] w (Jh w (pkR l)):=by
 have hlen:=hr.len
 have hd:decide ((n:Int)>2048)=false:=by simp;omega
 have hd2:((n:Int)==0)=true:=by simp;omega
 have HE:=Jpa (QS (l:=l) (err:=10) (by unfold Qj;rw[if_neg (by omega),if_pos (by omega)]) (by decide))
 have hx:=heap_alloc_new w (.cells (Jpq false false (.int .i64 0) false) 40)
 have hrf:Jg (w.alloc (.cells (Jpq false false (.int .i64 0) false) 40)) w.heap.size 40=true:=by rw[Jc _ _ _ _ _ hx];rfl
 have HX:=Jpa hx
 have HB:Hid (Below w.heap.size w (w.alloc (.cells (Jpq false false (.int .i64 0) false) 40))):=Jpa (Below.all (Jpd _ _) _)
 clear hx hr
 go_enter Tryz.func12,Tryz.ntmps12
 go_wp2_with fail
 exact XT (cs:=X4) w.heap.size rfl rfl (Ja HX.out rfl) rfl HE.out HB.out
theorem JcT (oa:Option Addr)(n cap:Nat)(l:List Int)(w:World)(hr:Ji w oa n cap l)(hn1:0<n)(hn2:n≤2048)(hk:¬l.getD 0 0/16=4∧¬l.getD 0 0/16=6):
 Calls Tryz.prog 12 #[.slice oa n cap] w (Jh w (pkR l)):=by
 obtain⟨g,off,rfl,hgl,hcs⟩:=hr.here hn1
 have hc0:=hcs 0 hn1
 have hx0:=Jy hr.byte 0
 have HBYT:=Jpa hr.byte
 have hlen:=hr.len
 rw[Nat.add_zero] at hc0
 obtain⟨x0,e0⟩:∃x:Nat,l.getD 0 0=(x:Int):=⟨(l.getD 0 0).toNat,by omega⟩
 have HE0:=Jpa e0
 rw[e0] at hc0 hx0 hk
 have hd:decide ((n:Int)>2048)=false:=by simp;omega
 have hd2:((n:Int)==0)=false:=by simp;omega
 have hn0:(0:Int)<(n:Int):=by omega
 have hgl1:g<w.heap.size+1:=by omega
 have htd:Int.tdiv (x0:Int) 16=(x0:Int)/16:=Int.tdiv_eq_ediv_of_nonneg (by omega)
 have hxa:=heap_alloc_new w (.cells (Jpq false false (.int .i64 0) false) 40)
 have hba:=Below.all (Jpd w.heap.size w) (.cells (Jpq false false (.int .i64 0) false) 40)
 obtain⟨wa,hwa⟩:∃x,w.alloc (.cells (Jpq false false (.int .i64 0) false) 40)=x:=⟨_,rfl⟩
 have hsa:wa.heap.size=w.heap.size+1:=by rw[←hwa];simp
 rw[hwa] at hxa hba
 have hxc:=heap_alloc_new wa (.cells (Jpq false false (.int .i64 0) false) 40)
 have hbc:=Below.all (Jpd wa.heap.size wa) (.cells (Jpq false false (.int .i64 0) false) 40)
 obtain⟨w1,hw1⟩:∃x,wa.alloc (.cells (Jpq false false (.int .i64 0) false) 40)=x:=⟨_,rfl⟩
 rw[hw1,hsa] at hxc
 rw[hw1] at hbc
 have HW1:Hid ((w.alloc (.cells (Jpq false false (.int .i64 0) false) 40)).alloc (.cells (Jpq false false (.int .i64 0) false) 40)=w1):=Jpa (by rw[hwa,hw1])
 have HB1:Hid (Below w.heap.size w w1):=Jpa (Jo3 hba hbc)
 have HR1:=Jpa (hr.below HB1.out)
 have HX1:=Jpa ((hbc.block _ (by omega)).trans hxa)
 have HY1:=Jpa hxc
 have hs1:w1.heap.size=w.heap.size+2:=by rw[←hw1];simp[hsa]
 obtain⟨b0,hb0⟩:∃b,b=w.heap.size:=⟨_,rfl⟩
 have HB0:=Jpa hb0
 clear hxa hba hwa hsa hxc hbc hw1 hr hcs e0
 have hv4:((x0:Int)/16==4)=false:=by simpa using hk.1
 have hv6:((x0:Int)/16==6)=false:=by simpa using hk.2
 have HE:=Jpa (QS (l:=l) (err:=50) (by unfold Qj;rw[if_neg (by omega),if_neg (by omega),HE0.out,if_neg hk.1,if_neg hk.2]) (by decide))
 have l0:b0<w1.heap.size:=by omega
 have hrf:Jg ((w.alloc (.cells (Jpq false false (.int .i64 0) false) 40)).alloc (.cells (Jpq false false (.int .i64 0) false) 40)) w.heap.size 40=true:=by rw[HW1.out,Jc _ _ _ _ _ HX1.out];rfl
 clear hk
 go_enter Tryz.func12,Tryz.ntmps12
 go_wp2_with fail
 refine XT (cs:=X4) w.heap.size rfl rfl ?_ rfl HE.out ?_
 ·rw[HW1.out];exact Ja HX1.out rfl
 ·rw[HW1.out];exact HB1.out
theorem Jh8 (oa:Option Addr)(n cap:Nat)(l:List Int)(w:World)(hr:Ji w oa n cap l)(hn1:0<n)(hn2:n≤2048)(hk:l.getD 0 0/16=4):
 Calls Tryz.prog 12 #[.slice oa n cap] w (Jh w (pkR l)):=by
 obtain⟨g,off,rfl,hgl,hcs⟩:=hr.here hn1
 have hc0:=hcs 0 hn1
 have hx0:=Jy hr.byte 0
 have HBYT:=Jpa hr.byte
 have hlen:=hr.len
 rw[Nat.add_zero] at hc0
 obtain⟨x0,e0⟩:∃x:Nat,l.getD 0 0=(x:Int):=⟨(l.getD 0 0).toNat,by omega⟩
 have HE0:=Jpa e0
 rw[e0] at hc0 hx0 hk
 have hd:decide ((n:Int)>2048)=false:=by simp;omega
 have hd2:((n:Int)==0)=false:=by simp;omega
 have hn0:(0:Int)<(n:Int):=by omega
 have hgl1:g<w.heap.size+1:=by omega
 have htd:Int.tdiv (x0:Int) 16=(x0:Int)/16:=Int.tdiv_eq_ediv_of_nonneg (by omega)
 have hxa:=heap_alloc_new w (.cells (Jpq false false (.int .i64 0) false) 40)
 have hba:=Below.all (Jpd w.heap.size w) (.cells (Jpq false false (.int .i64 0) false) 40)
 obtain⟨wa,hwa⟩:∃x,w.alloc (.cells (Jpq false false (.int .i64 0) false) 40)=x:=⟨_,rfl⟩
 have hsa:wa.heap.size=w.heap.size+1:=by rw[←hwa];simp
 rw[hwa] at hxa hba
 have hxc:=heap_alloc_new wa (.cells (Jpq false false (.int .i64 0) false) 40)
 have hbc:=Below.all (Jpd wa.heap.size wa) (.cells (Jpq false false (.int .i64 0) false) 40)
 obtain⟨w1,hw1⟩:∃x,wa.alloc (.cells (Jpq false false (.int .i64 0) false) 40)=x:=⟨_,rfl⟩
 rw[hw1,hsa] at hxc
 rw[hw1] at hbc
 have HW1:Hid ((w.alloc (.cells (Jpq false false (.int .i64 0) false) 40)).alloc (.cells (Jpq false false (.int .i64 0) false) 40)=w1):=Jpa (by rw[hwa,hw1])
 have HB1:Hid (Below w.heap.size w w1):=Jpa (Jo3 hba hbc)
 have HR1:=Jpa (hr.below HB1.out)
 have HX1:=Jpa ((hbc.block _ (by omega)).trans hxa)
 have HY1:=Jpa hxc
 have hs1:w1.heap.size=w.heap.size+2:=by rw[←hw1];simp[hsa]
 obtain⟨b0,hb0⟩:∃b,b=w.heap.size:=⟨_,rfl⟩
 have HB0:=Jpa hb0
 clear hxa hba hwa hsa hxc hbc hw1 hr hcs e0
 have hv4:((x0:Int)/16==4)=true:=by simp[hk]
 have hv6:((x0:Int)/16==6)=false:=by simp[hk]
 have HER:Hid (Qj l=if Jm l≠0 then Jm l else (Jal (J8 l)).err):=Jpa (by unfold Qj;rw[if_neg (by omega),if_neg (by omega),HE0.out,hk];rw[if_pos rfl])
 have HOF:Hid (Qj l=0→Jlg l=JjX (J8 l) (Jal (J8 l))):=Jpa (fun h=>by unfold Jlg;rw[h,if_neg (by decide),HE0.out,hk];rfl)
 clear hk
 go_enter Tryz.func12,Tryz.ntmps12
 go_wp2_with fail
 rw[HW1.out]
 rw[←hb0] at HX1 HY1 hs1 hgl1⊢
 clear hb0
 refine Jpc (JkJ _ _ _ _ w1 HR1.out (by omega)) ?_
 rintro e z (⟨h0,rfl,hb⟩|⟨h0,ob,cb,rfl,ho,hb,hin⟩)
 ·have HE:=Jpa (QS (l:=l) (err:=Jm l) (by rw[HER.out,if_pos h0]) h0)
  have hne1:(Jm l != 0)=true:=by simpa using h0
  have HXZ:=Jpa ((hb.block b0 (by omega)).trans HX1.out)
  have HYZ:=Jpa ((hb.block (b0+1) (by omega)).trans HY1.out)
  have HBZ:=Jpa (Jo3 HB1.out hb)
  have l0:b0<z.heap.size:=(Jpb HXZ.out).1
  have l1:b0+1<z.heap.size:=(Jpb HYZ.out).1
  have hrf:Jg z b0 40=true:=by rw[Jc _ _ _ _ _ HXZ.out];rfl
  have hrf1:Jg z (b0+1) 40=true:=by rw[Jc _ _ _ _ _ HYZ.out];rfl
  have hgz:g<z.heap.size:=by omega
  have hcz:=(Je HBZ.out hgl (⟨g,off,none⟩:Addr) rfl).trans hc0
  have hgb:g≠b0+1:=by have:=HB0.out;omega
  clear hb h0 HX1 HY1 HB1 HR1 HER HOF hc0 hgl hgl1 hs1
  generalize Jm l=er at*
  unfold X4
  go_wp2_with fail
  exact XT (cs:=X4) b0 rfl rfl (Ja (Jd ((setRow_other _ _ _ _ (by omega)).trans HXZ.out)) rfl) rfl HE.out ((HBZ.out.trans (Jb _ (by have:=HB0.out;omega))).trans (Jb _ (Nat.le_of_eq HB0.out.symm)))
 have HER2:Hid (Qj l=(Jal (J8 l)).err):=Jpa (by rw[HER.out,if_neg (by rw[h0];decide)])
 have HSIX:Hid ((J8 l).six=false):=Jpa rfl
 have HBL:=Jpa (JjJ l)
 have HXZ:=Jpa ((hb.block b0 (by omega)).trans HX1.out)
 have HYZ:=Jpa ((hb.block (b0+1) (by omega)).trans HY1.out)
 have HBZ:=Jpa (Jo3 HB1.out hb)
 have l0:b0<z.heap.size:=(Jpb HXZ.out).1
 have l1:b0+1<z.heap.size:=(Jpb HYZ.out).1
 have hrf:Jg z b0 40=true:=by rw[Jc _ _ _ _ _ HXZ.out];rfl
 have hrf1:Jg z (b0+1) 40=true:=by rw[Jc _ _ _ _ _ HYZ.out];rfl
 have hgz:g<z.heap.size:=by omega
 have hcz:=(Je HBZ.out hgl (⟨g,off,none⟩:Addr) rfl).trans hc0
 have hgb:g≠b0+1:=by have:=HB0.out;omega
 have HRB:=Jpa ho
 have HNB:Hid (∀a,ob=some a→a.block≠b0+1):=Jpa (fun a ha=>by
  obtain⟨a0,h1,h2⟩:=hin a ha
  cases h1
  simp only at h2
  omega)
 clear hb h0 HX1 HY1 HB1 HR1 HER hc0 hgl hgl1 hs1 ho hin
 unfold pkO
 generalize J8 l=O at*
 obtain⟨o6,S,D,p,ln,fr,mo,L⟩:=O
 simp only at HSIX HBL HER2 HOF HRB⊢
 obtain rfl:o6=false:=HSIX.out
 obtain⟨nb,hnb⟩:∃n,L.length=n:=⟨_,rfl⟩
 rw[hnb] at HRB HBL⊢
 clear hnb
 have HUP:Hid (Jal ⟨false,S,D,p,ln,fr,mo,L⟩=if (JO p||JS p)&&!fr then (if mo then JA p L else Js p L) else ⟨0,0,0,0⟩):=Jpa rfl
 have hp40:Jf (z.setRow (b0+1) (Jpn false false p (.int .i64 ln) fr S D)) (b0+1) 0 40=(Jpn false false p (.int .i64 ln) fr S D:Array Value):=Ja (Jd HYZ.out) rfl
 have q39:=cell_of_row _ _ 39 _ _ (0,0) (Jd (cs:=(Jpn false false p (.int .i64 ln) fr S D)) HYZ.out)
 have q34:=cell_of_row _ _ 34 _ _ (0,0) (Jd (cs:=(Jpn false false p (.int .i64 ln) fr S D)) HYZ.out)
 cases fr
 rotate_left
 ·have hU:Jal ⟨false,S,D,p,ln,true,mo,L⟩=⟨0,0,0,0⟩:=by rw[HUP.out];simp
  have hE:Qj l=0:=by rw[HER2.out,hU]
  have HV:Hid (pkR l=.tuple #[.agg #[.bool false,.int .u8 (S 0),.int .u8 (S 1),.int .u8 (S 2),.int .u8 (S 3),.int .u8 (S 4),.int .u8 (S 5),.int .u8 (S 6),.int .u8 (S 7),.int .u8 (S 8),.int .u8 (S 9),.int .u8 (S 10),.int .u8 (S 11),.int .u8 (S 12),.int .u8 (S 13),.int .u8 (S 14),.int .u8 (S 15),.bool false,.int .u8 (D 0),.int .u8 (D 1),.int .u8 (D 2),.int .u8 (D 3),.int .u8 (D 4),.int .u8 (D 5),.int .u8 (D 6),.int .u8 (D 7),.int .u8 (D 8),.int .u8 (D 9),.int .u8 (D 10),.int .u8 (D 11),.int .u8 (D 12),.int .u8 (D 13),.int .u8 (D 14),.int .u8 (D 15),.int .u8 p,.int .u16 0,.int .u16 0,.int .i64 ln,.int .u8 0,.bool true],.int .i64 0]):=Jpa (by unfold pkR;rw[hE,HOF.out hE,hU];rfl)
  clear hU hE HUP HER2 HOF
  go_wp2_with fail
  exact XT (cs:=(Jpn false false p (.int .i64 ln) true S D)) b0 rfl rfl (Ja (Jd ((setRow_other _ _ _ _ (by omega)).trans HXZ.out)) rfl) rfl HV.out ((HBZ.out.trans (Jb _ (by have:=HB0.out;omega))).trans (Jb _ (Nat.le_of_eq HB0.out.symm)))
 have hU:Jal ⟨false,S,D,p,ln,false,mo,L⟩=ZE p L (!mo):=by
  rw[HUP.out];unfold ZE;cases mo<;>simp
 have HE2:Hid (Qj l=(ZE p L (!mo)).err):=Jpa (by rw[HER2.out,hU])
 have HV:Hid (Qj l=0→pkR l=.tuple #[.agg #[.bool false,.int .u8 (S 0),.int .u8 (S 1),.int .u8 (S 2),.int .u8 (S 3),.int .u8 (S 4),.int .u8 (S 5),.int .u8 (S 6),.int .u8 (S 7),.int .u8 (S 8),.int .u8 (S 9),.int .u8 (S 10),.int .u8 (S 11),.int .u8 (S 12),.int .u8 (S 13),.int .u8 (S 14),.int .u8 (S 15),.bool false,.int .u8 (D 0),.int .u8 (D 1),.int .u8 (D 2),.int .u8 (D 3),.int .u8 (D 4),.int .u8 (D 5),.int .u8 (D 6),.int .u8 (D 7),.int .u8 (D 8),.int .u8 (D 9),.int .u8 (D 10),.int .u8 (D 11),.int .u8 (D 12),.int .u8 (D 13),.int .u8 (D 14),.int .u8 (D 15),.int .u8 p,.int .u16 (ZE p L (!mo)).src,.int .u16 (ZE p L (!mo)).dst,.int .i64 ln,.int .u8 (ZE p L (!mo)).flags,.bool false],.int .i64 0]):=Jpa (fun h=>by unfold pkR;rw[h,HOF.out h,hU];rfl)
 have HCU:Hid (∀w',Ji w' ob nb cb L→Calls Tryz.prog 41 #[p,.slice ob nb cb,.bool (!mo)] w' (Jh w' (upV (ZE p L (!mo))))):=Jpa (fun w' h=>Jfu p ob nb cb L (!mo) w' h (by have:=HBL.out;omega))
 clear hU HUP HER2 HOF
 go_wp2_with fail
 have HX2:=Jpa ((setRow_other z (b0+1) b0 (Jpn false false p (.int .i64 ln) false S D) (by omega)).trans HXZ.out)
 have HY2:=Jpa (Jd (cs:=(Jpn false false p (.int .i64 ln) false S D)) HYZ.out)
 have HB2:Hid (Below w.heap.size w (z.setRow (b0+1) (Jpn false false p (.int .i64 ln) false S D))):=Jpa (HBZ.out.trans (Jb _ (by have:=HB0.out;omega)))
 have HR2:Hid (Ji (z.setRow (b0+1) (Jpn false false p (.int .i64 ln) false S D)) ob nb cb L):=Jpa (HRB.out.keep (by simp) (fun a ha _=>setRow_other _ _ _ _ (HNB.out a ha)))
 clear hrf hrf1 l0 l1 hp40 q39 q34 HXZ HYZ HBZ HRB hcz hgz
 generalize z.setRow (b0+1) (Jpn false false p (.int .i64 ln) false S D)=z2 at HX2 HY2 HB2 HR2⊢
 refine Jpc (HCU.out _ HR2.out) ?_
 rintro e z3 ⟨rfl,hb3⟩
 have HX3:=Jpa ((hb3.block b0 (Jpb HX2.out).1).trans HX2.out)
 have HY3:=Jpa ((hb3.block (b0+1) (Jpb HY2.out).1).trans HY2.out)
 have HB3:=Jpa (Jo3 HB2.out hb3)
 generalize ZE p L (!mo)=u at*
 obtain⟨ue,us,ud,uf⟩:=u
 simp only at HE2 HV
 unfold upV
 have l0:b0<z3.heap.size:=(Jpb HX3.out).1
 have hrf:Jg z3 b0 40=true:=by rw[Jc _ _ _ _ _ HX3.out];rfl
 clear hb3 HX2 HY2 HB2 HR2 HCU
 by_cases h0:ue=0
 rotate_left
 ·have HV2:=Jpa (QS (l:=l) HE2.out h0)
  have hne1:(ue != 0)=true:=by simpa using h0
  clear HV HE2 h0
  go_wp2_with fail
  exact XT (cs:=X4) b0 rfl rfl (Ja (Jd HX3.out) rfl) rfl HV2.out (HB3.out.trans (Jb _ (Nat.le_of_eq HB0.out.symm)))
 subst h0
 have HV2:=Jpa (HV.out HE2.out)
 clear HV HE2
 have l1:b0+1<z3.heap.size:=(Jpb HY3.out).1
 have f35:=frozen_of_row _ _ 35 _ _ HY3.out
 have f36:=frozen_of_row _ _ 36 _ _ HY3.out
 have f38:=frozen_of_row _ _ 38 _ _ HY3.out
 have q35:=cell_of_row _ _ 35 _ _ (0,0) HY3.out
 have q36:=cell_of_row _ _ 36 _ _ (0,0) HY3.out
 have q38:=cell_of_row _ _ 38 _ _ (0,0) HY3.out
 have HY4:=Jpa ((heap_setCell_same _ (b0+1) 38 (Jqg false false p (.int .u16 us) (.int .u16 ud) (.int .i64 ln) false S D) _ (.int .u8 uf) ((heap_setCell_same _ (b0+1) 36 (Jqh false false p (.int .u16 us) (.int .i64 ln) false S D) _ (.int .u16 ud) ((heap_setCell_same _ (b0+1) 35 _ _ (.int .u16 us) HY3.out).trans rfl)).trans rfl)).trans (rfl:_=some (Obj.cells (Jpp false false p (.int .u16 us) (.int .u16 ud) (.int .i64 ln) uf false S D) 40 (0,0))))
 have hpt:Jf (((z3.setCell ⟨b0+1,35,none⟩ (.int .u16 us)).setCell ⟨b0+1,36,none⟩ (.int .u16 ud)).setCell ⟨b0+1,38,none⟩ (.int .u8 uf)) (b0+1) 0 40=(Jpp false false p (.int .u16 us) (.int .u16 ud) (.int .i64 ln) uf false S D:Array Value):=Ja HY4.out rfl
 have HX4:=Jpa ((heap_setCell_other ((z3.setCell ⟨b0+1,35,none⟩ (.int .u16 us)).setCell ⟨b0+1,36,none⟩ (.int .u16 ud)) ⟨b0+1,38,none⟩ b0 (.int .u8 uf) (by show b0≠b0+1;omega)).trans ((heap_setCell_other (z3.setCell ⟨b0+1,35,none⟩ (.int .u16 us)) ⟨b0+1,36,none⟩ b0 (.int .u16 ud) (by show b0≠b0+1;omega)).trans ((heap_setCell_other z3 ⟨b0+1,35,none⟩ b0 (.int .u16 us) (by show b0≠b0+1;omega)).trans HX3.out)))
 have HB4:Hid (Below w.heap.size w (((z3.setCell ⟨b0+1,35,none⟩ (.int .u16 us)).setCell ⟨b0+1,36,none⟩ (.int .u16 ud)).setCell ⟨b0+1,38,none⟩ (.int .u8 uf))):=Jpa (((HB3.out.setCell (p:=⟨b0+1,35,none⟩) (by have:=HB0.out;show w.heap.size≤b0+1;omega) _).setCell (p:=⟨b0+1,36,none⟩) (by have:=HB0.out;show w.heap.size≤b0+1;omega) _).setCell (p:=⟨b0+1,38,none⟩) (by have:=HB0.out;show w.heap.size≤b0+1;omega) _)
 go_wp2_with fail
 exact XT (cs:=(Jpp false false p (.int .u16 us) (.int .u16 ud) (.int .i64 ln) uf false S D)) b0 rfl rfl (Ja (Jd HX4.out) rfl) rfl HV2.out (HB4.out.trans (Jb _ (Nat.le_of_eq HB0.out.symm)))
theorem Jjd (oa:Option Addr)(n cap:Nat)(l:List Int)(w:World)(hr:Ji w oa n cap l)(hn1:0<n)(hn2:n≤2048)(hk:l.getD 0 0/16=6):
 Calls Tryz.prog 12 #[.slice oa n cap] w (Jh w (pkR l)):=by
 obtain⟨g,off,rfl,hgl,hcs⟩:=hr.here hn1
 have hc0:=hcs 0 hn1
 have hx0:=Jy hr.byte 0
 have HBYT:=Jpa hr.byte
 have hlen:=hr.len
 rw[Nat.add_zero] at hc0
 obtain⟨x0,e0⟩:∃x:Nat,l.getD 0 0=(x:Int):=⟨(l.getD 0 0).toNat,by omega⟩
 have HE0:=Jpa e0
 rw[e0] at hc0 hx0 hk
 have hd:decide ((n:Int)>2048)=false:=by simp;omega
 have hd2:((n:Int)==0)=false:=by simp;omega
 have hn0:(0:Int)<(n:Int):=by omega
 have hgl1:g<w.heap.size+1:=by omega
 have htd:Int.tdiv (x0:Int) 16=(x0:Int)/16:=Int.tdiv_eq_ediv_of_nonneg (by omega)
 have hxa:=heap_alloc_new w (.cells (Jpq false false (.int .i64 0) false) 40)
 have hba:=Below.all (Jpd w.heap.size w) (.cells (Jpq false false (.int .i64 0) false) 40)
 obtain⟨wa,hwa⟩:∃x,w.alloc (.cells (Jpq false false (.int .i64 0) false) 40)=x:=⟨_,rfl⟩
 have hsa:wa.heap.size=w.heap.size+1:=by rw[←hwa];simp
 rw[hwa] at hxa hba
 have hxc:=heap_alloc_new wa (.cells (Jpq false false (.int .i64 0) false) 40)
 have hbc:=Below.all (Jpd wa.heap.size wa) (.cells (Jpq false false (.int .i64 0) false) 40)
 obtain⟨w1,hw1⟩:∃x,wa.alloc (.cells (Jpq false false (.int .i64 0) false) 40)=x:=⟨_,rfl⟩
 rw[hw1,hsa] at hxc
 rw[hw1] at hbc
 have HW1:Hid ((w.alloc (.cells (Jpq false false (.int .i64 0) false) 40)).alloc (.cells (Jpq false false (.int .i64 0) false) 40)=w1):=Jpa (by rw[hwa,hw1])
 have HB1:Hid (Below w.heap.size w w1):=Jpa (Jo3 hba hbc)
 have HR1:=Jpa (hr.below HB1.out)
 have HX1:=Jpa ((hbc.block _ (by omega)).trans hxa)
 have HY1:=Jpa hxc
 have hs1:w1.heap.size=w.heap.size+2:=by rw[←hw1];simp[hsa]
 obtain⟨b0,hb0⟩:∃b,b=w.heap.size:=⟨_,rfl⟩
 have HB0:=Jpa hb0
 clear hxa hba hwa hsa hxc hbc hw1 hr hcs e0
 have hv4:((x0:Int)/16==4)=false:=by simp[hk]
 have hv6:((x0:Int)/16==6)=true:=by simp[hk]
 have HER:Hid (Qj l=if Ju l≠0 then Ju l else (Jal (Qy l)).err):=Jpa (by unfold Qj;rw[if_neg (by omega),if_neg (by omega),HE0.out,hk];rw[if_neg (by decide),if_pos rfl])
 have HOF:Hid (Qj l=0→Jlg l=JjX (Qy l) (Jal (Qy l))):=Jpa (fun h=>by unfold Jlg;rw[h,if_neg (by decide),HE0.out,hk];rfl)
 clear hk
 go_enter Tryz.func12,Tryz.ntmps12
 go_wp2_with fail
 rw[HW1.out]
 rw[←hb0] at HX1 HY1 hs1 hgl1⊢
 clear hb0
 refine Jpc (Jma _ _ _ _ w1 HR1.out (by omega) (fun a ha=>by cases ha;show g<_;omega)) ?_
 rintro e z (⟨h0,rfl,hb⟩|⟨h0,ob,cb,rfl,ho,hb,hin⟩)
 ·have HE:=Jpa (QS (l:=l) (err:=Ju l) (by rw[HER.out,if_pos h0]) h0)
  have hne1:(Ju l != 0)=true:=by simpa using h0
  have HXZ:=Jpa ((hb.block b0 (by omega)).trans HX1.out)
  have HYZ:=Jpa ((hb.block (b0+1) (by omega)).trans HY1.out)
  have HBZ:=Jpa (Jo3 HB1.out hb)
  have l0:b0<z.heap.size:=(Jpb HXZ.out).1
  have l1:b0+1<z.heap.size:=(Jpb HYZ.out).1
  have hrf:Jg z b0 40=true:=by rw[Jc _ _ _ _ _ HXZ.out];rfl
  have hrf1:Jg z (b0+1) 40=true:=by rw[Jc _ _ _ _ _ HYZ.out];rfl
  have hgz:g<z.heap.size:=by omega
  have hcz:=(Je HBZ.out hgl (⟨g,off,none⟩:Addr) rfl).trans hc0
  have hgb:g≠b0+1:=by have:=HB0.out;omega
  clear hb h0 HX1 HY1 HB1 HR1 HER HOF hc0 hgl hgl1 hs1
  generalize Ju l=er at*
  unfold X4
  go_wp2_with fail
  exact XT (cs:=X4) b0 rfl rfl (Ja (Jd ((setRow_other _ _ _ _ (by omega)).trans HXZ.out)) rfl) rfl HE.out ((HBZ.out.trans (Jb _ (by have:=HB0.out;omega))).trans (Jb _ (Nat.le_of_eq HB0.out.symm)))
 have HER2:Hid (Qj l=(Jal (Qy l)).err):=Jpa (by rw[HER.out,if_neg (by rw[h0];decide)])
 have HSIX:Hid ((Qy l).six=true):=Jpa rfl
 have HBL:=Jpa (Jl8 l)
 have HXZ:=Jpa ((hb.block b0 (by omega)).trans HX1.out)
 have HYZ:=Jpa ((hb.block (b0+1) (by omega)).trans HY1.out)
 have HBZ:=Jpa (Jo3 HB1.out hb)
 have l0:b0<z.heap.size:=(Jpb HXZ.out).1
 have l1:b0+1<z.heap.size:=(Jpb HYZ.out).1
 have hrf:Jg z b0 40=true:=by rw[Jc _ _ _ _ _ HXZ.out];rfl
 have hrf1:Jg z (b0+1) 40=true:=by rw[Jc _ _ _ _ _ HYZ.out];rfl
 have hgz:g<z.heap.size:=by omega
 have hcz:=(Je HBZ.out hgl (⟨g,off,none⟩:Addr) rfl).trans hc0
 have hgb:g≠b0+1:=by have:=HB0.out;omega
 have HRB:=Jpa ho
 have HNB:Hid (∀a,ob=some a→a.block≠b0+1):=Jpa (fun a ha=>by
  obtain⟨a0,h1,h2⟩:=hin a ha
  cases h1
  simp only at h2
  omega)
 clear hb h0 HX1 HY1 HB1 HR1 HER hc0 hgl hgl1 hs1 ho hin
 unfold pkO
 generalize Qy l=O at*
 obtain⟨o6,S,D,p,ln,fr,mo,L⟩:=O
 simp only at HSIX HBL HER2 HOF HRB⊢
 obtain rfl:o6=true:=HSIX.out
 obtain⟨nb,hnb⟩:∃n,L.length=n:=⟨_,rfl⟩
 rw[hnb] at HRB HBL⊢
 clear hnb
 have HUP:Hid (Jal ⟨true,S,D,p,ln,fr,mo,L⟩=if (JO p||JS p)&&!fr then (if mo then JA p L else Js p L) else ⟨0,0,0,0⟩):=Jpa rfl
 have hp40:Jf (z.setRow (b0+1) (Jpn true true p (.int .i64 ln) fr S D)) (b0+1) 0 40=(Jpn true true p (.int .i64 ln) fr S D:Array Value):=Ja (Jd HYZ.out) rfl
 have q39:=cell_of_row _ _ 39 _ _ (0,0) (Jd (cs:=(Jpn true true p (.int .i64 ln) fr S D)) HYZ.out)
 have q34:=cell_of_row _ _ 34 _ _ (0,0) (Jd (cs:=(Jpn true true p (.int .i64 ln) fr S D)) HYZ.out)
 cases fr
 rotate_left
 ·have hU:Jal ⟨true,S,D,p,ln,true,mo,L⟩=⟨0,0,0,0⟩:=by rw[HUP.out];simp
  have hE:Qj l=0:=by rw[HER2.out,hU]
  have HV:Hid (pkR l=.tuple #[.agg #[.bool true,.int .u8 (S 0),.int .u8 (S 1),.int .u8 (S 2),.int .u8 (S 3),.int .u8 (S 4),.int .u8 (S 5),.int .u8 (S 6),.int .u8 (S 7),.int .u8 (S 8),.int .u8 (S 9),.int .u8 (S 10),.int .u8 (S 11),.int .u8 (S 12),.int .u8 (S 13),.int .u8 (S 14),.int .u8 (S 15),.bool true,.int .u8 (D 0),.int .u8 (D 1),.int .u8 (D 2),.int .u8 (D 3),.int .u8 (D 4),.int .u8 (D 5),.int .u8 (D 6),.int .u8 (D 7),.int .u8 (D 8),.int .u8 (D 9),.int .u8 (D 10),.int .u8 (D 11),.int .u8 (D 12),.int .u8 (D 13),.int .u8 (D 14),.int .u8 (D 15),.int .u8 p,.int .u16 0,.int .u16 0,.int .i64 ln,.int .u8 0,.bool true],.int .i64 0]):=Jpa (by unfold pkR;rw[hE,HOF.out hE,hU];rfl)
  clear hU hE HUP HER2 HOF
  go_wp2_with fail
  exact XT (cs:=(Jpn true true p (.int .i64 ln) true S D)) b0 rfl rfl (Ja (Jd ((setRow_other _ _ _ _ (by omega)).trans HXZ.out)) rfl) rfl HV.out ((HBZ.out.trans (Jb _ (by have:=HB0.out;omega))).trans (Jb _ (Nat.le_of_eq HB0.out.symm)))
 have hU:Jal ⟨true,S,D,p,ln,false,mo,L⟩=ZE p L (!mo):=by
  rw[HUP.out];unfold ZE;cases mo<;>simp
 have HE2:Hid (Qj l=(ZE p L (!mo)).err):=Jpa (by rw[HER2.out,hU])
 have HV:Hid (Qj l=0→pkR l=.tuple #[.agg #[.bool true,.int .u8 (S 0),.int .u8 (S 1),.int .u8 (S 2),.int .u8 (S 3),.int .u8 (S 4),.int .u8 (S 5),.int .u8 (S 6),.int .u8 (S 7),.int .u8 (S 8),.int .u8 (S 9),.int .u8 (S 10),.int .u8 (S 11),.int .u8 (S 12),.int .u8 (S 13),.int .u8 (S 14),.int .u8 (S 15),.bool true,.int .u8 (D 0),.int .u8 (D 1),.int .u8 (D 2),.int .u8 (D 3),.int .u8 (D 4),.int .u8 (D 5),.int .u8 (D 6),.int .u8 (D 7),.int .u8 (D 8),.int .u8 (D 9),.int .u8 (D 10),.int .u8 (D 11),.int .u8 (D 12),.int .u8 (D 13),.int .u8 (D 14),.int .u8 (D 15),.int .u8 p,.int .u16 (ZE p L (!mo)).src,.int .u16 (ZE p L (!mo)).dst,.int .i64 ln,.int .u8 (ZE p L (!mo)).flags,.bool false],.int .i64 0]):=Jpa (fun h=>by unfold pkR;rw[h,HOF.out h,hU];rfl)
 have HCU:Hid (∀w',Ji w' ob nb cb L→Calls Tryz.prog 41 #[p,.slice ob nb cb,.bool (!mo)] w' (Jh w' (upV (ZE p L (!mo))))):=Jpa (fun w' h=>Jfu p ob nb cb L (!mo) w' h (by have:=HBL.out;omega))
 clear hU HUP HER2 HOF
 go_wp2_with fail
 have HX2:=Jpa ((setRow_other z (b0+1) b0 (Jpn true true p (.int .i64 ln) false S D) (by omega)).trans HXZ.out)
 have HY2:=Jpa (Jd (cs:=(Jpn true true p (.int .i64 ln) false S D)) HYZ.out)
 have HB2:Hid (Below w.heap.size w (z.setRow (b0+1) (Jpn true true p (.int .i64 ln) false S D))):=Jpa (HBZ.out.trans (Jb _ (by have:=HB0.out;omega)))
 have HR2:Hid (Ji (z.setRow (b0+1) (Jpn true true p (.int .i64 ln) false S D)) ob nb cb L):=Jpa (HRB.out.keep (by simp) (fun a ha _=>setRow_other _ _ _ _ (HNB.out a ha)))
 clear hrf hrf1 l0 l1 hp40 q39 q34 HXZ HYZ HBZ HRB hcz hgz
 generalize z.setRow (b0+1) (Jpn true true p (.int .i64 ln) false S D)=z2 at HX2 HY2 HB2 HR2⊢
 refine Jpc (HCU.out _ HR2.out) ?_
 rintro e z3 ⟨rfl,hb3⟩
 have HX3:=Jpa ((hb3.block b0 (Jpb HX2.out).1).trans HX2.out)
 have HY3:=Jpa ((hb3.block (b0+1) (Jpb HY2.out).1).trans HY2.out)
 have HB3:=Jpa (Jo3 HB2.out hb3)
 generalize ZE p L (!mo)=u at*
 obtain⟨ue,us,ud,uf⟩:=u
 simp only at HE2 HV
 unfold upV
 have l0:b0<z3.heap.size:=(Jpb HX3.out).1
 have hrf:Jg z3 b0 40=true:=by rw[Jc _ _ _ _ _ HX3.out];rfl
 clear hb3 HX2 HY2 HB2 HR2 HCU
 by_cases h0:ue=0
 rotate_left
 ·have HV2:=Jpa (QS (l:=l) HE2.out h0)
  have hne1:(ue != 0)=true:=by simpa using h0
  clear HV HE2 h0
  go_wp2_with fail
  exact XT (cs:=X4) b0 rfl rfl (Ja (Jd HX3.out) rfl) rfl HV2.out (HB3.out.trans (Jb _ (Nat.le_of_eq HB0.out.symm)))
 subst h0
 have HV2:=Jpa (HV.out HE2.out)
 clear HV HE2
 have l1:b0+1<z3.heap.size:=(Jpb HY3.out).1
 have f35:=frozen_of_row _ _ 35 _ _ HY3.out
 have f36:=frozen_of_row _ _ 36 _ _ HY3.out
 have f38:=frozen_of_row _ _ 38 _ _ HY3.out
 have q35:=cell_of_row _ _ 35 _ _ (0,0) HY3.out
 have q36:=cell_of_row _ _ 36 _ _ (0,0) HY3.out
 have q38:=cell_of_row _ _ 38 _ _ (0,0) HY3.out
 have HY4:=Jpa ((heap_setCell_same _ (b0+1) 38 (Jqg true true p (.int .u16 us) (.int .u16 ud) (.int .i64 ln) false S D) _ (.int .u8 uf) ((heap_setCell_same _ (b0+1) 36 (Jqh true true p (.int .u16 us) (.int .i64 ln) false S D) _ (.int .u16 ud) ((heap_setCell_same _ (b0+1) 35 _ _ (.int .u16 us) HY3.out).trans rfl)).trans rfl)).trans (rfl:_=some (Obj.cells (Jpp true true p (.int .u16 us) (.int .u16 ud) (.int .i64 ln) uf false S D) 40 (0,0))))
 have hpt:Jf (((z3.setCell ⟨b0+1,35,none⟩ (.int .u16 us)).setCell ⟨b0+1,36,none⟩ (.int .u16 ud)).setCell ⟨b0+1,38,none⟩ (.int .u8 uf)) (b0+1) 0 40=(Jpp true true p (.int .u16 us) (.int .u16 ud) (.int .i64 ln) uf false S D:Array Value):=Ja HY4.out rfl
 have HX4:=Jpa ((heap_setCell_other ((z3.setCell ⟨b0+1,35,none⟩ (.int .u16 us)).setCell ⟨b0+1,36,none⟩ (.int .u16 ud)) ⟨b0+1,38,none⟩ b0 (.int .u8 uf) (by show b0≠b0+1;omega)).trans ((heap_setCell_other (z3.setCell ⟨b0+1,35,none⟩ (.int .u16 us)) ⟨b0+1,36,none⟩ b0 (.int .u16 ud) (by show b0≠b0+1;omega)).trans ((heap_setCell_other z3 ⟨b0+1,35,none⟩ b0 (.int .u16 us) (by show b0≠b0+1;omega)).trans HX3.out)))
 have HB4:Hid (Below w.heap.size w (((z3.setCell ⟨b0+1,35,none⟩ (.int .u16 us)).setCell ⟨b0+1,36,none⟩ (.int .u16 ud)).setCell ⟨b0+1,38,none⟩ (.int .u8 uf))):=Jpa (((HB3.out.setCell (p:=⟨b0+1,35,none⟩) (by have:=HB0.out;show w.heap.size≤b0+1;omega) _).setCell (p:=⟨b0+1,36,none⟩) (by have:=HB0.out;show w.heap.size≤b0+1;omega) _).setCell (p:=⟨b0+1,38,none⟩) (by have:=HB0.out;show w.heap.size≤b0+1;omega) _)
 go_wp2_with fail
 exact XT (cs:=(Jpp true true p (.int .u16 us) (.int .u16 ud) (.int .i64 ln) uf false S D)) b0 rfl rfl (Ja (Jd HX4.out) rfl) rfl HV2.out (HB4.out.trans (Jb _ (Nat.le_of_eq HB0.out.symm)))
theorem Jje (oa:Option Addr)(n cap:Nat)(l:List Int)(w:World)(hr:Ji w oa n cap l):Calls Tryz.prog 12 #[.slice oa n cap] w (Jh w (pkR l)):=by
 by_cases h1:2048<n
 ·exact JgI oa n cap l w hr h1
 by_cases h2:n=0
 ·exact Jh7 oa n cap l w hr h2
 by_cases h4:l.getD 0 0/16=4
 ·exact Jh8 oa n cap l w hr (by omega) (by omega) h4
 by_cases h6:l.getD 0 0/16=6
 ·exact Jjd oa n cap l w hr (by omega) (by omega) h6
 exact JcT oa n cap l w hr (by omega) (by omega) ⟨h4,h6⟩
open Go.RowKit
theorem Jdj (w:World)(d:Nat)(s:Bool)(S:Nat→Int)(t:Bool)(T:Nat→Int)(p a b n f:Int)(r:Bool):
 (Op.equalIn (d+7) 40 (.agg (Jpp s t p (.int .u16 a) (.int .u16 b) (.int .i64 n) f r S T)) (.agg (Jpp s t p (.int .u16 a) (.int .u16 b) (.int .i64 n) f r S T))).run Tryz.prog w=.ok true w:=by
 simp[go_sem,JjA]
attribute [go_sem 5000] Jdj
theorem JkK (oa:Option Addr)(n cap:Nat)(l:List Int)(w:World)(hr:Ji w oa n cap l)(henv:Env w):Calls Tryz.prog 3 #[.slice oa n cap] w (Jh w (.bool true)):=by
 have HE:=Jpa henv
 have HR:=Jpa hr
 have hnl:=hr.len
 clear henv
 by_cases hn:n≤2100
 ·have HO:Hid (Calls Tryz.prog 10 #[.slice oa n cap] w (JnW w n l)):=Jpa ((JkT oa n cap l w hr (by omega)).mono fun _ _ h=>h.n hnl hr.byte)
  have H1:Hid (∀w,Ji w oa n cap l→Calls Tryz.prog 11 #[.slice oa n cap] w (Jh w (pkR l))):=Jpa (fun w h=>JkH oa n cap l w h)
  have H2:Hid (∀oa cap w,Ji w oa n cap l→Calls Tryz.prog 12 #[.slice oa n cap] w (Jh w (pkR l))):=Jpa (fun oa cap w h=>Jje oa n cap l w h)
  have HS:Hid (∀o2 c2 w,Ji w o2 n c2 l→Ji w oa n cap l→Calls Tryz.prog 14 #[.slice o2 n c2,.slice oa n cap] w (Jh w (.bool true))):=Jpa (fun o2 c2 w h h'=>Jmm o2 n c2 oa cap l w h h' (by omega))
  unfold pkR at H1 H2
  generalize Qj l=er at*
  obtain⟨k,hk⟩:∃k,Jlg l=k:=⟨_,rfl⟩
  rw[hk] at H1 H2
  clear hk
  obtain⟨s,S,T,p,a,b,ln,f,r⟩:=k
  unfold XJ at H1 H2
  simp only at H1 H2
  have HD:=Jpa (fun w=>JiS s S s T p a b ln f r w)
  have hn2:¬((n:Int)>2100):=by omega
  clear hr hnl hn
  go_enter Tryz.func3,Tryz.ntmps3
  go_wp2_with fail
  refine Jpc HO.out ?_
  rintro e w1 ⟨oo,co,rfl,ho,hb1⟩
  have HO1:=Jpa ho
  have HR1:=Jpa (HR.out.below hb1)
  have HB1:=Jpa hb1
  clear ho hb1 HO
  go_wp2_with fail
  refine Jpc (H1.out _ HR1.out) ?_
  rintro e w2 ⟨rfl,hb2⟩
  have HB2:Hid (Below w.heap.size w (w2.alloc (.cells (XJ ⟨s,S,T,p,a,b,ln,f,r⟩) 32))):=Jpa (Below.all (Jo3 HB1.out hb2) _)
  have HO2:=Jpa ((HO1.out.below hb2).alloc (.cells (XJ ⟨s,S,T,p,a,b,ln,f,r⟩) 32))
  have HR2:=Jpa ((HR1.out.below hb2).alloc (.cells (XJ ⟨s,S,T,p,a,b,ln,f,r⟩) 32))
  have HX2:=Jpa (heap_alloc_new w2 (.cells (XJ ⟨s,S,T,p,a,b,ln,f,r⟩) 32))
  clear hb2 HO1 HR1 HB1
  unfold XJ at HB2 HO2 HR2 HX2
  simp only at HB2 HO2 HR2 HX2
  go_wp2_with fail
  obtain⟨b2,hb2e⟩:∃b,b=w2.heap.size:=⟨_,rfl⟩
  rw[←hb2e] at HX2⊢
  clear hb2e
  generalize w2.alloc _=w3 at*
  refine Jpc (H2.out _ _ _ HO2.out) ?_
  rintro e w4 ⟨rfl,hb4⟩
  have HB4:Hid (Below w.heap.size w (w4.alloc (.cells (XJ ⟨s,S,T,p,a,b,ln,f,r⟩) 40))):=Jpa (Below.all (Jo3 HB2.out hb4) _)
  have HO4:=Jpa ((HO2.out.below hb4).alloc (.cells (XJ ⟨s,S,T,p,a,b,ln,f,r⟩) 40))
  have HR4:=Jpa ((HR2.out.below hb4).alloc (.cells (XJ ⟨s,S,T,p,a,b,ln,f,r⟩) 40))
  have hl2:b2<w3.heap.size:=(Jpb HX2.out).1
  have HX4:=Jpa ((heap_alloc_old _ (.cells (XJ ⟨s,S,T,p,a,b,ln,f,r⟩) 40) (Jpe hl2 hb4.size)).trans ((hb4.block b2 hl2).trans HX2.out))
  have HY4:=Jpa (heap_alloc_new w4 (.cells (XJ ⟨s,S,T,p,a,b,ln,f,r⟩) 40))
  clear hb4 HO2 HR2 HB2 HX2 hl2
  unfold XJ at HB4 HO4 HR4 HX4 HY4
  simp only at HB4 HO4 HR4 HX4 HY4
  go_wp2_with fail
  obtain⟨b4,hb4e⟩:∃b,b=w4.heap.size:=⟨_,rfl⟩
  rw[←hb4e] at HY4⊢
  clear hb4e
  generalize w4.alloc _=y at*
  have HS':=Jpa (fun(x:Jz y)=>HS.out oo co x.world (HO4.out.later x) (HR4.out.later x))
  have HWO:=Jpa (fun(x:Jz y)=>Jft x.world ((HE.out.below HB4.out).later x))
  have p2:Jf y b2 0 40=(Jpp s s p (.int .u16 a) (.int .u16 b) (.int .i64 ln) f r S T:Array Value):=Ja HX4.out rfl
  have p4:Jf y b4 0 40=(Jpp s s p (.int .u16 a) (.int .u16 b) (.int .i64 ln) f r S T:Array Value):=Ja HY4.out rfl
  have l2:b2<y.heap.size:=(Jpb HX4.out).1
  have l4:b4<y.heap.size:=(Jpb HY4.out).1
  refine Jo (by kernel_rfl) (by kernel_rfl) ?_
  repeat go_big_quiet_step (first|(go_at_call 13;exact Jp (HD.out _))|(go_at_call 14;exact Jp (HS'.out _))|(go_at_call 9;exact Jp (HWO.out _)))
  refine wpQuiet_nil ?_
  intro x
  go_wp2_with fail
  go_ret
  exact .mk rfl (HB4.out.trans (x.below.mono HB4.out.size))
 ·have hn2:(n:Int)>2100:=by omega
  clear hnl hr
  go_enter Tryz.func3,Tryz.ntmps3
  go_wp2_with fail
  refine Calls.later (Jft _ HE.out) ?_
  intro x
  go_wp2_with fail
  go_ret
  exact .mk rfl x.below
end
end Go.Proofs.YtkgjbipfhhjlpaaGreatDoor
