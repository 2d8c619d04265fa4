import Derived.Test.YtkgjbipfhhjlpaaGreatDoorMp21
set_option linter.unusedVariables false
set_option linter.unusedSimpArgs false
set_option maxRecDepth 100000
set_option maxHeartbeats 32000000
namespace Go.Proofs.YtkgjbipfhhjlpaaGreatDoor
section
open Go.RowKit Bits
theorem pparse_four (oa:Option Addr)(n cap:Nat)(l:List Int)(w:World)(hr:Reads w oa n cap l)(hn1:0<n)(hn2:n≤2048)(hk:l.getD 0 0/16=4):
 Calls Tryz.prog 11 #[.slice oa n cap] w (RetAt w (pkR l)):=by
 obtain⟨g,off,rfl,hgl,hcs⟩:=hr.here hn1
 have hc0:=hcs 0 hn1
 have hx0:=isBytes_getD hr.byte 0
 rw[Nat.add_zero] at hc0
 obtain⟨x0,e0⟩:∃x:Nat,l.getD 0 0=(x:Int):=⟨(l.getD 0 0).toNat,by omega⟩
 have HE0:=Lib.hid e0
 rw[e0] at hc0 hx0 hk
 have hd:decide ((n:Int)>2048)=false:=by simp;omega
 have hd2:((n:Int)==0)=false:=by simp;omega
 have hn0:(0:Int)<(n:Int):=by omega
 have hlen:=hr.len
 have hx:=heap_alloc_new w (.cells pkZC 32)
 have hB:Below w.heap.size w (w.alloc (.cells pkZC 32)):=Below.all (Below.refl _ _) _
 have HR:=Lib.hid (hr.alloc (.cells pkZC 32))
 have HBY:=Lib.hid hr.byte
 unfold pkZC at hx hB HR
 clear hr
 have hcy:=(below_cell hB hgl (⟨g,off,none⟩:Addr) rfl).trans hc0
 have hgy:g<(w.alloc (.cells #[.bool false,.int .u8 0,.int .u8 0,.int .u8 0,.int .u8 0,.int .u8 0,.int .u8 0,.int .u8 0,.int .u8 0,.int .u8 0,.int .u8 0,.int .u8 0,.int .u8 0,.int .u8 0,.int .u8 0,.int .u8 0,.int .u8 0,.bool false,.int .u8 0,.int .u8 0,.int .u8 0,.int .u8 0,.int .u8 0,.int .u8 0,.int .u8 0,.int .u8 0,.int .u8 0,.int .u8 0,.int .u8 0,.int .u8 0,.int .u8 0,.int .u8 0,.int .u8 0,.int .u8 0,.int .u8 0,.int .u16 0,.int .u16 0,.int .i64 0,.int .u8 0,.bool false] 32)).heap.size:=Nat.lt_of_lt_of_le hgl hB.size
 have HLK:Hid (∀r w',w'.heap[r]? =some (.map verRows 2)→(Instr.lookup 81 (.map (some r)) (.int .u8 4) true).run Tryz.prog w'=.ok (.tuple #[.agg #[.func (.func 79) #[] #[]],.bool true]) w'):=Lib.hid (fun r w' h=>ver_lookup_four r w' h)
 clear hcs e0 hc0
 go_enter Tryz.func11,Tryz.ntmps11
 go_wp2_with fail
 obtain⟨b0,hb0⟩:∃b,b=w.heap.size:=⟨_,rfl⟩
 rw[←hb0] at hx⊢
 have HB0:=Lib.hid hb0
 clear hb0
 generalize w.alloc (.cells #[.bool false,.int .u8 0,.int .u8 0,.int .u8 0,.int .u8 0,.int .u8 0,.int .u8 0,.int .u8 0,.int .u8 0,.int .u8 0,.int .u8 0,.int .u8 0,.int .u8 0,.int .u8 0,.int .u8 0,.int .u8 0,.int .u8 0,.bool false,.int .u8 0,.int .u8 0,.int .u8 0,.int .u8 0,.int .u8 0,.int .u8 0,.int .u8 0,.int .u8 0,.int .u8 0,.int .u8 0,.int .u8 0,.int .u8 0,.int .u8 0,.int .u8 0,.int .u8 0,.int .u8 0,.int .u8 0,.int .u16 0,.int .u16 0,.int .i64 0,.int .u8 0,.bool false] 32)=y at*
 have hb0y:b0<y.heap.size:=(Array.getElem?_eq_some_iff.1 hx).1
 have HX:=Lib.hid hx
 have HB:=Lib.hid hB
 clear hx hB
 refine wp_region_fl [.w,.h,.h,.h,.h] [(1,1,0),(2,1,0),(3,1,0),(4,1,0)] (fun _ w'=>w'.cell? ⟨g,off,none⟩=some (.int .u8 (x0:Int))) [1] [(.w,0),(.w,5),(.q,6),(.q,7),(.q,8)] [(.w,10),(.q,11)] 9 (.cells #[.nilFunc] 79) (by kernel_rfl) (by kernel_rfl) rfl rfl ⟨fun _=>rfl,fun _ _=>by kernel_rfl⟩ (by kernel_rfl) (by kernel_rfl) ?_
 apply Exists.intro
 refine⟨fun wx hbx=>?_,?_,?_⟩
 ·have hcx:wx.cell? ⟨g,off,none⟩=some (.int .u8 (x0:Int)):=(below_cell hbx hgy _ rfl).trans hcy
  have hbx2:g<wx.heap.size:=Nat.lt_of_lt_of_le hgy hbx.size
  simp only[headsL]
  repeat go_big_quiet_step (fail)
  exact wpQuiet_nil rfl
 ·intro q hq oi hoi
  simp only[List.mem_cons,List.not_mem_nil,or_false] at hq
  rcases hq with rfl|rfl|rfl|rfl
  ·cases hoi;exact⟨_,rfl,rfl,fun w2 hw=>by kernel_rfl⟩
  ·cases hoi;exact⟨_,rfl,rfl,fun w2 hw=>by simp[execOp,go_sem,hn0];intro h;exfalso;omega⟩
  ·cases hoi;exact⟨_,rfl,rfl,fun w2 hw=>by simp[execOp,go_sem,hw]⟩
  ·cases hoi;exact⟨_,rfl,rfl,fun w2 hw=>by simp[execOp,go_sem,hw,hk]⟩
 simp only[opsAt,List.getElem?_cons_succ,List.getElem?_cons_zero]
 refine⟨fun v fl w2=>∃r,v=.map (some r)∧VerSt y r fl w2,?_,?_,?_,?_⟩
 ·rintro fl-
  refine⟨rfl,fun w' hw'=>.inr ⟨34,#[],by kernel_rfl,?_⟩⟩
  obtain⟨⟨x,rfl⟩,hfb⟩:=hw'
  refine(versions_any x.world).mono ?_
  rintro e w2 ⟨r,rfl,hr1,hr2,hb2⟩
  refine⟨_,rfl,r,rfl,Below.via x.below hb2,Nat.le_trans x.below.size hr1,hr2,fun b hb'=>⟨(hfb b hb').1,?_⟩⟩
  have:=(hfb b hb').2
  exact(hb2.block b (Array.getElem?_eq_some_iff.1 this).1).trans this
 ·rintro v fl g'-w2 ⟨r,-,hst⟩
  exact(below_cell hst.1 hgy _ rfl).trans hcy
 ·rintro-v w2 ⟨r,rfl,h1,h2,h3,-⟩
  exact⟨r,rfl,Below.all h1 _,h2,(heap_alloc_old _ _ (Array.getElem?_eq_some_iff.1 h3).1).trans h3,fun b hb'=>by cases hb';exact⟨h1.size,heap_alloc_new _ _⟩⟩
 rintro v ⟨fl0,w20,r,rfl,-⟩
 refine⟨fun v fl w2=>v=.tuple #[.agg #[.func (.func 79) #[] #[]],.bool true]∧VerSt y r fl w2,?_,fun _ _=>kept_top rfl,?_,?_⟩
 ·rintro fl-
  refine SeqRun.made rfl ?_
  rintro w' ⟨r',hr',hst⟩
  cases hr'
  exact⟨.tuple #[.agg #[.func (.func 79) #[] #[]],.bool true],w',exec_lookup _ _ (vm:=.map (some r)) (vx:=.int .u8 4) (by kernel_rfl) (by kernel_rfl) (HLK.out r w' hst.2.2.1),rfl,hst⟩
 ·rintro-v w2 ⟨h0,h1,h2,h3,-⟩
  exact⟨h0,Below.all h1 _,h2,(heap_alloc_old _ _ (Array.getElem?_eq_some_iff.1 h3).1).trans h3,fun b hb'=>by cases hb';exact⟨h1.size,heap_alloc_new _ _⟩⟩
 rintro v ⟨fl1,w21,rfl,-⟩
 refine⟨.tuple #[.agg #[.func (.func 79) #[] #[]],.bool true],⟨rfl,fun _=>by kernel_rfl⟩,?_⟩
 refine⟨.agg #[.func (.func 79) #[] #[]],⟨rfl,fun _=>by kernel_rfl⟩,?_⟩
 refine⟨.bool true,⟨rfl,fun _=>by kernel_rfl⟩,?_⟩
 intro bp
 refine⟨fun v fl w2=>v=undef∧Below y.heap.size y w2∧y.heap.size≤bp∧w2.heap[bp]? =some (.cells #[.func (.func 79) #[] #[]] 79 (0,0)),?_,fun _ _=>kept_top rfl,(fun h=>by cases h),?_⟩
 ·rintro fl rfl
  refine SeqRun.skip rfl ?_
  rintro w' ⟨-,hst⟩
  obtain⟨hbge,hbx⟩:=hst.2.2.2 bp rfl
  have q1:=cell_of_row _ _ 0 _ _ (0,0) hbx
  have q2:=frozen_of_row _ _ 0 _ _ hbx
  refine⟨_,?_,hst.1.setCell (p:=⟨bp,0,none⟩) hbge (.func (.func 79) #[] #[]),hbge,(heap_setCell_same _ bp 0 _ _ (.func (.func 79) #[] #[]) hbx).trans rfl⟩
  simp[execOp,go_sem,ptrTo,q1,q2]
 rintro v ⟨fl2,w22,rfl,-⟩
 refine⟨.bool true,⟨rfl,fun _=>by kernel_rfl⟩,?_⟩
 rintro zz ⟨-,hzz,hbge,hpz⟩
 have HZ:=Lib.hid (Below.via HB.out hzz)
 have HXZ:=Lib.hid ((hzz.block b0 hb0y).trans HX.out)
 have HRZ:=Lib.hid (HR.out.below hzz)
 have HPZ:=Lib.hid hpz
 have hb0z:b0<zz.heap.size:=Nat.lt_of_lt_of_le hb0y hzz.size
 have hne:bp≠b0:=by omega
 have hrf:rowFree zz b0 40=true:=by rw[rowFree_row _ _ _ _ _ HXZ.out];rfl
 clear hzz hpz hbge hcy hgy hb0y w20 w21 w22 fl0 fl1 fl2 HX HB HR HLK
 unfold ptrTo
 simp only[Act.put,List.setIfInBounds_toArray,List.set_cons_succ,List.set_cons_zero]
 have c0:=cell_of_row _ _ 0 _ _ (0,0) HPZ.out
 have lp:bp<zz.heap.size:=(Array.getElem?_eq_some_iff.1 HPZ.out).1
 have HER:Hid (pkErr l=if ipBodyErr l≠0 then ipBodyErr l else (upOf (outFour l)).err):=Lib.hid (by unfold pkErr;rw[if_neg (by omega),if_neg (by omega),HE0.out,hk];rw[if_pos rfl])
 have HOF:Hid (pkErr l=0→pkOf l=pkOut (outFour l) (upOf (outFour l))):=Lib.hid (fun h=>by unfold pkOf;rw[h,if_neg (by decide),HE0.out,hk];rfl)
 clear hk
 go_wp2_with fail
 refine Calls.mono (pfour_any _ _ _ _ _ HRZ.out (by omega)) ?_
 rintro e z1 (⟨h0,rfl,hb⟩|⟨h0,ob,cb,rfl,ho,hb⟩)
 ·have HE:=Lib.hid (pkR_err (l:=l) (err:=ipBodyErr l) (by rw[HER.out,if_pos h0]) h0)
  have hne0:(ipBodyErr l==0)=false:=by simpa using h0
  have hne1:(ipBodyErr l != 0)=true:=by simpa using h0
  have HB1:=Lib.hid (Below.via HZ.out hb)
  have HX1:=Lib.hid ((hb.block b0 hb0z).trans HXZ.out)
  have hb01:b0<z1.heap.size:=Nat.lt_of_lt_of_le hb0z hb.size
  clear hb h0 HZ HXZ HRZ HPZ c0 lp hrf HER HOF
  generalize ipBodyErr l=er at*
  unfold outZC
  go_wp2_with fail
  have hxo:=heap_alloc_new z1 (.cells #[.bool false,.int .u8 0,.int .u8 0,.int .u8 0,.int .u8 0,.int .u8 0,.int .u8 0,.int .u8 0,.int .u8 0,.int .u8 0,.int .u8 0,.int .u8 0,.int .u8 0,.int .u8 0,.int .u8 0,.int .u8 0,.int .u8 0,.bool false,.int .u8 0,.int .u8 0,.int .u8 0,.int .u8 0,.int .u8 0,.int .u8 0,.int .u8 0,.int .u8 0,.int .u8 0,.int .u8 0,.int .u8 0,.int .u8 0,.int .u8 0,.int .u8 0,.int .u8 0,.int .u8 0,.int .u8 0,.int .u16 0,.int .u16 0,.int .i64 0,.int .u8 0,.bool false,.slice none 0 0,.bool false] 85)
  have hbo:Below z1.heap.size z1 (z1.alloc (.cells #[.bool false,.int .u8 0,.int .u8 0,.int .u8 0,.int .u8 0,.int .u8 0,.int .u8 0,.int .u8 0,.int .u8 0,.int .u8 0,.int .u8 0,.int .u8 0,.int .u8 0,.int .u8 0,.int .u8 0,.int .u8 0,.int .u8 0,.bool false,.int .u8 0,.int .u8 0,.int .u8 0,.int .u8 0,.int .u8 0,.int .u8 0,.int .u8 0,.int .u8 0,.int .u8 0,.int .u8 0,.int .u8 0,.int .u8 0,.int .u8 0,.int .u8 0,.int .u8 0,.int .u8 0,.int .u8 0,.int .u16 0,.int .u16 0,.int .i64 0,.int .u8 0,.bool false,.slice none 0 0,.bool false] 85)):=Below.all (Below.refl _ _) _
  generalize z1.alloc (.cells #[.bool false,.int .u8 0,.int .u8 0,.int .u8 0,.int .u8 0,.int .u8 0,.int .u8 0,.int .u8 0,.int .u8 0,.int .u8 0,.int .u8 0,.int .u8 0,.int .u8 0,.int .u8 0,.int .u8 0,.int .u8 0,.int .u8 0,.bool false,.int .u8 0,.int .u8 0,.int .u8 0,.int .u8 0,.int .u8 0,.int .u8 0,.int .u8 0,.int .u8 0,.int .u8 0,.int .u8 0,.int .u8 0,.int .u8 0,.int .u8 0,.int .u8 0,.int .u8 0,.int .u8 0,.int .u8 0,.int .u16 0,.int .u16 0,.int .i64 0,.int .u8 0,.bool false,.slice none 0 0,.bool false] 85)=z2 at*
  have HX2:=Lib.hid ((hbo.block b0 hb01).trans HX1.out)
  have HB2:=Lib.hid (Below.via HB1.out hbo)
  obtain⟨bo,hboe⟩:∃b,b=z1.heap.size:=⟨_,rfl⟩
  rw[←hboe] at hxo⊢
  have HO2:=Lib.hid hxo
  clear hxo hbo HX1 HB1 hboe hb01
  refine Calls.mono (ports_any 0 _) ?_
  rintro e z3 ⟨rfl,hb3⟩
  rw[show isPorts 0=false from rfl]
  have HX3:=Lib.hid ((hb3.block b0 (Array.getElem?_eq_some_iff.1 HX2.out).1).trans HX2.out)
  have HO3:=Lib.hid ((hb3.block bo (Array.getElem?_eq_some_iff.1 HO2.out).1).trans HO2.out)
  have HB3:=Lib.hid (Below.via HB2.out hb3)
  have lo3:bo<z3.heap.size:=(Array.getElem?_eq_some_iff.1 HO3.out).1
  have c34:=cell_of_row _ _ 34 _ _ (0,0) HO3.out
  clear hb3 HX2 HO2 HB2
  go_wp2_with fail
  refine Calls.mono (icmp_any 0 _) ?_
  rintro e z4 ⟨rfl,hb4⟩
  rw[show isIcmp 0=false from rfl]
  have HX4:=Lib.hid ((hb4.block b0 (Array.getElem?_eq_some_iff.1 HX3.out).1).trans HX3.out)
  have HB4:=Lib.hid (Below.via HB3.out hb4)
  have hrf:rowFree z4 b0 40=true:=by rw[rowFree_row _ _ _ _ _ HX4.out];rfl
  clear hb4 HX3 HB3 HO3 c34 lo3
  go_wp2_with fail
  exact pk_post (cs:=pkZC) b0 rfl rfl (partOf_all (setRow_row HX4.out) rfl) rfl HE.out (HB4.out.trans (setRow_below _ (Nat.le_of_eq HB0.out.symm)))
 have HOUT:Hid (outFour l=⟨false,(outFour l).src,(outFour l).dst,(outFour l).proto,(outFour l).len,(outFour l).frag,(outFour l).more,(outFour l).body⟩):=Lib.hid rfl
 have HBB:=Lib.hid (body_four (l:=l) HBY.out)
 have HBL:=Lib.hid (len_four l)
 have hER2:pkErr l=(upOf (outFour l)).err:=by rw[HER.out,if_neg (by rw[h0];decide)]
 have HER2:=Lib.hid hER2
 have HB1:=Lib.hid (Below.via HZ.out hb)
 have HX1:=Lib.hid ((hb.block b0 hb0z).trans HXZ.out)
 have hb01:b0<z1.heap.size:=Nat.lt_of_lt_of_le hb0z hb.size
 have HLO:=Lib.hid (fun a (ha:ob=some a)=>(ho.lt ha))
 have HOW:=Lib.hid ho
 clear hb h0 HZ HXZ HRZ HPZ c0 lp hrf hER2 HER ho hb0z
 unfold outC
 generalize outFour l=O at*
 obtain⟨o6,S,D,p,ln,fr,mo,L⟩:=O
 simp only at HOUT HBB HBL HER2 HOF HOW⊢
 obtain rfl:o6=false:=congrArg Outer.six HOUT.out
 have HRB:=Lib.hid (HOW.out.reads HBB.out)
 obtain⟨nb,hnb⟩:∃n,L.length=n:=⟨_,rfl⟩
 have HNB:=Lib.hid hnb
 rw[hnb] at HRB HBL⊢
 clear hnb HOW HOUT
 go_wp2_with fail
 have hxo:=heap_alloc_new z1 (.cells #[.bool false,.int .u8 (S 0),.int .u8 (S 1),.int .u8 (S 2),.int .u8 (S 3),.int .u8 (S 4),.int .u8 (S 5),.int .u8 (S 6),.int .u8 (S 7),.int .u8 (S 8),.int .u8 (S 9),.int .u8 (S 10),.int .u8 (S 11),.int .u8 (S 12),.int .u8 (S 13),.int .u8 (S 14),.int .u8 (S 15),.bool false,.int .u8 (D 0),.int .u8 (D 1),.int .u8 (D 2),.int .u8 (D 3),.int .u8 (D 4),.int .u8 (D 5),.int .u8 (D 6),.int .u8 (D 7),.int .u8 (D 8),.int .u8 (D 9),.int .u8 (D 10),.int .u8 (D 11),.int .u8 (D 12),.int .u8 (D 13),.int .u8 (D 14),.int .u8 (D 15),.int .u8 p,.int .u16 0,.int .u16 0,.int .i64 ln,.int .u8 0,.bool fr,.slice ob nb cb,.bool mo] 85)
 have hbo:Below z1.heap.size z1 (z1.alloc (.cells #[.bool false,.int .u8 (S 0),.int .u8 (S 1),.int .u8 (S 2),.int .u8 (S 3),.int .u8 (S 4),.int .u8 (S 5),.int .u8 (S 6),.int .u8 (S 7),.int .u8 (S 8),.int .u8 (S 9),.int .u8 (S 10),.int .u8 (S 11),.int .u8 (S 12),.int .u8 (S 13),.int .u8 (S 14),.int .u8 (S 15),.bool false,.int .u8 (D 0),.int .u8 (D 1),.int .u8 (D 2),.int .u8 (D 3),.int .u8 (D 4),.int .u8 (D 5),.int .u8 (D 6),.int .u8 (D 7),.int .u8 (D 8),.int .u8 (D 9),.int .u8 (D 10),.int .u8 (D 11),.int .u8 (D 12),.int .u8 (D 13),.int .u8 (D 14),.int .u8 (D 15),.int .u8 p,.int .u16 0,.int .u16 0,.int .i64 ln,.int .u8 0,.bool fr,.slice ob nb cb,.bool mo] 85)):=Below.all (Below.refl _ _) _
 generalize z1.alloc (.cells #[.bool false,.int .u8 (S 0),.int .u8 (S 1),.int .u8 (S 2),.int .u8 (S 3),.int .u8 (S 4),.int .u8 (S 5),.int .u8 (S 6),.int .u8 (S 7),.int .u8 (S 8),.int .u8 (S 9),.int .u8 (S 10),.int .u8 (S 11),.int .u8 (S 12),.int .u8 (S 13),.int .u8 (S 14),.int .u8 (S 15),.bool false,.int .u8 (D 0),.int .u8 (D 1),.int .u8 (D 2),.int .u8 (D 3),.int .u8 (D 4),.int .u8 (D 5),.int .u8 (D 6),.int .u8 (D 7),.int .u8 (D 8),.int .u8 (D 9),.int .u8 (D 10),.int .u8 (D 11),.int .u8 (D 12),.int .u8 (D 13),.int .u8 (D 14),.int .u8 (D 15),.int .u8 p,.int .u16 0,.int .u16 0,.int .i64 ln,.int .u8 0,.bool fr,.slice ob nb cb,.bool mo] 85)=z2 at*
 have HX2:=Lib.hid ((hbo.block b0 hb01).trans HX1.out)
 have HB2:=Lib.hid (Below.via HB1.out hbo)
 have HR2:=Lib.hid (HRB.out.below hbo)
 obtain⟨bo,hboe⟩:∃b,b=z1.heap.size:=⟨_,rfl⟩
 rw[←hboe] at hxo⊢
 have HO2:=Lib.hid hxo
 have HNE:Hid ((∀a,ob=some a→a.block≠bo)∧bo≠b0):=Lib.hid ⟨fun a ha=>by have:=(HLO.out a ha).2;omega,by omega⟩
 have HLB:Hid (w.heap.size≤bo):=Lib.hid (by rw[hboe];exact HB1.out.size)
 clear hxo hbo HX1 HB1 hboe hb01 HLO HRB hne
 refine Calls.mono (ports_any p _) ?_
 rintro e z3 ⟨rfl,hb3⟩
 have HX3:=Lib.hid ((hb3.block b0 (Array.getElem?_eq_some_iff.1 HX2.out).1).trans HX2.out)
 have HO3:=Lib.hid ((hb3.block bo (Array.getElem?_eq_some_iff.1 HO2.out).1).trans HO2.out)
 have HB3:=Lib.hid (Below.via HB2.out hb3)
 have HR3:=Lib.hid (HR2.out.below hb3)
 clear hb3 HX2 HO2 HB2 HR2
 have HPI:Hid ((isPorts p=true→p=6∨p=17∨p=1∨p=58)∧(isIcmp p=true→p=6∨p=17∨p=1∨p=58)):=Lib.hid ⟨fun h=>by unfold isPorts at h;simp at h;omega,fun h=>by unfold isIcmp at h;simp at h;omega⟩
 have HUP:Hid (upOf ⟨false,S,D,p,ln,fr,mo,L⟩=if (isPorts p||isIcmp p)&&!fr then (if mo then upPart p L else upWhole p L) else ⟨0,0,0,0⟩):=Lib.hid rfl
 have HIC:Hid (∀w',Calls Tryz.prog 36 #[.int .u8 p] w' (RetAt w' (.bool (isIcmp p)))):=Lib.hid (fun w'=>icmp_any p w')
 obtain⟨P1,hP1⟩:∃b,isPorts p=b:=⟨_,rfl⟩
 obtain⟨I1,hI1⟩:∃b,isIcmp p=b:=⟨_,rfl⟩
 rw[hP1,hI1] at HUP HPI
 rw[hI1] at HIC
 rw[hP1]
 clear hP1 hI1
 cases P1
 ·cases I1
  ·skip
   have lo3:bo<z3.heap.size:=(Array.getElem?_eq_some_iff.1 HO3.out).1
   have c34:=cell_of_row _ _ 34 _ _ (0,0) HO3.out
   have c39:=cell_of_row _ _ 39 _ _ (0,0) HO3.out
   have c41:=cell_of_row _ _ 41 _ _ (0,0) HO3.out
   have hU:upOf ⟨false,S,D,p,ln,fr,mo,L⟩=⟨0,0,0,0⟩:=by rw[HUP.out];rfl
   have hE:pkErr l=0:=by rw[HER2.out,hU]
   have HV:Hid (pkR l=.tuple #[.agg #[.bool false,.int .u8 (S 0),.int .u8 (S 1),.int .u8 (S 2),.int .u8 (S 3),.int .u8 (S 4),.int .u8 (S 5),.int .u8 (S 6),.int .u8 (S 7),.int .u8 (S 8),.int .u8 (S 9),.int .u8 (S 10),.int .u8 (S 11),.int .u8 (S 12),.int .u8 (S 13),.int .u8 (S 14),.int .u8 (S 15),.bool false,.int .u8 (D 0),.int .u8 (D 1),.int .u8 (D 2),.int .u8 (D 3),.int .u8 (D 4),.int .u8 (D 5),.int .u8 (D 6),.int .u8 (D 7),.int .u8 (D 8),.int .u8 (D 9),.int .u8 (D 10),.int .u8 (D 11),.int .u8 (D 12),.int .u8 (D 13),.int .u8 (D 14),.int .u8 (D 15),.int .u8 p,.int .u16 0,.int .u16 0,.int .i64 ln,.int .u8 0,.bool fr],.int .i64 0]):=Lib.hid (by unfold pkR;rw[hE,HOF.out hE,hU];rfl)
   clear hU hE HUP HER2 HOF
   clear c39 c41
   go_wp2_with fail
   refine Calls.mono (HIC.out _) ?_
   rintro e z4 ⟨rfl,hb4⟩
   have HX4:=Lib.hid ((hb4.block b0 (Array.getElem?_eq_some_iff.1 HX3.out).1).trans HX3.out)
   have HO4:=Lib.hid ((hb4.block bo (Array.getElem?_eq_some_iff.1 HO3.out).1).trans HO3.out)
   have HB4:=Lib.hid (Below.via HB3.out hb4)
   have HR4:=Lib.hid (HR3.out.below hb4)
   clear hb4 c34 lo3 HX3 HO3 HB3 HR3
   have lo4:bo<z4.heap.size:=(Array.getElem?_eq_some_iff.1 HO4.out).1
   have c39:=cell_of_row _ _ 39 _ _ (0,0) HO4.out
   have c41:=cell_of_row _ _ 41 _ _ (0,0) HO4.out
   have hpt:partOf z4 bo 0 40=#[.bool false,.int .u8 (S 0),.int .u8 (S 1),.int .u8 (S 2),.int .u8 (S 3),.int .u8 (S 4),.int .u8 (S 5),.int .u8 (S 6),.int .u8 (S 7),.int .u8 (S 8),.int .u8 (S 9),.int .u8 (S 10),.int .u8 (S 11),.int .u8 (S 12),.int .u8 (S 13),.int .u8 (S 14),.int .u8 (S 15),.bool false,.int .u8 (D 0),.int .u8 (D 1),.int .u8 (D 2),.int .u8 (D 3),.int .u8 (D 4),.int .u8 (D 5),.int .u8 (D 6),.int .u8 (D 7),.int .u8 (D 8),.int .u8 (D 9),.int .u8 (D 10),.int .u8 (D 11),.int .u8 (D 12),.int .u8 (D 13),.int .u8 (D 14),.int .u8 (D 15),.int .u8 p,.int .u16 0,.int .u16 0,.int .i64 ln,.int .u8 0,.bool fr]:=part_first (a:=#[.bool false,.int .u8 (S 0),.int .u8 (S 1),.int .u8 (S 2),.int .u8 (S 3),.int .u8 (S 4),.int .u8 (S 5),.int .u8 (S 6),.int .u8 (S 7),.int .u8 (S 8),.int .u8 (S 9),.int .u8 (S 10),.int .u8 (S 11),.int .u8 (S 12),.int .u8 (S 13),.int .u8 (S 14),.int .u8 (S 15),.bool false,.int .u8 (D 0),.int .u8 (D 1),.int .u8 (D 2),.int .u8 (D 3),.int .u8 (D 4),.int .u8 (D 5),.int .u8 (D 6),.int .u8 (D 7),.int .u8 (D 8),.int .u8 (D 9),.int .u8 (D 10),.int .u8 (D 11),.int .u8 (D 12),.int .u8 (D 13),.int .u8 (D 14),.int .u8 (D 15),.int .u8 p,.int .u16 0,.int .u16 0,.int .i64 ln,.int .u8 0,.bool fr]) (c:=#[.slice ob nb cb,.bool mo]) HO4.out rfl
   have hrf:rowFree z4 b0 40=true:=by rw[rowFree_row _ _ _ _ _ HX4.out];rfl
   go_wp2_with fail
   exact pk_post (cs:=#[.bool false,.int .u8 (S 0),.int .u8 (S 1),.int .u8 (S 2),.int .u8 (S 3),.int .u8 (S 4),.int .u8 (S 5),.int .u8 (S 6),.int .u8 (S 7),.int .u8 (S 8),.int .u8 (S 9),.int .u8 (S 10),.int .u8 (S 11),.int .u8 (S 12),.int .u8 (S 13),.int .u8 (S 14),.int .u8 (S 15),.bool false,.int .u8 (D 0),.int .u8 (D 1),.int .u8 (D 2),.int .u8 (D 3),.int .u8 (D 4),.int .u8 (D 5),.int .u8 (D 6),.int .u8 (D 7),.int .u8 (D 8),.int .u8 (D 9),.int .u8 (D 10),.int .u8 (D 11),.int .u8 (D 12),.int .u8 (D 13),.int .u8 (D 14),.int .u8 (D 15),.int .u8 p,.int .u16 0,.int .u16 0,.int .i64 ln,.int .u8 0,.bool fr]) b0 rfl rfl (partOf_all (setRow_row HX4.out) rfl) rfl HV.out (HB4.out.trans (setRow_below _ (Nat.le_of_eq HB0.out.symm)))
  ·cases fr
   ·cases mo
    ·skip
     have lo3:bo<z3.heap.size:=(Array.getElem?_eq_some_iff.1 HO3.out).1
     have c34:=cell_of_row _ _ 34 _ _ (0,0) HO3.out
     have c39:=cell_of_row _ _ 39 _ _ (0,0) HO3.out
     have c41:=cell_of_row _ _ 41 _ _ (0,0) HO3.out
     clear c39 c41
     go_wp2_with fail
     refine Calls.mono (HIC.out _) ?_
     rintro e z4 ⟨rfl,hb4⟩
     have HX4:=Lib.hid ((hb4.block b0 (Array.getElem?_eq_some_iff.1 HX3.out).1).trans HX3.out)
     have HO4:=Lib.hid ((hb4.block bo (Array.getElem?_eq_some_iff.1 HO3.out).1).trans HO3.out)
     have HB4:=Lib.hid (Below.via HB3.out hb4)
     have HR4:=Lib.hid (HR3.out.below hb4)
     clear hb4 c34 lo3 HX3 HO3 HB3 HR3
     have lo4:bo<z4.heap.size:=(Array.getElem?_eq_some_iff.1 HO4.out).1
     have c39:=cell_of_row _ _ 39 _ _ (0,0) HO4.out
     have c41:=cell_of_row _ _ 41 _ _ (0,0) HO4.out
     have hU:upOf ⟨false,S,D,p,ln,false,false,L⟩=upWhole p L:=by rw[HUP.out];rfl
     have hE:pkErr l=(upWhole p L).err:=by rw[HER2.out,hU]
     have HE2:=Lib.hid hE
     have HV:Hid (pkErr l=0→pkR l=.tuple #[.agg #[.bool false,.int .u8 (S 0),.int .u8 (S 1),.int .u8 (S 2),.int .u8 (S 3),.int .u8 (S 4),.int .u8 (S 5),.int .u8 (S 6),.int .u8 (S 7),.int .u8 (S 8),.int .u8 (S 9),.int .u8 (S 10),.int .u8 (S 11),.int .u8 (S 12),.int .u8 (S 13),.int .u8 (S 14),.int .u8 (S 15),.bool false,.int .u8 (D 0),.int .u8 (D 1),.int .u8 (D 2),.int .u8 (D 3),.int .u8 (D 4),.int .u8 (D 5),.int .u8 (D 6),.int .u8 (D 7),.int .u8 (D 8),.int .u8 (D 9),.int .u8 (D 10),.int .u8 (D 11),.int .u8 (D 12),.int .u8 (D 13),.int .u8 (D 14),.int .u8 (D 15),.int .u8 p,.int .u16 (upWhole p L).src,.int .u16 (upWhole p L).dst,.int .i64 ln,.int .u8 (upWhole p L).flags,.bool false],.int .i64 0]):=Lib.hid (fun h=>by unfold pkR;rw[h,HOF.out h,hU];rfl)
     clear hU hE HUP HER2 HOF
     have HCC:=Lib.hid (whole_up bo false false S D p ln false false ob nb cb L z4 (HPI.out.2 (by first|rfl|trivial)) HR4.out (by have:=HBL.out;omega) HO4.out)
     go_wp2_with fail
     refine Calls.mono HCC.out ?_
     rintro e z5 ⟨sp,dp,fl,⟨rfl,hbx,hbe,hot⟩,hval⟩
     have HX5:=Lib.hid ((hot b0 HNE.out.2.symm (Array.getElem?_eq_some_iff.1 HX4.out).1).trans HX4.out)
     have HO5:=Lib.hid hbx
     have HB5:Hid (Below w.heap.size w z5):=Lib.hid (HB4.out.trans (hbe.mono HLB.out))
     have hrf:rowFree z5 b0 40=true:=by rw[rowFree_row _ _ _ _ _ HX5.out];rfl
     have lo5:bo<z5.heap.size:=(Array.getElem?_eq_some_iff.1 HO5.out).1
     clear hbx hbe hot HCC HX4 HO4 HB4 HR4 c39 c41
     by_cases h0:(upWhole p L).err=0
     ·obtain⟨rfl,rfl,rfl⟩:=hval h0
      have HV2:=Lib.hid (HV.out (HE2.out.trans h0))
      rw[h0]
      clear HV HE2 h0 hval
      generalize (upWhole p L).src=sp at*
      generalize (upWhole p L).dst=dp at*
      generalize (upWhole p L).flags=fl at*
      have hpt:partOf z5 bo 0 40=#[.bool false,.int .u8 (S 0),.int .u8 (S 1),.int .u8 (S 2),.int .u8 (S 3),.int .u8 (S 4),.int .u8 (S 5),.int .u8 (S 6),.int .u8 (S 7),.int .u8 (S 8),.int .u8 (S 9),.int .u8 (S 10),.int .u8 (S 11),.int .u8 (S 12),.int .u8 (S 13),.int .u8 (S 14),.int .u8 (S 15),.bool false,.int .u8 (D 0),.int .u8 (D 1),.int .u8 (D 2),.int .u8 (D 3),.int .u8 (D 4),.int .u8 (D 5),.int .u8 (D 6),.int .u8 (D 7),.int .u8 (D 8),.int .u8 (D 9),.int .u8 (D 10),.int .u8 (D 11),.int .u8 (D 12),.int .u8 (D 13),.int .u8 (D 14),.int .u8 (D 15),.int .u8 p,.int .u16 sp,.int .u16 dp,.int .i64 ln,.int .u8 fl,.bool false]:=part_first (a:=#[.bool false,.int .u8 (S 0),.int .u8 (S 1),.int .u8 (S 2),.int .u8 (S 3),.int .u8 (S 4),.int .u8 (S 5),.int .u8 (S 6),.int .u8 (S 7),.int .u8 (S 8),.int .u8 (S 9),.int .u8 (S 10),.int .u8 (S 11),.int .u8 (S 12),.int .u8 (S 13),.int .u8 (S 14),.int .u8 (S 15),.bool false,.int .u8 (D 0),.int .u8 (D 1),.int .u8 (D 2),.int .u8 (D 3),.int .u8 (D 4),.int .u8 (D 5),.int .u8 (D 6),.int .u8 (D 7),.int .u8 (D 8),.int .u8 (D 9),.int .u8 (D 10),.int .u8 (D 11),.int .u8 (D 12),.int .u8 (D 13),.int .u8 (D 14),.int .u8 (D 15),.int .u8 p,.int .u16 sp,.int .u16 dp,.int .i64 ln,.int .u8 fl,.bool false]) (c:=#[.slice ob nb cb,.bool false]) HO5.out rfl
      go_wp2_with fail
      exact pk_post (cs:=#[.bool false,.int .u8 (S 0),.int .u8 (S 1),.int .u8 (S 2),.int .u8 (S 3),.int .u8 (S 4),.int .u8 (S 5),.int .u8 (S 6),.int .u8 (S 7),.int .u8 (S 8),.int .u8 (S 9),.int .u8 (S 10),.int .u8 (S 11),.int .u8 (S 12),.int .u8 (S 13),.int .u8 (S 14),.int .u8 (S 15),.bool false,.int .u8 (D 0),.int .u8 (D 1),.int .u8 (D 2),.int .u8 (D 3),.int .u8 (D 4),.int .u8 (D 5),.int .u8 (D 6),.int .u8 (D 7),.int .u8 (D 8),.int .u8 (D 9),.int .u8 (D 10),.int .u8 (D 11),.int .u8 (D 12),.int .u8 (D 13),.int .u8 (D 14),.int .u8 (D 15),.int .u8 p,.int .u16 sp,.int .u16 dp,.int .i64 ln,.int .u8 fl,.bool false]) b0 rfl rfl (partOf_all (setRow_row HX5.out) rfl) rfl HV2.out (HB5.out.trans (setRow_below _ (Nat.le_of_eq HB0.out.symm)))
     ·have HV2:=Lib.hid (pkR_err (l:=l) HE2.out h0)
      have hne1:((upWhole p L).err != 0)=true:=by simpa using h0
      clear HV HE2 h0 hval
      generalize (upWhole p L).err=er at*
      go_wp2_with fail
      exact pk_post (cs:=pkZC) b0 rfl rfl (partOf_all (setRow_row HX5.out) rfl) rfl HV2.out (HB5.out.trans (setRow_below _ (Nat.le_of_eq HB0.out.symm)))
    ·skip
     have lo3:bo<z3.heap.size:=(Array.getElem?_eq_some_iff.1 HO3.out).1
     have c34:=cell_of_row _ _ 34 _ _ (0,0) HO3.out
     have c39:=cell_of_row _ _ 39 _ _ (0,0) HO3.out
     have c41:=cell_of_row _ _ 41 _ _ (0,0) HO3.out
     clear c39 c41
     go_wp2_with fail
     refine Calls.mono (HIC.out _) ?_
     rintro e z4 ⟨rfl,hb4⟩
     have HX4:=Lib.hid ((hb4.block b0 (Array.getElem?_eq_some_iff.1 HX3.out).1).trans HX3.out)
     have HO4:=Lib.hid ((hb4.block bo (Array.getElem?_eq_some_iff.1 HO3.out).1).trans HO3.out)
     have HB4:=Lib.hid (Below.via HB3.out hb4)
     have HR4:=Lib.hid (HR3.out.below hb4)
     clear hb4 c34 lo3 HX3 HO3 HB3 HR3
     have lo4:bo<z4.heap.size:=(Array.getElem?_eq_some_iff.1 HO4.out).1
     have c39:=cell_of_row _ _ 39 _ _ (0,0) HO4.out
     have c41:=cell_of_row _ _ 41 _ _ (0,0) HO4.out
     have hU:upOf ⟨false,S,D,p,ln,false,true,L⟩=upPart p L:=by rw[HUP.out];rfl
     have hE:pkErr l=(upPart p L).err:=by rw[HER2.out,hU]
     have HE2:=Lib.hid hE
     have HV:Hid (pkErr l=0→pkR l=.tuple #[.agg #[.bool false,.int .u8 (S 0),.int .u8 (S 1),.int .u8 (S 2),.int .u8 (S 3),.int .u8 (S 4),.int .u8 (S 5),.int .u8 (S 6),.int .u8 (S 7),.int .u8 (S 8),.int .u8 (S 9),.int .u8 (S 10),.int .u8 (S 11),.int .u8 (S 12),.int .u8 (S 13),.int .u8 (S 14),.int .u8 (S 15),.bool false,.int .u8 (D 0),.int .u8 (D 1),.int .u8 (D 2),.int .u8 (D 3),.int .u8 (D 4),.int .u8 (D 5),.int .u8 (D 6),.int .u8 (D 7),.int .u8 (D 8),.int .u8 (D 9),.int .u8 (D 10),.int .u8 (D 11),.int .u8 (D 12),.int .u8 (D 13),.int .u8 (D 14),.int .u8 (D 15),.int .u8 p,.int .u16 (upPart p L).src,.int .u16 (upPart p L).dst,.int .i64 ln,.int .u8 (upPart p L).flags,.bool false],.int .i64 0]):=Lib.hid (fun h=>by unfold pkR;rw[h,HOF.out h,hU];rfl)
     clear hU hE HUP HER2 HOF
     have HCC:=Lib.hid (part_any bo false false S D p ln false true ob nb cb L z4 (HPI.out.2 (by first|rfl|trivial)) HR4.out (by have:=HBL.out;omega) HNE.out.1 HO4.out)
     go_wp2_with fail
     refine Calls.mono HCC.out ?_
     rintro e z5 ⟨sp,dp,fl,⟨rfl,hbx,hbe,hot⟩,hval⟩
     have HX5:=Lib.hid ((hot b0 HNE.out.2.symm (Array.getElem?_eq_some_iff.1 HX4.out).1).trans HX4.out)
     have HO5:=Lib.hid hbx
     have HB5:Hid (Below w.heap.size w z5):=Lib.hid (HB4.out.trans (hbe.mono HLB.out))
     have hrf:rowFree z5 b0 40=true:=by rw[rowFree_row _ _ _ _ _ HX5.out];rfl
     have lo5:bo<z5.heap.size:=(Array.getElem?_eq_some_iff.1 HO5.out).1
     clear hbx hbe hot HCC HX4 HO4 HB4 HR4 c39 c41
     by_cases h0:(upPart p L).err=0
     ·obtain⟨rfl,rfl,rfl⟩:=hval h0
      have HV2:=Lib.hid (HV.out (HE2.out.trans h0))
      rw[h0]
      clear HV HE2 h0 hval
      generalize (upPart p L).src=sp at*
      generalize (upPart p L).dst=dp at*
      generalize (upPart p L).flags=fl at*
      have hpt:partOf z5 bo 0 40=#[.bool false,.int .u8 (S 0),.int .u8 (S 1),.int .u8 (S 2),.int .u8 (S 3),.int .u8 (S 4),.int .u8 (S 5),.int .u8 (S 6),.int .u8 (S 7),.int .u8 (S 8),.int .u8 (S 9),.int .u8 (S 10),.int .u8 (S 11),.int .u8 (S 12),.int .u8 (S 13),.int .u8 (S 14),.int .u8 (S 15),.bool false,.int .u8 (D 0),.int .u8 (D 1),.int .u8 (D 2),.int .u8 (D 3),.int .u8 (D 4),.int .u8 (D 5),.int .u8 (D 6),.int .u8 (D 7),.int .u8 (D 8),.int .u8 (D 9),.int .u8 (D 10),.int .u8 (D 11),.int .u8 (D 12),.int .u8 (D 13),.int .u8 (D 14),.int .u8 (D 15),.int .u8 p,.int .u16 sp,.int .u16 dp,.int .i64 ln,.int .u8 fl,.bool false]:=part_first (a:=#[.bool false,.int .u8 (S 0),.int .u8 (S 1),.int .u8 (S 2),.int .u8 (S 3),.int .u8 (S 4),.int .u8 (S 5),.int .u8 (S 6),.int .u8 (S 7),.int .u8 (S 8),.int .u8 (S 9),.int .u8 (S 10),.int .u8 (S 11),.int .u8 (S 12),.int .u8 (S 13),.int .u8 (S 14),.int .u8 (S 15),.bool false,.int .u8 (D 0),.int .u8 (D 1),.int .u8 (D 2),.int .u8 (D 3),.int .u8 (D 4),.int .u8 (D 5),.int .u8 (D 6),.int .u8 (D 7),.int .u8 (D 8),.int .u8 (D 9),.int .u8 (D 10),.int .u8 (D 11),.int .u8 (D 12),.int .u8 (D 13),.int .u8 (D 14),.int .u8 (D 15),.int .u8 p,.int .u16 sp,.int .u16 dp,.int .i64 ln,.int .u8 fl,.bool false]) (c:=#[.slice ob nb cb,.bool true]) HO5.out rfl
      go_wp2_with fail
      exact pk_post (cs:=#[.bool false,.int .u8 (S 0),.int .u8 (S 1),.int .u8 (S 2),.int .u8 (S 3),.int .u8 (S 4),.int .u8 (S 5),.int .u8 (S 6),.int .u8 (S 7),.int .u8 (S 8),.int .u8 (S 9),.int .u8 (S 10),.int .u8 (S 11),.int .u8 (S 12),.int .u8 (S 13),.int .u8 (S 14),.int .u8 (S 15),.bool false,.int .u8 (D 0),.int .u8 (D 1),.int .u8 (D 2),.int .u8 (D 3),.int .u8 (D 4),.int .u8 (D 5),.int .u8 (D 6),.int .u8 (D 7),.int .u8 (D 8),.int .u8 (D 9),.int .u8 (D 10),.int .u8 (D 11),.int .u8 (D 12),.int .u8 (D 13),.int .u8 (D 14),.int .u8 (D 15),.int .u8 p,.int .u16 sp,.int .u16 dp,.int .i64 ln,.int .u8 fl,.bool false]) b0 rfl rfl (partOf_all (setRow_row HX5.out) rfl) rfl HV2.out (HB5.out.trans (setRow_below _ (Nat.le_of_eq HB0.out.symm)))
     ·have HV2:=Lib.hid (pkR_err (l:=l) HE2.out h0)
      have hne1:((upPart p L).err != 0)=true:=by simpa using h0
      clear HV HE2 h0 hval
      generalize (upPart p L).err=er at*
      go_wp2_with fail
      exact pk_post (cs:=pkZC) b0 rfl rfl (partOf_all (setRow_row HX5.out) rfl) rfl HV2.out (HB5.out.trans (setRow_below _ (Nat.le_of_eq HB0.out.symm)))
   ·skip
    have lo3:bo<z3.heap.size:=(Array.getElem?_eq_some_iff.1 HO3.out).1
    have c34:=cell_of_row _ _ 34 _ _ (0,0) HO3.out
    have c39:=cell_of_row _ _ 39 _ _ (0,0) HO3.out
    have c41:=cell_of_row _ _ 41 _ _ (0,0) HO3.out
    have hU:upOf ⟨false,S,D,p,ln,true,mo,L⟩=⟨0,0,0,0⟩:=by rw[HUP.out];rfl
    have hE:pkErr l=0:=by rw[HER2.out,hU]
    have HV:Hid (pkR l=.tuple #[.agg #[.bool false,.int .u8 (S 0),.int .u8 (S 1),.int .u8 (S 2),.int .u8 (S 3),.int .u8 (S 4),.int .u8 (S 5),.int .u8 (S 6),.int .u8 (S 7),.int .u8 (S 8),.int .u8 (S 9),.int .u8 (S 10),.int .u8 (S 11),.int .u8 (S 12),.int .u8 (S 13),.int .u8 (S 14),.int .u8 (S 15),.bool false,.int .u8 (D 0),.int .u8 (D 1),.int .u8 (D 2),.int .u8 (D 3),.int .u8 (D 4),.int .u8 (D 5),.int .u8 (D 6),.int .u8 (D 7),.int .u8 (D 8),.int .u8 (D 9),.int .u8 (D 10),.int .u8 (D 11),.int .u8 (D 12),.int .u8 (D 13),.int .u8 (D 14),.int .u8 (D 15),.int .u8 p,.int .u16 0,.int .u16 0,.int .i64 ln,.int .u8 0,.bool true],.int .i64 0]):=Lib.hid (by unfold pkR;rw[hE,HOF.out hE,hU];rfl)
    clear hU hE HUP HER2 HOF
    clear c39 c41
    go_wp2_with fail
    refine Calls.mono (HIC.out _) ?_
    rintro e z4 ⟨rfl,hb4⟩
    have HX4:=Lib.hid ((hb4.block b0 (Array.getElem?_eq_some_iff.1 HX3.out).1).trans HX3.out)
    have HO4:=Lib.hid ((hb4.block bo (Array.getElem?_eq_some_iff.1 HO3.out).1).trans HO3.out)
    have HB4:=Lib.hid (Below.via HB3.out hb4)
    have HR4:=Lib.hid (HR3.out.below hb4)
    clear hb4 c34 lo3 HX3 HO3 HB3 HR3
    have lo4:bo<z4.heap.size:=(Array.getElem?_eq_some_iff.1 HO4.out).1
    have c39:=cell_of_row _ _ 39 _ _ (0,0) HO4.out
    have c41:=cell_of_row _ _ 41 _ _ (0,0) HO4.out
    have hpt:partOf z4 bo 0 40=#[.bool false,.int .u8 (S 0),.int .u8 (S 1),.int .u8 (S 2),.int .u8 (S 3),.int .u8 (S 4),.int .u8 (S 5),.int .u8 (S 6),.int .u8 (S 7),.int .u8 (S 8),.int .u8 (S 9),.int .u8 (S 10),.int .u8 (S 11),.int .u8 (S 12),.int .u8 (S 13),.int .u8 (S 14),.int .u8 (S 15),.bool false,.int .u8 (D 0),.int .u8 (D 1),.int .u8 (D 2),.int .u8 (D 3),.int .u8 (D 4),.int .u8 (D 5),.int .u8 (D 6),.int .u8 (D 7),.int .u8 (D 8),.int .u8 (D 9),.int .u8 (D 10),.int .u8 (D 11),.int .u8 (D 12),.int .u8 (D 13),.int .u8 (D 14),.int .u8 (D 15),.int .u8 p,.int .u16 0,.int .u16 0,.int .i64 ln,.int .u8 0,.bool true]:=part_first (a:=#[.bool false,.int .u8 (S 0),.int .u8 (S 1),.int .u8 (S 2),.int .u8 (S 3),.int .u8 (S 4),.int .u8 (S 5),.int .u8 (S 6),.int .u8 (S 7),.int .u8 (S 8),.int .u8 (S 9),.int .u8 (S 10),.int .u8 (S 11),.int .u8 (S 12),.int .u8 (S 13),.int .u8 (S 14),.int .u8 (S 15),.bool false,.int .u8 (D 0),.int .u8 (D 1),.int .u8 (D 2),.int .u8 (D 3),.int .u8 (D 4),.int .u8 (D 5),.int .u8 (D 6),.int .u8 (D 7),.int .u8 (D 8),.int .u8 (D 9),.int .u8 (D 10),.int .u8 (D 11),.int .u8 (D 12),.int .u8 (D 13),.int .u8 (D 14),.int .u8 (D 15),.int .u8 p,.int .u16 0,.int .u16 0,.int .i64 ln,.int .u8 0,.bool true]) (c:=#[.slice ob nb cb,.bool mo]) HO4.out rfl
    have hrf:rowFree z4 b0 40=true:=by rw[rowFree_row _ _ _ _ _ HX4.out];rfl
    go_wp2_with fail
    exact pk_post (cs:=#[.bool false,.int .u8 (S 0),.int .u8 (S 1),.int .u8 (S 2),.int .u8 (S 3),.int .u8 (S 4),.int .u8 (S 5),.int .u8 (S 6),.int .u8 (S 7),.int .u8 (S 8),.int .u8 (S 9),.int .u8 (S 10),.int .u8 (S 11),.int .u8 (S 12),.int .u8 (S 13),.int .u8 (S 14),.int .u8 (S 15),.bool false,.int .u8 (D 0),.int .u8 (D 1),.int .u8 (D 2),.int .u8 (D 3),.int .u8 (D 4),.int .u8 (D 5),.int .u8 (D 6),.int .u8 (D 7),.int .u8 (D 8),.int .u8 (D 9),.int .u8 (D 10),.int .u8 (D 11),.int .u8 (D 12),.int .u8 (D 13),.int .u8 (D 14),.int .u8 (D 15),.int .u8 p,.int .u16 0,.int .u16 0,.int .i64 ln,.int .u8 0,.bool true]) b0 rfl rfl (partOf_all (setRow_row HX4.out) rfl) rfl HV.out (HB4.out.trans (setRow_below _ (Nat.le_of_eq HB0.out.symm)))
 ·cases fr
  ·cases mo
   ·skip
    have lo3:bo<z3.heap.size:=(Array.getElem?_eq_some_iff.1 HO3.out).1
    have c34:=cell_of_row _ _ 34 _ _ (0,0) HO3.out
    have c39:=cell_of_row _ _ 39 _ _ (0,0) HO3.out
    have c41:=cell_of_row _ _ 41 _ _ (0,0) HO3.out
    have hU:upOf ⟨false,S,D,p,ln,false,false,L⟩=upWhole p L:=by rw[HUP.out];rfl
    have hE:pkErr l=(upWhole p L).err:=by rw[HER2.out,hU]
    have HE2:=Lib.hid hE
    have HV:Hid (pkErr l=0→pkR l=.tuple #[.agg #[.bool false,.int .u8 (S 0),.int .u8 (S 1),.int .u8 (S 2),.int .u8 (S 3),.int .u8 (S 4),.int .u8 (S 5),.int .u8 (S 6),.int .u8 (S 7),.int .u8 (S 8),.int .u8 (S 9),.int .u8 (S 10),.int .u8 (S 11),.int .u8 (S 12),.int .u8 (S 13),.int .u8 (S 14),.int .u8 (S 15),.bool false,.int .u8 (D 0),.int .u8 (D 1),.int .u8 (D 2),.int .u8 (D 3),.int .u8 (D 4),.int .u8 (D 5),.int .u8 (D 6),.int .u8 (D 7),.int .u8 (D 8),.int .u8 (D 9),.int .u8 (D 10),.int .u8 (D 11),.int .u8 (D 12),.int .u8 (D 13),.int .u8 (D 14),.int .u8 (D 15),.int .u8 p,.int .u16 (upWhole p L).src,.int .u16 (upWhole p L).dst,.int .i64 ln,.int .u8 (upWhole p L).flags,.bool false],.int .i64 0]):=Lib.hid (fun h=>by unfold pkR;rw[h,HOF.out h,hU];rfl)
    clear hU hE HUP HER2 HOF
    have HCC:=Lib.hid (whole_up bo false false S D p ln false false ob nb cb L z3 (HPI.out.1 (by first|rfl|trivial)) HR3.out (by have:=HBL.out;omega) HO3.out)
    go_wp2_with fail
    refine Calls.mono HCC.out ?_
    rintro e z5 ⟨sp,dp,fl,⟨rfl,hbx,hbe,hot⟩,hval⟩
    have HX5:=Lib.hid ((hot b0 HNE.out.2.symm (Array.getElem?_eq_some_iff.1 HX3.out).1).trans HX3.out)
    have HO5:=Lib.hid hbx
    have HB5:Hid (Below w.heap.size w z5):=Lib.hid (HB3.out.trans (hbe.mono HLB.out))
    have hrf:rowFree z5 b0 40=true:=by rw[rowFree_row _ _ _ _ _ HX5.out];rfl
    have lo5:bo<z5.heap.size:=(Array.getElem?_eq_some_iff.1 HO5.out).1
    clear hbx hbe hot HCC HX3 HO3 HB3 HR3 c39 c41
    by_cases h0:(upWhole p L).err=0
    ·obtain⟨rfl,rfl,rfl⟩:=hval h0
     have HV2:=Lib.hid (HV.out (HE2.out.trans h0))
     rw[h0]
     clear HV HE2 h0 hval
     generalize (upWhole p L).src=sp at*
     generalize (upWhole p L).dst=dp at*
     generalize (upWhole p L).flags=fl at*
     have hpt:partOf z5 bo 0 40=#[.bool false,.int .u8 (S 0),.int .u8 (S 1),.int .u8 (S 2),.int .u8 (S 3),.int .u8 (S 4),.int .u8 (S 5),.int .u8 (S 6),.int .u8 (S 7),.int .u8 (S 8),.int .u8 (S 9),.int .u8 (S 10),.int .u8 (S 11),.int .u8 (S 12),.int .u8 (S 13),.int .u8 (S 14),.int .u8 (S 15),.bool false,.int .u8 (D 0),.int .u8 (D 1),.int .u8 (D 2),.int .u8 (D 3),.int .u8 (D 4),.int .u8 (D 5),.int .u8 (D 6),.int .u8 (D 7),.int .u8 (D 8),.int .u8 (D 9),.int .u8 (D 10),.int .u8 (D 11),.int .u8 (D 12),.int .u8 (D 13),.int .u8 (D 14),.int .u8 (D 15),.int .u8 p,.int .u16 sp,.int .u16 dp,.int .i64 ln,.int .u8 fl,.bool false]:=part_first (a:=#[.bool false,.int .u8 (S 0),.int .u8 (S 1),.int .u8 (S 2),.int .u8 (S 3),.int .u8 (S 4),.int .u8 (S 5),.int .u8 (S 6),.int .u8 (S 7),.int .u8 (S 8),.int .u8 (S 9),.int .u8 (S 10),.int .u8 (S 11),.int .u8 (S 12),.int .u8 (S 13),.int .u8 (S 14),.int .u8 (S 15),.bool false,.int .u8 (D 0),.int .u8 (D 1),.int .u8 (D 2),.int .u8 (D 3),.int .u8 (D 4),.int .u8 (D 5),.int .u8 (D 6),.int .u8 (D 7),.int .u8 (D 8),.int .u8 (D 9),.int .u8 (D 10),.int .u8 (D 11),.int .u8 (D 12),.int .u8 (D 13),.int .u8 (D 14),.int .u8 (D 15),.int .u8 p,.int .u16 sp,.int .u16 dp,.int .i64 ln,.int .u8 fl,.bool false]) (c:=#[.slice ob nb cb,.bool false]) HO5.out rfl
     go_wp2_with fail
     exact pk_post (cs:=#[.bool false,.int .u8 (S 0),.int .u8 (S 1),.int .u8 (S 2),.int .u8 (S 3),.int .u8 (S 4),.int .u8 (S 5),.int .u8 (S 6),.int .u8 (S 7),.int .u8 (S 8),.int .u8 (S 9),.int .u8 (S 10),.int .u8 (S 11),.int .u8 (S 12),.int .u8 (S 13),.int .u8 (S 14),.int .u8 (S 15),.bool false,.int .u8 (D 0),.int .u8 (D 1),.int .u8 (D 2),.int .u8 (D 3),.int .u8 (D 4),.int .u8 (D 5),.int .u8 (D 6),.int .u8 (D 7),.int .u8 (D 8),.int .u8 (D 9),.int .u8 (D 10),.int .u8 (D 11),.int .u8 (D 12),.int .u8 (D 13),.int .u8 (D 14),.int .u8 (D 15),.int .u8 p,.int .u16 sp,.int .u16 dp,.int .i64 ln,.int .u8 fl,.bool false]) b0 rfl rfl (partOf_all (setRow_row HX5.out) rfl) rfl HV2.out (HB5.out.trans (setRow_below _ (Nat.le_of_eq HB0.out.symm)))
    ·have HV2:=Lib.hid (pkR_err (l:=l) HE2.out h0)
     have hne1:((upWhole p L).err != 0)=true:=by simpa using h0
     clear HV HE2 h0 hval
     generalize (upWhole p L).err=er at*
     go_wp2_with fail
     exact pk_post (cs:=pkZC) b0 rfl rfl (partOf_all (setRow_row HX5.out) rfl) rfl HV2.out (HB5.out.trans (setRow_below _ (Nat.le_of_eq HB0.out.symm)))
   ·skip
    have lo3:bo<z3.heap.size:=(Array.getElem?_eq_some_iff.1 HO3.out).1
    have c34:=cell_of_row _ _ 34 _ _ (0,0) HO3.out
    have c39:=cell_of_row _ _ 39 _ _ (0,0) HO3.out
    have c41:=cell_of_row _ _ 41 _ _ (0,0) HO3.out
    have hU:upOf ⟨false,S,D,p,ln,false,true,L⟩=upPart p L:=by rw[HUP.out];rfl
    have hE:pkErr l=(upPart p L).err:=by rw[HER2.out,hU]
    have HE2:=Lib.hid hE
    have HV:Hid (pkErr l=0→pkR l=.tuple #[.agg #[.bool false,.int .u8 (S 0),.int .u8 (S 1),.int .u8 (S 2),.int .u8 (S 3),.int .u8 (S 4),.int .u8 (S 5),.int .u8 (S 6),.int .u8 (S 7),.int .u8 (S 8),.int .u8 (S 9),.int .u8 (S 10),.int .u8 (S 11),.int .u8 (S 12),.int .u8 (S 13),.int .u8 (S 14),.int .u8 (S 15),.bool false,.int .u8 (D 0),.int .u8 (D 1),.int .u8 (D 2),.int .u8 (D 3),.int .u8 (D 4),.int .u8 (D 5),.int .u8 (D 6),.int .u8 (D 7),.int .u8 (D 8),.int .u8 (D 9),.int .u8 (D 10),.int .u8 (D 11),.int .u8 (D 12),.int .u8 (D 13),.int .u8 (D 14),.int .u8 (D 15),.int .u8 p,.int .u16 (upPart p L).src,.int .u16 (upPart p L).dst,.int .i64 ln,.int .u8 (upPart p L).flags,.bool false],.int .i64 0]):=Lib.hid (fun h=>by unfold pkR;rw[h,HOF.out h,hU];rfl)
    clear hU hE HUP HER2 HOF
    have HCC:=Lib.hid (part_any bo false false S D p ln false true ob nb cb L z3 (HPI.out.1 (by first|rfl|trivial)) HR3.out (by have:=HBL.out;omega) HNE.out.1 HO3.out)
    go_wp2_with fail
    refine Calls.mono HCC.out ?_
    rintro e z5 ⟨sp,dp,fl,⟨rfl,hbx,hbe,hot⟩,hval⟩
    have HX5:=Lib.hid ((hot b0 HNE.out.2.symm (Array.getElem?_eq_some_iff.1 HX3.out).1).trans HX3.out)
    have HO5:=Lib.hid hbx
    have HB5:Hid (Below w.heap.size w z5):=Lib.hid (HB3.out.trans (hbe.mono HLB.out))
    have hrf:rowFree z5 b0 40=true:=by rw[rowFree_row _ _ _ _ _ HX5.out];rfl
    have lo5:bo<z5.heap.size:=(Array.getElem?_eq_some_iff.1 HO5.out).1
    clear hbx hbe hot HCC HX3 HO3 HB3 HR3 c39 c41
    by_cases h0:(upPart p L).err=0
    ·obtain⟨rfl,rfl,rfl⟩:=hval h0
     have HV2:=Lib.hid (HV.out (HE2.out.trans h0))
     rw[h0]
     clear HV HE2 h0 hval
     generalize (upPart p L).src=sp at*
     generalize (upPart p L).dst=dp at*
     generalize (upPart p L).flags=fl at*
     have hpt:partOf z5 bo 0 40=#[.bool false,.int .u8 (S 0),.int .u8 (S 1),.int .u8 (S 2),.int .u8 (S 3),.int .u8 (S 4),.int .u8 (S 5),.int .u8 (S 6),.int .u8 (S 7),.int .u8 (S 8),.int .u8 (S 9),.int .u8 (S 10),.int .u8 (S 11),.int .u8 (S 12),.int .u8 (S 13),.int .u8 (S 14),.int .u8 (S 15),.bool false,.int .u8 (D 0),.int .u8 (D 1),.int .u8 (D 2),.int .u8 (D 3),.int .u8 (D 4),.int .u8 (D 5),.int .u8 (D 6),.int .u8 (D 7),.int .u8 (D 8),.int .u8 (D 9),.int .u8 (D 10),.int .u8 (D 11),.int .u8 (D 12),.int .u8 (D 13),.int .u8 (D 14),.int .u8 (D 15),.int .u8 p,.int .u16 sp,.int .u16 dp,.int .i64 ln,.int .u8 fl,.bool false]:=part_first (a:=#[.bool false,.int .u8 (S 0),.int .u8 (S 1),.int .u8 (S 2),.int .u8 (S 3),.int .u8 (S 4),.int .u8 (S 5),.int .u8 (S 6),.int .u8 (S 7),.int .u8 (S 8),.int .u8 (S 9),.int .u8 (S 10),.int .u8 (S 11),.int .u8 (S 12),.int .u8 (S 13),.int .u8 (S 14),.int .u8 (S 15),.bool false,.int .u8 (D 0),.int .u8 (D 1),.int .u8 (D 2),.int .u8 (D 3),.int .u8 (D 4),.int .u8 (D 5),.int .u8 (D 6),.int .u8 (D 7),.int .u8 (D 8),.int .u8 (D 9),.int .u8 (D 10),.int .u8 (D 11),.int .u8 (D 12),.int .u8 (D 13),.int .u8 (D 14),.int .u8 (D 15),.int .u8 p,.int .u16 sp,.int .u16 dp,.int .i64 ln,.int .u8 fl,.bool false]) (c:=#[.slice ob nb cb,.bool true]) HO5.out rfl
     go_wp2_with fail
     exact pk_post (cs:=#[.bool false,.int .u8 (S 0),.int .u8 (S 1),.int .u8 (S 2),.int .u8 (S 3),.int .u8 (S 4),.int .u8 (S 5),.int .u8 (S 6),.int .u8 (S 7),.int .u8 (S 8),.int .u8 (S 9),.int .u8 (S 10),.int .u8 (S 11),.int .u8 (S 12),.int .u8 (S 13),.int .u8 (S 14),.int .u8 (S 15),.bool false,.int .u8 (D 0),.int .u8 (D 1),.int .u8 (D 2),.int .u8 (D 3),.int .u8 (D 4),.int .u8 (D 5),.int .u8 (D 6),.int .u8 (D 7),.int .u8 (D 8),.int .u8 (D 9),.int .u8 (D 10),.int .u8 (D 11),.int .u8 (D 12),.int .u8 (D 13),.int .u8 (D 14),.int .u8 (D 15),.int .u8 p,.int .u16 sp,.int .u16 dp,.int .i64 ln,.int .u8 fl,.bool false]) b0 rfl rfl (partOf_all (setRow_row HX5.out) rfl) rfl HV2.out (HB5.out.trans (setRow_below _ (Nat.le_of_eq HB0.out.symm)))
    ·have HV2:=Lib.hid (pkR_err (l:=l) HE2.out h0)
     have hne1:((upPart p L).err != 0)=true:=by simpa using h0
     clear HV HE2 h0 hval
     generalize (upPart p L).err=er at*
     go_wp2_with fail
     exact pk_post (cs:=pkZC) b0 rfl rfl (partOf_all (setRow_row HX5.out) rfl) rfl HV2.out (HB5.out.trans (setRow_below _ (Nat.le_of_eq HB0.out.symm)))
  ·skip
   have lo3:bo<z3.heap.size:=(Array.getElem?_eq_some_iff.1 HO3.out).1
   have c34:=cell_of_row _ _ 34 _ _ (0,0) HO3.out
   have c39:=cell_of_row _ _ 39 _ _ (0,0) HO3.out
   have c41:=cell_of_row _ _ 41 _ _ (0,0) HO3.out
   have hU:upOf ⟨false,S,D,p,ln,true,mo,L⟩=⟨0,0,0,0⟩:=by rw[HUP.out];rfl
   have hE:pkErr l=0:=by rw[HER2.out,hU]
   have HV:Hid (pkR l=.tuple #[.agg #[.bool false,.int .u8 (S 0),.int .u8 (S 1),.int .u8 (S 2),.int .u8 (S 3),.int .u8 (S 4),.int .u8 (S 5),.int .u8 (S 6),.int .u8 (S 7),.int .u8 (S 8),.int .u8 (S 9),.int .u8 (S 10),.int .u8 (S 11),.int .u8 (S 12),.int .u8 (S 13),.int .u8 (S 14),.int .u8 (S 15),.bool false,.int .u8 (D 0),.int .u8 (D 1),.int .u8 (D 2),.int .u8 (D 3),.int .u8 (D 4),.int .u8 (D 5),.int .u8 (D 6),.int .u8 (D 7),.int .u8 (D 8),.int .u8 (D 9),.int .u8 (D 10),.int .u8 (D 11),.int .u8 (D 12),.int .u8 (D 13),.int .u8 (D 14),.int .u8 (D 15),.int .u8 p,.int .u16 0,.int .u16 0,.int .i64 ln,.int .u8 0,.bool true],.int .i64 0]):=Lib.hid (by unfold pkR;rw[hE,HOF.out hE,hU];rfl)
   clear hU hE HUP HER2 HOF
   have hpt:partOf z3 bo 0 40=#[.bool false,.int .u8 (S 0),.int .u8 (S 1),.int .u8 (S 2),.int .u8 (S 3),.int .u8 (S 4),.int .u8 (S 5),.int .u8 (S 6),.int .u8 (S 7),.int .u8 (S 8),.int .u8 (S 9),.int .u8 (S 10),.int .u8 (S 11),.int .u8 (S 12),.int .u8 (S 13),.int .u8 (S 14),.int .u8 (S 15),.bool false,.int .u8 (D 0),.int .u8 (D 1),.int .u8 (D 2),.int .u8 (D 3),.int .u8 (D 4),.int .u8 (D 5),.int .u8 (D 6),.int .u8 (D 7),.int .u8 (D 8),.int .u8 (D 9),.int .u8 (D 10),.int .u8 (D 11),.int .u8 (D 12),.int .u8 (D 13),.int .u8 (D 14),.int .u8 (D 15),.int .u8 p,.int .u16 0,.int .u16 0,.int .i64 ln,.int .u8 0,.bool true]:=part_first (a:=#[.bool false,.int .u8 (S 0),.int .u8 (S 1),.int .u8 (S 2),.int .u8 (S 3),.int .u8 (S 4),.int .u8 (S 5),.int .u8 (S 6),.int .u8 (S 7),.int .u8 (S 8),.int .u8 (S 9),.int .u8 (S 10),.int .u8 (S 11),.int .u8 (S 12),.int .u8 (S 13),.int .u8 (S 14),.int .u8 (S 15),.bool false,.int .u8 (D 0),.int .u8 (D 1),.int .u8 (D 2),.int .u8 (D 3),.int .u8 (D 4),.int .u8 (D 5),.int .u8 (D 6),.int .u8 (D 7),.int .u8 (D 8),.int .u8 (D 9),.int .u8 (D 10),.int .u8 (D 11),.int .u8 (D 12),.int .u8 (D 13),.int .u8 (D 14),.int .u8 (D 15),.int .u8 p,.int .u16 0,.int .u16 0,.int .i64 ln,.int .u8 0,.bool true]) (c:=#[.slice ob nb cb,.bool mo]) HO3.out rfl
   have hrf:rowFree z3 b0 40=true:=by rw[rowFree_row _ _ _ _ _ HX3.out];rfl
   go_wp2_with fail
   exact pk_post (cs:=#[.bool false,.int .u8 (S 0),.int .u8 (S 1),.int .u8 (S 2),.int .u8 (S 3),.int .u8 (S 4),.int .u8 (S 5),.int .u8 (S 6),.int .u8 (S 7),.int .u8 (S 8),.int .u8 (S 9),.int .u8 (S 10),.int .u8 (S 11),.int .u8 (S 12),.int .u8 (S 13),.int .u8 (S 14),.int .u8 (S 15),.bool false,.int .u8 (D 0),.int .u8 (D 1),.int .u8 (D 2),.int .u8 (D 3),.int .u8 (D 4),.int .u8 (D 5),.int .u8 (D 6),.int .u8 (D 7),.int .u8 (D 8),.int .u8 (D 9),.int .u8 (D 10),.int .u8 (D 11),.int .u8 (D 12),.int .u8 (D 13),.int .u8 (D 14),.int .u8 (D 15),.int .u8 p,.int .u16 0,.int .u16 0,.int .i64 ln,.int .u8 0,.bool true]) b0 rfl rfl (partOf_all (setRow_row HX3.out) rfl) rfl HV.out (HB3.out.trans (setRow_below _ (Nat.le_of_eq HB0.out.symm)))
end
end Go.Proofs.YtkgjbipfhhjlpaaGreatDoor
