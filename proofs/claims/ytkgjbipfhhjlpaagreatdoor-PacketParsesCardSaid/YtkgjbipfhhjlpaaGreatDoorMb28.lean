import Derived.Test.YtkgjbipfhhjlpaaGreatDoorMb27
set_option linter.unusedVariables false
set_option linter.unusedSimpArgs false
set_option maxRecDepth 100000
set_option maxHeartbeats 32000000
namespace Go.Proofs.YtkgjbipfhhjlpaaGreatDoor
section
open Go.RowKit Bits
theorem JkG (oa:Option Addr)(n cap:Nat)(l:List Int)(w:World)(hr:Ji w oa n cap l)(hn1:0<n)(hn2:n≤2048)(hk:l.getD 0 0/16=6):
 Calls Tryz.prog 11 #[.slice oa n cap] w (Jh w (pkR l)):=by
 obtain⟨g,off,rfl,hgl,hcs⟩:=hr.here hn1
 have hc0:=hcs 0 hn1
 have hx0:=Jy hr.byte 0
 rw[Nat.add_zero] at hc0
 obtain⟨x0,e0⟩:∃x:Nat,l.getD 0 0=(x:Int):=⟨(l.getD 0 0).toNat,by omega⟩
 have HE0:=Jpa e0
 rw[e0] at hc0 hx0 hk
 have hd:decide ((n:Int)>2048)=false:=by simp;omega
 have hd2:((n:Int)==0)=false:=by simp;omega
 have hn0:(0:Int)<(n:Int):=by omega
 have hlen:=hr.len
 have hx:=heap_alloc_new w (.cells X4 32)
 have hB:Below w.heap.size w (w.alloc (.cells X4 32)):=Below.all (Jpd _ _) _
 have HR:=Jpa (hr.alloc (.cells X4 32))
 have HBY:=Jpa hr.byte
 unfold X4 at hx hB HR
 clear hr
 have hcy:=(Je hB hgl (⟨g,off,none⟩:Addr) rfl).trans hc0
 have hgy:g<(w.alloc (.cells (Jpq false false (.int .i64 0) false) 32)).heap.size:=Jpe hgl hB.size
 have HLK:Hid (∀r w',w'.heap[r]? =some (.map Zg 2)→(Instr.lookup 81 (.map (some r)) (.int .u8 6) true).run Tryz.prog w'=.ok (.tuple #[.agg #[.func (.func 80) #[] #[]],true]) w'):=Jpa (fun r w' h=>JeW r w' h)
 clear hcs e0 hc0
 go_enter Tryz.func11,Tryz.ntmps11
 go_wp2_with fail
 obtain⟨b0,hb0⟩:∃b,b=w.heap.size:=⟨_,rfl⟩
 rw[←hb0] at hx⊢
 have HB0:=Jpa hb0
 clear hb0
 generalize w.alloc (.cells (Jpq false false (.int .i64 0) false) 32)=y at*
 have hb0y:b0<y.heap.size:=(Jpb hx).1
 have HX:=Jpa hx
 have HB:=Jpa hB
 clear hx hB
 refine JQ [.w,.h,.h,.h,.h] [(1,1,0),(2,1,0),(3,1,0),(4,1,0)] (fun _ w'=>w'.cell? ⟨g,off,none⟩=some (.int .u8 (x0:Int))) [1] [(.w,0),(.w,5),(.q,6),(.q,7),(.q,8)] [(.w,10),(.q,11)] 9 (.cells #[.nilFunc] 79) (by kernel_rfl) (by kernel_rfl) rfl rfl ⟨fun _=>rfl,fun _ _=>by kernel_rfl⟩ (by kernel_rfl) (by kernel_rfl) ?_
 apply Exists.intro
 refine⟨fun wx hbx=>?_,?_,?_⟩
 ·have hcx:wx.cell? ⟨g,off,none⟩=some (.int .u8 (x0:Int)):=(Je hbx hgy _ rfl).trans hcy
  have hbx2:g<wx.heap.size:=Jpe hgy hbx.size
  simp only[JB]
  repeat go_big_quiet_step (fail)
  exact wpQuiet_nil rfl
 ·intro q hq oi hoi
  simp only[List.mem_cons,List.not_mem_nil,or_false] at hq
  rcases hq with rfl|rfl|rfl|rfl
  ·cases hoi;exact⟨_,rfl,rfl,fun w2 hw=>by kernel_rfl⟩
  ·cases hoi;exact⟨_,rfl,rfl,fun w2 hw=>by simp[execOp,go_sem,hn0];intro h;exfalso;omega⟩
  ·cases hoi;exact⟨_,rfl,rfl,fun w2 hw=>by simp[execOp,go_sem,hw]⟩
  ·cases hoi;exact⟨_,rfl,rfl,fun w2 hw=>by simp[execOp,go_sem,hw,hk]⟩
 simp only[Qa,List.getElem?_cons_succ,List.getElem?_cons_zero]
 refine⟨fun v fl w2=>∃r,v=.map (some r)∧JkE y r fl w2,?_,?_,?_,?_⟩
 ·rintro fl-
  refine⟨rfl,fun w' hw'=>.inr ⟨34,#[],by kernel_rfl,?_⟩⟩
  obtain⟨⟨x,rfl⟩,hfb⟩:=hw'
  refine(JaR x.world).mono ?_
  rintro e w2 ⟨r,rfl,hr1,hr2,hb2⟩
  refine⟨_,rfl,r,rfl,Jo3 x.below hb2,Nat.le_trans x.below.size hr1,hr2,fun b hb'=>⟨(hfb b hb').1,?_⟩⟩
  have:=(hfb b hb').2
  exact(hb2.block b (Jpb this).1).trans this
 ·rintro v fl g'-w2 ⟨r,-,hst⟩
  exact(Je hst.1 hgy _ rfl).trans hcy
 ·rintro-v w2 ⟨r,rfl,h1,h2,h3,-⟩
  exact⟨r,rfl,Below.all h1 _,h2,(heap_alloc_old _ _ (Jpb h3).1).trans h3,fun b hb'=>by cases hb';exact⟨h1.size,heap_alloc_new _ _⟩⟩
 rintro v ⟨fl0,w20,r,rfl,-⟩
 refine⟨fun v fl w2=>v=.tuple #[.agg #[.func (.func 80) #[] #[]],true]∧JkE y r fl w2,?_,fun _ _=>JC rfl,?_,?_⟩
 ·rintro fl-
  refine Jv.made rfl ?_
  rintro w' ⟨r',hr',hst⟩
  cases hr'
  exact⟨.tuple #[.agg #[.func (.func 80) #[] #[]],true],w',QX _ _ (vm:=.map (some r)) (vx:=.int .u8 6) (by kernel_rfl) (by kernel_rfl) (HLK.out r w' hst.2.2.1),rfl,hst⟩
 ·rintro-v w2 ⟨h0,h1,h2,h3,-⟩
  exact⟨h0,Below.all h1 _,h2,(heap_alloc_old _ _ (Jpb h3).1).trans h3,fun b hb'=>by cases hb';exact⟨h1.size,heap_alloc_new _ _⟩⟩
 rintro v ⟨fl1,w21,rfl,-⟩
 refine⟨.tuple #[.agg #[.func (.func 80) #[] #[]],true],⟨rfl,fun _=>by kernel_rfl⟩,?_⟩
 refine⟨.agg #[.func (.func 80) #[] #[]],⟨rfl,fun _=>by kernel_rfl⟩,?_⟩
 refine⟨.bool true,⟨rfl,fun _=>by kernel_rfl⟩,?_⟩
 intro bp
 refine⟨fun v fl w2=>v=undef∧Below y.heap.size y w2∧y.heap.size≤bp∧w2.heap[bp]? =some (.cells #[.func (.func 80) #[] #[]] 79 (0,0)),?_,fun _ _=>JC rfl,(fun h=>by cases h),?_⟩
 ·rintro fl rfl
  refine Jv.skip rfl ?_
  rintro w' ⟨-,hst⟩
  obtain⟨hbge,hbx⟩:=hst.2.2.2 bp rfl
  have q1:=cell_of_row _ _ 0 _ _ (0,0) hbx
  have q2:=frozen_of_row _ _ 0 _ _ hbx
  refine⟨_,?_,hst.1.setCell (p:=⟨bp,0,none⟩) hbge (.func (.func 80) #[] #[]),hbge,(heap_setCell_same _ bp 0 _ _ (.func (.func 80) #[] #[]) hbx).trans rfl⟩
  simp[execOp,go_sem,Q6,q1,q2]
 rintro v ⟨fl2,w22,rfl,-⟩
 refine⟨.bool true,⟨rfl,fun _=>by kernel_rfl⟩,?_⟩
 rintro zz ⟨-,hzz,hbge,hpz⟩
 have HZ:=Jpa (Jo3 HB.out hzz)
 have HXZ:=Jpa ((hzz.block b0 hb0y).trans HX.out)
 have HRZ:=Jpa (HR.out.below hzz)
 have HPZ:=Jpa hpz
 have hb0z:b0<zz.heap.size:=Jpe hb0y hzz.size
 have hne:bp≠b0:=by omega
 have hrf:Jg zz b0 40=true:=by rw[Jc _ _ _ _ _ HXZ.out];rfl
 clear hzz hpz hbge hcy hgy hb0y w20 w21 w22 fl0 fl1 fl2 HX HB HR HLK
 unfold Q6
 simp only[Act.put,List.setIfInBounds_toArray,List.set_cons_succ,List.set_cons_zero]
 have c0:=cell_of_row _ _ 0 _ _ (0,0) HPZ.out
 have lp:bp<zz.heap.size:=(Jpb HPZ.out).1
 have HER:Hid (Qj l=if Ju l≠0 then Ju l else (Jal (Qy l)).err):=Jpa (by unfold Qj;rw[if_neg (by omega),if_neg (by omega),HE0.out,hk];rw[if_neg (by decide),if_pos rfl])
 have HOF:Hid (Qj l=0→Jlg l=JjX (Qy l) (Jal (Qy l))):=Jpa (fun h=>by unfold Jlg;rw[h,if_neg (by decide),HE0.out,hk];rfl)
 clear hk
 go_wp2_with fail
 refine Jpc (Jm4 _ _ _ _ _ HRZ.out (by omega)) ?_
 rintro e z1 (⟨h0,rfl,hb⟩|⟨h0,ob,cb,rfl,ho,hb⟩)
 ·have HE:=Jpa (QS (l:=l) (err:=Ju l) (by rw[HER.out,if_pos h0]) h0)
  have hne0:(Ju l==0)=false:=by simpa using h0
  have hne1:(Ju l != 0)=true:=by simpa using h0
  have HB1:=Jpa (Jo3 HZ.out hb)
  have HX1:=Jpa ((hb.block b0 hb0z).trans HXZ.out)
  have hb01:b0<z1.heap.size:=Jpe hb0z hb.size
  clear hb h0 HZ HXZ HRZ HPZ c0 lp hrf HER HOF
  generalize Ju l=er at*
  unfold JcQ
  go_wp2_with fail
  have hxo:=heap_alloc_new z1 (.cells (JpJ false false (.int .i64 0) false false) 85)
  have hbo:Below z1.heap.size z1 (z1.alloc (.cells (JpJ false false (.int .i64 0) false false) 85)):=Below.all (Jpd _ _) _
  generalize z1.alloc (.cells (JpJ false false (.int .i64 0) false false) 85)=z2 at*
  have HX2:=Jpa ((hbo.block b0 hb01).trans HX1.out)
  have HB2:=Jpa (Jo3 HB1.out hbo)
  obtain⟨bo,hboe⟩:∃b,b=z1.heap.size:=⟨_,rfl⟩
  rw[←hboe] at hxo⊢
  have HO2:=Jpa hxo
  clear hxo hbo HX1 HB1 hboe hb01
  refine Jpc (Xt 0 _) ?_
  rintro e z3 ⟨rfl,hb3⟩
  rw[show JO 0=false from rfl]
  have HX3:=Jpa ((hb3.block b0 (Jpb HX2.out).1).trans HX2.out)
  have HO3:=Jpa ((hb3.block bo (Jpb HO2.out).1).trans HO2.out)
  have HB3:=Jpa (Jo3 HB2.out hb3)
  have lo3:bo<z3.heap.size:=(Jpb HO3.out).1
  have c34:=cell_of_row _ _ 34 _ _ (0,0) HO3.out
  clear hb3 HX2 HO2 HB2
  go_wp2_with fail
  refine Jpc (QZ 0 _) ?_
  rintro e z4 ⟨rfl,hb4⟩
  rw[show JS 0=false from rfl]
  have HX4:=Jpa ((hb4.block b0 (Jpb HX3.out).1).trans HX3.out)
  have HB4:=Jpa (Jo3 HB3.out hb4)
  have hrf:Jg z4 b0 40=true:=by rw[Jc _ _ _ _ _ HX4.out];rfl
  clear hb4 HX3 HB3 HO3 c34 lo3
  go_wp2_with fail
  exact Qh (cs:=X4) b0 rfl rfl (Ja (Jd HX4.out) rfl) rfl HE.out (HB4.out.trans (Jb _ (Nat.le_of_eq HB0.out.symm)))
 have HOUT:Hid (Qy l=⟨true,(Qy l).src,(Qy l).dst,(Qy l).proto,(Qy l).len,(Qy l).frag,(Qy l).more,(Qy l).body⟩):=Jpa rfl
 have HBB:=Jpa (Jm5 (l:=l) HBY.out)
 have HBL:=Jpa (Jl8 l)
 have hER2:Qj l=(Jal (Qy l)).err:=by rw[HER.out,if_neg (by rw[h0];decide)]
 have HER2:=Jpa hER2
 have HB1:=Jpa (Jo3 HZ.out hb)
 have HX1:=Jpa ((hb.block b0 hb0z).trans HXZ.out)
 have hb01:b0<z1.heap.size:=Jpe hb0z hb.size
 have HLO:=Jpa (fun a (ha:ob=some a)=>(ho.lt ha))
 have HOW:=Jpa ho
 clear hb h0 HZ HXZ HRZ HPZ c0 lp hrf hER2 HER ho hb0z
 unfold Joz
 generalize Qy l=O at*
 obtain⟨o6,S,D,p,ln,fr,mo,L⟩:=O
 simp only at HOUT HBB HBL HER2 HOF HOW⊢
 obtain rfl:o6=true:=congrArg JeH.six HOUT.out
 have HRB:=Jpa (HOW.out.reads HBB.out)
 obtain⟨nb,hnb⟩:∃n,L.length=n:=⟨_,rfl⟩
 have HNB:=Jpa hnb
 rw[hnb] at HRB HBL⊢
 clear hnb HOW HOUT
 go_wp2_with fail
 have hxo:=heap_alloc_new z1 (.cells (JpH true true p (.int .i64 ln) fr (.slice ob nb cb) mo S D) 85)
 have hbo:Below z1.heap.size z1 (z1.alloc (.cells (JpH true true p (.int .i64 ln) fr (.slice ob nb cb) mo S D) 85)):=Below.all (Jpd _ _) _
 generalize z1.alloc (.cells (JpH true true p (.int .i64 ln) fr (.slice ob nb cb) mo S D) 85)=z2 at*
 have HX2:=Jpa ((hbo.block b0 hb01).trans HX1.out)
 have HB2:=Jpa (Jo3 HB1.out hbo)
 have HR2:=Jpa (HRB.out.below hbo)
 obtain⟨bo,hboe⟩:∃b,b=z1.heap.size:=⟨_,rfl⟩
 rw[←hboe] at hxo⊢
 have HO2:=Jpa hxo
 have HNE:Hid ((∀a,ob=some a→a.block≠bo)∧bo≠b0):=Jpa ⟨fun a ha=>by have:=(HLO.out a ha).2;omega,by omega⟩
 have HLB:Hid (w.heap.size≤bo):=Jpa (by rw[hboe];exact HB1.out.size)
 clear hxo hbo HX1 HB1 hboe hb01 HLO HRB hne
 refine Jpc (Xt p _) ?_
 rintro e z3 ⟨rfl,hb3⟩
 have HX3:=Jpa ((hb3.block b0 (Jpb HX2.out).1).trans HX2.out)
 have HO3:=Jpa ((hb3.block bo (Jpb HO2.out).1).trans HO2.out)
 have HB3:=Jpa (Jo3 HB2.out hb3)
 have HR3:=Jpa (HR2.out.below hb3)
 clear hb3 HX2 HO2 HB2 HR2
 have HPI:Hid ((JO p=true→p=6∨p=17∨p=1∨p=58)∧(JS p=true→p=6∨p=17∨p=1∨p=58)):=Jpa ⟨fun h=>by unfold JO at h;simp at h;omega,fun h=>by unfold JS at h;simp at h;omega⟩
 have HUP:Hid (Jal ⟨true,S,D,p,ln,fr,mo,L⟩=if (JO p||JS p)&&!fr then (if mo then JA p L else Js p L) else ⟨0,0,0,0⟩):=Jpa rfl
 have HIC:Hid (∀w',Calls Tryz.prog 36 #[p] w' (Jh w' (.bool (JS p)))):=Jpa (fun w'=>QZ p w')
 obtain⟨P1,hP1⟩:∃b,JO p=b:=⟨_,rfl⟩
 obtain⟨I1,hI1⟩:∃b,JS p=b:=⟨_,rfl⟩
 rw[hP1,hI1] at HUP HPI
 rw[hI1] at HIC
 rw[hP1]
 clear hP1 hI1
 cases P1
 ·cases I1
  ·skip
   have lo3:bo<z3.heap.size:=(Jpb HO3.out).1
   have c34:=cell_of_row _ _ 34 _ _ (0,0) HO3.out
   have c39:=cell_of_row _ _ 39 _ _ (0,0) HO3.out
   have c41:=cell_of_row _ _ 41 _ _ (0,0) HO3.out
   have hU:Jal ⟨true,S,D,p,ln,fr,mo,L⟩=⟨0,0,0,0⟩:=by rw[HUP.out];rfl
   have hE:Qj l=0:=by rw[HER2.out,hU]
   have HV:Hid (pkR l=.tuple #[.agg #[.bool true,.int .u8 (S 0),.int .u8 (S 1),.int .u8 (S 2),.int .u8 (S 3),.int .u8 (S 4),.int .u8 (S 5),.int .u8 (S 6),.int .u8 (S 7),.int .u8 (S 8),.int .u8 (S 9),.int .u8 (S 10),.int .u8 (S 11),.int .u8 (S 12),.int .u8 (S 13),.int .u8 (S 14),.int .u8 (S 15),.bool true,.int .u8 (D 0),.int .u8 (D 1),.int .u8 (D 2),.int .u8 (D 3),.int .u8 (D 4),.int .u8 (D 5),.int .u8 (D 6),.int .u8 (D 7),.int .u8 (D 8),.int .u8 (D 9),.int .u8 (D 10),.int .u8 (D 11),.int .u8 (D 12),.int .u8 (D 13),.int .u8 (D 14),.int .u8 (D 15),.int .u8 p,.int .u16 0,.int .u16 0,.int .i64 ln,.int .u8 0,.bool fr],.int .i64 0]):=Jpa (by unfold pkR;rw[hE,HOF.out hE,hU];rfl)
   clear hU hE HUP HER2 HOF
   clear c39 c41
   go_wp2_with fail
   refine Jpc (HIC.out _) ?_
   rintro e z4 ⟨rfl,hb4⟩
   have HX4:=Jpa ((hb4.block b0 (Jpb HX3.out).1).trans HX3.out)
   have HO4:=Jpa ((hb4.block bo (Jpb HO3.out).1).trans HO3.out)
   have HB4:=Jpa (Jo3 HB3.out hb4)
   have HR4:=Jpa (HR3.out.below hb4)
   clear hb4 c34 lo3 HX3 HO3 HB3 HR3
   have lo4:bo<z4.heap.size:=(Jpb HO4.out).1
   have c39:=cell_of_row _ _ 39 _ _ (0,0) HO4.out
   have c41:=cell_of_row _ _ 41 _ _ (0,0) HO4.out
   have hpt:Jf z4 bo 0 40=(Jpn true true p (.int .i64 ln) fr S D:Array Value):=Qo (a:=(Jpn true true p (.int .i64 ln) fr S D)) (c:=#[.slice ob nb cb,mo]) HO4.out rfl
   have hrf:Jg z4 b0 40=true:=by rw[Jc _ _ _ _ _ HX4.out];rfl
   go_wp2_with fail
   exact Qh (cs:=(Jpn true true p (.int .i64 ln) fr S D)) b0 rfl rfl (Ja (Jd HX4.out) rfl) rfl HV.out (HB4.out.trans (Jb _ (Nat.le_of_eq HB0.out.symm)))
  ·cases fr
   ·cases mo
    ·skip
     have lo3:bo<z3.heap.size:=(Jpb HO3.out).1
     have c34:=cell_of_row _ _ 34 _ _ (0,0) HO3.out
     have c39:=cell_of_row _ _ 39 _ _ (0,0) HO3.out
     have c41:=cell_of_row _ _ 41 _ _ (0,0) HO3.out
     clear c39 c41
     go_wp2_with fail
     refine Jpc (HIC.out _) ?_
     rintro e z4 ⟨rfl,hb4⟩
     have HX4:=Jpa ((hb4.block b0 (Jpb HX3.out).1).trans HX3.out)
     have HO4:=Jpa ((hb4.block bo (Jpb HO3.out).1).trans HO3.out)
     have HB4:=Jpa (Jo3 HB3.out hb4)
     have HR4:=Jpa (HR3.out.below hb4)
     clear hb4 c34 lo3 HX3 HO3 HB3 HR3
     have lo4:bo<z4.heap.size:=(Jpb HO4.out).1
     have c39:=cell_of_row _ _ 39 _ _ (0,0) HO4.out
     have c41:=cell_of_row _ _ 41 _ _ (0,0) HO4.out
     have hU:Jal ⟨true,S,D,p,ln,false,false,L⟩=Js p L:=by rw[HUP.out];rfl
     have hE:Qj l=(Js p L).err:=by rw[HER2.out,hU]
     have HE2:=Jpa hE
     have HV:Hid (Qj l=0→pkR l=.tuple #[.agg #[.bool true,.int .u8 (S 0),.int .u8 (S 1),.int .u8 (S 2),.int .u8 (S 3),.int .u8 (S 4),.int .u8 (S 5),.int .u8 (S 6),.int .u8 (S 7),.int .u8 (S 8),.int .u8 (S 9),.int .u8 (S 10),.int .u8 (S 11),.int .u8 (S 12),.int .u8 (S 13),.int .u8 (S 14),.int .u8 (S 15),.bool true,.int .u8 (D 0),.int .u8 (D 1),.int .u8 (D 2),.int .u8 (D 3),.int .u8 (D 4),.int .u8 (D 5),.int .u8 (D 6),.int .u8 (D 7),.int .u8 (D 8),.int .u8 (D 9),.int .u8 (D 10),.int .u8 (D 11),.int .u8 (D 12),.int .u8 (D 13),.int .u8 (D 14),.int .u8 (D 15),.int .u8 p,.int .u16 (Js p L).src,.int .u16 (Js p L).dst,.int .i64 ln,.int .u8 (Js p L).flags,.bool false],.int .i64 0]):=Jpa (fun h=>by unfold pkR;rw[h,HOF.out h,hU];rfl)
     clear hU hE HUP HER2 HOF
     have HCC:=Jpa (Jdx bo true true S D p ln false false ob nb cb L z4 (HPI.out.2 (by first|rfl|trivial)) HR4.out (by have:=HBL.out;omega) HO4.out)
     go_wp2_with fail
     refine Jpc HCC.out ?_
     rintro e z5 ⟨sp,dp,fl,⟨rfl,hbx,hbe,hot⟩,hval⟩
     have HX5:=Jpa ((hot b0 HNE.out.2.symm (Jpb HX4.out).1).trans HX4.out)
     have HO5:=Jpa hbx
     have HB5:Hid (Below w.heap.size w z5):=Jpa (HB4.out.trans (hbe.mono HLB.out))
     have hrf:Jg z5 b0 40=true:=by rw[Jc _ _ _ _ _ HX5.out];rfl
     have lo5:bo<z5.heap.size:=(Jpb HO5.out).1
     clear hbx hbe hot HCC HX4 HO4 HB4 HR4 c39 c41
     by_cases h0:(Js p L).err=0
     ·obtain⟨rfl,rfl,rfl⟩:=hval h0
      have HV2:=Jpa (HV.out (HE2.out.trans h0))
      rw[h0]
      clear HV HE2 h0 hval
      generalize (Js p L).src=sp at*
      generalize (Js p L).dst=dp at*
      generalize (Js p L).flags=fl at*
      have hpt:Jf z5 bo 0 40=(Jpp true true p (.int .u16 sp) (.int .u16 dp) (.int .i64 ln) fl false S D:Array Value):=Qo (a:=(Jpp true true p (.int .u16 sp) (.int .u16 dp) (.int .i64 ln) fl false S D)) (c:=#[.slice ob nb cb,false]) HO5.out rfl
      go_wp2_with fail
      exact Qh (cs:=(Jpp true true p (.int .u16 sp) (.int .u16 dp) (.int .i64 ln) fl false S D)) b0 rfl rfl (Ja (Jd HX5.out) rfl) rfl HV2.out (HB5.out.trans (Jb _ (Nat.le_of_eq HB0.out.symm)))
     ·have HV2:=Jpa (QS (l:=l) HE2.out h0)
      have hne1:((Js p L).err != 0)=true:=by simpa using h0
      clear HV HE2 h0 hval
      generalize (Js p L).err=er at*
      go_wp2_with fail
      exact Qh (cs:=X4) b0 rfl rfl (Ja (Jd HX5.out) rfl) rfl HV2.out (HB5.out.trans (Jb _ (Nat.le_of_eq HB0.out.symm)))
    ·skip
     have lo3:bo<z3.heap.size:=(Jpb HO3.out).1
     have c34:=cell_of_row _ _ 34 _ _ (0,0) HO3.out
     have c39:=cell_of_row _ _ 39 _ _ (0,0) HO3.out
     have c41:=cell_of_row _ _ 41 _ _ (0,0) HO3.out
     clear c39 c41
     go_wp2_with fail
     refine Jpc (HIC.out _) ?_
     rintro e z4 ⟨rfl,hb4⟩
     have HX4:=Jpa ((hb4.block b0 (Jpb HX3.out).1).trans HX3.out)
     have HO4:=Jpa ((hb4.block bo (Jpb HO3.out).1).trans HO3.out)
     have HB4:=Jpa (Jo3 HB3.out hb4)
     have HR4:=Jpa (HR3.out.below hb4)
     clear hb4 c34 lo3 HX3 HO3 HB3 HR3
     have lo4:bo<z4.heap.size:=(Jpb HO4.out).1
     have c39:=cell_of_row _ _ 39 _ _ (0,0) HO4.out
     have c41:=cell_of_row _ _ 41 _ _ (0,0) HO4.out
     have hU:Jal ⟨true,S,D,p,ln,false,true,L⟩=JA p L:=by rw[HUP.out];rfl
     have hE:Qj l=(JA p L).err:=by rw[HER2.out,hU]
     have HE2:=Jpa hE
     have HV:Hid (Qj l=0→pkR l=.tuple #[.agg #[.bool true,.int .u8 (S 0),.int .u8 (S 1),.int .u8 (S 2),.int .u8 (S 3),.int .u8 (S 4),.int .u8 (S 5),.int .u8 (S 6),.int .u8 (S 7),.int .u8 (S 8),.int .u8 (S 9),.int .u8 (S 10),.int .u8 (S 11),.int .u8 (S 12),.int .u8 (S 13),.int .u8 (S 14),.int .u8 (S 15),.bool true,.int .u8 (D 0),.int .u8 (D 1),.int .u8 (D 2),.int .u8 (D 3),.int .u8 (D 4),.int .u8 (D 5),.int .u8 (D 6),.int .u8 (D 7),.int .u8 (D 8),.int .u8 (D 9),.int .u8 (D 10),.int .u8 (D 11),.int .u8 (D 12),.int .u8 (D 13),.int .u8 (D 14),.int .u8 (D 15),.int .u8 p,.int .u16 (JA p L).src,.int .u16 (JA p L).dst,.int .i64 ln,.int .u8 (JA p L).flags,.bool false],.int .i64 0]):=Jpa (fun h=>by unfold pkR;rw[h,HOF.out h,hU];rfl)
     clear hU hE HUP HER2 HOF
     have HCC:=Jpa (Jdw bo true true S D p ln false true ob nb cb L z4 (HPI.out.2 (by first|rfl|trivial)) HR4.out (by have:=HBL.out;omega) HNE.out.1 HO4.out)
     go_wp2_with fail
     refine Jpc HCC.out ?_
     rintro e z5 ⟨sp,dp,fl,⟨rfl,hbx,hbe,hot⟩,hval⟩
     have HX5:=Jpa ((hot b0 HNE.out.2.symm (Jpb HX4.out).1).trans HX4.out)
     have HO5:=Jpa hbx
     have HB5:Hid (Below w.heap.size w z5):=Jpa (HB4.out.trans (hbe.mono HLB.out))
     have hrf:Jg z5 b0 40=true:=by rw[Jc _ _ _ _ _ HX5.out];rfl
     have lo5:bo<z5.heap.size:=(Jpb HO5.out).1
     clear hbx hbe hot HCC HX4 HO4 HB4 HR4 c39 c41
     by_cases h0:(JA p L).err=0
     ·obtain⟨rfl,rfl,rfl⟩:=hval h0
      have HV2:=Jpa (HV.out (HE2.out.trans h0))
      rw[h0]
      clear HV HE2 h0 hval
      generalize (JA p L).src=sp at*
      generalize (JA p L).dst=dp at*
      generalize (JA p L).flags=fl at*
      have hpt:Jf z5 bo 0 40=(Jpp true true p (.int .u16 sp) (.int .u16 dp) (.int .i64 ln) fl false S D:Array Value):=Qo (a:=(Jpp true true p (.int .u16 sp) (.int .u16 dp) (.int .i64 ln) fl false S D)) (c:=#[.slice ob nb cb,true]) HO5.out rfl
      go_wp2_with fail
      exact Qh (cs:=(Jpp true true p (.int .u16 sp) (.int .u16 dp) (.int .i64 ln) fl false S D)) b0 rfl rfl (Ja (Jd HX5.out) rfl) rfl HV2.out (HB5.out.trans (Jb _ (Nat.le_of_eq HB0.out.symm)))
     ·have HV2:=Jpa (QS (l:=l) HE2.out h0)
      have hne1:((JA p L).err != 0)=true:=by simpa using h0
      clear HV HE2 h0 hval
      generalize (JA p L).err=er at*
      go_wp2_with fail
      exact Qh (cs:=X4) b0 rfl rfl (Ja (Jd HX5.out) rfl) rfl HV2.out (HB5.out.trans (Jb _ (Nat.le_of_eq HB0.out.symm)))
   ·skip
    have lo3:bo<z3.heap.size:=(Jpb HO3.out).1
    have c34:=cell_of_row _ _ 34 _ _ (0,0) HO3.out
    have c39:=cell_of_row _ _ 39 _ _ (0,0) HO3.out
    have c41:=cell_of_row _ _ 41 _ _ (0,0) HO3.out
    have hU:Jal ⟨true,S,D,p,ln,true,mo,L⟩=⟨0,0,0,0⟩:=by rw[HUP.out];rfl
    have hE:Qj l=0:=by rw[HER2.out,hU]
    have HV:Hid (pkR l=.tuple #[.agg #[.bool true,.int .u8 (S 0),.int .u8 (S 1),.int .u8 (S 2),.int .u8 (S 3),.int .u8 (S 4),.int .u8 (S 5),.int .u8 (S 6),.int .u8 (S 7),.int .u8 (S 8),.int .u8 (S 9),.int .u8 (S 10),.int .u8 (S 11),.int .u8 (S 12),.int .u8 (S 13),.int .u8 (S 14),.int .u8 (S 15),.bool true,.int .u8 (D 0),.int .u8 (D 1),.int .u8 (D 2),.int .u8 (D 3),.int .u8 (D 4),.int .u8 (D 5),.int .u8 (D 6),.int .u8 (D 7),.int .u8 (D 8),.int .u8 (D 9),.int .u8 (D 10),.int .u8 (D 11),.int .u8 (D 12),.int .u8 (D 13),.int .u8 (D 14),.int .u8 (D 15),.int .u8 p,.int .u16 0,.int .u16 0,.int .i64 ln,.int .u8 0,.bool true],.int .i64 0]):=Jpa (by unfold pkR;rw[hE,HOF.out hE,hU];rfl)
    clear hU hE HUP HER2 HOF
    clear c39 c41
    go_wp2_with fail
    refine Jpc (HIC.out _) ?_
    rintro e z4 ⟨rfl,hb4⟩
    have HX4:=Jpa ((hb4.block b0 (Jpb HX3.out).1).trans HX3.out)
    have HO4:=Jpa ((hb4.block bo (Jpb HO3.out).1).trans HO3.out)
    have HB4:=Jpa (Jo3 HB3.out hb4)
    have HR4:=Jpa (HR3.out.below hb4)
    clear hb4 c34 lo3 HX3 HO3 HB3 HR3
    have lo4:bo<z4.heap.size:=(Jpb HO4.out).1
    have c39:=cell_of_row _ _ 39 _ _ (0,0) HO4.out
    have c41:=cell_of_row _ _ 41 _ _ (0,0) HO4.out
    have hpt:Jf z4 bo 0 40=(Jpn true true p (.int .i64 ln) true S D:Array Value):=Qo (a:=(Jpn true true p (.int .i64 ln) true S D)) (c:=#[.slice ob nb cb,mo]) HO4.out rfl
    have hrf:Jg z4 b0 40=true:=by rw[Jc _ _ _ _ _ HX4.out];rfl
    go_wp2_with fail
    exact Qh (cs:=(Jpn true true p (.int .i64 ln) true S D)) b0 rfl rfl (Ja (Jd HX4.out) rfl) rfl HV.out (HB4.out.trans (Jb _ (Nat.le_of_eq HB0.out.symm)))
 ·cases fr
  ·cases mo
   ·skip
    have lo3:bo<z3.heap.size:=(Jpb HO3.out).1
    have c34:=cell_of_row _ _ 34 _ _ (0,0) HO3.out
    have c39:=cell_of_row _ _ 39 _ _ (0,0) HO3.out
    have c41:=cell_of_row _ _ 41 _ _ (0,0) HO3.out
    have hU:Jal ⟨true,S,D,p,ln,false,false,L⟩=Js p L:=by rw[HUP.out];rfl
    have hE:Qj l=(Js p L).err:=by rw[HER2.out,hU]
    have HE2:=Jpa hE
    have HV:Hid (Qj l=0→pkR l=.tuple #[.agg #[.bool true,.int .u8 (S 0),.int .u8 (S 1),.int .u8 (S 2),.int .u8 (S 3),.int .u8 (S 4),.int .u8 (S 5),.int .u8 (S 6),.int .u8 (S 7),.int .u8 (S 8),.int .u8 (S 9),.int .u8 (S 10),.int .u8 (S 11),.int .u8 (S 12),.int .u8 (S 13),.int .u8 (S 14),.int .u8 (S 15),.bool true,.int .u8 (D 0),.int .u8 (D 1),.int .u8 (D 2),.int .u8 (D 3),.int .u8 (D 4),.int .u8 (D 5),.int .u8 (D 6),.int .u8 (D 7),.int .u8 (D 8),.int .u8 (D 9),.int .u8 (D 10),.int .u8 (D 11),.int .u8 (D 12),.int .u8 (D 13),.int .u8 (D 14),.int .u8 (D 15),.int .u8 p,.int .u16 (Js p L).src,.int .u16 (Js p L).dst,.int .i64 ln,.int .u8 (Js p L).flags,.bool false],.int .i64 0]):=Jpa (fun h=>by unfold pkR;rw[h,HOF.out h,hU];rfl)
    clear hU hE HUP HER2 HOF
    have HCC:=Jpa (Jdx bo true true S D p ln false false ob nb cb L z3 (HPI.out.1 (by first|rfl|trivial)) HR3.out (by have:=HBL.out;omega) HO3.out)
    go_wp2_with fail
    refine Jpc HCC.out ?_
    rintro e z5 ⟨sp,dp,fl,⟨rfl,hbx,hbe,hot⟩,hval⟩
    have HX5:=Jpa ((hot b0 HNE.out.2.symm (Jpb HX3.out).1).trans HX3.out)
    have HO5:=Jpa hbx
    have HB5:Hid (Below w.heap.size w z5):=Jpa (HB3.out.trans (hbe.mono HLB.out))
    have hrf:Jg z5 b0 40=true:=by rw[Jc _ _ _ _ _ HX5.out];rfl
    have lo5:bo<z5.heap.size:=(Jpb HO5.out).1
    clear hbx hbe hot HCC HX3 HO3 HB3 HR3 c39 c41
    by_cases h0:(Js p L).err=0
    ·obtain⟨rfl,rfl,rfl⟩:=hval h0
     have HV2:=Jpa (HV.out (HE2.out.trans h0))
     rw[h0]
     clear HV HE2 h0 hval
     generalize (Js p L).src=sp at*
     generalize (Js p L).dst=dp at*
     generalize (Js p L).flags=fl at*
     have hpt:Jf z5 bo 0 40=(Jpp true true p (.int .u16 sp) (.int .u16 dp) (.int .i64 ln) fl false S D:Array Value):=Qo (a:=(Jpp true true p (.int .u16 sp) (.int .u16 dp) (.int .i64 ln) fl false S D)) (c:=#[.slice ob nb cb,false]) HO5.out rfl
     go_wp2_with fail
     exact Qh (cs:=(Jpp true true p (.int .u16 sp) (.int .u16 dp) (.int .i64 ln) fl false S D)) b0 rfl rfl (Ja (Jd HX5.out) rfl) rfl HV2.out (HB5.out.trans (Jb _ (Nat.le_of_eq HB0.out.symm)))
    ·have HV2:=Jpa (QS (l:=l) HE2.out h0)
     have hne1:((Js p L).err != 0)=true:=by simpa using h0
     clear HV HE2 h0 hval
     generalize (Js p L).err=er at*
     go_wp2_with fail
     exact Qh (cs:=X4) b0 rfl rfl (Ja (Jd HX5.out) rfl) rfl HV2.out (HB5.out.trans (Jb _ (Nat.le_of_eq HB0.out.symm)))
   ·skip
    have lo3:bo<z3.heap.size:=(Jpb HO3.out).1
    have c34:=cell_of_row _ _ 34 _ _ (0,0) HO3.out
    have c39:=cell_of_row _ _ 39 _ _ (0,0) HO3.out
    have c41:=cell_of_row _ _ 41 _ _ (0,0) HO3.out
    have hU:Jal ⟨true,S,D,p,ln,false,true,L⟩=JA p L:=by rw[HUP.out];rfl
    have hE:Qj l=(JA p L).err:=by rw[HER2.out,hU]
    have HE2:=Jpa hE
    have HV:Hid (Qj l=0→pkR l=.tuple #[.agg #[.bool true,.int .u8 (S 0),.int .u8 (S 1),.int .u8 (S 2),.int .u8 (S 3),.int .u8 (S 4),.int .u8 (S 5),.int .u8 (S 6),.int .u8 (S 7),.int .u8 (S 8),.int .u8 (S 9),.int .u8 (S 10),.int .u8 (S 11),.int .u8 (S 12),.int .u8 (S 13),.int .u8 (S 14),.int .u8 (S 15),.bool true,.int .u8 (D 0),.int .u8 (D 1),.int .u8 (D 2),.int .u8 (D 3),.int .u8 (D 4),.int .u8 (D 5),.int .u8 (D 6),.int .u8 (D 7),.int .u8 (D 8),.int .u8 (D 9),.int .u8 (D 10),.int .u8 (D 11),.int .u8 (D 12),.int .u8 (D 13),.int .u8 (D 14),.int .u8 (D 15),.int .u8 p,.int .u16 (JA p L).src,.int .u16 (JA p L).dst,.int .i64 ln,.int .u8 (JA p L).flags,.bool false],.int .i64 0]):=Jpa (fun h=>by unfold pkR;rw[h,HOF.out h,hU];rfl)
    clear hU hE HUP HER2 HOF
    have HCC:=Jpa (Jdw bo true true S D p ln false true ob nb cb L z3 (HPI.out.1 (by first|rfl|trivial)) HR3.out (by have:=HBL.out;omega) HNE.out.1 HO3.out)
    go_wp2_with fail
    refine Jpc HCC.out ?_
    rintro e z5 ⟨sp,dp,fl,⟨rfl,hbx,hbe,hot⟩,hval⟩
    have HX5:=Jpa ((hot b0 HNE.out.2.symm (Jpb HX3.out).1).trans HX3.out)
    have HO5:=Jpa hbx
    have HB5:Hid (Below w.heap.size w z5):=Jpa (HB3.out.trans (hbe.mono HLB.out))
    have hrf:Jg z5 b0 40=true:=by rw[Jc _ _ _ _ _ HX5.out];rfl
    have lo5:bo<z5.heap.size:=(Jpb HO5.out).1
    clear hbx hbe hot HCC HX3 HO3 HB3 HR3 c39 c41
    by_cases h0:(JA p L).err=0
    ·obtain⟨rfl,rfl,rfl⟩:=hval h0
     have HV2:=Jpa (HV.out (HE2.out.trans h0))
     rw[h0]
     clear HV HE2 h0 hval
     generalize (JA p L).src=sp at*
     generalize (JA p L).dst=dp at*
     generalize (JA p L).flags=fl at*
     have hpt:Jf z5 bo 0 40=(Jpp true true p (.int .u16 sp) (.int .u16 dp) (.int .i64 ln) fl false S D:Array Value):=Qo (a:=(Jpp true true p (.int .u16 sp) (.int .u16 dp) (.int .i64 ln) fl false S D)) (c:=#[.slice ob nb cb,true]) HO5.out rfl
     go_wp2_with fail
     exact Qh (cs:=(Jpp true true p (.int .u16 sp) (.int .u16 dp) (.int .i64 ln) fl false S D)) b0 rfl rfl (Ja (Jd HX5.out) rfl) rfl HV2.out (HB5.out.trans (Jb _ (Nat.le_of_eq HB0.out.symm)))
    ·have HV2:=Jpa (QS (l:=l) HE2.out h0)
     have hne1:((JA p L).err != 0)=true:=by simpa using h0
     clear HV HE2 h0 hval
     generalize (JA p L).err=er at*
     go_wp2_with fail
     exact Qh (cs:=X4) b0 rfl rfl (Ja (Jd HX5.out) rfl) rfl HV2.out (HB5.out.trans (Jb _ (Nat.le_of_eq HB0.out.symm)))
  ·skip
   have lo3:bo<z3.heap.size:=(Jpb HO3.out).1
   have c34:=cell_of_row _ _ 34 _ _ (0,0) HO3.out
   have c39:=cell_of_row _ _ 39 _ _ (0,0) HO3.out
   have c41:=cell_of_row _ _ 41 _ _ (0,0) HO3.out
   have hU:Jal ⟨true,S,D,p,ln,true,mo,L⟩=⟨0,0,0,0⟩:=by rw[HUP.out];rfl
   have hE:Qj l=0:=by rw[HER2.out,hU]
   have HV:Hid (pkR l=.tuple #[.agg #[.bool true,.int .u8 (S 0),.int .u8 (S 1),.int .u8 (S 2),.int .u8 (S 3),.int .u8 (S 4),.int .u8 (S 5),.int .u8 (S 6),.int .u8 (S 7),.int .u8 (S 8),.int .u8 (S 9),.int .u8 (S 10),.int .u8 (S 11),.int .u8 (S 12),.int .u8 (S 13),.int .u8 (S 14),.int .u8 (S 15),.bool true,.int .u8 (D 0),.int .u8 (D 1),.int .u8 (D 2),.int .u8 (D 3),.int .u8 (D 4),.int .u8 (D 5),.int .u8 (D 6),.int .u8 (D 7),.int .u8 (D 8),.int .u8 (D 9),.int .u8 (D 10),.int .u8 (D 11),.int .u8 (D 12),.int .u8 (D 13),.int .u8 (D 14),.int .u8 (D 15),.int .u8 p,.int .u16 0,.int .u16 0,.int .i64 ln,.int .u8 0,.bool true],.int .i64 0]):=Jpa (by unfold pkR;rw[hE,HOF.out hE,hU];rfl)
   clear hU hE HUP HER2 HOF
   have hpt:Jf z3 bo 0 40=(Jpn true true p (.int .i64 ln) true S D:Array Value):=Qo (a:=(Jpn true true p (.int .i64 ln) true S D)) (c:=#[.slice ob nb cb,mo]) HO3.out rfl
   have hrf:Jg z3 b0 40=true:=by rw[Jc _ _ _ _ _ HX3.out];rfl
   go_wp2_with fail
   exact Qh (cs:=(Jpn true true p (.int .i64 ln) true S D)) b0 rfl rfl (Ja (Jd HX3.out) rfl) rfl HV.out (HB3.out.trans (Jb _ (Nat.le_of_eq HB0.out.symm)))
theorem JkH (oa:Option Addr)(n cap:Nat)(l:List Int)(w:World)(hr:Ji w oa n cap l):Calls Tryz.prog 11 #[.slice oa n cap] w (Jh w (pkR l)):=by
 by_cases h1:2048<n
 ·exact Jh2 oa n cap l w hr h1
 by_cases h2:n=0
 ·exact Ji8 oa n cap l w hr h2
 by_cases h4:l.getD 0 0/16=4
 ·exact Jet oa n cap l w hr (by omega) (by omega) h4
 by_cases h6:l.getD 0 0/16=6
 ·exact JkG oa n cap l w hr (by omega) (by omega) h6
 exact Jdh oa n cap l w hr (by omega) (by omega) ⟨h4,h6⟩
def ZE (p:Int)(l:List Int)(wh:Bool):JiA:=if JO p||JS p then (if wh then Js p l else JA p l) else ⟨0,0,0,0⟩
def upV (u:JiA):Value:=.tuple #[.int .u16 u.src,.int .u16 u.dst,.int .u8 u.flags,.int .i64 u.err]
theorem Jh3 {p:Int}{l:List Int}(h:p=6∨p=17):(JT p l).type=0∧(JT p l).code=0:=by
 unfold JT Jlf JnS
 split
 ·rcases h with rfl|rfl
  ·rw[if_pos rfl];exact⟨rfl,rfl⟩
  ·rw[if_neg (by decide),if_pos rfl];exact⟨rfl,rfl⟩
 ·exact⟨rfl,rfl⟩
theorem Ji9 {p:Int}{l:List Int}(h:p=1∨p=58):(JT p l).dst=0:=by
 unfold JT Jlf JnS
 split
 ·rw[if_neg (by omega),if_neg (by omega)]
 ·rfl
theorem JkI {p:Int}{l:List Int}(hl:Jl l):0≤(JT p l).dst∧(JT p l).dst<65536:=by
 have h1:=QB hl 2
 unfold JT Jlf JnS
 split
 ·split
  ·exact h1
  ·split
   ·exact h1
   ·exact⟨Int.le_refl 0,(show(0:Int)<65536 by decide)⟩
 ·exact⟨Int.le_refl 0,(show(0:Int)<65536 by decide)⟩
theorem Jja (p:Int)(oa:Option Addr)(n cap:Nat)(wh:Bool)(w:World)(h1:JO p=false)(h2:JS p=false):Calls Tryz.prog 41 #[p,.slice oa n cap,wh] w (Jh w (upV ⟨0,0,0,0⟩)):=by
 have HP:Hid (∀w',Calls Tryz.prog 46 #[p] w' (Jh w' (.bool false))):=Jpa (fun w'=>h1▸Z0 p w')
 have HI:Hid (∀w',Calls Tryz.prog 47 #[p] w' (Jh w' (.bool false))):=Jpa (fun w'=>h2▸Jbc p w')
 clear h1 h2
 go_enter Tryz.func41,Tryz.ntmps41
 go_wp2_with fail
 refine Jpc (HP.out _) ?_
 rintro e w1 ⟨rfl,hb1⟩
 go_wp2_with fail
 refine Jpc (HI.out _) ?_
 rintro e w2 ⟨rfl,hb2⟩
 have HB:=Jpa (Jo3 hb1 hb2)
 go_wp2_with fail
 refine bodyPost_ret (v:=upV ⟨0,0,0,0⟩) (by simp[results,go_sem,Tryz.f41,upV]) rfl ?_
 exact .mk rfl HB.out
theorem Jcp (p:Int)(hp:p=6∨p=17)(oa:Option Addr)(n cap:Nat)(l:List Int)(w:World)(hr:Ji w oa n cap l)(hn:n≤100000):Calls Tryz.prog 41 #[p,.slice oa n cap,true] w (Jh w (upV (Js p l))):=by
 have HP:Hid (∀w',Calls Tryz.prog 46 #[p] w' (Jh w' (.bool true))):=Jpa (fun w'=>by have:=Z0 p w';rwa [show JO p=true by rcases hp with rfl|rfl<;>rfl] at this)
 have hlen:=hr.len
 have HT:Hid (∀w',Calls Tryz.prog 87 #[p,.string (strOfNums l)] w' (Jh w' (rtR p l))):=Jpa (fun w'=>Jel p (by omega) l hr.byte (by omega) w')
 have HCV:Hid (∀w',Ji w' oa n cap l→(convert 22 9 (.slice oa n cap)).run Tryz.prog w'=.ok (.string (strOfNums l)) w'):=Jpa (fun w' h=>JR 22 5 Tryz.underlying22 Tryz.underlying5 h 9 Tryz.underlying9)
 have hty:=Jh3 (l:=l) hp
 have hbd:=JkI (p:=p) hr.byte
 have HU:Hid (Js p l=⟨Zh p l,(JT p l).src,(JT p l).dst,(JT p l).flags⟩):=Jpa (by unfold Js;rw[show JS p=false by rcases hp with rfl|rfl<;>rfl];rfl)
 rw[HU.out]
 have HR:=Jpa hr
 unfold rtR rtC at HT
 generalize Zh p l=er at*
 generalize JT p l=t at*
 obtain⟨q0,q1,q2,q3,q4,q5,q6,q7,q8,q9,q10,q11⟩:=t
 simp only at HT hty hbd⊢
 obtain⟨rfl,rfl⟩:=hty
 generalize strOfNums q8=S8 at*
 generalize strOfNums q11=S11 at*
 generalize strOfNums l=S at*
 clear hr HU hp
 unfold upV
 go_enter Tryz.func41,Tryz.ntmps41
 go_wp2_with fail
 refine Jpc (HP.out _) ?_
 rintro e w1 ⟨rfl,hb1⟩
 have HR1:=Jpa (HR.out.below hb1)
 have HB1:=Jpa hb1
 have hcv:=HCV.out w1 HR1.out
 clear hb1
 go_wp2_with fail
 refine Jpc (HT.out _) ?_
 rintro e w2 ⟨rfl,hb⟩
 have HB2:=Jpa (Jo3 HB1.out hb)
 clear hb hcv
 go_wp2_with fail
 have hx:=heap_alloc_new w2 (.cells (JpC q0 (.int .u16 q1) (.int .u16 q2) (.int .u32 q3) (.int .u32 q4) q5 (.int .u16 q6) (.int .u16 q7) (.string S8) (.string S11)) 102)
 have hB:Below w2.heap.size w2 (w2.alloc (.cells (JpC q0 (.int .u16 q1) (.int .u16 q2) (.int .u32 q3) (.int .u32 q4) q5 (.int .u16 q6) (.int .u16 q7) (.string S8) (.string S11)) 102)):=Below.all (Jpd _ _) _
 obtain⟨bs,hbs⟩:∃b,b=w2.heap.size:=⟨_,rfl⟩
 rw[←hbs] at hx⊢
 generalize w2.alloc (.cells (JpC q0 (.int .u16 q1) (.int .u16 q2) (.int .u32 q3) (.int .u32 q4) q5 (.int .u16 q6) (.int .u16 q7) (.string S8) (.string S11)) 102)=y at*
 have HB3:=Jpa (Jo3 HB2.out hB)
 have hl0:bs<y.heap.size:=(Jpb hx).1
 have c1:=cell_of_row _ _ 1 _ _ (0,0) hx
 have c2:=cell_of_row _ _ 2 _ _ (0,0) hx
 have c9:=cell_of_row _ _ 9 _ _ (0,0) hx
 have c10:=cell_of_row _ _ 10 _ _ (0,0) hx
 have c5:=cell_of_row _ _ 5 _ _ (0,0) hx
 clear hx hB hbs HB2
 have hd0:=hbd.1
 have hd1:=hbd.2
 refine Jo (by kernel_rfl) (by kernel_rfl) ?_
 repeat go_big_quiet_step (fail)
 refine wpQuiet_nil ?_
 intro x
 go_wp2_with fail
 refine bodyPost_ret (v:=.tuple #[.int .u16 q1,.int .u16 q2,q5,.int .i64 er]) (by simp[results,go_sem,Tryz.f41]) rfl ?_
 exact .mk rfl (Jo3 HB3.out x.below)
theorem JcR (p:Int)(hp:p=1∨p=58)(oa:Option Addr)(n cap:Nat)(l:List Int)(w:World)(hr:Ji w oa n cap l)(hn:n≤100000):Calls Tryz.prog 41 #[p,.slice oa n cap,true] w (Jh w (upV (Js p l))):=by
 have HP:Hid (∀w',Calls Tryz.prog 46 #[p] w' (Jh w' (.bool false))):=Jpa (fun w'=>by have:=Z0 p w';rwa [show JO p=false by rcases hp with rfl|rfl<;>rfl] at this)
 have HI:Hid (∀w',Calls Tryz.prog 47 #[p] w' (Jh w' (.bool true))):=Jpa (fun w'=>by have:=Jbc p w';rwa [show JS p=true by rcases hp with rfl|rfl<;>rfl] at this)
 have hlen:=hr.len
 have HT:Hid (∀w',Calls Tryz.prog 87 #[p,.string (strOfNums l)] w' (Jh w' (rtR p l))):=Jpa (fun w'=>Jel p (by omega) l hr.byte (by omega) w')
 have HCV:Hid (∀w',Ji w' oa n cap l→(convert 22 9 (.slice oa n cap)).run Tryz.prog w'=.ok (.string (strOfNums l)) w'):=Jpa (fun w' h=>JR 22 5 Tryz.underlying22 Tryz.underlying5 h 9 Tryz.underlying9)
 have hty:=Ji9 (l:=l) hp
 have hbd:=Jh1 (p:=p) hr.byte
 have HU:Hid (Js p l=⟨Zh p l,(JT p l).src,(JT p l).type*256+(JT p l).code,(JT p l).flags⟩):=Jpa (by unfold Js;rw[show JS p=true by rcases hp with rfl|rfl<;>rfl];rfl)
 rw[HU.out]
 have HR:=Jpa hr
 unfold rtR rtC at HT
 generalize Zh p l=er at*
 generalize JT p l=t at*
 obtain⟨q0,q1,q2,q3,q4,q5,q6,q7,q8,q9,q10,q11⟩:=t
 simp only at HT hty hbd⊢
 obtain rfl:=hty
 generalize strOfNums q8=S8 at*
 generalize strOfNums q11=S11 at*
 generalize strOfNums l=S at*
 clear hr HU hp
 unfold upV
 go_enter Tryz.func41,Tryz.ntmps41
 go_wp2_with fail
 refine Jpc (HP.out _) ?_
 rintro e w0 ⟨rfl,hb0⟩
 go_wp2_with fail
 refine Jpc (HI.out _) ?_
 rintro e w1 ⟨rfl,hb1'⟩
 have hb1:=Jo3 hb0 hb1'
 have HR1:=Jpa (HR.out.below hb1)
 have HB1:=Jpa hb1
 have hcv:=HCV.out w1 HR1.out
 clear hb1 hb0 hb1'
 go_wp2_with fail
 refine Jpc (HT.out _) ?_
 rintro e w2 ⟨rfl,hb⟩
 have HB2:=Jpa (Jo3 HB1.out hb)
 clear hb hcv
 go_wp2_with fail
 have hx:=heap_alloc_new w2 (.cells (Jp5 q0 (.int .u16 q1) (.int .u32 q3) (.int .u32 q4) q5 (.int .u16 q6) (.int .u16 q7) (.string S8) q9 q10 (.string S11)) 102)
 have hB:Below w2.heap.size w2 (w2.alloc (.cells (Jp5 q0 (.int .u16 q1) (.int .u32 q3) (.int .u32 q4) q5 (.int .u16 q6) (.int .u16 q7) (.string S8) q9 q10 (.string S11)) 102)):=Below.all (Jpd _ _) _
 obtain⟨bs,hbs⟩:∃b,b=w2.heap.size:=⟨_,rfl⟩
 rw[←hbs] at hx⊢
 generalize w2.alloc (.cells (Jp5 q0 (.int .u16 q1) (.int .u32 q3) (.int .u32 q4) q5 (.int .u16 q6) (.int .u16 q7) (.string S8) q9 q10 (.string S11)) 102)=y at*
 have HB3:=Jpa (Jo3 HB2.out hB)
 have hl0:bs<y.heap.size:=(Jpb hx).1
 have c1:=cell_of_row _ _ 1 _ _ (0,0) hx
 have c2:=cell_of_row _ _ 2 _ _ (0,0) hx
 have c9:=cell_of_row _ _ 9 _ _ (0,0) hx
 have c10:=cell_of_row _ _ 10 _ _ (0,0) hx
 have c5:=cell_of_row _ _ 5 _ _ (0,0) hx
 clear hx hB hbs HB2
 obtain⟨⟨hd0,hd1⟩,hd2,hd3⟩:=hbd
 refine Jo (by kernel_rfl) (by kernel_rfl) ?_
 repeat go_big_quiet_step (fail)
 refine wpQuiet_nil ?_
 intro x
 go_wp2_with fail
 refine bodyPost_ret (v:=.tuple #[.int .u16 q1,.int .u16 (q9*256+q10),q5,.int .i64 er]) ?_ rfl ?_
 ·simp[results,go_sem,Tryz.f41];omega
 exact .mk rfl (Jo3 HB3.out x.below)
theorem Jdi (p:Int)(hp:p=1∨p=58)(oa:Option Addr)(n cap:Nat)(l:List Int)(w:World)(hr:Ji w oa n cap l)(hn:n≤100000):Calls Tryz.prog 41 #[p,.slice oa n cap,false] w (Jh w (upV (JA p l))):=by
 have HP:Hid (∀w',Calls Tryz.prog 46 #[p] w' (Jh w' (.bool false))):=Jpa (fun w'=>by have:=Z0 p w';rwa [show JO p=false by rcases hp with rfl|rfl<;>rfl] at this)
 have HI:Hid (∀w',Calls Tryz.prog 47 #[p] w' (Jh w' (.bool true))):=Jpa (fun w'=>by have:=Jbc p w';rwa [show JS p=true by rcases hp with rfl|rfl<;>rfl] at this)
 have hlen:=hr.len
 have HR:=Jpa hr
 have HU:Hid (JA p l=if l.length<2 then ⟨10,0,0,0⟩ else ⟨0,0,w2 l 0,0⟩):=Jpa (by unfold JA;rw[show JS p=true by rcases hp with rfl|rfl<;>rfl];rfl)
 rw[HU.out,hlen]
 clear HU hp
 by_cases h2:n<2
 ·have hd:decide ((n:Int)<2)=true:=by simp;omega
  rw[if_pos h2]
  clear hr
  unfold upV
  go_enter Tryz.func41,Tryz.ntmps41
  go_wp2_with fail
  refine Jpc (HP.out _) ?_
  rintro e w0 ⟨rfl,hb0⟩
  go_wp2_with fail
  refine Jpc (HI.out _) ?_
  rintro e w1 ⟨rfl,hb1⟩
  go_wp2_with fail
  refine Jpc (HP.out _) ?_
  rintro e w2' ⟨rfl,hb2⟩
  have HB:=Jpa (Jo3 (Jo3 hb0 hb1) hb2)
  go_wp2_with fail
  refine bodyPost_ret (v:=.tuple #[Jpg,Jpg,(),.int .i64 10]) (by simp[results,go_sem,Tryz.f41]) rfl ?_
  exact .mk rfl HB.out
 ·have hd:decide ((n:Int)<2)=false:=by simp;omega
  have HG:Hid (∀w',Ji w' oa n cap l→Calls Tryz.prog 88 #[.slice oa n cap,.int .i64 0,.int .i64 2] w' (Jh w' (.tuple #[.int .u64 (w2 l 0),.int .i64 0]))):=Jpa (fun w' h=>by
   have:=Za oa n cap l 0 2 w' h (by decide) (by decide) (by omega) (by omega)
   rwa [JY l 0 (by omega)] at this)
  have hv:=QB hr.byte 0
  rw[if_neg h2]
  generalize w2 l 0=v at*
  clear hr
  unfold upV
  go_enter Tryz.func41,Tryz.ntmps41
  go_wp2_with fail
  refine Jpc (HP.out _) ?_
  rintro e w0 ⟨rfl,hb0⟩
  go_wp2_with fail
  refine Jpc (HI.out _) ?_
  rintro e w1 ⟨rfl,hb1⟩
  go_wp2_with fail
  refine Jpc (HP.out _) ?_
  rintro e w2' ⟨rfl,hb2⟩
  have HB2:=Jpa (Jo3 (Jo3 hb0 hb1) hb2)
  go_wp2_with fail
  refine Jpc (HG.out _ (HR.out.below HB2.out)) ?_
  rintro e w3 ⟨rfl,hb3⟩
  have HB3:=Jpa (Jo3 HB2.out hb3)
  go_wp2_with fail
  refine Jpc (HI.out _) ?_
  rintro e w4 ⟨rfl,hb4⟩
  have HB:=Jpa (Jo3 HB3.out hb4)
  go_wp2_with fail
  refine bodyPost_ret (v:=.tuple #[Jpg,.int .u16 v,(),.int .i64 0]) (by simp[results,go_sem,Tryz.f41]) rfl ?_
  exact .mk rfl HB.out
theorem JcS (p:Int)(hp:p=6∨p=17)(oa:Option Addr)(n cap:Nat)(l:List Int)(w:World)(hr:Ji w oa n cap l)(hn:n≤100000):Calls Tryz.prog 41 #[p,.slice oa n cap,false] w (Jh w (upV (JA p l))):=by
 have HP:Hid (∀w',Calls Tryz.prog 46 #[p] w' (Jh w' (.bool true))):=Jpa (fun w'=>by have:=Z0 p w';rwa [show JO p=true by rcases hp with rfl|rfl<;>rfl] at this)
 have HI:Hid (∀w',Calls Tryz.prog 47 #[p] w' (Jh w' (.bool false))):=Jpa (fun w'=>by have:=Jbc p w';rwa [show JS p=false by rcases hp with rfl|rfl<;>rfl] at this)
 have hlen:=hr.len
 have HR:=Jpa hr
 have HU:Hid (JA p l=if l.length<4 then ⟨10,0,0,0⟩ else ⟨0,w2 l 0,w2 l 2,if p=6∧14≤l.length then l.getD 13 0 else 0⟩):=Jpa (by unfold JA;rw[show JS p=false by rcases hp with rfl|rfl<;>rfl];rfl)
 by_cases h4:n<4
 ·have hd:decide ((n:Int)<4)=true:=by simp;omega
  have HV:Hid (JA p l=⟨10,0,0,0⟩):=Jpa (by rw[HU.out,hlen,if_pos h4])
  rw[HV.out]
  clear hr HU HV hp
  unfold upV
  go_enter Tryz.func41,Tryz.ntmps41
  go_wp2_with fail
  refine Jpc (HP.out _) ?_
  rintro e w0 ⟨rfl,hb0⟩
  go_wp2_with fail
  refine Jpc (HP.out _) ?_
  rintro e w1 ⟨rfl,hb1⟩
  have HB:=Jpa (Jo3 hb0 hb1)
  go_wp2_with fail
  refine bodyPost_ret (v:=.tuple #[Jpg,Jpg,(),.int .i64 10]) (by simp[results,go_sem,Tryz.f41]) rfl ?_
  exact .mk rfl HB.out
 have hd:decide ((n:Int)<4)=false:=by simp;omega
 have hd2:decide ((n:Int)<2)=false:=by simp;omega
 obtain⟨g,off,rfl,hgl,hcs⟩:=hr.here (by omega)
 have HG:Hid (∀(i:Nat) (iv:Int) w',iv=(i:Int)→i+2≤n→Ji w' (some ⟨g,off,none⟩) n cap l→Calls Tryz.prog 88 #[.slice (some ⟨g,off,none⟩) n cap,.int .i64 iv,.int .i64 2] w' (Jh w' (.tuple #[.int .u64 (w2 l i),.int .i64 0]))):=Jpa (fun i iv w' hi hl h=>by
  subst hi
  have:=Za (some ⟨g,off,none⟩) n cap l i 2 w' h (by decide) (by decide) (by omega) (by omega)
  rwa [JY l i (by omega)] at this)
 have HG0:Hid (∀w',Ji w' (some ⟨g,off,none⟩) n cap l→Calls Tryz.prog 88 #[.slice (some ⟨g,off,none⟩) n cap,.int .i64 0,.int .i64 2] w' (Jh w' (.tuple #[.int .u64 (w2 l 0),.int .i64 0]))):=Jpa (fun w' h=>HG.out 0 0 w' rfl (by omega) h)
 have HG2:Hid (∀w',Ji w' (some ⟨g,off,none⟩) n cap l→Calls Tryz.prog 88 #[.slice (some ⟨g,off,none⟩) n cap,.int .i64 2,.int .i64 2] w' (Jh w' (.tuple #[.int .u64 (w2 l 2),.int .i64 0]))):=Jpa (fun w' h=>HG.out 2 2 w' rfl (by omega) h)
 have hv:=QB hr.byte 0
 have hu:=QB hr.byte 2
 have HC13:Hid (14≤n→w.cell? ⟨g,off+13,none⟩=some (.int .u8 (l.getD 13 0))):=Jpa (fun h=>hcs 13 (by omega))
 have HV:Hid (JA p l=⟨0,w2 l 0,w2 l 2,if p=6∧14≤n then l.getD 13 0 else 0⟩):=Jpa (by rw[HU.out,hlen,if_neg h4])
 generalize w2 l 0=v at*
 generalize w2 l 2=u at*
 generalize l.getD 13 0=fb at*
 clear hr HU hcs HG
 by_cases h6:p=6
 ·subst h6
  by_cases h14:14≤n
  ·have hd14:decide ((n:Int)≥14)=true:=by simp;omega
   have hi13:(13:Int)<(n:Int):=by omega
   have HV2:Hid (JA 6 l=⟨0,v,u,fb⟩):=Jpa (by rw[HV.out,if_pos ⟨rfl,h14⟩])
   rw[HV2.out]
   have hc13:=HC13.out h14
   clear HV HV2 h4 h14
   unfold upV
   go_enter Tryz.func41,Tryz.ntmps41
   go_wp2_with fail
   refine Jpc (HP.out _) ?_
   rintro e w0 ⟨rfl,hb0⟩
   go_wp2_with fail
   refine Jpc (HP.out _) ?_
   rintro e w1 ⟨rfl,hb1⟩
   have HB1:=Jpa (Jo3 hb0 hb1)
   clear hb0 hb1
   go_wp2_with fail
   refine Jpc (HG0.out _ (HR.out.below HB1.out)) ?_
   rintro e w3 ⟨rfl,hb3⟩
   have HB3:=Jpa (Jo3 HB1.out hb3)
   clear hb3 HB1
   go_wp2_with fail
   refine Jpc (HI.out _) ?_
   rintro e w4 ⟨rfl,hb4⟩
   have HB4:=Jpa (Jo3 HB3.out hb4)
   clear hb4 HB3
   go_wp2_with fail
   refine Jpc (HG2.out _ (HR.out.below HB4.out)) ?_
   rintro e w5 ⟨rfl,hb5⟩
   have HB5:=Jpa (Jo3 HB4.out hb5)
   clear hb5 HB4
   have hc13':=(Je HB5.out hgl (⟨g,off+13,none⟩:Addr) rfl).trans hc13
   have hgl5:g<w5.heap.size:=Jpe hgl HB5.out.size
   go_wp2_with fail
   refine bodyPost_ret (v:=.tuple #[.int .u16 v,.int .u16 u,fb,.int .i64 0]) (by simp[results,go_sem,Tryz.f41]) rfl ?_
   exact .mk rfl HB5.out
  ·have hd14:decide ((n:Int)≥14)=false:=by simp;omega
   have HV2:Hid (JA 6 l=⟨0,v,u,0⟩):=Jpa (by rw[HV.out,if_neg (fun h=>h14 h.2)])
   rw[HV2.out]
   clear HV HV2 h4 h14
   unfold upV
   go_enter Tryz.func41,Tryz.ntmps41
   go_wp2_with fail
   refine Jpc (HP.out _) ?_
   rintro e w0 ⟨rfl,hb0⟩
   go_wp2_with fail
   refine Jpc (HP.out _) ?_
   rintro e w1 ⟨rfl,hb1⟩
   have HB1:=Jpa (Jo3 hb0 hb1)
   clear hb0 hb1
   go_wp2_with fail
   refine Jpc (HG0.out _ (HR.out.below HB1.out)) ?_
   rintro e w3 ⟨rfl,hb3⟩
   have HB3:=Jpa (Jo3 HB1.out hb3)
   clear hb3 HB1
   go_wp2_with fail
   refine Jpc (HI.out _) ?_
   rintro e w4 ⟨rfl,hb4⟩
   have HB4:=Jpa (Jo3 HB3.out hb4)
   clear hb4 HB3
   go_wp2_with fail
   refine Jpc (HG2.out _ (HR.out.below HB4.out)) ?_
   rintro e w5 ⟨rfl,hb5⟩
   have HB5:=Jpa (Jo3 HB4.out hb5)
   clear hb5 HB4
   go_wp2_with fail
   refine bodyPost_ret (v:=.tuple #[.int .u16 v,.int .u16 u,(),.int .i64 0]) (by simp[results,go_sem,Tryz.f41]) rfl ?_
   exact .mk rfl HB5.out
 ·have hb6:(p==6)=false:=by simpa using h6
  have HV2:Hid (JA p l=⟨0,v,u,0⟩):=Jpa (by rw[HV.out,if_neg (fun h=>h6 h.1)])
  rw[HV2.out]
  clear HV HV2 h4 h6 hp
  unfold upV
  go_enter Tryz.func41,Tryz.ntmps41
  go_wp2_with fail
  refine Jpc (HP.out _) ?_
  rintro e w0 ⟨rfl,hb0⟩
  go_wp2_with fail
  refine Jpc (HP.out _) ?_
  rintro e w1 ⟨rfl,hb1⟩
  have HB1:=Jpa (Jo3 hb0 hb1)
  clear hb0 hb1
  go_wp2_with fail
  refine Jpc (HG0.out _ (HR.out.below HB1.out)) ?_
  rintro e w3 ⟨rfl,hb3⟩
  have HB3:=Jpa (Jo3 HB1.out hb3)
  clear hb3 HB1
  go_wp2_with fail
  refine Jpc (HI.out _) ?_
  rintro e w4 ⟨rfl,hb4⟩
  have HB4:=Jpa (Jo3 HB3.out hb4)
  clear hb4 HB3
  go_wp2_with fail
  refine Jpc (HG2.out _ (HR.out.below HB4.out)) ?_
  rintro e w5 ⟨rfl,hb5⟩
  have HB5:=Jpa (Jo3 HB4.out hb5)
  clear hb5 HB4
  go_wp2_with fail
  refine bodyPost_ret (v:=.tuple #[.int .u16 v,.int .u16 u,(),.int .i64 0]) (by simp[results,go_sem,Tryz.f41]) rfl ?_
  exact .mk rfl HB5.out
theorem Jfu (p:Int)(oa:Option Addr)(n cap:Nat)(l:List Int)(wh:Bool)(w:World)(hr:Ji w oa n cap l)(hn:n≤100000):Calls Tryz.prog 41 #[p,.slice oa n cap,wh] w (Jh w (upV (ZE p l wh))):=by
 by_cases hp:JO p=true
 ·have h6:p=6∨p=17:=by unfold JO at hp;simp at hp;exact hp
  have hs:ZE p l wh=if wh then Js p l else JA p l:=by unfold ZE;rw[hp];rfl
  rw[hs]
  cases wh
  ·exact JcS p h6 oa n cap l w hr hn
  ·exact Jcp p h6 oa n cap l w hr hn
 by_cases hi:JS p=true
 ·have h1:p=1∨p=58:=by unfold JS at hi;simp at hi;exact hi
  have hs:ZE p l wh=if wh then Js p l else JA p l:=by unfold ZE;rw[hi,Bool.or_true];rfl
  rw[hs]
  cases wh
  ·exact Jdi p h1 oa n cap l w hr hn
  ·exact JcR p h1 oa n cap l w hr hn
 have hp':JO p=false:=by simpa using hp
 have hi':JS p=false:=by simpa using hi
 have hs:ZE p l wh=⟨0,0,0,0⟩:=by unfold ZE;rw[hp',hi'];rfl
 rw[hs]
 exact Jja p oa n cap wh w hp' hi'
theorem Jda {P:Program}{fn:Func}{p q r s:Tmp}{ty:TypeId}(h:fn.results=#[.cell p ty,.tmp q,.tmp r,.tmp s])(tmps:Array Value)(w:World)(b n:Nat)(d:TypeDesc)(v u x:Value)
 (hu:P.underlying ty=some d)(hd:(match d with| .struct _| .array _ _=>true|_=>false)=true)(hi:(P.info? ty).map (·.size)=some n)
 (hp:tmps.getD p undef=.pointer (some ⟨b,0,none⟩))(hq:tmps.getD q undef=v)(hr:tmps.getD r undef=u)(hs0:tmps.getD s undef=x)(cs:Array Value)(hc:Jf w b 0 n=cs)(hs:cs.size=n):
 (results fn tmps).run P w=.ok (.tuple #[.agg cs,v,u,x]) w:=by
 subst hc
 have hp':tmps[p]?.getD undef=.pointer (some ⟨b,0,none⟩):=by simpa using hp
 have hq':tmps[q]?.getD undef=v:=by simpa using hq
 have hr':tmps[r]?.getD undef=u:=by simpa using hr
 have hs':tmps[s]?.getD undef=x:=by simpa using hs0
 simp[results,h,hp',hq',hr',hs',asAddr,Qp w b 0 n ty d hu hd hi hs]
def pkO (o:JeH):Array Value:=#[.bool o.six,.int .u8 (o.src 0),.int .u8 (o.src 1),.int .u8 (o.src 2),.int .u8 (o.src 3),.int .u8 (o.src 4),.int .u8 (o.src 5),.int .u8 (o.src 6),.int .u8 (o.src 7),.int .u8 (o.src 8),.int .u8 (o.src 9),.int .u8 (o.src 10),.int .u8 (o.src 11),.int .u8 (o.src 12),.int .u8 (o.src 13),.int .u8 (o.src 14),.int .u8 (o.src 15),.bool o.six,.int .u8 (o.dst 0),.int .u8 (o.dst 1),.int .u8 (o.dst 2),.int .u8 (o.dst 3),.int .u8 (o.dst 4),.int .u8 (o.dst 5),.int .u8 (o.dst 6),.int .u8 (o.dst 7),.int .u8 (o.dst 8),.int .u8 (o.dst 9),.int .u8 (o.dst 10),.int .u8 (o.dst 11),.int .u8 (o.dst 12),.int .u8 (o.dst 13),.int .u8 (o.dst 14),.int .u8 (o.dst 15),.int .u8 o.proto,.int .u16 0,.int .u16 0,.int .i64 o.len,.int .u8 0,.bool o.frag]
def Jdy (w:World)(oi:Option Addr)(o:JeH)(err:Int):Ending→World→Prop:=fun e w'=>
 (err≠0∧e=.returned (.tuple #[.agg X4,Jpj,false,.int .i64 err])∧Below w.heap.size w w')∨
 (err=0∧∃oa cap,e=.returned (.tuple #[.agg (pkO o),.slice oa o.body.length cap,.bool o.more,.int .i64 0])∧Ji w' oa o.body.length cap o.body∧Below w.heap.size w w'∧∀a,oa=some a→∃a0,oi=some a0∧a0.block=a.block)
theorem Jfv {R:Ending→World→Prop}{w':World}{tmps cs:Array Value}{v u x:Value}(b:Nat)(hp:tmps.getD 2 undef=.pointer (some ⟨b,0,none⟩))(h3:tmps.getD 3 undef=v)(h4:tmps.getD 4 undef=u)(h5:tmps.getD 5 undef=x)(hc:Jf w' b 0 40=cs)(hs:cs.size=40)(hR:R (.returned (.tuple #[.agg cs,v,u,x])) w'):
 bodyPost Tryz.prog Tryz.f39 R .ret { tmps:=tmps,defers:=[] } w':=
 bodyPost_ret (v:=.tuple #[.agg cs,v,u,x]) (Jda rfl _ _ b 40 _ _ _ _ Tryz.underlying40 rfl Jb0 hp h3 h4 h5 cs hc hs) rfl hR
theorem JkJ (oa:Option Addr)(n cap:Nat)(l:List Int)(w:World)(hr:Ji w oa n cap l)(hn:n≤100000):
 Calls Tryz.prog 39 #[.slice oa n cap] w (Jdy w oa (J8 l) (Jm l)):=by
 have hlen:=hr.len
 have hx:=heap_alloc_new w (.cells X4 40)
 have hB:Below w.heap.size w (w.alloc (.cells X4 40)):=Below.all (Jpd _ _) _
 have HR:=Jpa (hr.alloc (.cells X4 40))
 have HBY:=Jpa hr.byte
 have HOA:Hid (∀a,oa=some a→0<n→a.block<w.heap.size):=Jpa (fun a ha hn=>by
  obtain⟨g,off,e,hlt,-⟩:=hr.here hn
  rw[ha] at e;cases e;exact hlt)
 unfold X4 at hx hB HR
 clear hr
 go_enter Tryz.func39,Tryz.ntmps39
 go_wp2_with fail
 obtain⟨b0,hb0⟩:∃b,b=w.heap.size:=⟨_,rfl⟩
 rw[←hb0] at hx⊢
 have HB0:=Jpa hb0
 clear hb0
 generalize w.alloc (.cells (Jpq false false (.int .i64 0) false) 40)=wa at*
 refine Jpc (JiJ _ _ _ _ _ HR.out hn) ?_
 rintro e w1 ⟨ob,cb,rfl,ho,hb,hin⟩
 have HO:=Jpa ho
 have HB1:=Jpa (Jo3 hB hb)
 have HX1:=Jpa ((hb.block b0 (Jpb hx).1).trans hx)
 have HR1:=Jpa (HR.out.below hb)
 have HIN:=Jpa hin
 have hb1:b0<w1.heap.size:=(Jpb HX1.out).1
 have hrf:Jg w1 b0 40=true:=by rw[Jc _ _ _ _ _ HX1.out];rfl
 clear hb ho hB HR hin
 have HX0:=Jpa hx
 clear hx
 by_cases h0:Jm l=0
 rotate_left
 ·have HE:=Jpa h0
  have hne:(Jm l != 0)=true:=by simpa using h0
  clear h0
  generalize Jm l=er at*
  generalize (Qf l).length=nb at*
  go_wp2_with fail
  exact Jfv (cs:=X4) (v:=.slice none 0 0) (u:=.bool false) (x:=.int .i64 er) b0 rfl rfl rfl rfl (Ja (Jd HX1.out) rfl) rfl (.inl ⟨HE.out,rfl,HB1.out.trans (Jb _ (Nat.le_of_eq HB0.out.symm))⟩)
 have HL:Hid (Qf l=ZF l):=Jpa (by unfold Qf;rw[if_pos h0])
 have HE:Hid (Qe l=0):=Jpa (Jfs h0)
 have HOUT:Hid (J8 l=⟨false,JM ((l.drop 12).take 4),JM ((l.drop 16).take 4),l.getD 9 0,w2 l 2,decide (0<w2 l 6%8192),(w2 l 6/8192%2==1),ZF l⟩):=Jpa rfl
 have hl20:20≤l.length:=by have:=Jdq HE.out;omega
 have HNO:Hid (∀a,ob=some a→a.block≠b0):=Jpa (fun a ha=>by
  obtain⟨a0,h1,h2⟩:=HIN.out a ha
  have:=HOA.out a0 h1 (by omega)
  have:=HB0.out
  omega)
 have HS:Hid (((l.drop 12).take 4).length=4∧Jl ((l.drop 12).take 4)):=Jpa ⟨by rw[List.length_take,List.length_drop];omega,JU (JD HBY.out _) _⟩
 have HD:Hid (((l.drop 16).take 4).length=4∧Jl ((l.drop 16).take 4)):=Jpa ⟨by rw[List.length_take,List.length_drop];omega,JU (JD HBY.out _) _⟩
 have HPW:=QB HBY.out 2
 have HPF:=QB HBY.out 6
 have HPP:Hid (∀w',Ji w' oa n cap l→Calls Tryz.prog 83 #[.slice oa n cap] w' (Jh w' (.tuple #[.agg (Jmf l),.int .i64 (ipHl l:Int),.int .i64 0]))):=Jpa (fun w' h=>by
  have:=Jc3 oa n cap l w' h hn
  unfold Jmg at this
  rwa [if_pos HE.out] at this)
 have HA1:Hid (∀w',Calls Tryz.prog 84 #[.string (strOfNums ((l.drop 12).take 4))] w' (Jh w' (adV false (JM ((l.drop 12).take 4))))):=Jpa (fun w'=>Jfn _ HS.out.2 HS.out.1 w')
 have HA2:Hid (∀w',Calls Tryz.prog 84 #[.string (strOfNums ((l.drop 16).take 4))] w' (Jh w' (adV false (JM ((l.drop 16).take 4))))):=Jpa (fun w'=>Jfn _ HD.out.2 HD.out.1 w')
 rw[HL.out] at HO⊢
 have H00:=Jpa h0
 rw[h0]
 unfold Jmf at HPP
 unfold adV at HA1 HA2
 clear h0 HL hl20 HS HD
 generalize JM ((l.drop 12).take 4)=S at*
 generalize JM ((l.drop 16).take 4)=D at*
 generalize strOfNums ((l.drop 12).take 4)=S1 at*
 generalize strOfNums ((l.drop 16).take 4)=S2 at*
 generalize strOfNums ((l.drop 20).take (ipHl l-20))=S3 at*
 generalize ZF l=L at*
 generalize w2 l 2=tot at*
 generalize w2 l 6=fw at*
 generalize l.getD 9 0=pr at*
 generalize l.getD 1 0=x1 at*
 generalize w2 l 4=x4 at*
 generalize l.getD 8 0=x8 at*
 generalize (fw/16384%2==1)=dfb at*
 generalize (fw/8192%2==1)=mfb at*
 obtain⟨fg,hfg⟩:∃f,fw%8192=f:=⟨_,rfl⟩
 have hfb:0≤fg:=by omega
 rw[hfg] at HPP HOUT
 clear hfg HPF
 generalize ipHl l=hl at*
 obtain⟨nb,hnb⟩:∃k,L.length=k:=⟨_,rfl⟩
 have HNB:=Jpa hnb
 rw[hnb] at HO⊢
 clear hnb
 go_wp2_with fail
 refine Jpc (HPP.out _ HR1.out) ?_
 rintro e w2' ⟨rfl,hb2⟩
 have HO2:=Jpa (HO.out.below hb2)
 have HB2:=Jpa (Jo3 HB1.out hb2)
 have HX2:=Jpa ((hb2.block b0 hb1).trans HX1.out)
 clear hb2 HO HB1 HX1 HR1 hrf hb1
 go_wp2_with fail
 obtain⟨bh,hbh⟩:∃b,b=w2'.heap.size:=⟨_,rfl⟩
 have hx3:=heap_alloc_new w2' (.cells (JpN x1 (.int .u16 tot) (.int .u16 x4) dfb mfb (.int .u16 fg) x8 pr (.string S1) (.string S2) (.string S3)) 106)
 have hb3:Below w2'.heap.size w2' (w2'.alloc (.cells (JpN x1 (.int .u16 tot) (.int .u16 x4) dfb mfb (.int .u16 fg) x8 pr (.string S1) (.string S2) (.string S3)) 106)):=Below.all (Jpd _ _) _
 rw[←hbh] at hx3⊢
 generalize w2'.alloc (.cells (JpN x1 (.int .u16 tot) (.int .u16 x4) dfb mfb (.int .u16 fg) x8 pr (.string S1) (.string S2) (.string S3)) 106)=w3 at*
 have HB3:=Jpa (Jo3 HB2.out hb3)
 have HO3:=Jpa (HO2.out.below hb3)
 have HX3:=Jpa ((hb3.block b0 (Jpb HX2.out).1).trans HX2.out)
 have lh:bh<w3.heap.size:=(Jpb hx3).1
 have c1:=cell_of_row _ _ 1 _ _ (0,0) hx3
 have c4:=cell_of_row _ _ 4 _ _ (0,0) hx3
 have c5:=cell_of_row _ _ 5 _ _ (0,0) hx3
 have c7:=cell_of_row _ _ 7 _ _ (0,0) hx3
 have c8:=cell_of_row _ _ 8 _ _ (0,0) hx3
 have c9:=cell_of_row _ _ 9 _ _ (0,0) hx3
 have ht0:=HPW.1
 have ht1:=HPW.2
 have HNH:Hid (bh≠b0):=Jpa (by have:=(Jpb HX2.out).1;omega)
 clear hx3 hb3 HB2 HO2 HX2 hbh
 refine JV [.h,.h,.h,.h,.h,.h,.h,.h,.h,.h,.h,.h,.h,.h,.h,.h,.h,.h,.h] [(16,1,0),(17,2,0),(18,2,0)] (fun _ w'=>w'.cell? ⟨bh,4,none⟩=some (.bool mfb)) [2] [(.w,19),(.w,20),(.w,21),(.w,22)] (by kernel_rfl) (by kernel_rfl) (by kernel_rfl) (by kernel_rfl) ?_
 apply Exists.intro
 refine⟨fun wx hbx=>?_,?_,?_⟩
 ·have lhx:bh<wx.heap.size:=Jpe lh hbx.size
  have e1:=(Je hbx lh (⟨bh,1,none⟩:Addr) rfl).trans c1
  have e4:=(Je hbx lh (⟨bh,4,none⟩:Addr) rfl).trans c4
  have e5:=(Je hbx lh (⟨bh,5,none⟩:Addr) rfl).trans c5
  have e7:=(Je hbx lh (⟨bh,7,none⟩:Addr) rfl).trans c7
  have e8:=(Je hbx lh (⟨bh,8,none⟩:Addr) rfl).trans c8
  have e9:=(Je hbx lh (⟨bh,9,none⟩:Addr) rfl).trans c9
  simp only[JB]
  repeat go_big_quiet_step ((first|(with_reducible exact Jp (HA1.out _))|(with_reducible exact Jp (HA2.out _))))
  exact wpQuiet_nil rfl
 ·intro q hq oi hoi
  simp only[List.mem_cons,List.not_mem_nil,or_false] at hq
  rcases hq with rfl|rfl|rfl
  ·cases hoi;exact⟨_,rfl,rfl,fun w2 hw=>by kernel_rfl⟩
  ·cases hoi;exact⟨_,rfl,rfl,fun w2 hw=>by kernel_rfl⟩
  ·cases hoi;exact⟨_,rfl,rfl,fun w2 hw=>by simp[execOp,go_sem,hw]⟩
 simp only[Qa,List.getElem?_cons_succ,List.getElem?_cons_zero]
 refine⟨fun v fl w2=>v=undef∧∃x:Jz w3,w2=x.world.setRow b0 (Jpn false false pr (.int .i64 tot) (.bool (decide (0<fg))) S D),?_,?_,(fun h=>by cases h),?_⟩
 ·rintro fl rfl
  refine Jv.skip rfl ?_
  rintro w' ⟨⟨x,rfl⟩,-⟩
  have hbx:=(x.below.block b0 (Jpb HX3.out).1).trans HX3.out
  exact⟨_,Jce _ x.world b0 (Jpn false false pr (.int .i64 tot) (.bool (decide (0<fg))) S D) (by kernel_rfl) (by kernel_rfl) (by rw[Jc _ _ _ _ _ hbx];rfl) rfl rfl,x,rfl⟩
 ·rintro v fl g-w2 ⟨-,x,rfl⟩
  exact(World.cell?_of_block (a:=⟨bh,4,none⟩) (setRow_other _ _ _ _ HNH.out)).trans ((Je x.below lh (⟨bh,4,none⟩:Addr) rfl).trans c4)
 rintro v ⟨fl0,w20,rfl,-⟩
 refine⟨fun v fl w2=>v=.slice ob nb cb∧∃x:Jz w3,w2=x.world.setRow b0 (Jpn false false pr (.int .i64 tot) (.bool (decide (0<fg))) S D),?_,?_,(fun h=>by cases h),?_⟩
 ·rintro fl rfl
  refine Jv.made rfl ?_
  rintro w' ⟨-,hx'⟩
  exact⟨.slice ob nb cb,w',by kernel_rfl,rfl,hx'⟩
 ·rintro v fl g-w2 ⟨-,x,rfl⟩
  exact(World.cell?_of_block (a:=⟨bh,4,none⟩) (setRow_other _ _ _ _ HNH.out)).trans ((Je x.below lh (⟨bh,4,none⟩:Addr) rfl).trans c4)
 rintro v ⟨fl1,w21,rfl,-⟩
 refine⟨fun v fl w2=>v=.bool mfb∧∃x:Jz w3,w2=x.world.setRow b0 (Jpn false false pr (.int .i64 tot) (.bool (decide (0<fg))) S D),?_,fun _ _=>JC rfl,(fun h=>by cases h),?_⟩
 ·rintro fl rfl
  refine Jv.made rfl ?_
  rintro w' ⟨-,hx'⟩
  exact⟨.bool mfb,w',by kernel_rfl,rfl,hx'⟩
 rintro v ⟨fl2,w22,rfl,-⟩
 refine⟨fun v fl w2=>v=.int .i64 0∧∃x:Jz w3,w2=x.world.setRow b0 (Jpn false false pr (.int .i64 tot) (.bool (decide (0<fg))) S D),?_,fun _ _=>JC rfl,(fun h=>by cases h),?_⟩
 ·rintro fl rfl
  refine Jv.made rfl ?_
  rintro w' ⟨-,hx'⟩
  exact⟨.int .i64 0,w',by kernel_rfl,rfl,hx'⟩
 rintro v ⟨fl3,w23,rfl,-⟩
 rintro zf ⟨-,x,rfl⟩
 have HB4:=Jpa (Jo3 HB3.out x.below)
 have HO4:=Jpa (HO3.out.below x.below)
 have HX4:=Jpa ((x.below.block b0 (Jpb HX3.out).1).trans HX3.out)
 clear HB3 HO3 HX3 fl0 w20 fl1 w21 fl2 w22 fl3 w23
 generalize x.world=w4 at*
 go_wp2_with fail
 refine Jfv (cs:=(Jpn false false pr (.int .i64 tot) (.bool (decide (0<fg))) S D)) (v:=.slice ob nb cb) (u:=.bool mfb) (x:=.int .i64 0) b0 rfl rfl rfl rfl (Ja (Jd HX4.out) rfl) rfl ?_
 show Jdy w oa (J8 l) (Jm l) _ _
 rw[HOUT.out,H00.out]
 refine .inr ⟨rfl,ob,cb,?_,?_,HB4.out.trans (Jb _ (Nat.le_of_eq HB0.out.symm)),HIN.out⟩
 ·show Ending.returned (.tuple #[_,.slice ob nb cb,_,_])=.returned (.tuple #[_,.slice ob L.length cb,_,_])
  rw[HNB.out];rfl
 ·show Ji _ _ L.length _ _
  rw[HNB.out]
  exact HO4.out.keep (by simp) (fun a ha _=>setRow_other _ _ _ _ (HNO.out a ha))
end
end Go.Proofs.YtkgjbipfhhjlpaaGreatDoor
