import Derived.Test.YtkgjbipfhhjlpaaGreatDoorMb26
set_option linter.unusedVariables false
set_option linter.unusedSimpArgs false
set_option maxRecDepth 100000
set_option maxHeartbeats 32000000
namespace Go.Proofs.YtkgjbipfhhjlpaaGreatDoor
section
open Go.RowKit Bits
theorem Jet (oa:Option Addr)(n cap:Nat)(l:List Int)(w:World)(hr:Ji w oa n cap l)(hn1:0<n)(hn2:n≤2048)(hk:l.getD 0 0/16=4):
 Calls Tryz.prog 11 #[.slice oa n cap] w (Jh w (pkR l)):=by
 obtain⟨g,off,rfl,hgl,hcs⟩:=hr.here hn1
 have hc0:=hcs 0 hn1
 have hx0:=Jy hr.byte 0
 rw[Nat.add_zero] at hc0
 obtain⟨x0,e0⟩:∃x:Nat,l.getD 0 0=(x:Int):=⟨(l.getD 0 0).toNat,by omega⟩
 have HE0:=Jpa e0
 rw[e0] at hc0 hx0 hk
 have hd:decide ((n:Int)>2048)=false:=by simp;omega
 have hd2:((n:Int)==0)=false:=by simp;omega
 have hn0:(0:Int)<(n:Int):=by omega
 have hlen:=hr.len
 have hx:=heap_alloc_new w (.cells X4 32)
 have hB:Below w.heap.size w (w.alloc (.cells X4 32)):=Below.all (Jpd _ _) _
 have HR:=Jpa (hr.alloc (.cells X4 32))
 have HBY:=Jpa hr.byte
 unfold X4 at hx hB HR
 clear hr
 have hcy:=(Je hB hgl (⟨g,off,none⟩:Addr) rfl).trans hc0
 have hgy:g<(w.alloc (.cells (Jpq false false (.int .i64 0) false) 32)).heap.size:=Jpe hgl hB.size
 have HLK:Hid (∀r w',w'.heap[r]? =some (.map Zg 2)→(Instr.lookup 81 (.map (some r)) (.int .u8 4) true).run Tryz.prog w'=.ok (.tuple #[.agg #[.func (.func 79) #[] #[]],true]) w'):=Jpa (fun r w' h=>Jeh r w' h)
 clear hcs e0 hc0
 go_enter Tryz.func11,Tryz.ntmps11
 go_wp2_with fail
 obtain⟨b0,hb0⟩:∃b,b=w.heap.size:=⟨_,rfl⟩
 rw[←hb0] at hx⊢
 have HB0:=Jpa hb0
 clear hb0
 generalize w.alloc (.cells (Jpq false false (.int .i64 0) false) 32)=y at*
 have hb0y:b0<y.heap.size:=(Jpb hx).1
 have HX:=Jpa hx
 have HB:=Jpa hB
 clear hx hB
 refine JQ [.w,.h,.h,.h,.h] [(1,1,0),(2,1,0),(3,1,0),(4,1,0)] (fun _ w'=>w'.cell? ⟨g,off,none⟩=some (.int .u8 (x0:Int))) [1] [(.w,0),(.w,5),(.q,6),(.q,7),(.q,8)] [(.w,10),(.q,11)] 9 (.cells #[.nilFunc] 79) (by kernel_rfl) (by kernel_rfl) rfl rfl ⟨fun _=>rfl,fun _ _=>by kernel_rfl⟩ (by kernel_rfl) (by kernel_rfl) ?_
 apply Exists.intro
 refine⟨fun wx hbx=>?_,?_,?_⟩
 ·have hcx:wx.cell? ⟨g,off,none⟩=some (.int .u8 (x0:Int)):=(Je hbx hgy _ rfl).trans hcy
  have hbx2:g<wx.heap.size:=Jpe hgy hbx.size
  simp only[JB]
  repeat go_big_quiet_step (fail)
  exact wpQuiet_nil rfl
 ·intro q hq oi hoi
  simp only[List.mem_cons,List.not_mem_nil,or_false] at hq
  rcases hq with rfl|rfl|rfl|rfl
  ·cases hoi;exact⟨_,rfl,rfl,fun w2 hw=>by kernel_rfl⟩
  ·cases hoi;exact⟨_,rfl,rfl,fun w2 hw=>by simp[execOp,go_sem,hn0];intro h;exfalso;omega⟩
  ·cases hoi;exact⟨_,rfl,rfl,fun w2 hw=>by simp[execOp,go_sem,hw]⟩
  ·cases hoi;exact⟨_,rfl,rfl,fun w2 hw=>by simp[execOp,go_sem,hw,hk]⟩
 simp only[Qa,List.getElem?_cons_succ,List.getElem?_cons_zero]
 refine⟨fun v fl w2=>∃r,v=.map (some r)∧JkE y r fl w2,?_,?_,?_,?_⟩
 ·rintro fl-
  refine⟨rfl,fun w' hw'=>.inr ⟨34,#[],by kernel_rfl,?_⟩⟩
  obtain⟨⟨x,rfl⟩,hfb⟩:=hw'
  refine(JaR x.world).mono ?_
  rintro e w2 ⟨r,rfl,hr1,hr2,hb2⟩
  refine⟨_,rfl,r,rfl,Jo3 x.below hb2,Nat.le_trans x.below.size hr1,hr2,fun b hb'=>⟨(hfb b hb').1,?_⟩⟩
  have:=(hfb b hb').2
  exact(hb2.block b (Jpb this).1).trans this
 ·rintro v fl g'-w2 ⟨r,-,hst⟩
  exact(Je hst.1 hgy _ rfl).trans hcy
 ·rintro-v w2 ⟨r,rfl,h1,h2,h3,-⟩
  exact⟨r,rfl,Below.all h1 _,h2,(heap_alloc_old _ _ (Jpb h3).1).trans h3,fun b hb'=>by cases hb';exact⟨h1.size,heap_alloc_new _ _⟩⟩
 rintro v ⟨fl0,w20,r,rfl,-⟩
 refine⟨fun v fl w2=>v=.tuple #[.agg #[.func (.func 79) #[] #[]],true]∧JkE y r fl w2,?_,fun _ _=>JC rfl,?_,?_⟩
 ·rintro fl-
  refine Jv.made rfl ?_
  rintro w' ⟨r',hr',hst⟩
  cases hr'
  exact⟨.tuple #[.agg #[.func (.func 79) #[] #[]],true],w',QX _ _ (vm:=.map (some r)) (vx:=.int .u8 4) (by kernel_rfl) (by kernel_rfl) (HLK.out r w' hst.2.2.1),rfl,hst⟩
 ·rintro-v w2 ⟨h0,h1,h2,h3,-⟩
  exact⟨h0,Below.all h1 _,h2,(heap_alloc_old _ _ (Jpb h3).1).trans h3,fun b hb'=>by cases hb';exact⟨h1.size,heap_alloc_new _ _⟩⟩
 rintro v ⟨fl1,w21,rfl,-⟩
 refine⟨.tuple #[.agg #[.func (.func 79) #[] #[]],true],⟨rfl,fun _=>by kernel_rfl⟩,?_⟩
 refine⟨.agg #[.func (.func 79) #[] #[]],⟨rfl,fun _=>by kernel_rfl⟩,?_⟩
 refine⟨.bool true,⟨rfl,fun _=>by kernel_rfl⟩,?_⟩
 intro bp
 refine⟨fun v fl w2=>v=undef∧Below y.heap.size y w2∧y.heap.size≤bp∧w2.heap[bp]? =some (.cells #[.func (.func 79) #[] #[]] 79 (0,0)),?_,fun _ _=>JC rfl,(fun h=>by cases h),?_⟩
 ·rintro fl rfl
  refine Jv.skip rfl ?_
  rintro w' ⟨-,hst⟩
  obtain⟨hbge,hbx⟩:=hst.2.2.2 bp rfl
  have q1:=cell_of_row _ _ 0 _ _ (0,0) hbx
  have q2:=frozen_of_row _ _ 0 _ _ hbx
  refine⟨_,?_,hst.1.setCell (p:=⟨bp,0,none⟩) hbge (.func (.func 79) #[] #[]),hbge,(heap_setCell_same _ bp 0 _ _ (.func (.func 79) #[] #[]) hbx).trans rfl⟩
  simp[execOp,go_sem,Q6,q1,q2]
 rintro v ⟨fl2,w22,rfl,-⟩
 refine⟨.bool true,⟨rfl,fun _=>by kernel_rfl⟩,?_⟩
 rintro zz ⟨-,hzz,hbge,hpz⟩
 have HZ:=Jpa (Jo3 HB.out hzz)
 have HXZ:=Jpa ((hzz.block b0 hb0y).trans HX.out)
 have HRZ:=Jpa (HR.out.below hzz)
 have HPZ:=Jpa hpz
 have hb0z:b0<zz.heap.size:=Jpe hb0y hzz.size
 have hne:bp≠b0:=by omega
 have hrf:Jg zz b0 40=true:=by rw[Jc _ _ _ _ _ HXZ.out];rfl
 clear hzz hpz hbge hcy hgy hb0y w20 w21 w22 fl0 fl1 fl2 HX HB HR HLK
 unfold Q6
 simp only[Act.put,List.setIfInBounds_toArray,List.set_cons_succ,List.set_cons_zero]
 have c0:=cell_of_row _ _ 0 _ _ (0,0) HPZ.out
 have lp:bp<zz.heap.size:=(Jpb HPZ.out).1
 have HER:Hid (Qj l=if Jm l≠0 then Jm l else (Jal (J8 l)).err):=Jpa (by unfold Qj;rw[if_neg (by omega),if_neg (by omega),HE0.out,hk];rw[if_pos rfl])
 have HOF:Hid (Qj l=0→Jlg l=JjX (J8 l) (Jal (J8 l))):=Jpa (fun h=>by unfold Jlg;rw[h,if_neg (by decide),HE0.out,hk];rfl)
 clear hk
 go_wp2_with fail
 refine Jpc (Jl3 _ _ _ _ _ HRZ.out (by omega)) ?_
 rintro e z1 (⟨h0,rfl,hb⟩|⟨h0,ob,cb,rfl,ho,hb⟩)
 ·have HE:=Jpa (QS (l:=l) (err:=Jm l) (by rw[HER.out,if_pos h0]) h0)
  have hne0:(Jm l==0)=false:=by simpa using h0
  have hne1:(Jm l != 0)=true:=by simpa using h0
  have HB1:=Jpa (Jo3 HZ.out hb)
  have HX1:=Jpa ((hb.block b0 hb0z).trans HXZ.out)
  have hb01:b0<z1.heap.size:=Jpe hb0z hb.size
  clear hb h0 HZ HXZ HRZ HPZ c0 lp hrf HER HOF
  generalize Jm l=er at*
  unfold JcQ
  go_wp2_with fail
  have hxo:=heap_alloc_new z1 (.cells (JpJ false false (.int .i64 0) false false) 85)
  have hbo:Below z1.heap.size z1 (z1.alloc (.cells (JpJ false false (.int .i64 0) false false) 85)):=Below.all (Jpd _ _) _
  generalize z1.alloc (.cells (JpJ false false (.int .i64 0) false false) 85)=z2 at*
  have HX2:=Jpa ((hbo.block b0 hb01).trans HX1.out)
  have HB2:=Jpa (Jo3 HB1.out hbo)
  obtain⟨bo,hboe⟩:∃b,b=z1.heap.size:=⟨_,rfl⟩
  rw[←hboe] at hxo⊢
  have HO2:=Jpa hxo
  clear hxo hbo HX1 HB1 hboe hb01
  refine Jpc (Xt 0 _) ?_
  rintro e z3 ⟨rfl,hb3⟩
  rw[show JO 0=false from rfl]
  have HX3:=Jpa ((hb3.block b0 (Jpb HX2.out).1).trans HX2.out)
  have HO3:=Jpa ((hb3.block bo (Jpb HO2.out).1).trans HO2.out)
  have HB3:=Jpa (Jo3 HB2.out hb3)
  have lo3:bo<z3.heap.size:=(Jpb HO3.out).1
  have c34:=cell_of_row _ _ 34 _ _ (0,0) HO3.out
  clear hb3 HX2 HO2 HB2
  go_wp2_with fail
  refine Jpc (QZ 0 _) ?_
  rintro e z4 ⟨rfl,hb4⟩
  rw[show JS 0=false from rfl]
  have HX4:=Jpa ((hb4.block b0 (Jpb HX3.out).1).trans HX3.out)
  have HB4:=Jpa (Jo3 HB3.out hb4)
  have hrf:Jg z4 b0 40=true:=by rw[Jc _ _ _ _ _ HX4.out];rfl
  clear hb4 HX3 HB3 HO3 c34 lo3
  go_wp2_with fail
  exact Qh (cs:=X4) b0 rfl rfl (Ja (Jd HX4.out) rfl) rfl HE.out (HB4.out.trans (Jb _ (Nat.le_of_eq HB0.out.symm)))
 have HOUT:Hid (J8 l=⟨false,(J8 l).src,(J8 l).dst,(J8 l).proto,(J8 l).len,(J8 l).frag,(J8 l).more,(J8 l).body⟩):=Jpa rfl
 have HBB:=Jpa (Jl7 (l:=l) HBY.out)
 have HBL:=Jpa (JjJ l)
 have hER2:Qj l=(Jal (J8 l)).err:=by rw[HER.out,if_neg (by rw[h0];decide)]
 have HER2:=Jpa hER2
 have HB1:=Jpa (Jo3 HZ.out hb)
 have HX1:=Jpa ((hb.block b0 hb0z).trans HXZ.out)
 have hb01:b0<z1.heap.size:=Jpe hb0z hb.size
 have HLO:=Jpa (fun a (ha:ob=some a)=>(ho.lt ha))
 have HOW:=Jpa ho
 clear hb h0 HZ HXZ HRZ HPZ c0 lp hrf hER2 HER ho hb0z
 unfold Joz
 generalize J8 l=O at*
 obtain⟨o6,S,D,p,ln,fr,mo,L⟩:=O
 simp only at HOUT HBB HBL HER2 HOF HOW⊢
 obtain rfl:o6=false:=congrArg JeH.six HOUT.out
 have HRB:=Jpa (HOW.out.reads HBB.out)
 obtain⟨nb,hnb⟩:∃n,L.length=n:=⟨_,rfl⟩
 have HNB:=Jpa hnb
 rw[hnb] at HRB HBL⊢
 clear hnb HOW HOUT
 go_wp2_with fail
 have hxo:=heap_alloc_new z1 (.cells (JpH false false p (.int .i64 ln) fr (.slice ob nb cb) mo S D) 85)
 have hbo:Below z1.heap.size z1 (z1.alloc (.cells (JpH false false p (.int .i64 ln) fr (.slice ob nb cb) mo S D) 85)):=Below.all (Jpd _ _) _
 generalize z1.alloc (.cells (JpH false false p (.int .i64 ln) fr (.slice ob nb cb) mo S D) 85)=z2 at*
 have HX2:=Jpa ((hbo.block b0 hb01).trans HX1.out)
 have HB2:=Jpa (Jo3 HB1.out hbo)
 have HR2:=Jpa (HRB.out.below hbo)
 obtain⟨bo,hboe⟩:∃b,b=z1.heap.size:=⟨_,rfl⟩
 rw[←hboe] at hxo⊢
 have HO2:=Jpa hxo
 have HNE:Hid ((∀a,ob=some a→a.block≠bo)∧bo≠b0):=Jpa ⟨fun a ha=>by have:=(HLO.out a ha).2;omega,by omega⟩
 have HLB:Hid (w.heap.size≤bo):=Jpa (by rw[hboe];exact HB1.out.size)
 clear hxo hbo HX1 HB1 hboe hb01 HLO HRB hne
 refine Jpc (Xt p _) ?_
 rintro e z3 ⟨rfl,hb3⟩
 have HX3:=Jpa ((hb3.block b0 (Jpb HX2.out).1).trans HX2.out)
 have HO3:=Jpa ((hb3.block bo (Jpb HO2.out).1).trans HO2.out)
 have HB3:=Jpa (Jo3 HB2.out hb3)
 have HR3:=Jpa (HR2.out.below hb3)
 clear hb3 HX2 HO2 HB2 HR2
 have HPI:Hid ((JO p=true→p=6∨p=17∨p=1∨p=58)∧(JS p=true→p=6∨p=17∨p=1∨p=58)):=Jpa ⟨fun h=>by unfold JO at h;simp at h;omega,fun h=>by unfold JS at h;simp at h;omega⟩
 have HUP:Hid (Jal ⟨false,S,D,p,ln,fr,mo,L⟩=if (JO p||JS p)&&!fr then (if mo then JA p L else Js p L) else ⟨0,0,0,0⟩):=Jpa rfl
 have HIC:Hid (∀w',Calls Tryz.prog 36 #[p] w' (Jh w' (.bool (JS p)))):=Jpa (fun w'=>QZ p w')
 obtain⟨P1,hP1⟩:∃b,JO p=b:=⟨_,rfl⟩
 obtain⟨I1,hI1⟩:∃b,JS p=b:=⟨_,rfl⟩
 rw[hP1,hI1] at HUP HPI
 rw[hI1] at HIC
 rw[hP1]
 clear hP1 hI1
 cases P1
 ·cases I1
  ·skip
   have lo3:bo<z3.heap.size:=(Jpb HO3.out).1
   have c34:=cell_of_row _ _ 34 _ _ (0,0) HO3.out
   have c39:=cell_of_row _ _ 39 _ _ (0,0) HO3.out
   have c41:=cell_of_row _ _ 41 _ _ (0,0) HO3.out
   have hU:Jal ⟨false,S,D,p,ln,fr,mo,L⟩=⟨0,0,0,0⟩:=by rw[HUP.out];rfl
   have hE:Qj l=0:=by rw[HER2.out,hU]
   have HV:Hid (pkR l=.tuple #[.agg #[.bool false,.int .u8 (S 0),.int .u8 (S 1),.int .u8 (S 2),.int .u8 (S 3),.int .u8 (S 4),.int .u8 (S 5),.int .u8 (S 6),.int .u8 (S 7),.int .u8 (S 8),.int .u8 (S 9),.int .u8 (S 10),.int .u8 (S 11),.int .u8 (S 12),.int .u8 (S 13),.int .u8 (S 14),.int .u8 (S 15),.bool false,.int .u8 (D 0),.int .u8 (D 1),.int .u8 (D 2),.int .u8 (D 3),.int .u8 (D 4),.int .u8 (D 5),.int .u8 (D 6),.int .u8 (D 7),.int .u8 (D 8),.int .u8 (D 9),.int .u8 (D 10),.int .u8 (D 11),.int .u8 (D 12),.int .u8 (D 13),.int .u8 (D 14),.int .u8 (D 15),.int .u8 p,.int .u16 0,.int .u16 0,.int .i64 ln,.int .u8 0,.bool fr],.int .i64 0]):=Jpa (by unfold pkR;rw[hE,HOF.out hE,hU];rfl)
   clear hU hE HUP HER2 HOF
   clear c39 c41
   go_wp2_with fail
   refine Jpc (HIC.out _) ?_
   rintro e z4 ⟨rfl,hb4⟩
   have HX4:=Jpa ((hb4.block b0 (Jpb HX3.out).1).trans HX3.out)
   have HO4:=Jpa ((hb4.block bo (Jpb HO3.out).1).trans HO3.out)
   have HB4:=Jpa (Jo3 HB3.out hb4)
   have HR4:=Jpa (HR3.out.below hb4)
   clear hb4 c34 lo3 HX3 HO3 HB3 HR3
   have lo4:bo<z4.heap.size:=(Jpb HO4.out).1
   have c39:=cell_of_row _ _ 39 _ _ (0,0) HO4.out
   have c41:=cell_of_row _ _ 41 _ _ (0,0) HO4.out
   have hpt:Jf z4 bo 0 40=(Jpn false false p (.int .i64 ln) fr S D:Array Value):=Qo (a:=(Jpn false false p (.int .i64 ln) fr S D)) (c:=#[.slice ob nb cb,mo]) HO4.out rfl
   have hrf:Jg z4 b0 40=true:=by rw[Jc _ _ _ _ _ HX4.out];rfl
   go_wp2_with fail
   exact Qh (cs:=(Jpn false false p (.int .i64 ln) fr S D)) b0 rfl rfl (Ja (Jd HX4.out) rfl) rfl HV.out (HB4.out.trans (Jb _ (Nat.le_of_eq HB0.out.symm)))
  ·cases fr
   ·cases mo
    ·skip
     have lo3:bo<z3.heap.size:=(Jpb HO3.out).1
     have c34:=cell_of_row _ _ 34 _ _ (0,0) HO3.out
     have c39:=cell_of_row _ _ 39 _ _ (0,0) HO3.out
     have c41:=cell_of_row _ _ 41 _ _ (0,0) HO3.out
     clear c39 c41
     go_wp2_with fail
     refine Jpc (HIC.out _) ?_
     rintro e z4 ⟨rfl,hb4⟩
     have HX4:=Jpa ((hb4.block b0 (Jpb HX3.out).1).trans HX3.out)
     have HO4:=Jpa ((hb4.block bo (Jpb HO3.out).1).trans HO3.out)
     have HB4:=Jpa (Jo3 HB3.out hb4)
     have HR4:=Jpa (HR3.out.below hb4)
     clear hb4 c34 lo3 HX3 HO3 HB3 HR3
     have lo4:bo<z4.heap.size:=(Jpb HO4.out).1
     have c39:=cell_of_row _ _ 39 _ _ (0,0) HO4.out
     have c41:=cell_of_row _ _ 41 _ _ (0,0) HO4.out
     have hU:Jal ⟨false,S,D,p,ln,false,false,L⟩=Js p L:=by rw[HUP.out];rfl
     have hE:Qj l=(Js p L).err:=by rw[HER2.out,hU]
     have HE2:=Jpa hE
     have HV:Hid (Qj l=0→pkR l=.tuple #[.agg #[.bool false,.int .u8 (S 0),.int .u8 (S 1),.int .u8 (S 2),.int .u8 (S 3),.int .u8 (S 4),.int .u8 (S 5),.int .u8 (S 6),.int .u8 (S 7),.int .u8 (S 8),.int .u8 (S 9),.int .u8 (S 10),.int .u8 (S 11),.int .u8 (S 12),.int .u8 (S 13),.int .u8 (S 14),.int .u8 (S 15),.bool false,.int .u8 (D 0),.int .u8 (D 1),.int .u8 (D 2),.int .u8 (D 3),.int .u8 (D 4),.int .u8 (D 5),.int .u8 (D 6),.int .u8 (D 7),.int .u8 (D 8),.int .u8 (D 9),.int .u8 (D 10),.int .u8 (D 11),.int .u8 (D 12),.int .u8 (D 13),.int .u8 (D 14),.int .u8 (D 15),.int .u8 p,.int .u16 (Js p L).src,.int .u16 (Js p L).dst,.int .i64 ln,.int .u8 (Js p L).flags,.bool false],.int .i64 0]):=Jpa (fun h=>by unfold pkR;rw[h,HOF.out h,hU];rfl)
     clear hU hE HUP HER2 HOF
     have HCC:=Jpa (Jdx bo false false S D p ln false false ob nb cb L z4 (HPI.out.2 (by first|rfl|trivial)) HR4.out (by have:=HBL.out;omega) HO4.out)
     go_wp2_with fail
     refine Jpc HCC.out ?_
     rintro e z5 ⟨sp,dp,fl,⟨rfl,hbx,hbe,hot⟩,hval⟩
     have HX5:=Jpa ((hot b0 HNE.out.2.symm (Jpb HX4.out).1).trans HX4.out)
     have HO5:=Jpa hbx
     have HB5:Hid (Below w.heap.size w z5):=Jpa (HB4.out.trans (hbe.mono HLB.out))
     have hrf:Jg z5 b0 40=true:=by rw[Jc _ _ _ _ _ HX5.out];rfl
     have lo5:bo<z5.heap.size:=(Jpb HO5.out).1
     clear hbx hbe hot HCC HX4 HO4 HB4 HR4 c39 c41
     by_cases h0:(Js p L).err=0
     ·obtain⟨rfl,rfl,rfl⟩:=hval h0
      have HV2:=Jpa (HV.out (HE2.out.trans h0))
      rw[h0]
      clear HV HE2 h0 hval
      generalize (Js p L).src=sp at*
      generalize (Js p L).dst=dp at*
      generalize (Js p L).flags=fl at*
      have hpt:Jf z5 bo 0 40=(Jpp false false p (.int .u16 sp) (.int .u16 dp) (.int .i64 ln) fl false S D:Array Value):=Qo (a:=(Jpp false false p (.int .u16 sp) (.int .u16 dp) (.int .i64 ln) fl false S D)) (c:=#[.slice ob nb cb,false]) HO5.out rfl
      go_wp2_with fail
      exact Qh (cs:=(Jpp false false p (.int .u16 sp) (.int .u16 dp) (.int .i64 ln) fl false S D)) b0 rfl rfl (Ja (Jd HX5.out) rfl) rfl HV2.out (HB5.out.trans (Jb _ (Nat.le_of_eq HB0.out.symm)))
     ·have HV2:=Jpa (QS (l:=l) HE2.out h0)
      have hne1:((Js p L).err != 0)=true:=by simpa using h0
      clear HV HE2 h0 hval
      generalize (Js p L).err=er at*
      go_wp2_with fail
      exact Qh (cs:=X4) b0 rfl rfl (Ja (Jd HX5.out) rfl) rfl HV2.out (HB5.out.trans (Jb _ (Nat.le_of_eq HB0.out.symm)))
    ·skip
     have lo3:bo<z3.heap.size:=(Jpb HO3.out).1
     have c34:=cell_of_row _ _ 34 _ _ (0,0) HO3.out
     have c39:=cell_of_row _ _ 39 _ _ (0,0) HO3.out
     have c41:=cell_of_row _ _ 41 _ _ (0,0) HO3.out
     clear c39 c41
     go_wp2_with fail
     refine Jpc (HIC.out _) ?_
     rintro e z4 ⟨rfl,hb4⟩
     have HX4:=Jpa ((hb4.block b0 (Jpb HX3.out).1).trans HX3.out)
     have HO4:=Jpa ((hb4.block bo (Jpb HO3.out).1).trans HO3.out)
     have HB4:=Jpa (Jo3 HB3.out hb4)
     have HR4:=Jpa (HR3.out.below hb4)
     clear hb4 c34 lo3 HX3 HO3 HB3 HR3
     have lo4:bo<z4.heap.size:=(Jpb HO4.out).1
     have c39:=cell_of_row _ _ 39 _ _ (0,0) HO4.out
     have c41:=cell_of_row _ _ 41 _ _ (0,0) HO4.out
     have hU:Jal ⟨false,S,D,p,ln,false,true,L⟩=JA p L:=by rw[HUP.out];rfl
     have hE:Qj l=(JA p L).err:=by rw[HER2.out,hU]
     have HE2:=Jpa hE
     have HV:Hid (Qj l=0→pkR l=.tuple #[.agg #[.bool false,.int .u8 (S 0),.int .u8 (S 1),.int .u8 (S 2),.int .u8 (S 3),.int .u8 (S 4),.int .u8 (S 5),.int .u8 (S 6),.int .u8 (S 7),.int .u8 (S 8),.int .u8 (S 9),.int .u8 (S 10),.int .u8 (S 11),.int .u8 (S 12),.int .u8 (S 13),.int .u8 (S 14),.int .u8 (S 15),.bool false,.int .u8 (D 0),.int .u8 (D 1),.int .u8 (D 2),.int .u8 (D 3),.int .u8 (D 4),.int .u8 (D 5),.int .u8 (D 6),.int .u8 (D 7),.int .u8 (D 8),.int .u8 (D 9),.int .u8 (D 10),.int .u8 (D 11),.int .u8 (D 12),.int .u8 (D 13),.int .u8 (D 14),.int .u8 (D 15),.int .u8 p,.int .u16 (JA p L).src,.int .u16 (JA p L).dst,.int .i64 ln,.int .u8 (JA p L).flags,.bool false],.int .i64 0]):=Jpa (fun h=>by unfold pkR;rw[h,HOF.out h,hU];rfl)
     clear hU hE HUP HER2 HOF
     have HCC:=Jpa (Jdw bo false false S D p ln false true ob nb cb L z4 (HPI.out.2 (by first|rfl|trivial)) HR4.out (by have:=HBL.out;omega) HNE.out.1 HO4.out)
     go_wp2_with fail
     refine Jpc HCC.out ?_
     rintro e z5 ⟨sp,dp,fl,⟨rfl,hbx,hbe,hot⟩,hval⟩
     have HX5:=Jpa ((hot b0 HNE.out.2.symm (Jpb HX4.out).1).trans HX4.out)
     have HO5:=Jpa hbx
     have HB5:Hid (Below w.heap.size w z5):=Jpa (HB4.out.trans (hbe.mono HLB.out))
     have hrf:Jg z5 b0 40=true:=by rw[Jc _ _ _ _ _ HX5.out];rfl
     have lo5:bo<z5.heap.size:=(Jpb HO5.out).1
     clear hbx hbe hot HCC HX4 HO4 HB4 HR4 c39 c41
     by_cases h0:(JA p L).err=0
     ·obtain⟨rfl,rfl,rfl⟩:=hval h0
      have HV2:=Jpa (HV.out (HE2.out.trans h0))
      rw[h0]
      clear HV HE2 h0 hval
      generalize (JA p L).src=sp at*
      generalize (JA p L).dst=dp at*
      generalize (JA p L).flags=fl at*
      have hpt:Jf z5 bo 0 40=(Jpp false false p (.int .u16 sp) (.int .u16 dp) (.int .i64 ln) fl false S D:Array Value):=Qo (a:=(Jpp false false p (.int .u16 sp) (.int .u16 dp) (.int .i64 ln) fl false S D)) (c:=#[.slice ob nb cb,true]) HO5.out rfl
      go_wp2_with fail
      exact Qh (cs:=(Jpp false false p (.int .u16 sp) (.int .u16 dp) (.int .i64 ln) fl false S D)) b0 rfl rfl (Ja (Jd HX5.out) rfl) rfl HV2.out (HB5.out.trans (Jb _ (Nat.le_of_eq HB0.out.symm)))
     ·have HV2:=Jpa (QS (l:=l) HE2.out h0)
      have hne1:((JA p L).err != 0)=true:=by simpa using h0
      clear HV HE2 h0 hval
      generalize (JA p L).err=er at*
      go_wp2_with fail
      exact Qh (cs:=X4) b0 rfl rfl (Ja (Jd HX5.out) rfl) rfl HV2.out (HB5.out.trans (Jb _ (Nat.le_of_eq HB0.out.symm)))
   ·skip
    have lo3:bo<z3.heap.size:=(Jpb HO3.out).1
    have c34:=cell_of_row _ _ 34 _ _ (0,0) HO3.out
    have c39:=cell_of_row _ _ 39 _ _ (0,0) HO3.out
    have c41:=cell_of_row _ _ 41 _ _ (0,0) HO3.out
    have hU:Jal ⟨false,S,D,p,ln,true,mo,L⟩=⟨0,0,0,0⟩:=by rw[HUP.out];rfl
    have hE:Qj l=0:=by rw[HER2.out,hU]
    have HV:Hid (pkR l=.tuple #[.agg #[.bool false,.int .u8 (S 0),.int .u8 (S 1),.int .u8 (S 2),.int .u8 (S 3),.int .u8 (S 4),.int .u8 (S 5),.int .u8 (S 6),.int .u8 (S 7),.int .u8 (S 8),.int .u8 (S 9),.int .u8 (S 10),.int .u8 (S 11),.int .u8 (S 12),.int .u8 (S 13),.int .u8 (S 14),.int .u8 (S 15),.bool false,.int .u8 (D 0),.int .u8 (D 1),.int .u8 (D 2),.int .u8 (D 3),.int .u8 (D 4),.int .u8 (D 5),.int .u8 (D 6),.int .u8 (D 7),.int .u8 (D 8),.int .u8 (D 9),.int .u8 (D 10),.int .u8 (D 11),.int .u8 (D 12),.int .u8 (D 13),.int .u8 (D 14),.int .u8 (D 15),.int .u8 p,.int .u16 0,.int .u16 0,.int .i64 ln,.int .u8 0,.bool true],.int .i64 0]):=Jpa (by unfold pkR;rw[hE,HOF.out hE,hU];rfl)
    clear hU hE HUP HER2 HOF
    clear c39 c41
    go_wp2_with fail
    refine Jpc (HIC.out _) ?_
    rintro e z4 ⟨rfl,hb4⟩
    have HX4:=Jpa ((hb4.block b0 (Jpb HX3.out).1).trans HX3.out)
    have HO4:=Jpa ((hb4.block bo (Jpb HO3.out).1).trans HO3.out)
    have HB4:=Jpa (Jo3 HB3.out hb4)
    have HR4:=Jpa (HR3.out.below hb4)
    clear hb4 c34 lo3 HX3 HO3 HB3 HR3
    have lo4:bo<z4.heap.size:=(Jpb HO4.out).1
    have c39:=cell_of_row _ _ 39 _ _ (0,0) HO4.out
    have c41:=cell_of_row _ _ 41 _ _ (0,0) HO4.out
    have hpt:Jf z4 bo 0 40=(Jpn false false p (.int .i64 ln) true S D:Array Value):=Qo (a:=(Jpn false false p (.int .i64 ln) true S D)) (c:=#[.slice ob nb cb,mo]) HO4.out rfl
    have hrf:Jg z4 b0 40=true:=by rw[Jc _ _ _ _ _ HX4.out];rfl
    go_wp2_with fail
    exact Qh (cs:=(Jpn false false p (.int .i64 ln) true S D)) b0 rfl rfl (Ja (Jd HX4.out) rfl) rfl HV.out (HB4.out.trans (Jb _ (Nat.le_of_eq HB0.out.symm)))
 ·cases fr
  ·cases mo
   ·skip
    have lo3:bo<z3.heap.size:=(Jpb HO3.out).1
    have c34:=cell_of_row _ _ 34 _ _ (0,0) HO3.out
    have c39:=cell_of_row _ _ 39 _ _ (0,0) HO3.out
    have c41:=cell_of_row _ _ 41 _ _ (0,0) HO3.out
    have hU:Jal ⟨false,S,D,p,ln,false,false,L⟩=Js p L:=by rw[HUP.out];rfl
    have hE:Qj l=(Js p L).err:=by rw[HER2.out,hU]
    have HE2:=Jpa hE
    have HV:Hid (Qj l=0→pkR l=.tuple #[.agg #[.bool false,.int .u8 (S 0),.int .u8 (S 1),.int .u8 (S 2),.int .u8 (S 3),.int .u8 (S 4),.int .u8 (S 5),.int .u8 (S 6),.int .u8 (S 7),.int .u8 (S 8),.int .u8 (S 9),.int .u8 (S 10),.int .u8 (S 11),.int .u8 (S 12),.int .u8 (S 13),.int .u8 (S 14),.int .u8 (S 15),.bool false,.int .u8 (D 0),.int .u8 (D 1),.int .u8 (D 2),.int .u8 (D 3),.int .u8 (D 4),.int .u8 (D 5),.int .u8 (D 6),.int .u8 (D 7),.int .u8 (D 8),.int .u8 (D 9),.int .u8 (D 10),.int .u8 (D 11),.int .u8 (D 12),.int .u8 (D 13),.int .u8 (D 14),.int .u8 (D 15),.int .u8 p,.int .u16 (Js p L).src,.int .u16 (Js p L).dst,.int .i64 ln,.int .u8 (Js p L).flags,.bool false],.int .i64 0]):=Jpa (fun h=>by unfold pkR;rw[h,HOF.out h,hU];rfl)
    clear hU hE HUP HER2 HOF
    have HCC:=Jpa (Jdx bo false false S D p ln false false ob nb cb L z3 (HPI.out.1 (by first|rfl|trivial)) HR3.out (by have:=HBL.out;omega) HO3.out)
    go_wp2_with fail
    refine Jpc HCC.out ?_
    rintro e z5 ⟨sp,dp,fl,⟨rfl,hbx,hbe,hot⟩,hval⟩
    have HX5:=Jpa ((hot b0 HNE.out.2.symm (Jpb HX3.out).1).trans HX3.out)
    have HO5:=Jpa hbx
    have HB5:Hid (Below w.heap.size w z5):=Jpa (HB3.out.trans (hbe.mono HLB.out))
    have hrf:Jg z5 b0 40=true:=by rw[Jc _ _ _ _ _ HX5.out];rfl
    have lo5:bo<z5.heap.size:=(Jpb HO5.out).1
    clear hbx hbe hot HCC HX3 HO3 HB3 HR3 c39 c41
    by_cases h0:(Js p L).err=0
    ·obtain⟨rfl,rfl,rfl⟩:=hval h0
     have HV2:=Jpa (HV.out (HE2.out.trans h0))
     rw[h0]
     clear HV HE2 h0 hval
     generalize (Js p L).src=sp at*
     generalize (Js p L).dst=dp at*
     generalize (Js p L).flags=fl at*
     have hpt:Jf z5 bo 0 40=(Jpp false false p (.int .u16 sp) (.int .u16 dp) (.int .i64 ln) fl false S D:Array Value):=Qo (a:=(Jpp false false p (.int .u16 sp) (.int .u16 dp) (.int .i64 ln) fl false S D)) (c:=#[.slice ob nb cb,false]) HO5.out rfl
     go_wp2_with fail
     exact Qh (cs:=(Jpp false false p (.int .u16 sp) (.int .u16 dp) (.int .i64 ln) fl false S D)) b0 rfl rfl (Ja (Jd HX5.out) rfl) rfl HV2.out (HB5.out.trans (Jb _ (Nat.le_of_eq HB0.out.symm)))
    ·have HV2:=Jpa (QS (l:=l) HE2.out h0)
     have hne1:((Js p L).err != 0)=true:=by simpa using h0
     clear HV HE2 h0 hval
     generalize (Js p L).err=er at*
     go_wp2_with fail
     exact Qh (cs:=X4) b0 rfl rfl (Ja (Jd HX5.out) rfl) rfl HV2.out (HB5.out.trans (Jb _ (Nat.le_of_eq HB0.out.symm)))
   ·skip
    have lo3:bo<z3.heap.size:=(Jpb HO3.out).1
    have c34:=cell_of_row _ _ 34 _ _ (0,0) HO3.out
    have c39:=cell_of_row _ _ 39 _ _ (0,0) HO3.out
    have c41:=cell_of_row _ _ 41 _ _ (0,0) HO3.out
    have hU:Jal ⟨false,S,D,p,ln,false,true,L⟩=JA p L:=by rw[HUP.out];rfl
    have hE:Qj l=(JA p L).err:=by rw[HER2.out,hU]
    have HE2:=Jpa hE
    have HV:Hid (Qj l=0→pkR l=.tuple #[.agg #[.bool false,.int .u8 (S 0),.int .u8 (S 1),.int .u8 (S 2),.int .u8 (S 3),.int .u8 (S 4),.int .u8 (S 5),.int .u8 (S 6),.int .u8 (S 7),.int .u8 (S 8),.int .u8 (S 9),.int .u8 (S 10),.int .u8 (S 11),.int .u8 (S 12),.int .u8 (S 13),.int .u8 (S 14),.int .u8 (S 15),.bool false,.int .u8 (D 0),.int .u8 (D 1),.int .u8 (D 2),.int .u8 (D 3),.int .u8 (D 4),.int .u8 (D 5),.int .u8 (D 6),.int .u8 (D 7),.int .u8 (D 8),.int .u8 (D 9),.int .u8 (D 10),.int .u8 (D 11),.int .u8 (D 12),.int .u8 (D 13),.int .u8 (D 14),.int .u8 (D 15),.int .u8 p,.int .u16 (JA p L).src,.int .u16 (JA p L).dst,.int .i64 ln,.int .u8 (JA p L).flags,.bool false],.int .i64 0]):=Jpa (fun h=>by unfold pkR;rw[h,HOF.out h,hU];rfl)
    clear hU hE HUP HER2 HOF
    have HCC:=Jpa (Jdw bo false false S D p ln false true ob nb cb L z3 (HPI.out.1 (by first|rfl|trivial)) HR3.out (by have:=HBL.out;omega) HNE.out.1 HO3.out)
    go_wp2_with fail
    refine Jpc HCC.out ?_
    rintro e z5 ⟨sp,dp,fl,⟨rfl,hbx,hbe,hot⟩,hval⟩
    have HX5:=Jpa ((hot b0 HNE.out.2.symm (Jpb HX3.out).1).trans HX3.out)
    have HO5:=Jpa hbx
    have HB5:Hid (Below w.heap.size w z5):=Jpa (HB3.out.trans (hbe.mono HLB.out))
    have hrf:Jg z5 b0 40=true:=by rw[Jc _ _ _ _ _ HX5.out];rfl
    have lo5:bo<z5.heap.size:=(Jpb HO5.out).1
    clear hbx hbe hot HCC HX3 HO3 HB3 HR3 c39 c41
    by_cases h0:(JA p L).err=0
    ·obtain⟨rfl,rfl,rfl⟩:=hval h0
     have HV2:=Jpa (HV.out (HE2.out.trans h0))
     rw[h0]
     clear HV HE2 h0 hval
     generalize (JA p L).src=sp at*
     generalize (JA p L).dst=dp at*
     generalize (JA p L).flags=fl at*
     have hpt:Jf z5 bo 0 40=(Jpp false false p (.int .u16 sp) (.int .u16 dp) (.int .i64 ln) fl false S D:Array Value):=Qo (a:=(Jpp false false p (.int .u16 sp) (.int .u16 dp) (.int .i64 ln) fl false S D)) (c:=#[.slice ob nb cb,true]) HO5.out rfl
     go_wp2_with fail
     exact Qh (cs:=(Jpp false false p (.int .u16 sp) (.int .u16 dp) (.int .i64 ln) fl false S D)) b0 rfl rfl (Ja (Jd HX5.out) rfl) rfl HV2.out (HB5.out.trans (Jb _ (Nat.le_of_eq HB0.out.symm)))
    ·have HV2:=Jpa (QS (l:=l) HE2.out h0)
     have hne1:((JA p L).err != 0)=true:=by simpa using h0
     clear HV HE2 h0 hval
     generalize (JA p L).err=er at*
     go_wp2_with fail
     exact Qh (cs:=X4) b0 rfl rfl (Ja (Jd HX5.out) rfl) rfl HV2.out (HB5.out.trans (Jb _ (Nat.le_of_eq HB0.out.symm)))
  ·skip
   have lo3:bo<z3.heap.size:=(Jpb HO3.out).1
   have c34:=cell_of_row _ _ 34 _ _ (0,0) HO3.out
   have c39:=cell_of_row _ _ 39 _ _ (0,0) HO3.out
   have c41:=cell_of_row _ _ 41 _ _ (0,0) HO3.out
   have hU:Jal ⟨false,S,D,p,ln,true,mo,L⟩=⟨0,0,0,0⟩:=by rw[HUP.out];rfl
   have hE:Qj l=0:=by rw[HER2.out,hU]
   have HV:Hid (pkR l=.tuple #[.agg #[.bool false,.int .u8 (S 0),.int .u8 (S 1),.int .u8 (S 2),.int .u8 (S 3),.int .u8 (S 4),.int .u8 (S 5),.int .u8 (S 6),.int .u8 (S 7),.int .u8 (S 8),.int .u8 (S 9),.int .u8 (S 10),.int .u8 (S 11),.int .u8 (S 12),.int .u8 (S 13),.int .u8 (S 14),.int .u8 (S 15),.bool false,.int .u8 (D 0),.int .u8 (D 1),.int .u8 (D 2),.int .u8 (D 3),.int .u8 (D 4),.int .u8 (D 5),.int .u8 (D 6),.int .u8 (D 7),.int .u8 (D 8),.int .u8 (D 9),.int .u8 (D 10),.int .u8 (D 11),.int .u8 (D 12),.int .u8 (D 13),.int .u8 (D 14),.int .u8 (D 15),.int .u8 p,.int .u16 0,.int .u16 0,.int .i64 ln,.int .u8 0,.bool true],.int .i64 0]):=Jpa (by unfold pkR;rw[hE,HOF.out hE,hU];rfl)
   clear hU hE HUP HER2 HOF
   have hpt:Jf z3 bo 0 40=(Jpn false false p (.int .i64 ln) true S D:Array Value):=Qo (a:=(Jpn false false p (.int .i64 ln) true S D)) (c:=#[.slice ob nb cb,mo]) HO3.out rfl
   have hrf:Jg z3 b0 40=true:=by rw[Jc _ _ _ _ _ HX3.out];rfl
   go_wp2_with fail
   exact Qh (cs:=(Jpn false false p (.int .i64 ln) true S D)) b0 rfl rfl (Ja (Jd HX3.out) rfl) rfl HV.out (HB3.out.trans (Jb _ (Nat.le_of_eq HB0.out.symm)))
open Go.RowKit
theorem JkF (l:List Int)(h:(l.all fun v=>decide (0≤v∧v<256))=true):U8 fun i=>l.getD i 0:=fun i=>
 Jy (fun v hv=>of_decide_eq_true (List.all_eq_true.1 h v hv)) i
theorem JoL (w:World)(h:Env w):Calls Tryz.prog 22 #[.string ⟨#[54,32,49,48,46,48,46,48,46,49,32,53,32,49,48,46,48,46,48,46,50,32,56,48]⟩] w (Jh w (.tuple #[.agg #[.bool false,.int .u8 10,.int .u8 0,.int .u8 0,.int .u8 1,.int .u8 0,.int .u8 0,.int .u8 0,.int .u8 0,.int .u8 0,.int .u8 0,.int .u8 0,.int .u8 0,.int .u8 0,.int .u8 0,.int .u8 0,.int .u8 0,.bool false,.int .u8 10,.int .u8 0,.int .u8 0,.int .u8 2,.int .u8 0,.int .u8 0,.int .u8 0,.int .u8 0,.int .u8 0,.int .u8 0,.int .u8 0,.int .u8 0,.int .u8 0,.int .u8 0,.int .u8 0,.int .u8 0,.int .u8 6,.int .u16 5,.int .u16 80],.int .i64 0])):=by
 have h1:=JaS [54,32,49,48,46,48,46,48,46,49,32,53,32,49,48,46,48,46,48,46,50,32,56,48] w (by decide) h
 rw[show JbI (XS [54,32,49,48,46,48,46,48,46,49,32,53,32,49,48,46,48,46,48,46,50,32,56,48])=.tuple #[.agg #[.bool false,.int .u8 10,.int .u8 0,.int .u8 0,.int .u8 1,.int .u8 0,.int .u8 0,.int .u8 0,.int .u8 0,.int .u8 0,.int .u8 0,.int .u8 0,.int .u8 0,.int .u8 0,.int .u8 0,.int .u8 0,.int .u8 0,.bool false,.int .u8 10,.int .u8 0,.int .u8 0,.int .u8 2,.int .u8 0,.int .u8 0,.int .u8 0,.int .u8 0,.int .u8 0,.int .u8 0,.int .u8 0,.int .u8 0,.int .u8 0,.int .u8 0,.int .u8 0,.int .u8 0,.int .u8 6,.int .u16 5,.int .u16 80],.int .i64 0] by kernel_rfl] at h1
 exact h1
theorem JoM (w:World)(h:Env w):Calls Tryz.prog 22 #[.string ⟨#[49,32,49,48,46,48,46,48,46,49,32,48,32,49,48,46,48,46,48,46,50,32,50,48,52,56]⟩] w (Jh w (.tuple #[.agg #[.bool false,.int .u8 10,.int .u8 0,.int .u8 0,.int .u8 1,.int .u8 0,.int .u8 0,.int .u8 0,.int .u8 0,.int .u8 0,.int .u8 0,.int .u8 0,.int .u8 0,.int .u8 0,.int .u8 0,.int .u8 0,.int .u8 0,.bool false,.int .u8 10,.int .u8 0,.int .u8 0,.int .u8 2,.int .u8 0,.int .u8 0,.int .u8 0,.int .u8 0,.int .u8 0,.int .u8 0,.int .u8 0,.int .u8 0,.int .u8 0,.int .u8 0,.int .u8 0,.int .u8 0,.int .u8 1,.int .u16 0,.int .u16 2048],.int .i64 0])):=by
 have h1:=JaS [49,32,49,48,46,48,46,48,46,49,32,48,32,49,48,46,48,46,48,46,50,32,50,48,52,56] w (by decide) h
 rw[show JbI (XS [49,32,49,48,46,48,46,48,46,49,32,48,32,49,48,46,48,46,48,46,50,32,50,48,52,56])=.tuple #[.agg #[.bool false,.int .u8 10,.int .u8 0,.int .u8 0,.int .u8 1,.int .u8 0,.int .u8 0,.int .u8 0,.int .u8 0,.int .u8 0,.int .u8 0,.int .u8 0,.int .u8 0,.int .u8 0,.int .u8 0,.int .u8 0,.int .u8 0,.bool false,.int .u8 10,.int .u8 0,.int .u8 0,.int .u8 2,.int .u8 0,.int .u8 0,.int .u8 0,.int .u8 0,.int .u8 0,.int .u8 0,.int .u8 0,.int .u8 0,.int .u8 0,.int .u8 0,.int .u8 0,.int .u8 0,.int .u8 1,.int .u16 0,.int .u16 2048],.int .i64 0] by kernel_rfl] at h1
 exact h1
theorem JoN (w:World)(h:Env w):Calls Tryz.prog 22 #[.string ⟨#[49,55,32,58,58,49,32,57,32,58,58,50,32,53,51]⟩] w (Jh w (.tuple #[.agg #[.bool true,.int .u8 0,.int .u8 0,.int .u8 0,.int .u8 0,.int .u8 0,.int .u8 0,.int .u8 0,.int .u8 0,.int .u8 0,.int .u8 0,.int .u8 0,.int .u8 0,.int .u8 0,.int .u8 0,.int .u8 0,.int .u8 1,.bool true,.int .u8 0,.int .u8 0,.int .u8 0,.int .u8 0,.int .u8 0,.int .u8 0,.int .u8 0,.int .u8 0,.int .u8 0,.int .u8 0,.int .u8 0,.int .u8 0,.int .u8 0,.int .u8 0,.int .u8 0,.int .u8 2,.int .u8 17,.int .u16 9,.int .u16 53],.int .i64 0])):=by
 have h1:=JaS [49,55,32,58,58,49,32,57,32,58,58,50,32,53,51] w (by decide) h
 rw[show JbI (XS [49,55,32,58,58,49,32,57,32,58,58,50,32,53,51])=.tuple #[.agg #[.bool true,.int .u8 0,.int .u8 0,.int .u8 0,.int .u8 0,.int .u8 0,.int .u8 0,.int .u8 0,.int .u8 0,.int .u8 0,.int .u8 0,.int .u8 0,.int .u8 0,.int .u8 0,.int .u8 0,.int .u8 0,.int .u8 1,.bool true,.int .u8 0,.int .u8 0,.int .u8 0,.int .u8 0,.int .u8 0,.int .u8 0,.int .u8 0,.int .u8 0,.int .u8 0,.int .u8 0,.int .u8 0,.int .u8 0,.int .u8 0,.int .u8 0,.int .u8 0,.int .u8 2,.int .u8 17,.int .u16 9,.int .u16 53],.int .i64 0] by kernel_rfl] at h1
 exact h1
theorem JoO (w:World)(h:Env w):Calls Tryz.prog 22 #[.string ⟨#[54,32,49,48,46,48,46,48,46,49,32,48,53,32,49,48,46,48,46,48,46,50,32,56,48]⟩] w (Jh w (.tuple #[.agg #[.bool false,.int .u8 0,.int .u8 0,.int .u8 0,.int .u8 0,.int .u8 0,.int .u8 0,.int .u8 0,.int .u8 0,.int .u8 0,.int .u8 0,.int .u8 0,.int .u8 0,.int .u8 0,.int .u8 0,.int .u8 0,.int .u8 0,.bool false,.int .u8 0,.int .u8 0,.int .u8 0,.int .u8 0,.int .u8 0,.int .u8 0,.int .u8 0,.int .u8 0,.int .u8 0,.int .u8 0,.int .u8 0,.int .u8 0,.int .u8 0,.int .u8 0,.int .u8 0,.int .u8 0,.int .u8 0,.int .u16 0,.int .u16 0],.int .i64 40])):=by
 have h1:=JaS [54,32,49,48,46,48,46,48,46,49,32,48,53,32,49,48,46,48,46,48,46,50,32,56,48] w (by decide) h
 rw[show JbI (XS [54,32,49,48,46,48,46,48,46,49,32,48,53,32,49,48,46,48,46,48,46,50,32,56,48])=.tuple #[.agg #[.bool false,.int .u8 0,.int .u8 0,.int .u8 0,.int .u8 0,.int .u8 0,.int .u8 0,.int .u8 0,.int .u8 0,.int .u8 0,.int .u8 0,.int .u8 0,.int .u8 0,.int .u8 0,.int .u8 0,.int .u8 0,.int .u8 0,.bool false,.int .u8 0,.int .u8 0,.int .u8 0,.int .u8 0,.int .u8 0,.int .u8 0,.int .u8 0,.int .u8 0,.int .u8 0,.int .u8 0,.int .u8 0,.int .u8 0,.int .u8 0,.int .u8 0,.int .u8 0,.int .u8 0,.int .u8 0,.int .u16 0,.int .u16 0],.int .i64 40] by kernel_rfl] at h1
 exact h1
theorem JoP (w:World)(h:Env w):Calls Tryz.prog 22 #[.string ⟨#[49,32,58,58,49,32,49,32,58,58,49,32,48]⟩] w (Jh w (.tuple #[.agg #[.bool false,.int .u8 0,.int .u8 0,.int .u8 0,.int .u8 0,.int .u8 0,.int .u8 0,.int .u8 0,.int .u8 0,.int .u8 0,.int .u8 0,.int .u8 0,.int .u8 0,.int .u8 0,.int .u8 0,.int .u8 0,.int .u8 0,.bool false,.int .u8 0,.int .u8 0,.int .u8 0,.int .u8 0,.int .u8 0,.int .u8 0,.int .u8 0,.int .u8 0,.int .u8 0,.int .u8 0,.int .u8 0,.int .u8 0,.int .u8 0,.int .u8 0,.int .u8 0,.int .u8 0,.int .u8 0,.int .u16 0,.int .u16 0],.int .i64 40])):=by
 have h1:=JaS [49,32,58,58,49,32,49,32,58,58,49,32,48] w (by decide) h
 rw[show JbI (XS [49,32,58,58,49,32,49,32,58,58,49,32,48])=.tuple #[.agg #[.bool false,.int .u8 0,.int .u8 0,.int .u8 0,.int .u8 0,.int .u8 0,.int .u8 0,.int .u8 0,.int .u8 0,.int .u8 0,.int .u8 0,.int .u8 0,.int .u8 0,.int .u8 0,.int .u8 0,.int .u8 0,.int .u8 0,.bool false,.int .u8 0,.int .u8 0,.int .u8 0,.int .u8 0,.int .u8 0,.int .u8 0,.int .u8 0,.int .u8 0,.int .u8 0,.int .u8 0,.int .u8 0,.int .u8 0,.int .u8 0,.int .u8 0,.int .u8 0,.int .u8 0,.int .u8 0,.int .u16 0,.int .u16 0],.int .i64 40] by kernel_rfl] at h1
 exact h1
def Jm6:Sp:=(⟨⟨false,(fun i=>([10,0,0,1]:List Int).getD i 0),false,(fun i=>([10,0,0,2]:List Int).getD i 0),6,5,80⟩,2,0⟩:Sp)
theorem JoD:Jmz Jm6:=⟨⟨JkF _ (by decide),JkF _ (by decide),by decide,by decide,by decide⟩,by decide,by decide⟩
theorem JoQ:Z6 Jm6=0:=by decide+kernel
theorem JoR:(spL Jm6).length=40:=by decide+kernel
theorem JoS (w:World):Calls Tryz.prog 15 #[.agg #[.bool false,.int .u8 10,.int .u8 0,.int .u8 0,.int .u8 1,.int .u8 0,.int .u8 0,.int .u8 0,.int .u8 0,.int .u8 0,.int .u8 0,.int .u8 0,.int .u8 0,.int .u8 0,.int .u8 0,.int .u8 0,.int .u8 0,.bool false,.int .u8 10,.int .u8 0,.int .u8 0,.int .u8 2,.int .u8 0,.int .u8 0,.int .u8 0,.int .u8 0,.int .u8 0,.int .u8 0,.int .u8 0,.int .u8 0,.int .u8 0,.int .u8 0,.int .u8 0,.int .u8 0,.int .u8 6,.int .u16 5,.int .u16 80,.int .u8 2,.int .i64 0]] w (Jw w (spL Jm6) 0):=by
 have h:=Jes Jm6 JoD w
 rw[JoQ] at h
 exact h
def Jnl:Sp:=(⟨⟨false,(fun i=>([10,0,0,1]:List Int).getD i 0),false,(fun i=>([10,0,0,2]:List Int).getD i 0),1,0,2048⟩,0,8⟩:Sp)
theorem JoE:Jmz Jnl:=⟨⟨JkF _ (by decide),JkF _ (by decide),by decide,by decide,by decide⟩,by decide,by decide⟩
theorem JoT:Z6 Jnl=0:=by decide+kernel
theorem JoU:(spL Jnl).length=32:=by decide+kernel
theorem JoV (w:World):Calls Tryz.prog 15 #[.agg #[.bool false,.int .u8 10,.int .u8 0,.int .u8 0,.int .u8 1,.int .u8 0,.int .u8 0,.int .u8 0,.int .u8 0,.int .u8 0,.int .u8 0,.int .u8 0,.int .u8 0,.int .u8 0,.int .u8 0,.int .u8 0,.int .u8 0,.bool false,.int .u8 10,.int .u8 0,.int .u8 0,.int .u8 2,.int .u8 0,.int .u8 0,.int .u8 0,.int .u8 0,.int .u8 0,.int .u8 0,.int .u8 0,.int .u8 0,.int .u8 0,.int .u8 0,.int .u8 0,.int .u8 0,.int .u8 1,.int .u16 0,.int .u16 2048,.int .u8 0,.int .i64 8]] w (Jw w (spL Jnl) 0):=by
 have h:=Jes Jnl JoE w
 rw[JoT] at h
 exact h
def JnP:Sp:=(⟨⟨true,(fun i=>([0,0,0,0,0,0,0,0,0,0,0,0,0,0,0,1]:List Int).getD i 0),true,(fun i=>([0,0,0,0,0,0,0,0,0,0,0,0,0,0,0,2]:List Int).getD i 0),17,9,53⟩,0,1⟩:Sp)
theorem JoF:Jmz JnP:=⟨⟨JkF _ (by decide),JkF _ (by decide),by decide,by decide,by decide⟩,by decide,by decide⟩
theorem JoW:Z6 JnP=0:=by decide+kernel
theorem JoX:(spL JnP).length=49:=by decide+kernel
theorem JoY (w:World):Calls Tryz.prog 15 #[.agg #[.bool true,.int .u8 0,.int .u8 0,.int .u8 0,.int .u8 0,.int .u8 0,.int .u8 0,.int .u8 0,.int .u8 0,.int .u8 0,.int .u8 0,.int .u8 0,.int .u8 0,.int .u8 0,.int .u8 0,.int .u8 0,.int .u8 1,.bool true,.int .u8 0,.int .u8 0,.int .u8 0,.int .u8 0,.int .u8 0,.int .u8 0,.int .u8 0,.int .u8 0,.int .u8 0,.int .u8 0,.int .u8 0,.int .u8 0,.int .u8 0,.int .u8 0,.int .u8 0,.int .u8 2,.int .u8 17,.int .u16 9,.int .u16 53,.int .u8 0,.int .i64 1]] w (Jw w (spL JnP) 0):=by
 have h:=Jes JnP JoF w
 rw[JoW] at h
 exact h
theorem JoA:(spL Jnl).getD 20 0=8:=by decide+kernel
theorem wkQ (oa:Option Addr)(cap:Nat)(w:World)(h:Ji w oa 40 cap (spL Jm6)):Calls Tryz.prog 11 #[.slice oa 40 cap] w (Jh w (.tuple #[.agg #[.bool false,.int .u8 10,.int .u8 0,.int .u8 0,.int .u8 1,.int .u8 0,.int .u8 0,.int .u8 0,.int .u8 0,.int .u8 0,.int .u8 0,.int .u8 0,.int .u8 0,.int .u8 0,.int .u8 0,.int .u8 0,.int .u8 0,.bool false,.int .u8 10,.int .u8 0,.int .u8 0,.int .u8 2,.int .u8 0,.int .u8 0,.int .u8 0,.int .u8 0,.int .u8 0,.int .u8 0,.int .u8 0,.int .u8 0,.int .u8 0,.int .u8 0,.int .u8 0,.int .u8 0,.int .u8 6,.int .u16 5,.int .u16 80,.int .i64 40,.int .u8 2,.bool false],.int .i64 0])):=by
 have h1:=Jet oa 40 cap _ w h (by decide) (by decide) (by decide+kernel)
 rw[show pkR (spL Jm6)=.tuple #[.agg #[.bool false,.int .u8 10,.int .u8 0,.int .u8 0,.int .u8 1,.int .u8 0,.int .u8 0,.int .u8 0,.int .u8 0,.int .u8 0,.int .u8 0,.int .u8 0,.int .u8 0,.int .u8 0,.int .u8 0,.int .u8 0,.int .u8 0,.bool false,.int .u8 10,.int .u8 0,.int .u8 0,.int .u8 2,.int .u8 0,.int .u8 0,.int .u8 0,.int .u8 0,.int .u8 0,.int .u8 0,.int .u8 0,.int .u8 0,.int .u8 0,.int .u8 0,.int .u8 0,.int .u8 0,.int .u8 6,.int .u16 5,.int .u16 80,.int .i64 40,.int .u8 2,.bool false],.int .i64 0] by kernel_rfl] at h1
 exact h1
def Jog (w:World)(m:Nat)(l:List Int)(err:Int):Ending→World→Prop:=fun e w'=>∃oa cap,e=.returned (.tuple #[.slice oa m cap,.int .i64 err])∧Ji w' oa m cap l∧Below w.heap.size w w'
theorem Jw.n {w:World}{m:Nat}{l:List Int}{err:Int}(hm:l.length=m)(hl:∀v∈l,0≤v∧v<256){e:Ending}{w':World}(h:Jw w l err e w'):Jog w m l err e w':=by
 subst hm
 obtain⟨oa,cap,h1,h2,h3⟩:=h
 exact⟨oa,cap,h1,h2.reads hl,h3⟩
theorem Jft (w:World)(henv:Env w):Calls Tryz.prog 9 #[] w (Jh w (.bool true)):=by
 have HE:=Jpa henv
 clear henv
 have HP0:Hid (∀w,Calls Tryz.prog 15 #[.agg #[.bool false,.int .u8 10,.int .u8 0,.int .u8 0,.int .u8 1,.int .u8 0,.int .u8 0,.int .u8 0,.int .u8 0,.int .u8 0,.int .u8 0,.int .u8 0,.int .u8 0,.int .u8 0,.int .u8 0,.int .u8 0,.int .u8 0,.bool false,.int .u8 10,.int .u8 0,.int .u8 0,.int .u8 2,.int .u8 0,.int .u8 0,.int .u8 0,.int .u8 0,.int .u8 0,.int .u8 0,.int .u8 0,.int .u8 0,.int .u8 0,.int .u8 0,.int .u8 0,.int .u8 0,.int .u8 6,.int .u16 5,.int .u16 80,.int .u8 2,.int .i64 0]] w (Jog w 40 (spL Jm6) 0)):=Jpa fun w=>(JoS w).mono fun _ _ h=>h.n JoR (JgG JoD)
 have HP1:Hid (∀w,Calls Tryz.prog 15 #[.agg #[.bool false,.int .u8 10,.int .u8 0,.int .u8 0,.int .u8 1,.int .u8 0,.int .u8 0,.int .u8 0,.int .u8 0,.int .u8 0,.int .u8 0,.int .u8 0,.int .u8 0,.int .u8 0,.int .u8 0,.int .u8 0,.int .u8 0,.bool false,.int .u8 10,.int .u8 0,.int .u8 0,.int .u8 2,.int .u8 0,.int .u8 0,.int .u8 0,.int .u8 0,.int .u8 0,.int .u8 0,.int .u8 0,.int .u8 0,.int .u8 0,.int .u8 0,.int .u8 0,.int .u8 0,.int .u8 1,.int .u16 0,.int .u16 2048,.int .u8 0,.int .i64 8]] w (Jog w 32 (spL Jnl) 0)):=Jpa fun w=>(JoV w).mono fun _ _ h=>h.n JoU (JgG JoE)
 have HP2:Hid (∀w,Calls Tryz.prog 15 #[.agg #[.bool true,.int .u8 0,.int .u8 0,.int .u8 0,.int .u8 0,.int .u8 0,.int .u8 0,.int .u8 0,.int .u8 0,.int .u8 0,.int .u8 0,.int .u8 0,.int .u8 0,.int .u8 0,.int .u8 0,.int .u8 0,.int .u8 1,.bool true,.int .u8 0,.int .u8 0,.int .u8 0,.int .u8 0,.int .u8 0,.int .u8 0,.int .u8 0,.int .u8 0,.int .u8 0,.int .u8 0,.int .u8 0,.int .u8 0,.int .u8 0,.int .u8 0,.int .u8 0,.int .u8 2,.int .u8 17,.int .u16 9,.int .u16 53,.int .u8 0,.int .i64 1]] w (Jog w 49 (spL JnP) 0)):=Jpa fun w=>(JoY w).mono fun _ _ h=>h.n JoX (JgG JoF)
 have HQ:=Jpa wkQ
 have H20:=Jpa JoA
 have BX0:=Jpa (Bx.start w)
 generalize spL Jm6=L0 at*
 generalize spL Jnl=L1 at*
 generalize spL JnP=L2 at*
 go_enter Tryz.func9,Tryz.ntmps9
 go_wp2_with fail
 refine BX0.out.ret (JoL _ (HE.out.below BX0.out.out)) ?_
 intro u1 hb1 BU1
 have BX1:=Jpa (BU1.out.box (Jp3 false (10:Int) (1:Int) false (10:Int) (2:Int) (6:Int) (.int .u16 5) (.int .u16 80)) 30)
 clear hb1 BU1 BX0
 obtain⟨b1,hq1⟩:∃b,b=u1.heap.size:=⟨_,rfl⟩
 go_wp2_with fail
 rw[←hq1] at BX1⊢
 clear hq1
 generalize u1.alloc _=y1 at*
 refine Jpc (HP0.out _) ?_
 rintro e u2 ⟨o0,c0,rfl,hr2,hb2⟩
 have BX2:=Jpa (BX1.out.go hb2)
 have HL0_2:=Jpa hr2
 clear hb2 hr2 BX1
 go_wp2_with fail
 refine BX2.out.ret (HQ.out o0 c0 _ HL0_2.out) ?_
 intro u3 hb3 BU3
 have BX3:=Jpa (BU3.out.box (JpW false (10:Int) (1:Int) false (10:Int) (2:Int) (6:Int) (.int .u16 5) (.int .u16 80) (.int .i64 40) (2:Int) false) 32)
 have HL0_3:=Jpa ((HL0_2.out.below hb3).alloc (.cells (JpW false (10:Int) (1:Int) false (10:Int) (2:Int) (6:Int) (.int .u16 5) (.int .u16 80) (.int .i64 40) (2:Int) false) 32))
 clear hb3 BU3 BX2 HL0_2
 obtain⟨b5,hq3⟩:∃b,b=u3.heap.size:=⟨_,rfl⟩
 go_wp2_with fail
 rw[←hq3] at BX3⊢
 clear hq3
 generalize u3.alloc _=y3 at*
 clear HL0_3
 refine BX3.out.ret (JoM _ (HE.out.below BX3.out.out)) ?_
 intro u4 hb4 BU4
 have BX4:=Jpa (BU4.out.box (Jp4 false (10:Int) (1:Int) false (10:Int) (2:Int) (1:Int) (.int .u16 2048)) 30)
 clear hb4 BU4 BX3
 obtain⟨b7,hq4⟩:∃b,b=u4.heap.size:=⟨_,rfl⟩
 go_wp2_with fail
 rw[←hq4] at BX4⊢
 clear hq4
 generalize u4.alloc _=y4 at*
 refine Jpc (HP1.out _) ?_
 rintro e u5 ⟨o1,c1,rfl,hr5,hb5⟩
 have BX5:=Jpa (BX4.out.go hb5)
 have HL1_5:=Jpa hr5
 clear hb5 hr5 BX4
 go_wp2_with fail
 refine BX5.out.ret (JoN _ (HE.out.below BX5.out.out)) ?_
 intro u6 hb6 BU6
 have BX6:=Jpa (BU6.out.box (JpV true (1:Int) true (2:Int) (17:Int) (.int .u16 9) (.int .u16 53)) 30)
 have HL1_6:=Jpa ((HL1_5.out.below hb6).alloc (.cells (JpV true (1:Int) true (2:Int) (17:Int) (.int .u16 9) (.int .u16 53)) 30))
 clear hb6 BU6 BX5 HL1_5
 obtain⟨b11,hq6⟩:∃b,b=u6.heap.size:=⟨_,rfl⟩
 go_wp2_with fail
 rw[←hq6] at BX6⊢
 clear hq6
 generalize u6.alloc _=y6 at*
 refine Jpc (HP2.out _) ?_
 rintro e u7 ⟨o2,c2,rfl,hr7,hb7⟩
 have BX7:=Jpa (BX6.out.go hb7)
 have HL1_7:=Jpa (HL1_6.out.below hb7)
 clear hb7 hr7 BX6 HL1_6
 go_wp2_with fail
 refine BX7.out.ret (JoO _ (HE.out.below BX7.out.out)) ?_
 intro u8 hb8 BU8
 have BX8:=Jpa (BU8.out.box (JpL false false) 30)
 have HL1_8:=Jpa ((HL1_7.out.below hb8).alloc (.cells (JpL false false) 30))
 clear hb8 BU8 BX7 HL1_7
 obtain⟨b15,hq8⟩:∃b,b=u8.heap.size:=⟨_,rfl⟩
 go_wp2_with fail
 rw[←hq8] at BX8⊢
 clear hq8
 generalize u8.alloc _=y8 at*
 refine BX8.out.ret (JoP _ (HE.out.below BX8.out.out)) ?_
 intro u9 hb9 BU9
 have BX9:=Jpa (BU9.out.box (JpL false false) 30)
 have HL1:=Jpa ((HL1_8.out.below hb9).alloc (.cells (JpL false false) 30))
 clear hb9 BU9 BX8 HL1_8
 obtain⟨g,off,hg,hgl,hgc⟩:=HL1.out.here (by decide)
 subst hg
 have c20:=hgc 20 (by decide)
 rw[H20.out] at c20
 have p5:=BX9.out.part (n:=40) 4 rfl rfl
 have p1:=BX9.out.part (n:=37) 5 rfl rfl
 have l5:=BX9.out.lt 4 rfl
 have l1:=BX9.out.lt 5 rfl
 clear hgc
 go_wp2_with fail
 go_ret
 exact .mk rfl BX9.out.out
end
end Go.Proofs.YtkgjbipfhhjlpaaGreatDoor
