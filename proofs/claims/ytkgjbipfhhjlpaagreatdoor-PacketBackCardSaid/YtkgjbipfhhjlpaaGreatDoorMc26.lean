import Derived.Test.YtkgjbipfhhjlpaaGreatDoorMc25
set_option linter.unusedVariables false
set_option linter.unusedSimpArgs false
set_option maxRecDepth 100000
set_option maxHeartbeats 32000000
namespace Go.Proofs.YtkgjbipfhhjlpaaGreatDoor
section
open Go.RowKit Bits
theorem Jj8 (oa:Option Addr)(n cap:Nat)(l:List Int)(w:World)(hr:Jg w oa n cap l)(hn1:0<n)(hn2:n≤2048)(hk:l.getD 0 0/16=6):
 Calls Tryz.prog 11 #[.slice oa n cap] w (Jj w (pkR l)):=by
 obtain⟨g,off,rfl,hgl,hcs⟩:=hr.here hn1
 have hc0:=hcs 0 hn1
 have hx0:=Qt hr.byte 0
 rw[Nat.add_zero] at hc0
 obtain⟨x0,e0⟩:∃x:Nat,l.getD 0 0=(x:Int):=⟨(l.getD 0 0).toNat,by omega⟩
 have HE0:=JoL e0
 rw[e0] at hc0 hx0 hk
 have hd:decide ((n:Int)>2048)=false:=by simp;omega
 have hd2:((n:Int)==0)=false:=by simp;omega
 have hn0:(0:Int)<(n:Int):=by omega
 have hlen:=hr.len
 have hx:=heap_alloc_new w (.cells Ja5 32)
 have hB:Below w.heap.size w (w.alloc (.cells Ja5 32)):=Below.all (JoO _ _) _
 have HR:=JoL (hr.alloc (.cells Ja5 32))
 have HBY:=JoL hr.byte
 unfold Ja5 at hx hB HR
 clear hr
 have hcy:=(Jf hB hgl (⟨g,off,none⟩:Addr) rfl).trans hc0
 have hgy:g<(w.alloc (.cells (Jpc false false (.int .i64 0) false) 32)).heap.size:=JoP hgl hB.size
 have HLK:Hid (∀r w',w'.heap[r]? =some (.map X9 2)→(Instr.lookup 81 (.map (some r)) (.int .u8 6) true).run Tryz.prog w'=.ok (.tuple #[.agg #[.func (.func 80) #[] #[]],true]) w'):=JoL (fun r w' h=>JeO r w' h)
 clear hcs e0 hc0
 go_enter Tryz.func11,Tryz.ntmps11
 go_wp2_with fail
 obtain⟨b0,hb0⟩:∃b,b=w.heap.size:=⟨_,rfl⟩
 rw[←hb0] at hx⊢
 have HB0:=JoL hb0
 clear hb0
 generalize w.alloc (.cells (Jpc false false (.int .i64 0) false) 32)=y at*
 have hb0y:b0<y.heap.size:=(JoM hx).1
 have HX:=JoL hx
 have HB:=JoL hB
 clear hx hB
 refine JM [.w,.h,.h,.h,.h] [(1,1,0),(2,1,0),(3,1,0),(4,1,0)] (fun _ w'=>w'.cell? ⟨g,off,none⟩=some (.int .u8 (x0:Int))) [1] [(.w,0),(.w,5),(.q,6),(.q,7),(.q,8)] [(.w,10),(.q,11)] 9 (.cells #[.nilFunc] 79) (by kernel_rfl) (by kernel_rfl) rfl rfl ⟨fun _=>rfl,fun _ _=>by kernel_rfl⟩ (by kernel_rfl) (by kernel_rfl) ?_
 apply Exists.intro
 refine⟨fun wx hbx=>?_,?_,?_⟩
 ·have hcx:wx.cell? ⟨g,off,none⟩=some (.int .u8 (x0:Int)):=(Jf hbx hgy _ rfl).trans hcy
  have hbx2:g<wx.heap.size:=JoP hgy hbx.size
  simp only[Jx]
  repeat go_big_quiet_step (fail)
  exact wpQuiet_nil rfl
 ·intro q hq oi hoi
  simp only[List.mem_cons,List.not_mem_nil,or_false] at hq
  rcases hq with rfl|rfl|rfl|rfl
  ·cases hoi;exact⟨_,rfl,rfl,fun w2 hw=>by kernel_rfl⟩
  ·cases hoi;exact⟨_,rfl,rfl,fun w2 hw=>by simp[execOp,go_sem,hn0];intro h;exfalso;omega⟩
  ·cases hoi;exact⟨_,rfl,rfl,fun w2 hw=>by simp[execOp,go_sem,hw]⟩
  ·cases hoi;exact⟨_,rfl,rfl,fun w2 hw=>by simp[execOp,go_sem,hw,hk]⟩
 simp only[J2,List.getElem?_cons_succ,List.getElem?_cons_zero]
 refine⟨fun v fl w2=>∃r,v=.map (some r)∧Jj4 y r fl w2,?_,?_,?_,?_⟩
 ·rintro fl-
  refine⟨rfl,fun w' hw'=>.inr ⟨34,#[],by kernel_rfl,?_⟩⟩
  obtain⟨⟨x,rfl⟩,hfb⟩:=hw'
  refine(Ja1 x.world).mono ?_
  rintro e w2 ⟨r,rfl,hr1,hr2,hb2⟩
  refine⟨_,rfl,r,rfl,JoE x.below hb2,Nat.le_trans x.below.size hr1,hr2,fun b hb'=>⟨(hfb b hb').1,?_⟩⟩
  have:=(hfb b hb').2
  exact(hb2.block b (JoM this).1).trans this
 ·rintro v fl g'-w2 ⟨r,-,hst⟩
  exact(Jf hst.1 hgy _ rfl).trans hcy
 ·rintro-v w2 ⟨r,rfl,h1,h2,h3,-⟩
  exact⟨r,rfl,Below.all h1 _,h2,(heap_alloc_old _ _ (JoM h3).1).trans h3,fun b hb'=>by cases hb';exact⟨h1.size,heap_alloc_new _ _⟩⟩
 rintro v ⟨fl0,w20,r,rfl,-⟩
 refine⟨fun v fl w2=>v=.tuple #[.agg #[.func (.func 80) #[] #[]],true]∧Jj4 y r fl w2,?_,fun _ _=>Jz rfl,?_,?_⟩
 ·rintro fl-
  refine JA.made rfl ?_
  rintro w' ⟨r',hr',hst⟩
  cases hr'
  exact⟨.tuple #[.agg #[.func (.func 80) #[] #[]],true],w',QE _ _ (vm:=.map (some r)) (vx:=.int .u8 6) (by kernel_rfl) (by kernel_rfl) (HLK.out r w' hst.2.2.1),rfl,hst⟩
 ·rintro-v w2 ⟨h0,h1,h2,h3,-⟩
  exact⟨h0,Below.all h1 _,h2,(heap_alloc_old _ _ (JoM h3).1).trans h3,fun b hb'=>by cases hb';exact⟨h1.size,heap_alloc_new _ _⟩⟩
 rintro v ⟨fl1,w21,rfl,-⟩
 refine⟨.tuple #[.agg #[.func (.func 80) #[] #[]],true],⟨rfl,fun _=>by kernel_rfl⟩,?_⟩
 refine⟨.agg #[.func (.func 80) #[] #[]],⟨rfl,fun _=>by kernel_rfl⟩,?_⟩
 refine⟨.bool true,⟨rfl,fun _=>by kernel_rfl⟩,?_⟩
 intro bp
 refine⟨fun v fl w2=>v=undef∧Below y.heap.size y w2∧y.heap.size≤bp∧w2.heap[bp]? =some (.cells #[.func (.func 80) #[] #[]] 79 (0,0)),?_,fun _ _=>Jz rfl,(fun h=>by cases h),?_⟩
 ·rintro fl rfl
  refine JA.skip rfl ?_
  rintro w' ⟨-,hst⟩
  obtain⟨hbge,hbx⟩:=hst.2.2.2 bp rfl
  have q1:=cell_of_row _ _ 0 _ _ (0,0) hbx
  have q2:=frozen_of_row _ _ 0 _ _ hbx
  refine⟨_,?_,hst.1.setCell (p:=⟨bp,0,none⟩) hbge (.func (.func 80) #[] #[]),hbge,(heap_setCell_same _ bp 0 _ _ (.func (.func 80) #[] #[]) hbx).trans rfl⟩
  simp[execOp,go_sem,QV,q1,q2]
 rintro v ⟨fl2,w22,rfl,-⟩
 refine⟨.bool true,⟨rfl,fun _=>by kernel_rfl⟩,?_⟩
 rintro zz ⟨-,hzz,hbge,hpz⟩
 have HZ:=JoL (JoE HB.out hzz)
 have HXZ:=JoL ((hzz.block b0 hb0y).trans HX.out)
 have HRZ:=JoL (HR.out.below hzz)
 have HPZ:=JoL hpz
 have hb0z:b0<zz.heap.size:=JoP hb0y hzz.size
 have hne:bp≠b0:=by omega
 have hrf:Jk zz b0 40=true:=by rw[Jd _ _ _ _ _ HXZ.out];rfl
 clear hzz hpz hbge hcy hgy hb0y w20 w21 w22 fl0 fl1 fl2 HX HB HR HLK
 unfold QV
 simp only[Act.put,List.setIfInBounds_toArray,List.set_cons_succ,List.set_cons_zero]
 have c0:=cell_of_row _ _ 0 _ _ (0,0) HPZ.out
 have lp:bp<zz.heap.size:=(JoM HPZ.out).1
 have HER:Hid (Qq l=if JO l≠0 then JO l else (JbQ (QW l)).err):=JoL (by unfold Qq;rw[if_neg (by omega),if_neg (by omega),HE0.out,hk];rw[if_neg (by decide),if_pos rfl])
 have HOF:Hid (Qq l=0→Jkd l=Jjt (QW l) (JbQ (QW l))):=JoL (fun h=>by unfold Jkd;rw[h,if_neg (by decide),HE0.out,hk];rfl)
 clear hk
 go_wp2_with fail
 refine JoN (Jmo _ _ _ _ _ HRZ.out (by omega)) ?_
 rintro e z1 (⟨h0,rfl,hb⟩|⟨h0,ob,cb,rfl,ho,hb⟩)
 ·have HE:=JoL (X0 (l:=l) (err:=JO l) (by rw[HER.out,if_pos h0]) h0)
  have hne0:(JO l==0)=false:=by simpa using h0
  have hne1:(JO l != 0)=true:=by simpa using h0
  have HB1:=JoL (JoE HZ.out hb)
  have HX1:=JoL ((hb.block b0 hb0z).trans HXZ.out)
  have hb01:b0<z1.heap.size:=JoP hb0z hb.size
  clear hb h0 HZ HXZ HRZ HPZ c0 lp hrf HER HOF
  generalize JO l=er at*
  unfold JcX
  go_wp2_with fail
  have hxo:=heap_alloc_new z1 (.cells (Jpg false false (.int .i64 0) false false) 85)
  have hbo:Below z1.heap.size z1 (z1.alloc (.cells (Jpg false false (.int .i64 0) false false) 85)):=Below.all (JoO _ _) _
  generalize z1.alloc (.cells (Jpg false false (.int .i64 0) false false) 85)=z2 at*
  have HX2:=JoL ((hbo.block b0 hb01).trans HX1.out)
  have HB2:=JoL (JoE HB1.out hbo)
  obtain⟨bo,hboe⟩:∃b,b=z1.heap.size:=⟨_,rfl⟩
  rw[←hboe] at hxo⊢
  have HO2:=JoL hxo
  clear hxo hbo HX1 HB1 hboe hb01
  refine JoN (Xn 0 _) ?_
  rintro e z3 ⟨rfl,hb3⟩
  rw[show JS 0=false from rfl]
  have HX3:=JoL ((hb3.block b0 (JoM HX2.out).1).trans HX2.out)
  have HO3:=JoL ((hb3.block bo (JoM HO2.out).1).trans HO2.out)
  have HB3:=JoL (JoE HB2.out hb3)
  have lo3:bo<z3.heap.size:=(JoM HO3.out).1
  have c34:=cell_of_row _ _ 34 _ _ (0,0) HO3.out
  clear hb3 HX2 HO2 HB2
  go_wp2_with fail
  refine JoN (QO 0 _) ?_
  rintro e z4 ⟨rfl,hb4⟩
  rw[show JY 0=false from rfl]
  have HX4:=JoL ((hb4.block b0 (JoM HX3.out).1).trans HX3.out)
  have HB4:=JoL (JoE HB3.out hb4)
  have hrf:Jk z4 b0 40=true:=by rw[Jd _ _ _ _ _ HX4.out];rfl
  clear hb4 HX3 HB3 HO3 c34 lo3
  go_wp2_with fail
  exact Qg (cs:=Ja5) b0 rfl rfl (Ja (Ji HX4.out) rfl) rfl HE.out (HB4.out.trans (Je _ (Nat.le_of_eq HB0.out.symm)))
 have HOUT:Hid (QW l=⟨true,(QW l).src,(QW l).dst,(QW l).proto,(QW l).len,(QW l).frag,(QW l).more,(QW l).body⟩):=JoL rfl
 have HBB:=JoL (Jmp (l:=l) HBY.out)
 have HBL:=JoL (Jnk l)
 have hER2:Qq l=(JbQ (QW l)).err:=by rw[HER.out,if_neg (by rw[h0];decide)]
 have HER2:=JoL hER2
 have HB1:=JoL (JoE HZ.out hb)
 have HX1:=JoL ((hb.block b0 hb0z).trans HXZ.out)
 have hb01:b0<z1.heap.size:=JoP hb0z hb.size
 have HLO:=JoL (fun a (ha:ob=some a)=>(ho.lt ha))
 have HOW:=JoL ho
 clear hb h0 HZ HXZ HRZ HPZ c0 lp hrf hER2 HER ho hb0z
 unfold Jn6
 generalize QW l=O at*
 obtain⟨o6,S,D,p,ln,fr,mo,L⟩:=O
 simp only at HOUT HBB HBL HER2 HOF HOW⊢
 obtain rfl:o6=true:=congrArg JcE.six HOUT.out
 have HRB:=JoL (HOW.out.reads HBB.out)
 obtain⟨nb,hnb⟩:∃n,L.length=n:=⟨_,rfl⟩
 have HNB:=JoL hnb
 rw[hnb] at HRB HBL⊢
 clear hnb HOW HOUT
 go_wp2_with fail
 have hxo:=heap_alloc_new z1 (.cells (Jpf true true p (.int .i64 ln) fr (.slice ob nb cb) mo S D) 85)
 have hbo:Below z1.heap.size z1 (z1.alloc (.cells (Jpf true true p (.int .i64 ln) fr (.slice ob nb cb) mo S D) 85)):=Below.all (JoO _ _) _
 generalize z1.alloc (.cells (Jpf true true p (.int .i64 ln) fr (.slice ob nb cb) mo S D) 85)=z2 at*
 have HX2:=JoL ((hbo.block b0 hb01).trans HX1.out)
 have HB2:=JoL (JoE HB1.out hbo)
 have HR2:=JoL (HRB.out.below hbo)
 obtain⟨bo,hboe⟩:∃b,b=z1.heap.size:=⟨_,rfl⟩
 rw[←hboe] at hxo⊢
 have HO2:=JoL hxo
 have HNE:Hid ((∀a,ob=some a→a.block≠bo)∧bo≠b0):=JoL ⟨fun a ha=>by have:=(HLO.out a ha).2;omega,by omega⟩
 have HLB:Hid (w.heap.size≤bo):=JoL (by rw[hboe];exact HB1.out.size)
 clear hxo hbo HX1 HB1 hboe hb01 HLO HRB hne
 refine JoN (Xn p _) ?_
 rintro e z3 ⟨rfl,hb3⟩
 have HX3:=JoL ((hb3.block b0 (JoM HX2.out).1).trans HX2.out)
 have HO3:=JoL ((hb3.block bo (JoM HO2.out).1).trans HO2.out)
 have HB3:=JoL (JoE HB2.out hb3)
 have HR3:=JoL (HR2.out.below hb3)
 clear hb3 HX2 HO2 HB2 HR2
 have HPI:Hid ((JS p=true→p=6∨p=17∨p=1∨p=58)∧(JY p=true→p=6∨p=17∨p=1∨p=58)):=JoL ⟨fun h=>by unfold JS at h;simp at h;omega,fun h=>by unfold JY at h;simp at h;omega⟩
 have HUP:Hid (JbQ ⟨true,S,D,p,ln,fr,mo,L⟩=if (JS p||JY p)&&!fr then (if mo then JI p L else Ju p L) else ⟨0,0,0,0⟩):=JoL rfl
 have HIC:Hid (∀w',Calls Tryz.prog 36 #[p] w' (Jj w' (.bool (JY p)))):=JoL (fun w'=>QO p w')
 obtain⟨P1,hP1⟩:∃b,JS p=b:=⟨_,rfl⟩
 obtain⟨I1,hI1⟩:∃b,JY p=b:=⟨_,rfl⟩
 rw[hP1,hI1] at HUP HPI
 rw[hI1] at HIC
 rw[hP1]
 clear hP1 hI1
 cases P1
 ·cases I1
  ·skip
   have lo3:bo<z3.heap.size:=(JoM HO3.out).1
   have c34:=cell_of_row _ _ 34 _ _ (0,0) HO3.out
   have c39:=cell_of_row _ _ 39 _ _ (0,0) HO3.out
   have c41:=cell_of_row _ _ 41 _ _ (0,0) HO3.out
   have hU:JbQ ⟨true,S,D,p,ln,fr,mo,L⟩=⟨0,0,0,0⟩:=by rw[HUP.out];rfl
   have hE:Qq l=0:=by rw[HER2.out,hU]
   have HV:Hid (pkR l=.tuple #[.agg #[.bool true,.int .u8 (S 0),.int .u8 (S 1),.int .u8 (S 2),.int .u8 (S 3),.int .u8 (S 4),.int .u8 (S 5),.int .u8 (S 6),.int .u8 (S 7),.int .u8 (S 8),.int .u8 (S 9),.int .u8 (S 10),.int .u8 (S 11),.int .u8 (S 12),.int .u8 (S 13),.int .u8 (S 14),.int .u8 (S 15),.bool true,.int .u8 (D 0),.int .u8 (D 1),.int .u8 (D 2),.int .u8 (D 3),.int .u8 (D 4),.int .u8 (D 5),.int .u8 (D 6),.int .u8 (D 7),.int .u8 (D 8),.int .u8 (D 9),.int .u8 (D 10),.int .u8 (D 11),.int .u8 (D 12),.int .u8 (D 13),.int .u8 (D 14),.int .u8 (D 15),.int .u8 p,.int .u16 0,.int .u16 0,.int .i64 ln,.int .u8 0,.bool fr],.int .i64 0]):=JoL (by unfold pkR;rw[hE,HOF.out hE,hU];rfl)
   clear hU hE HUP HER2 HOF
   clear c39 c41
   go_wp2_with fail
   refine JoN (HIC.out _) ?_
   rintro e z4 ⟨rfl,hb4⟩
   have HX4:=JoL ((hb4.block b0 (JoM HX3.out).1).trans HX3.out)
   have HO4:=JoL ((hb4.block bo (JoM HO3.out).1).trans HO3.out)
   have HB4:=JoL (JoE HB3.out hb4)
   have HR4:=JoL (HR3.out.below hb4)
   clear hb4 c34 lo3 HX3 HO3 HB3 HR3
   have lo4:bo<z4.heap.size:=(JoM HO4.out).1
   have c39:=cell_of_row _ _ 39 _ _ (0,0) HO4.out
   have c41:=cell_of_row _ _ 41 _ _ (0,0) HO4.out
   have hpt:Jb z4 bo 0 40=(Jo5 true true p (.int .i64 ln) fr S D:Array Value):=Qk (a:=(Jo5 true true p (.int .i64 ln) fr S D)) (c:=#[.slice ob nb cb,mo]) HO4.out rfl
   have hrf:Jk z4 b0 40=true:=by rw[Jd _ _ _ _ _ HX4.out];rfl
   go_wp2_with fail
   exact Qg (cs:=(Jo5 true true p (.int .i64 ln) fr S D)) b0 rfl rfl (Ja (Ji HX4.out) rfl) rfl HV.out (HB4.out.trans (Je _ (Nat.le_of_eq HB0.out.symm)))
  ·cases fr
   ·cases mo
    ·skip
     have lo3:bo<z3.heap.size:=(JoM HO3.out).1
     have c34:=cell_of_row _ _ 34 _ _ (0,0) HO3.out
     have c39:=cell_of_row _ _ 39 _ _ (0,0) HO3.out
     have c41:=cell_of_row _ _ 41 _ _ (0,0) HO3.out
     clear c39 c41
     go_wp2_with fail
     refine JoN (HIC.out _) ?_
     rintro e z4 ⟨rfl,hb4⟩
     have HX4:=JoL ((hb4.block b0 (JoM HX3.out).1).trans HX3.out)
     have HO4:=JoL ((hb4.block bo (JoM HO3.out).1).trans HO3.out)
     have HB4:=JoL (JoE HB3.out hb4)
     have HR4:=JoL (HR3.out.below hb4)
     clear hb4 c34 lo3 HX3 HO3 HB3 HR3
     have lo4:bo<z4.heap.size:=(JoM HO4.out).1
     have c39:=cell_of_row _ _ 39 _ _ (0,0) HO4.out
     have c41:=cell_of_row _ _ 41 _ _ (0,0) HO4.out
     have hU:JbQ ⟨true,S,D,p,ln,false,false,L⟩=Ju p L:=by rw[HUP.out];rfl
     have hE:Qq l=(Ju p L).err:=by rw[HER2.out,hU]
     have HE2:=JoL hE
     have HV:Hid (Qq l=0→pkR l=.tuple #[.agg #[.bool true,.int .u8 (S 0),.int .u8 (S 1),.int .u8 (S 2),.int .u8 (S 3),.int .u8 (S 4),.int .u8 (S 5),.int .u8 (S 6),.int .u8 (S 7),.int .u8 (S 8),.int .u8 (S 9),.int .u8 (S 10),.int .u8 (S 11),.int .u8 (S 12),.int .u8 (S 13),.int .u8 (S 14),.int .u8 (S 15),.bool true,.int .u8 (D 0),.int .u8 (D 1),.int .u8 (D 2),.int .u8 (D 3),.int .u8 (D 4),.int .u8 (D 5),.int .u8 (D 6),.int .u8 (D 7),.int .u8 (D 8),.int .u8 (D 9),.int .u8 (D 10),.int .u8 (D 11),.int .u8 (D 12),.int .u8 (D 13),.int .u8 (D 14),.int .u8 (D 15),.int .u8 p,.int .u16 (Ju p L).src,.int .u16 (Ju p L).dst,.int .i64 ln,.int .u8 (Ju p L).flags,.bool false],.int .i64 0]):=JoL (fun h=>by unfold pkR;rw[h,HOF.out h,hU];rfl)
     clear hU hE HUP HER2 HOF
     have HCC:=JoL (Jdv bo true true S D p ln false false ob nb cb L z4 (HPI.out.2 (by first|rfl|trivial)) HR4.out (by have:=HBL.out;omega) HO4.out)
     go_wp2_with fail
     refine JoN HCC.out ?_
     rintro e z5 ⟨sp,dp,fl,⟨rfl,hbx,hbe,hot⟩,hval⟩
     have HX5:=JoL ((hot b0 HNE.out.2.symm (JoM HX4.out).1).trans HX4.out)
     have HO5:=JoL hbx
     have HB5:Hid (Below w.heap.size w z5):=JoL (HB4.out.trans (hbe.mono HLB.out))
     have hrf:Jk z5 b0 40=true:=by rw[Jd _ _ _ _ _ HX5.out];rfl
     have lo5:bo<z5.heap.size:=(JoM HO5.out).1
     clear hbx hbe hot HCC HX4 HO4 HB4 HR4 c39 c41
     by_cases h0:(Ju p L).err=0
     ·obtain⟨rfl,rfl,rfl⟩:=hval h0
      have HV2:=JoL (HV.out (HE2.out.trans h0))
      rw[h0]
      clear HV HE2 h0 hval
      generalize (Ju p L).src=sp at*
      generalize (Ju p L).dst=dp at*
      generalize (Ju p L).flags=fl at*
      have hpt:Jb z5 bo 0 40=(JoY true true p (.int .u16 sp) (.int .u16 dp) (.int .i64 ln) fl false S D:Array Value):=Qk (a:=(JoY true true p (.int .u16 sp) (.int .u16 dp) (.int .i64 ln) fl false S D)) (c:=#[.slice ob nb cb,false]) HO5.out rfl
      go_wp2_with fail
      exact Qg (cs:=(JoY true true p (.int .u16 sp) (.int .u16 dp) (.int .i64 ln) fl false S D)) b0 rfl rfl (Ja (Ji HX5.out) rfl) rfl HV2.out (HB5.out.trans (Je _ (Nat.le_of_eq HB0.out.symm)))
     ·have HV2:=JoL (X0 (l:=l) HE2.out h0)
      have hne1:((Ju p L).err != 0)=true:=by simpa using h0
      clear HV HE2 h0 hval
      generalize (Ju p L).err=er at*
      go_wp2_with fail
      exact Qg (cs:=Ja5) b0 rfl rfl (Ja (Ji HX5.out) rfl) rfl HV2.out (HB5.out.trans (Je _ (Nat.le_of_eq HB0.out.symm)))
    ·skip
     have lo3:bo<z3.heap.size:=(JoM HO3.out).1
     have c34:=cell_of_row _ _ 34 _ _ (0,0) HO3.out
     have c39:=cell_of_row _ _ 39 _ _ (0,0) HO3.out
     have c41:=cell_of_row _ _ 41 _ _ (0,0) HO3.out
     clear c39 c41
     go_wp2_with fail
     refine JoN (HIC.out _) ?_
     rintro e z4 ⟨rfl,hb4⟩
     have HX4:=JoL ((hb4.block b0 (JoM HX3.out).1).trans HX3.out)
     have HO4:=JoL ((hb4.block bo (JoM HO3.out).1).trans HO3.out)
     have HB4:=JoL (JoE HB3.out hb4)
     have HR4:=JoL (HR3.out.below hb4)
     clear hb4 c34 lo3 HX3 HO3 HB3 HR3
     have lo4:bo<z4.heap.size:=(JoM HO4.out).1
     have c39:=cell_of_row _ _ 39 _ _ (0,0) HO4.out
     have c41:=cell_of_row _ _ 41 _ _ (0,0) HO4.out
     have hU:JbQ ⟨true,S,D,p,ln,false,true,L⟩=JI p L:=by rw[HUP.out];rfl
     have hE:Qq l=(JI p L).err:=by rw[HER2.out,hU]
     have HE2:=JoL hE
     have HV:Hid (Qq l=0→pkR l=.tuple #[.agg #[.bool true,.int .u8 (S 0),.int .u8 (S 1),.int .u8 (S 2),.int .u8 (S 3),.int .u8 (S 4),.int .u8 (S 5),.int .u8 (S 6),.int .u8 (S 7),.int .u8 (S 8),.int .u8 (S 9),.int .u8 (S 10),.int .u8 (S 11),.int .u8 (S 12),.int .u8 (S 13),.int .u8 (S 14),.int .u8 (S 15),.bool true,.int .u8 (D 0),.int .u8 (D 1),.int .u8 (D 2),.int .u8 (D 3),.int .u8 (D 4),.int .u8 (D 5),.int .u8 (D 6),.int .u8 (D 7),.int .u8 (D 8),.int .u8 (D 9),.int .u8 (D 10),.int .u8 (D 11),.int .u8 (D 12),.int .u8 (D 13),.int .u8 (D 14),.int .u8 (D 15),.int .u8 p,.int .u16 (JI p L).src,.int .u16 (JI p L).dst,.int .i64 ln,.int .u8 (JI p L).flags,.bool false],.int .i64 0]):=JoL (fun h=>by unfold pkR;rw[h,HOF.out h,hU];rfl)
     clear hU hE HUP HER2 HOF
     have HCC:=JoL (Jdu bo true true S D p ln false true ob nb cb L z4 (HPI.out.2 (by first|rfl|trivial)) HR4.out (by have:=HBL.out;omega) HNE.out.1 HO4.out)
     go_wp2_with fail
     refine JoN HCC.out ?_
     rintro e z5 ⟨sp,dp,fl,⟨rfl,hbx,hbe,hot⟩,hval⟩
     have HX5:=JoL ((hot b0 HNE.out.2.symm (JoM HX4.out).1).trans HX4.out)
     have HO5:=JoL hbx
     have HB5:Hid (Below w.heap.size w z5):=JoL (HB4.out.trans (hbe.mono HLB.out))
     have hrf:Jk z5 b0 40=true:=by rw[Jd _ _ _ _ _ HX5.out];rfl
     have lo5:bo<z5.heap.size:=(JoM HO5.out).1
     clear hbx hbe hot HCC HX4 HO4 HB4 HR4 c39 c41
     by_cases h0:(JI p L).err=0
     ·obtain⟨rfl,rfl,rfl⟩:=hval h0
      have HV2:=JoL (HV.out (HE2.out.trans h0))
      rw[h0]
      clear HV HE2 h0 hval
      generalize (JI p L).src=sp at*
      generalize (JI p L).dst=dp at*
      generalize (JI p L).flags=fl at*
      have hpt:Jb z5 bo 0 40=(JoY true true p (.int .u16 sp) (.int .u16 dp) (.int .i64 ln) fl false S D:Array Value):=Qk (a:=(JoY true true p (.int .u16 sp) (.int .u16 dp) (.int .i64 ln) fl false S D)) (c:=#[.slice ob nb cb,true]) HO5.out rfl
      go_wp2_with fail
      exact Qg (cs:=(JoY true true p (.int .u16 sp) (.int .u16 dp) (.int .i64 ln) fl false S D)) b0 rfl rfl (Ja (Ji HX5.out) rfl) rfl HV2.out (HB5.out.trans (Je _ (Nat.le_of_eq HB0.out.symm)))
     ·have HV2:=JoL (X0 (l:=l) HE2.out h0)
      have hne1:((JI p L).err != 0)=true:=by simpa using h0
      clear HV HE2 h0 hval
      generalize (JI p L).err=er at*
      go_wp2_with fail
      exact Qg (cs:=Ja5) b0 rfl rfl (Ja (Ji HX5.out) rfl) rfl HV2.out (HB5.out.trans (Je _ (Nat.le_of_eq HB0.out.symm)))
   ·skip
    have lo3:bo<z3.heap.size:=(JoM HO3.out).1
    have c34:=cell_of_row _ _ 34 _ _ (0,0) HO3.out
    have c39:=cell_of_row _ _ 39 _ _ (0,0) HO3.out
    have c41:=cell_of_row _ _ 41 _ _ (0,0) HO3.out
    have hU:JbQ ⟨true,S,D,p,ln,true,mo,L⟩=⟨0,0,0,0⟩:=by rw[HUP.out];rfl
    have hE:Qq l=0:=by rw[HER2.out,hU]
    have HV:Hid (pkR l=.tuple #[.agg #[.bool true,.int .u8 (S 0),.int .u8 (S 1),.int .u8 (S 2),.int .u8 (S 3),.int .u8 (S 4),.int .u8 (S 5),.int .u8 (S 6),.int .u8 (S 7),.int .u8 (S 8),.int .u8 (S 9),.int .u8 (S 10),.int .u8 (S 11),.int .u8 (S 12),.int .u8 (S 13),.int .u8 (S 14),.int .u8 (S 15),.bool true,.int .u8 (D 0),.int .u8 (D 1),.int .u8 (D 2),.int .u8 (D 3),.int .u8 (D 4),.int .u8 (D 5),.int .u8 (D 6),.int .u8 (D 7),.int .u8 (D 8),.int .u8 (D 9),.int .u8 (D 10),.int .u8 (D 11),.int .u8 (D 12),.int .u8 (D 13),.int .u8 (D 14),.int .u8 (D 15),.int .u8 p,.int .u16 0,.int .u16 0,.int .i64 ln,.int .u8 0,.bool true],.int .i64 0]):=JoL (by unfold pkR;rw[hE,HOF.out hE,hU];rfl)
    clear hU hE HUP HER2 HOF
    clear c39 c41
    go_wp2_with fail
    refine JoN (HIC.out _) ?_
    rintro e z4 ⟨rfl,hb4⟩
    have HX4:=JoL ((hb4.block b0 (JoM HX3.out).1).trans HX3.out)
    have HO4:=JoL ((hb4.block bo (JoM HO3.out).1).trans HO3.out)
    have HB4:=JoL (JoE HB3.out hb4)
    have HR4:=JoL (HR3.out.below hb4)
    clear hb4 c34 lo3 HX3 HO3 HB3 HR3
    have lo4:bo<z4.heap.size:=(JoM HO4.out).1
    have c39:=cell_of_row _ _ 39 _ _ (0,0) HO4.out
    have c41:=cell_of_row _ _ 41 _ _ (0,0) HO4.out
    have hpt:Jb z4 bo 0 40=(Jo5 true true p (.int .i64 ln) true S D:Array Value):=Qk (a:=(Jo5 true true p (.int .i64 ln) true S D)) (c:=#[.slice ob nb cb,mo]) HO4.out rfl
    have hrf:Jk z4 b0 40=true:=by rw[Jd _ _ _ _ _ HX4.out];rfl
    go_wp2_with fail
    exact Qg (cs:=(Jo5 true true p (.int .i64 ln) true S D)) b0 rfl rfl (Ja (Ji HX4.out) rfl) rfl HV.out (HB4.out.trans (Je _ (Nat.le_of_eq HB0.out.symm)))
 ·cases fr
  ·cases mo
   ·skip
    have lo3:bo<z3.heap.size:=(JoM HO3.out).1
    have c34:=cell_of_row _ _ 34 _ _ (0,0) HO3.out
    have c39:=cell_of_row _ _ 39 _ _ (0,0) HO3.out
    have c41:=cell_of_row _ _ 41 _ _ (0,0) HO3.out
    have hU:JbQ ⟨true,S,D,p,ln,false,false,L⟩=Ju p L:=by rw[HUP.out];rfl
    have hE:Qq l=(Ju p L).err:=by rw[HER2.out,hU]
    have HE2:=JoL hE
    have HV:Hid (Qq l=0→pkR l=.tuple #[.agg #[.bool true,.int .u8 (S 0),.int .u8 (S 1),.int .u8 (S 2),.int .u8 (S 3),.int .u8 (S 4),.int .u8 (S 5),.int .u8 (S 6),.int .u8 (S 7),.int .u8 (S 8),.int .u8 (S 9),.int .u8 (S 10),.int .u8 (S 11),.int .u8 (S 12),.int .u8 (S 13),.int .u8 (S 14),.int .u8 (S 15),.bool true,.int .u8 (D 0),.int .u8 (D 1),.int .u8 (D 2),.int .u8 (D 3),.int .u8 (D 4),.int .u8 (D 5),.int .u8 (D 6),.int .u8 (D 7),.int .u8 (D 8),.int .u8 (D 9),.int .u8 (D 10),.int .u8 (D 11),.int .u8 (D 12),.int .u8 (D 13),.int .u8 (D 14),.int .u8 (D 15),.int .u8 p,.int .u16 (Ju p L).src,.int .u16 (Ju p L).dst,.int .i64 ln,.int .u8 (Ju p L).flags,.bool false],.int .i64 0]):=JoL (fun h=>by unfold pkR;rw[h,HOF.out h,hU];rfl)
    clear hU hE HUP HER2 HOF
    have HCC:=JoL (Jdv bo true true S D p ln false false ob nb cb L z3 (HPI.out.1 (by first|rfl|trivial)) HR3.out (by have:=HBL.out;omega) HO3.out)
    go_wp2_with fail
    refine JoN HCC.out ?_
    rintro e z5 ⟨sp,dp,fl,⟨rfl,hbx,hbe,hot⟩,hval⟩
    have HX5:=JoL ((hot b0 HNE.out.2.symm (JoM HX3.out).1).trans HX3.out)
    have HO5:=JoL hbx
    have HB5:Hid (Below w.heap.size w z5):=JoL (HB3.out.trans (hbe.mono HLB.out))
    have hrf:Jk z5 b0 40=true:=by rw[Jd _ _ _ _ _ HX5.out];rfl
    have lo5:bo<z5.heap.size:=(JoM HO5.out).1
    clear hbx hbe hot HCC HX3 HO3 HB3 HR3 c39 c41
    by_cases h0:(Ju p L).err=0
    ·obtain⟨rfl,rfl,rfl⟩:=hval h0
     have HV2:=JoL (HV.out (HE2.out.trans h0))
     rw[h0]
     clear HV HE2 h0 hval
     generalize (Ju p L).src=sp at*
     generalize (Ju p L).dst=dp at*
     generalize (Ju p L).flags=fl at*
     have hpt:Jb z5 bo 0 40=(JoY true true p (.int .u16 sp) (.int .u16 dp) (.int .i64 ln) fl false S D:Array Value):=Qk (a:=(JoY true true p (.int .u16 sp) (.int .u16 dp) (.int .i64 ln) fl false S D)) (c:=#[.slice ob nb cb,false]) HO5.out rfl
     go_wp2_with fail
     exact Qg (cs:=(JoY true true p (.int .u16 sp) (.int .u16 dp) (.int .i64 ln) fl false S D)) b0 rfl rfl (Ja (Ji HX5.out) rfl) rfl HV2.out (HB5.out.trans (Je _ (Nat.le_of_eq HB0.out.symm)))
    ·have HV2:=JoL (X0 (l:=l) HE2.out h0)
     have hne1:((Ju p L).err != 0)=true:=by simpa using h0
     clear HV HE2 h0 hval
     generalize (Ju p L).err=er at*
     go_wp2_with fail
     exact Qg (cs:=Ja5) b0 rfl rfl (Ja (Ji HX5.out) rfl) rfl HV2.out (HB5.out.trans (Je _ (Nat.le_of_eq HB0.out.symm)))
   ·skip
    have lo3:bo<z3.heap.size:=(JoM HO3.out).1
    have c34:=cell_of_row _ _ 34 _ _ (0,0) HO3.out
    have c39:=cell_of_row _ _ 39 _ _ (0,0) HO3.out
    have c41:=cell_of_row _ _ 41 _ _ (0,0) HO3.out
    have hU:JbQ ⟨true,S,D,p,ln,false,true,L⟩=JI p L:=by rw[HUP.out];rfl
    have hE:Qq l=(JI p L).err:=by rw[HER2.out,hU]
    have HE2:=JoL hE
    have HV:Hid (Qq l=0→pkR l=.tuple #[.agg #[.bool true,.int .u8 (S 0),.int .u8 (S 1),.int .u8 (S 2),.int .u8 (S 3),.int .u8 (S 4),.int .u8 (S 5),.int .u8 (S 6),.int .u8 (S 7),.int .u8 (S 8),.int .u8 (S 9),.int .u8 (S 10),.int .u8 (S 11),.int .u8 (S 12),.int .u8 (S 13),.int .u8 (S 14),.int .u8 (S 15),.bool true,.int .u8 (D 0),.int .u8 (D 1),.int .u8 (D 2),.int .u8 (D 3),.int .u8 (D 4),.int .u8 (D 5),.int .u8 (D 6),.int .u8 (D 7),.int .u8 (D 8),.int .u8 (D 9),.int .u8 (D 10),.int .u8 (D 11),.int .u8 (D 12),.int .u8 (D 13),.int .u8 (D 14),.int .u8 (D 15),.int .u8 p,.int .u16 (JI p L).src,.int .u16 (JI p L).dst,.int .i64 ln,.int .u8 (JI p L).flags,.bool false],.int .i64 0]):=JoL (fun h=>by unfold pkR;rw[h,HOF.out h,hU];rfl)
    clear hU hE HUP HER2 HOF
    have HCC:=JoL (Jdu bo true true S D p ln false true ob nb cb L z3 (HPI.out.1 (by first|rfl|trivial)) HR3.out (by have:=HBL.out;omega) HNE.out.1 HO3.out)
    go_wp2_with fail
    refine JoN HCC.out ?_
    rintro e z5 ⟨sp,dp,fl,⟨rfl,hbx,hbe,hot⟩,hval⟩
    have HX5:=JoL ((hot b0 HNE.out.2.symm (JoM HX3.out).1).trans HX3.out)
    have HO5:=JoL hbx
    have HB5:Hid (Below w.heap.size w z5):=JoL (HB3.out.trans (hbe.mono HLB.out))
    have hrf:Jk z5 b0 40=true:=by rw[Jd _ _ _ _ _ HX5.out];rfl
    have lo5:bo<z5.heap.size:=(JoM HO5.out).1
    clear hbx hbe hot HCC HX3 HO3 HB3 HR3 c39 c41
    by_cases h0:(JI p L).err=0
    ·obtain⟨rfl,rfl,rfl⟩:=hval h0
     have HV2:=JoL (HV.out (HE2.out.trans h0))
     rw[h0]
     clear HV HE2 h0 hval
     generalize (JI p L).src=sp at*
     generalize (JI p L).dst=dp at*
     generalize (JI p L).flags=fl at*
     have hpt:Jb z5 bo 0 40=(JoY true true p (.int .u16 sp) (.int .u16 dp) (.int .i64 ln) fl false S D:Array Value):=Qk (a:=(JoY true true p (.int .u16 sp) (.int .u16 dp) (.int .i64 ln) fl false S D)) (c:=#[.slice ob nb cb,true]) HO5.out rfl
     go_wp2_with fail
     exact Qg (cs:=(JoY true true p (.int .u16 sp) (.int .u16 dp) (.int .i64 ln) fl false S D)) b0 rfl rfl (Ja (Ji HX5.out) rfl) rfl HV2.out (HB5.out.trans (Je _ (Nat.le_of_eq HB0.out.symm)))
    ·have HV2:=JoL (X0 (l:=l) HE2.out h0)
     have hne1:((JI p L).err != 0)=true:=by simpa using h0
     clear HV HE2 h0 hval
     generalize (JI p L).err=er at*
     go_wp2_with fail
     exact Qg (cs:=Ja5) b0 rfl rfl (Ja (Ji HX5.out) rfl) rfl HV2.out (HB5.out.trans (Je _ (Nat.le_of_eq HB0.out.symm)))
  ·skip
   have lo3:bo<z3.heap.size:=(JoM HO3.out).1
   have c34:=cell_of_row _ _ 34 _ _ (0,0) HO3.out
   have c39:=cell_of_row _ _ 39 _ _ (0,0) HO3.out
   have c41:=cell_of_row _ _ 41 _ _ (0,0) HO3.out
   have hU:JbQ ⟨true,S,D,p,ln,true,mo,L⟩=⟨0,0,0,0⟩:=by rw[HUP.out];rfl
   have hE:Qq l=0:=by rw[HER2.out,hU]
   have HV:Hid (pkR l=.tuple #[.agg #[.bool true,.int .u8 (S 0),.int .u8 (S 1),.int .u8 (S 2),.int .u8 (S 3),.int .u8 (S 4),.int .u8 (S 5),.int .u8 (S 6),.int .u8 (S 7),.int .u8 (S 8),.int .u8 (S 9),.int .u8 (S 10),.int .u8 (S 11),.int .u8 (S 12),.int .u8 (S 13),.int .u8 (S 14),.int .u8 (S 15),.bool true,.int .u8 (D 0),.int .u8 (D 1),.int .u8 (D 2),.int .u8 (D 3),.int .u8 (D 4),.int .u8 (D 5),.int .u8 (D 6),.int .u8 (D 7),.int .u8 (D 8),.int .u8 (D 9),.int .u8 (D 10),.int .u8 (D 11),.int .u8 (D 12),.int .u8 (D 13),.int .u8 (D 14),.int .u8 (D 15),.int .u8 p,.int .u16 0,.int .u16 0,.int .i64 ln,.int .u8 0,.bool true],.int .i64 0]):=JoL (by unfold pkR;rw[hE,HOF.out hE,hU];rfl)
   clear hU hE HUP HER2 HOF
   have hpt:Jb z3 bo 0 40=(Jo5 true true p (.int .i64 ln) true S D:Array Value):=Qk (a:=(Jo5 true true p (.int .i64 ln) true S D)) (c:=#[.slice ob nb cb,mo]) HO3.out rfl
   have hrf:Jk z3 b0 40=true:=by rw[Jd _ _ _ _ _ HX3.out];rfl
   go_wp2_with fail
   exact Qg (cs:=(Jo5 true true p (.int .i64 ln) true S D)) b0 rfl rfl (Ja (Ji HX3.out) rfl) rfl HV.out (HB3.out.trans (Je _ (Nat.le_of_eq HB0.out.symm)))
theorem JcY (oa:Option Addr)(n cap:Nat)(l:List Int)(w:World)(hr:Jg w oa n cap l):Calls Tryz.prog 11 #[.slice oa n cap] w (Jj w (pkR l)):=by
 by_cases h1:2048<n
 ·exact Jhy oa n cap l w hr h1
 by_cases h2:n=0
 ·exact Jiz oa n cap l w hr h2
 by_cases h4:l.getD 0 0/16=4
 ·exact Jen oa n cap l w hr (by omega) (by omega) h4
 by_cases h6:l.getD 0 0/16=6
 ·exact Jj8 oa n cap l w hr (by omega) (by omega) h6
 exact Jdf oa n cap l w hr (by omega) (by omega) ⟨h4,h6⟩
open Go.RowKit
theorem JhB (l:List Int)(k:Nat)(h:k<l.length):l.drop k=l.getD k 0::l.drop (k+1):=by
 rw[List.drop_eq_getElem_cons h,List.getD_eq_getElem?_getD,List.getElem?_eq_getElem h]
 rfl
theorem Jj9 {l l2:List Int}(h:l.length≠l2.length):eqL l l2=false:=by
 cases he:eqL l l2 with
 |false=>rfl
 |true=>exact absurd (congrArg List.length ((JaE _ _).1 he)) h
theorem Jlt (A:Option Addr)(m c:Nat)(A2:Option Addr)(m2 c2:Nat)(l l2:List Int)(w:World)(hr:Jg w A m c l)(hr2:Jg w A2 m2 c2 l2)(hm:m≤1000000)(hm2:m2≤1000000):
 Calls Tryz.prog 14 #[.slice A m c,.slice A2 m2 c2] w (Jj w (.bool (eqL l l2))):=by
 by_cases he:m=m2
 rotate_left
 ·have hne:(m:Int)≠(m2:Int):=by omega
  have hb:((m:Int) != (m2:Int))=true:=by simpa using hne
  have HV:=JoL (Jj9 (l:=l) (l2:=l2) (by rw[hr.len,hr2.len];exact he))
  clear hr hr2 he
  generalize eqL l l2=V at*
  go_enter Tryz.func14,Tryz.ntmps14
  go_wp2_with fail
  go_ret
  rw[HV.out]
  exact .mk rfl (JoO _ _)
 subst he
 have HR:=JoL hr
 have HR2:=JoL hr2
 obtain⟨V,hV⟩:∃V,V=eqL l l2:=⟨_,rfl⟩
 rw[←hV]
 have HV:Hid (V=eqL (l.drop 0) (l2.drop 0)):=JoL (by rw[List.drop_zero,List.drop_zero];exact hV)
 have HL:=JoL (And.intro hr.len hr2.len)
 clear hr hr2 hV
 go_enter Tryz.func14,Tryz.ntmps14
 go_wp2_with fail
 go_loopg [5] m (fun g u5 wr=>∃k:Nat,k+g=m∧u5=.int .i64 k∧Hid (Jg wr A m c l)∧Hid (Jg wr A2 m c2 l2)∧Hid (Below w.heap.size w wr)∧Hid (V=eqL (l.drop k) (l2.drop k)))
 case atStart=>exact⟨0,by omega,rfl,HR,HR2,JoL (JoO _ _),HV⟩
 case round=>
  obtain⟨k,hk,rfl,HA,HB,HW,HE⟩:=hrel
  by_cases hlt:k<m
  ·obtain⟨g1,o1,rfl,hg1,hc1⟩:=HA.out.here (by omega)
   obtain⟨g2,o2,rfl,hg2,hc2⟩:=HB.out.here (by omega)
   have hx1:=hc1 k hlt
   have hx2:=hc2 k hlt
   have hle1:=HA.out.le
   have hle2:=HB.out.le
   have HN:Hid (V=if l.getD k 0==l2.getD k 0 then eqL (l.drop (k+1)) (l2.drop (k+1)) else false):=JoL (by
    rw[HE.out,JhB l k (by rw[HL.out.1];exact hlt),JhB l2 k (by rw[HL.out.2];exact hlt),eqL])
   clear hc1 hc2
   generalize l.getD k 0=x at*
   generalize l2.getD k 0=y at*
   cases hxy:(x==y)
   ·have HF:Hid (V=false):=JoL (by rw[HN.out,hxy];rfl)
    have hne:(x != y)=true:=by simp only[bne,hxy];rfl
    go_wp2_with fail
    go_region
    go_wp2_with fail
    go_ret
    rw[HF.out]
    exact .mk rfl HW.out.drew
   ·have HF:Hid (V=eqL (l.drop (k+1)) (l2.drop (k+1))):=JoL (by rw[HN.out,hxy];rfl)
    have hne:(x != y)=false:=by simp only[bne,hxy];rfl
    go_wp2_with fail
    go_region
    go_wp2_with fail
    go_roundg (m-(k+1))
    case measure=>omega
    case rel=>exact⟨k+1,by omega,by go_num,JoL HA.out.drew,JoL HB.out.drew,JoL HW.out.drew,HF⟩
  ·have HF:Hid (V=true):=JoL (by
    rw[HE.out,List.drop_eq_nil_of_le (by rw[HL.out.1];omega),List.drop_eq_nil_of_le (by rw[HL.out.2];omega)];rfl)
   go_wp2_with fail
   go_ret
   rw[HF.out]
   exact .mk rfl HW.out
theorem JhC (S:Nat):foldN (S+(65535-foldN S))=65535:=by
 by_cases h:0<S
 ·exact JdD S h
 ·obtain rfl:S=0:=by omega
  decide
theorem Jlu (a c:List Int)(ha:a.length%2=0)(s:Nat)(hs:s<65536):Zy true (a++be2 (s:Int)++c)=Zy true (a++be2 0++c)+s:=by
 have hn:JdC true a=true:=by rw[JbS,decide_eq_true ha];rfl
 have hs':∀s:Nat,s<65536→Zy true (a++be2 (s:Int)++c)=Zy true a+s+Zy true c:=fun s hs=>by
  rw[List.append_assoc,Xp,hn,Xp,JiG s hs,show JdC true (be2 (s:Int))=true from rfl]
  omega
 have h0:=hs' 0 (by omega)
 rw[show((0:Nat):Int)=0 from rfl] at h0
 rw[hs' s hs,h0]
 omega
theorem Jlv (a c:List Int)(ha:a.length%2=0):Q7 (a++be2 (sumOf (a++be2 0++c))++c)=true:=by
 have hle:=Z7 (a++be2 0++c)
 unfold Q7
 rw[Jlu a c ha _ (by omega)]
 have e:Zy true (a++be2 0++c)+sumOf (a++be2 0++c)=Zy true (a++be2 0++c)+(65535-foldN (Zy true (a++be2 0++c))):=by
  unfold sumOf;omega
 rw[e,JhC]
 rfl
theorem Jka (a c:List Int)(ha:a.length%2=0)(h0:sumOf (a++be2 0++c)=0):Q7 (a++be2 65535++c)=true:=by
 unfold Q7
 have:=Jlu a c ha 65535 (by omega)
 rw[show((65535:Nat):Int)=65535 from rfl] at this
 rw[this]
 have h1:foldN (Zy true (a++be2 0++c))=65535:=by
  have:=Ja8 (Zy true (a++be2 0++c))
  unfold sumOf at h0
  omega
 rw[←JdB,h1]
 rfl
theorem Ja6 (p:Int)(a c:List Int)(ha:a.length%2=0):Q7 (a++be2 (if ((sumOf (a++be2 0++c):Nat):Int)=0∧p=17 then 65535 else ((sumOf (a++be2 0++c):Nat):Int))++c)=true:=by
 by_cases h:((sumOf (a++be2 0++c):Nat):Int)=0∧p=17
 ·rw[if_pos h];exact Jka a c ha (by omega)
 ·rw[if_neg h];exact Jlv a c ha
theorem JiB (p n:Int)(src dst:List Int)(h:src.length=dst.length):(JR p n src dst).length%2=0:=by
 unfold JR
 split
 ·rfl
 ·split
  ·simp only[List.length_append,be2,List.length_cons,List.length_nil];omega
  ·simp only[List.length_append,be2,List.length_cons,List.length_nil];omega
theorem Jkb (p a b f:Int)(d src dst:List Int)(hp:Zo p≠0)(h:src.length=dst.length):Q7 (JR p (Zo p+d.length:Nat) src dst++Xw p a b f d src dst)=true:=by
 have hps:=JiB p (Zo p+d.length:Nat) src dst h
 unfold Xw JnA
 simp only
 generalize JR p (Zo p+d.length:Nat) src dst=q at*
 generalize ((Zo p+d.length:Nat):Int)=n at*
 unfold Jq
 by_cases h6:p=6
 ·simp only[if_pos h6]
  have e:∀c:Int,q++(be2 a++be2 b++[0,0,0,0,0,0,0,0,80,f,0,0]++be2 c++[0,0]++d)=(q++(be2 a++be2 b++[0,0,0,0,0,0,0,0,80,f,0,0]))++be2 c++([0,0]++d):=fun c=>by simp only[List.append_assoc]
  rw[e,e]
  exact Ja6 p _ _ (by simp only[List.length_append,be2,List.length_cons,List.length_nil];omega)
 simp only[if_neg h6]
 by_cases h17:p=17
 ·simp only[if_pos h17]
  have e:∀c:Int,q++(be2 a++be2 b++be2 n++be2 c++d)=(q++(be2 a++be2 b++be2 n))++be2 c++d:=fun c=>by simp only[List.append_assoc]
  rw[e,e]
  have:=Ja6 p (q++(be2 a++be2 b++be2 n)) d (by simp only[List.length_append,be2,List.length_cons,List.length_nil];omega)
  simpa only[h17,and_true] using this
 ·simp only[if_neg h17]
  have e:∀c:Int,q++([a,b]++be2 c++d)=(q++[a,b])++be2 c++d:=fun c=>by simp only[List.append_assoc]
  rw[e,e]
  have:=Ja6 p (q++[a,b]) d (by simp only[List.length_append,List.length_cons,List.length_nil];omega)
  simpa only[h17,and_false] using this
theorem Jmv (h s:Int)(f g r:Value)(sg:Seg)(oO:Option Addr)(cO:Nat)(oD:Option Addr)(cD:Nat)(w:World)(hh:0≤h∧h<100)(ho:sg.opt.length≤1000)(hn:sg.data.length≤1000000):
 Calls Tryz.prog 138 #[.agg #[.int .i64 h,.int .i64 s,f,g,r],.agg (XQ sg oO cO oD cD)] w (Jj w (.int .i64 (h+sg.opt.length+sg.data.length))):=by
 unfold XQ
 generalize sg.opt.length=i at*
 generalize sg.data.length=n at*
 have hw1:IntKind.i64.wrap (h+(i:Int))=h+i:=by rw[IntKind.wrap_i64];omega
 have hw2:IntKind.i64.wrap (h+(i:Int)+(n:Int))=h+i+n:=by rw[IntKind.wrap_i64];omega
 go_enter Tryz.func138,Tryz.ntmps138
 go_wp2_with fail
 go_ret
 exact .mk (by simp) (Below.all (Below.all (JoO _ _) _) _)
theorem Jgi (p hd sm:Int)(F G RD:FuncId)(sg:Seg)(oa:Option Addr)(n cap:Nat)(l:List Int)(o1 o2:Option Addr)(k c1 c2:Nat)(src dst PL:List Int)(w:World)
 (hr:Jg w oa n cap l)(h1:Jg w o1 k c1 src)(h2:Jg w o2 k c2 dst)(h0:0<n)(hn:n≤60000)(hk:k=4∨k=16)
 (hT:∀w',Jg w' oa n cap l→Calls Tryz.prog 77 #[p,.slice oa n cap] w' (XO w' (XQ sg) 0))
 (hLK:∀r w',w'.heap[r]? =some (.map JU 4)→(Instr.lookup 224 (.map (some r)) (.int .u8 p) false).run Tryz.prog w'=.ok (.agg #[.int .i64 hd,.int .i64 sm,.func (.func F) #[] #[],.func (.func G) #[] #[],.func (.func RD) #[] #[]]) w')
 (hhd:0≤hd∧hd<100)(hop:sg.opt.length≤1000)(hda:sg.data.length≤60000)(hsum:hd+sg.opt.length+sg.data.length=(n:Int))
 (hPS:∀w',Jg w' o1 k c1 src→Jg w' o2 k c2 dst→Calls Tryz.prog 139 #[p,.int .i64 n,.slice o1 k c1,.slice o2 k c2] w' (XX w' PL))
 (hPb:Jp PL)(hPl:PL.length≤100)
 (hW:Q7 (PL++l)=true)(h8:p=17→8≤n):
 Calls Tryz.prog 78 #[p,.slice oa n cap,.slice o1 k c1,.slice o2 k c2] w (Jj w (.bool true)):=by
 have HR:=JoL hr
 have H1:=JoL h1
 have H2:=JoL h2
 have HT:=JoL hT
 have HLK:=JoL hLK
 have HPS:=JoL hPS
 have HPB:=JoL hPb
 have HPL:=JoL hPl
 have HW:=JoL hW
 have H8:=JoL h8
 have HLN:Hid (∀oO cO oD cD w',Calls Tryz.prog 138 #[.agg #[.int .i64 hd,.int .i64 sm,.func (.func F) #[] #[],.func (.func G) #[] #[],.func (.func RD) #[] #[]],.agg (XQ sg oO cO oD cD)] w' (Jj w' (.int .i64 n))):=JoL fun oO cO oD cD w'=>by
  rw[←hsum];exact Jmv hd sm _ _ _ sg oO cO oD cD w' hhd hop (by omega)
 clear hr h1 h2 hT hLK hhd hop hda hsum hPS hPb hPl hW h8
 have BX0:=JoL (Bx.start w)
 have HK:=JoL hk
 have HN:=JoL hn
 clear hk
 unfold XQ at HLN HT
 go_enter Tryz.func78,Tryz.ntmps78
 go_wp2_with fail
 refine JoN (HT.out _ HR.out) ?_
 rintro e u1 ⟨⟨oO,cO,oD,cD,rfl⟩,hb⟩
 have BX1:=JoL ((BX0.out.go hb).box (Jo6 (.int .u8 sg.proto) (.int .u16 sg.src) (.int .u16 sg.dst) (.int .u32 sg.seq) (.int .u32 sg.ack) (.int .u8 sg.flags) (.int .u16 sg.win) (.int .u16 sg.urg) (.slice oO sg.opt.length cO) (.int .u8 sg.type) (.int .u8 sg.code) (.slice oD sg.data.length cD)) 149)
 clear hb BX0 HT
 have HL4:=JoL (HLN.out oO cO oD cD)
 clear HLN
 obtain⟨b9,hb9⟩:∃b,b=u1.heap.size:=⟨_,rfl⟩
 go_wp2_with fail
 rw[←hb9] at BX1⊢
 clear hb9
 generalize u1.alloc _=y1 at*
 have hcut:∀w,(Instr.slice 22 (.slice oa n cap) none (some (.int .i64 (n:Int))) none).run Tryz.prog w=.ok (.slice oa n cap) w:=fun w=>Jdz 22 oa n cap 1 elemBytes sizeBytes n (n:Int) rfl HR.out.le w
 have hlt:b9<y1.heap.size:=BX1.out.lt 0 rfl
 have q9:Jb y1 b9 0 12=(Jo6 (.int .u8 sg.proto) (.int .u16 sg.src) (.int .u16 sg.dst) (.int .u32 sg.seq) (.int .u32 sg.ack) (.int .u8 sg.flags) (.int .u16 sg.win) (.int .u16 sg.urg) (.slice oO sg.opt.length cO) (.int .u8 sg.type) (.int .u8 sg.code) (.slice oD sg.data.length cD):Array Value):=BX1.out.part 0 rfl rfl
 refine ZJ [.h,.w,.h,.w,.h] [(0,3,0),(2,1,0),(4,2,0)] (fun _ w'=>Jb w' b9 0 12=(Jo6 (.int .u8 sg.proto) (.int .u16 sg.src) (.int .u16 sg.dst) (.int .u32 sg.seq) (.int .u32 sg.ack) (.int .u8 sg.flags) (.int .u16 sg.win) (.int .u16 sg.urg) (.slice oO sg.opt.length cO) (.int .u8 sg.type) (.int .u8 sg.code) (.slice oD sg.data.length cD):Array Value)) [3] [(.w,1),(.w,3),(.w,5),(.w,6),(.q,7)] (by kernel_rfl) (by kernel_rfl) (by kernel_rfl) (by kernel_rfl) ?_
 apply Exists.intro
 refine⟨fun wx hbx=>?_,?_,?_⟩
 ·have BXx:=BX1.out.go hbx
  have p9:Jb wx b9 0 12=_:=BXx.part 0 rfl rfl
  have l9:=BXx.lt 0 rfl
  clear BXx hbx
  simp only[Jx]
  repeat go_big_quiet_step (fail)
  exact wpQuiet_nil rfl
 ·intro q hq' oi hoi
  simp only[List.mem_cons,List.not_mem_nil,or_false] at hq'
  rcases hq' with rfl|rfl|rfl
  ·cases hoi;exact⟨_,rfl,rfl,fun w2 hw=>by kernel_rfl⟩
  ·cases hoi;exact⟨_,rfl,rfl,fun w2 hw=>by kernel_rfl⟩
  ·cases hoi;exact⟨_,rfl,rfl,fun w2 hw=>by simp[execOp,go_sem,hw]⟩
 simp only[J2,List.getElem?_cons_succ,List.getElem?_cons_zero]
 refine⟨fun v fl w2=>∃r,v=.map (some r)∧Below y1.heap.size y1 w2∧w2.heap[r]? =some (.map JU 4),?_,?_,?_⟩
 ·refine⟨rfl,fun w' hw'=>.inr ⟨136,#[],by kernel_rfl,?_⟩⟩
  obtain⟨⟨x,rfl⟩,-⟩:=hw'
  refine(J5 x.world).mono ?_
  rintro e w2 ⟨r,rfl,hr1,hr2,hb2⟩
  exact⟨_,rfl,r,rfl,JoE x.below hb2,hr2⟩
 ·rintro v fl g-w2 ⟨r,-,hb,-⟩
  exact(JL hb _ 0 12 hlt).trans q9
 rintro v ⟨w20,r,rfl,-⟩
 refine⟨fun v fl w2=>v=.agg #[.int .i64 hd,.int .i64 sm,.func (.func F) #[] #[],.func (.func G) #[] #[],.func (.func RD) #[] #[]]∧Below y1.heap.size y1 w2,?_,?_,?_⟩
 ·refine JA.made rfl ?_
  rintro w' ⟨r',hr',hb,hm⟩
  cases hr'
  exact⟨.agg #[.int .i64 hd,.int .i64 sm,.func (.func F) #[] #[],.func (.func G) #[] #[],.func (.func RD) #[] #[]],w',QE _ _ (vm:=.map (some r)) (vx:=.int .u8 p) (by kernel_rfl) (by kernel_rfl) (HLK.out r w' hm),rfl,hb⟩
 ·rintro v fl g-w2 ⟨-,hb⟩
  exact(JL hb _ 0 12 hlt).trans q9
 rintro v ⟨w21,rfl,-⟩
 refine⟨fun v fl w2=>v=.int .i64 n∧Below y1.heap.size y1 w2,?_,?_,?_⟩
 ·refine⟨rfl,fun w' hw'=>.inr ⟨138,#[.agg #[.int .i64 hd,.int .i64 sm,.func (.func F) #[] #[],.func (.func G) #[] #[],.func (.func RD) #[] #[]],.agg #[.int .u8 sg.proto,.int .u16 sg.src,.int .u16 sg.dst,.int .u32 sg.seq,.int .u32 sg.ack,.int .u8 sg.flags,.int .u16 sg.win,.int .u16 sg.urg,.slice oO sg.opt.length cO,.int .u8 sg.type,.int .u8 sg.code,.slice oD sg.data.length cD]],by kernel_rfl,?_⟩⟩
  obtain⟨-,hb1⟩:=hw'
  refine(HL4.out w').mono ?_
  rintro e w2 ⟨rfl,hb⟩
  exact⟨_,rfl,rfl,JoE hb1 hb⟩
 ·rintro v fl g-w2 ⟨-,hb⟩
  exact(JL hb _ 0 12 hlt).trans q9
 rintro v ⟨w22,rfl,-⟩
 refine⟨fun v fl w2=>v=.slice oa n cap∧Below y1.heap.size y1 w2,?_,fun _ _=>Jz rfl,?_⟩
 ·refine JA.made rfl ?_
  rintro w' ⟨-,hb⟩
  exact⟨.slice oa n cap,w',by simp[execOp,go_sem,hcut],rfl,hb⟩
 rintro v ⟨w23,rfl,-⟩
 refine⟨.slice oa n cap,⟨rfl,fun _=>by kernel_rfl⟩,?_⟩
 rintro y2 ⟨-,hb2⟩
 have BX3:=JoL (BX1.out.go hb2)
 clear hb2 BX1 HLK hcut hlt q9 w20 w21 w22 w23 HL4
 simp only[Act.put,List.setIfInBounds_toArray,List.set_cons_succ,List.set_cons_zero]
 go_wp2_with fail
 have HB3:=JoL (Bx.out BX3.out)
 refine JoN (HPS.out _ (H1.out.below HB3.out) (H2.out.below HB3.out)) ?_
 rintro e y3 ⟨oP,cP,rfl,hoP,hb3⟩
 have BX4:=JoL (BX3.out.go hb3)
 have HRP:=JoL (hoP.reads HPB.out)
 have HAP:Hid (∀a,oP=some a→a.block<y3.heap.size):=JoL (fun a ha=>(hoP.lt ha).2)
 clear hoP hb3 HB3 BX3 HPS
 have HB4:=JoL (Bx.out BX4.out)
 have HRL:=JoL (HR.out.below HB4.out)
 obtain⟨g,off,rfl,hgl,hcs⟩:=HRL.out.here (by omega)
 have HRU:=JoL (Jbm 22 HRP.out HRL.out (by have:=HPL.out;omega) (by have:=HN.out;omega) HAP.out (fun a ha=>by cases ha;exact hgl))
 have HCS:=JoL hcs
 clear hcs
 have HWH:Hid (Calls Tryz.prog 106 #[.slice (some ⟨y3.heap.size,0,none⟩) 2 2] (y3.alloc (.cells #[.slice oP PL.length cP,.slice (some ⟨g,off,none⟩) n cap] 22)) (Jj (y3.alloc (.cells #[.slice oP PL.length cP,.slice (some ⟨g,off,none⟩) n cap] 22)) (.bool true))):=JoL (by
  have h:=Jhc y3.heap.size 2 2 _ _ HRU.out (by decide)
  rw[show[PL,l].flatten=PL++l by simp,HW.out] at h
  exact h)
 clear HRU HAP HRP
 by_cases h17:p=17
 ·subst h17
  have h8:=H8.out rfl
  have c6:y3.cell? ⟨g,off+6,none⟩=some (.int .u8 (l.getD 6 0)):=HCS.out 6 (by omega)
  have c7:y3.cell? ⟨g,off+7,none⟩=some (.int .u8 (l.getD 7 0)):=HCS.out 7 (by omega)
  generalize l.getD 6 0=v6 at*
  generalize l.getD 7 0=v7 at*
  rcases HK.out with rfl|rfl
  ·cases e6:(v6==0)
   ·go_wp2_with fail
    refine JoN HWH.out ?_
    rintro e y4 ⟨rfl,hb4⟩
    have HB5:=JoL (JoE HB4.out (JoE (Below.all (JoO _ _) _) hb4))
    clear hb4
    go_wp2_with fail
    go_ret
    exact .mk rfl HB5.out
   ·cases e7:(v7==0)
    ·go_wp2_with fail
     refine JoN HWH.out ?_
     rintro e y4 ⟨rfl,hb4⟩
     have HB5:=JoL (JoE HB4.out (JoE (Below.all (JoO _ _) _) hb4))
     clear hb4
     go_wp2_with fail
     go_ret
     exact .mk rfl HB5.out
    ·go_wp2_with fail
     go_ret
     exact .mk rfl HB4.out
  ·go_wp2_with fail
   refine JoN HWH.out ?_
   rintro e y4 ⟨rfl,hb4⟩
   have HB5:=JoL (JoE HB4.out (JoE (Below.all (JoO _ _) _) hb4))
   clear hb4
   go_wp2_with fail
   go_ret
   exact .mk rfl HB5.out
 ·have e17:(p==17)=false:=by simpa using h17
  clear h17
  go_wp2_with fail
  refine JoN HWH.out ?_
  rintro e y4 ⟨rfl,hb4⟩
  have HB5:=JoL (JoE HB4.out (JoE (Below.all (JoO _ _) _) hb4))
  clear hb4
  go_wp2_with fail
  go_ret
  exact .mk rfl HB5.out
theorem JhD (p a b f:Int)(hp:p=6∨p=17∨p=1∨p=58)(ha:0≤a∧a<65536)(hb:0≤b∧b<65536)(d src dst:List Int)(hd:d.length≤2048)(oa:Option Addr)(n cap:Nat)(o1 o2:Option Addr)(k c1 c2:Nat)(w:World)
 (hr:Jg w oa n cap (Xw p a b f d src dst))(h1:Jg w o1 k c1 src)(h2:Jg w o2 k c2 dst)(hk:k=4∨k=16):
 Calls Tryz.prog 78 #[p,.slice oa n cap,.slice o1 k c1,.slice o2 k c2] w (Jj w (.bool true)):=by
 have hn:=hr.len
 have hsd:src.length=dst.length:=h1.len.trans h2.len.symm
 have hk0:src.length=4∨src.length=16:=by rw[h1.len];exact hk
 have hPS:0≤p∧p<256→(n:Int)<65536→∀w',Jg w' o1 k c1 src→Jg w' o2 k c2 dst→Calls Tryz.prog 139 #[p,.int .i64 n,.slice o1 k c1,.slice o2 k c2] w' (XX w' (JR p n src dst)):=fun hpp hnn w' g1 g2=>by
  rcases hk with rfl|rfl
  ·exact Jan p n o1 o2 c1 c2 src dst w' g1 g2 hpp ⟨by omega,hnn⟩
  ·exact Jbn p n o1 o2 c1 c2 src dst w' g1 g2 hpp ⟨by omega,hnn⟩
 have hPb:0≤p∧p<256→Jp (JR p n src dst):=fun hpp=>ZI _ _ _ _ h1.byte h2.byte hpp
 have hPl:(JR p n src dst).length≤100:=by
  unfold JR
  split
  ·simp
  ·split<;>simp[be2]<;>omega
 have hW:Zo p≠0→n=Zo p+d.length→Q7 (JR p n src dst++Xw p a b f d src dst)=true:=fun h e=>by
  rw[e];exact Jkb p a b f d src dst h hsd
 have hT:∀sg,ZC p (Xw p a b f d src dst)=0→Jcw p (Xw p a b f d src dst)=sg→n≤100000→∀w',Jg w' oa n cap (Xw p a b f d src dst)→Calls Tryz.prog 77 #[p,.slice oa n cap] w' (XO w' (XQ sg) 0):=fun sg e0 e1 hle w' g=>by
  have h:=Jbp p hp oa n cap _ w' g hle
  unfold Qf at h
  rw[e0,if_pos rfl,e1] at h
  exact h
 rcases hp with rfl|rfl|hp
 ·obtain⟨e0,e1,-,-⟩:=Jle a b f ha hb d src dst hd
  have hN:(Jcw 6 (Xw 6 a b f d src dst)).opt.length=0:=by
   have h20:Jkc (Xw 6 a b f d src dst)=20:=by obtain⟨c,hl⟩:=Ji8 a b f d src dst;rw[hl];rfl
   unfold Jcw
   rw[if_pos rfl,h20]
   simp
  have hn6:n=20+d.length:=by rw[←hn];obtain⟨c,hl⟩:=Ji8 a b f d src dst;rw[hl];simp only[List.length_cons];omega
  refine Jgi 6 20 16 184 185 186 _ oa n cap _ o1 o2 k c1 c2 src dst _ w hr h1 h2 (by omega) (by omega) hk (hT _ e0 rfl (by omega)) (fun r w' h=>?_) (by omega) (by omega) (by rw[e1];omega) (by rw[e1,hN];omega) (hPS (by omega) (by omega)) (hPb (by omega)) hPl (hW (by decide) hn6) (fun h=>by cases h)
  exact J4 (P:=Tryz.prog) 224 5 222 r 4 JU .u8 6 Jcf false w' Tryz.underlying224 Tryz.underlying5 h (some (0,Jdo)) rfl XA
 ·obtain⟨e0,e1,-,-⟩:=Jlf a b f ha hb d src dst hd
  have hN:(Jcw 17 (Xw 17 a b f d src dst)).opt.length=0:=by
   unfold Jcw
   rw[if_neg (by decide),if_pos rfl]
   rfl
  have hn6:n=8+d.length:=by rw[←hn];obtain⟨c,hl⟩:=Jld a b f d src dst;rw[hl];simp only[List.length_cons];omega
  refine Jgi 17 8 6 187 188 189 _ oa n cap _ o1 o2 k c1 c2 src dst _ w hr h1 h2 (by omega) (by omega) hk (hT _ e0 rfl (by omega)) (fun r w' h=>?_) (by omega) (by omega) (by rw[e1];omega) (by rw[e1,hN];omega) (hPS (by omega) (by omega)) (hPb (by omega)) hPl (hW (by decide) hn6) (fun _=>by omega)
  exact J4 (P:=Tryz.prog) 224 5 222 r 4 JU .u8 17 Jcf false w' Tryz.underlying224 Tryz.underlying5 h (some (1,Jdp)) rfl XA
 ·obtain⟨e0,e1,-,-⟩:=Jiv p a b f hp d src dst hd
  have hN:(Jcw p (Xw p a b f d src dst)).opt.length=0:=by
   unfold Jcw
   rw[if_neg (by omega),if_neg (by omega)]
   rfl
  have hn6:n=4+d.length:=by rw[←hn];obtain⟨c,hl⟩:=Jiu p a b f hp d src dst;rw[hl];simp only[List.length_cons];omega
  have hh:Zo p=4:=by rcases hp with rfl|rfl<;>rfl
  refine Jgi p 4 2 181 182 183 _ oa n cap _ o1 o2 k c1 c2 src dst _ w hr h1 h2 (by omega) (by omega) hk (hT _ e0 rfl (by omega)) (fun r w' h=>?_) (by omega) (by omega) (by rw[e1];omega) (by rw[e1,hN];omega) (hPS (by omega) (by omega)) (hPb (by omega)) hPl (hW (by rw[hh];decide) (by rw[hh];exact hn6)) (fun h=>by omega)
  rcases hp with rfl|rfl
  ·exact J4 (P:=Tryz.prog) 224 5 222 r 4 JU .u8 1 Jcf false w' Tryz.underlying224 Tryz.underlying5 h (some (2,Xl)) rfl XA
  ·exact J4 (P:=Tryz.prog) 224 5 222 r 4 JU .u8 58 Jcf false w' Tryz.underlying224 Tryz.underlying5 h (some (3,Xl)) rfl XA
open Go.RowKit
theorem Bx.set {W w:World}{fs:List (Nat×Obj)}{b:Nat}{old:Array Value}{t:TypeId}(h:Bx W w ((b,.cells old t (0,0))::fs))(cs:Array Value)(hb:W.heap.size≤b)(hne:∀p∈fs,p.1≠b):Bx W (w.setRow b cs) ((b,.cells cs t (0,0))::fs):=by
 refine⟨fun c o hm=>?_,below_setRow h.out hb _⟩
 rcases List.mem_cons.1 hm with e|hm
 ·cases e;exact Ji (h.at 0 rfl)
 ·exact(setRow_other _ _ _ _ (hne _ hm)).trans (h.all c o (List.mem_cons_of_mem _ hm))
theorem Bx.lts {W w:World}{fs:List (Nat×Obj)}(h:Bx W w fs):∀p∈fs,p.1<w.heap.size:=fun p hp=>(JoM (h.all p.1 p.2 hp)).1
theorem Bx.grown {W w w' z:World}{fs:List (Nat×Obj)}{oa:Option Addr}(h:Bx W w fs)(hz:Bx W z fs)(hg:w.grownBy w' (oa.map Addr.block))(hn:∀a,oa=some a→z.heap.size≤a.block):Bx W w' fs:=by
 refine⟨fun b o hm=>?_,Below.grown h.out hg h.out.size (fun k hk=>?_)⟩
 ·refine(hg.block b (JoM (h.all b o hm)).1 (fun e=>?_)).trans (h.all b o hm)
  obtain⟨a,ha,hab⟩:=Option.map_eq_some_iff.1 e.symm
  have h1:=hn a ha
  have h2:b<z.heap.size:=hz.lts _ hm
  omega
 ·obtain⟨a,ha,hab⟩:=Option.map_eq_some_iff.1 hk
  have h1:=hn a ha
  have h2:=hz.out.size
  omega
theorem Jlw {s:Sp}(ho:Jey s)(he:QI s=0)(hs:s.k.s=false):JE (spL s)=0∧Xc (spL s)=Jo s:=by
 have hy:=XD he
 have hl:=hy.len
 rw[List.length_append,Xs,if_neg (by rw[hs];decide)] at hl
 obtain⟨-,-,-,h4,h5⟩:=Ji7 (20+((Jo s).length:Int)) 0 s.k.p false (Jc false s.k.S) (Jc false s.k.T) (Jo s) [] (Jm _ _) (Jm _ _) rfl (by omega) (by omega) (spL s) (by rw[hy.is,Jds hs,List.append_nil])
 refine⟨h4,?_⟩
 unfold Xc
 rw[if_pos h4]
 exact congrArg JcE.body h5
theorem JmN {s:Sp}(ho:Jey s)(he:QI s=0)(hs:s.k.s=true):JO (spL s)=0∧XP (spL s)=[]∧XU (spL s)=s.k.p∧XV (spL s)=Jo s∧(spL s).getD 7 0=64:=by
 have hy:=XD he
 have hl:=hy.len
 rw[List.length_append,Xs,if_pos hs] at hl
 obtain⟨-,-,h3,h4,h5⟩:=Jlc s.k.p (Jc true s.k.S) (Jc true s.k.T) (Jo s) [] (Jm _ _) (Jm _ _) (by omega) (hy.chain hs) (spL s) (by rw[hy.is,Jcp hs,List.append_nil])
 obtain⟨-,-,-,-,h7,-⟩:=Jlb ((Jo s).length:Nat) s.k.p (Jc true s.k.S) (Jc true s.k.T) (Jo s) (Jm _ _) (Jm _ _) (by omega) (spL s) (by rw[hy.is,Jcp hs])
 refine⟨h3,?_,?_,congrArg JcE.body h5,h7⟩
 ·unfold XP;rw[h4]
 ·unfold XU;rw[h4]
theorem Jlx {s:Sp}(ho:Jey s)(he:QI s=0)(hp:s.k.p=6∨s.k.p=17∨s.k.p=1∨s.k.p=58):
 ∃a b:Int,(0≤a∧a<65536)∧(0≤b∧b<65536)∧Jo s=Xw s.k.p a b (if s.k.p=6 then s.f else 0) (JP s.n.toNat) (Jc s.k.s s.k.S) (Jc s.k.t s.k.T)∧ZC s.k.p (Jo s)=0∧(Jcw s.k.p (Jo s)).data.length=s.n.toNat∧(Jcw s.k.p (Jo s)).flags=s.f:=by
 have hy:=XD he
 have hz:=Jco s
 have h1:=hy.n1
 have hk:=ho.k
 rcases hp with h|h|h
 ·have e:Jo s=Xw s.k.p s.k.a s.k.b (if s.k.p=6 then s.f else 0) (JP s.n.toNat) (Jc s.k.s s.k.S) (Jc s.k.t s.k.T):=by
   unfold Jo
   simp only[h,show JS 6=true from rfl,if_true]
  obtain⟨x1,x2,x3,-⟩:=Jle s.k.a s.k.b s.f hk.a hk.b (JP s.n.toNat) (Jc s.k.s s.k.S) (Jc s.k.t s.k.T) (by omega)
  have e':Jo s=Xw 6 s.k.a s.k.b s.f (JP s.n.toNat) (Jc s.k.s s.k.S) (Jc s.k.t s.k.T):=by rw[e,h,if_pos rfl]
  refine⟨s.k.a,s.k.b,hk.a,hk.b,e,?_,?_,?_⟩
  ·rw[h,e'];exact x1
  ·rw[h,e',x2,hz]
  ·rw[h,e',x3]
 ·have e:Jo s=Xw s.k.p s.k.a s.k.b (if s.k.p=6 then s.f else 0) (JP s.n.toNat) (Jc s.k.s s.k.S) (Jc s.k.t s.k.T):=by
   have hf:=hy.flags (by omega)
   unfold Jo
   simp only[h,hf,show JS 17=true from rfl,if_true]
   rfl
  obtain⟨x1,x2,x3,-⟩:=Jlf s.k.a s.k.b 0 hk.a hk.b (JP s.n.toNat) (Jc s.k.s s.k.S) (Jc s.k.t s.k.T) (by omega)
  have e':Jo s=Xw 17 s.k.a s.k.b 0 (JP s.n.toNat) (Jc s.k.s s.k.S) (Jc s.k.t s.k.T):=by rw[e,h,if_neg (by decide)]
  refine⟨s.k.a,s.k.b,hk.a,hk.b,e,?_,?_,?_⟩
  ·rw[h,e'];exact x1
  ·rw[h,e',x2,hz]
  ·rw[h,e',x3,hy.flags (by omega)]
 ·have e:Jo s=Xw s.k.p (s.k.b/256) (s.k.b%256) (if s.k.p=6 then s.f else 0) (JP s.n.toNat) (Jc s.k.s s.k.S) (Jc s.k.t s.k.T):=by
   unfold Jo
   rcases h with h|h<;>simp only[h,show JS 1=false from rfl,show JS 58=false from rfl,show JY 1=true from rfl,show JY 58=true from rfl,Bool.false_eq_true,if_false,if_true]<;>rfl
  have hb:=hk.b
  have h6:¬s.k.p=6:=by omega
  obtain⟨x1,x2,x3,-⟩:=Jiv s.k.p (s.k.b/256) (s.k.b%256) 0 h (JP s.n.toNat) (Jc s.k.s s.k.S) (Jc s.k.t s.k.T) (by omega)
  have e':Jo s=Xw s.k.p (s.k.b/256) (s.k.b%256) 0 (JP s.n.toNat) (Jc s.k.s s.k.S) (Jc s.k.t s.k.T):=by rw[e,if_neg h6]
  refine⟨s.k.b/256,s.k.b%256,by omega,by omega,e,?_,?_,?_⟩
  ·rw[e'];exact x1
  ·rw[e',x2,hz]
  ·rw[e',x3,hy.flags h6]
theorem JiC {s:Sp}(he:QI s=0)(hp:¬(s.k.p=6∨s.k.p=17∨s.k.p=1∨s.k.p=58)):(Jo s).length=s.n.toNat:=by
 have h1:JS s.k.p=false:=by unfold JS;simp;omega
 have h2:JY s.k.p=false:=by unfold JY;simp;omega
 unfold Jo
 simp only[h1,h2,Bool.false_eq_true,if_false]
 exact Jco s
theorem Jjc {s:Sp}(ho:Jey s)(he:QI s=0):s.n.toNat≤(Jo s).length∧(Jo s).length≤2068:=by
 have hy:=XD he
 have h1:=hy.n1
 have hb:=JcW s
 refine⟨?_,by omega⟩
 by_cases hp:s.k.p=6∨s.k.p=17∨s.k.p=1∨s.k.p=58
 ·obtain⟨a,b,-,-,e,-⟩:=Jlx ho he hp
  rw[e]
  have hz:=Jco s
  rcases hp with h|h|h
  ·rw[h];obtain⟨c,hl⟩:=Ji8 a b (if (6:Int)=6 then s.f else 0) (JP s.n.toNat) (Jc s.k.s s.k.S) (Jc s.k.t s.k.T);rw[hl];simp only[List.length_cons];omega
  ·rw[h];obtain⟨c,hl⟩:=Jld a b (if (17:Int)=6 then s.f else 0) (JP s.n.toNat) (Jc s.k.s s.k.S) (Jc s.k.t s.k.T);rw[hl];simp only[List.length_cons];omega
  ·obtain⟨c,hl⟩:=Jiu s.k.p a b (if s.k.p=6 then s.f else 0) h (JP s.n.toNat) (Jc s.k.s s.k.S) (Jc s.k.t s.k.T);rw[hl];simp only[List.length_cons];omega
 ·rw[JiC he hp];exact JoQ _
end
end Go.Proofs.YtkgjbipfhhjlpaaGreatDoor
