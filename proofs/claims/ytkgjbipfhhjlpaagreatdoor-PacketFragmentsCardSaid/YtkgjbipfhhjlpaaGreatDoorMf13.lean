import Derived.Test.YtkgjbipfhhjlpaaGreatDoorMf12
set_option linter.unusedVariables false
set_option linter.unusedSimpArgs false
set_option maxRecDepth 100000
set_option maxHeartbeats 32000000
namespace Go.Proofs.YtkgjbipfhhjlpaaGreatDoor
section
open Go.RowKit Bits
def JaE (w:World)(n:Nat)(c:Jkj):Ending→World→Prop:=fun e w'=>match c with
 | .err er=>e=.returned (.tuple #[.agg #[.slice none 0 0,.int .u8 0],.int .i64 0,.int .i64 er])∧er≠0∧Below w.heap.size w w'
 | .done xs p i=>(∃oe ce es,e=.returned (.tuple #[.agg #[.slice oe xs.length ce,.int .u8 p],.int .i64 (i:Int),.int .i64 0])∧JS w' w.heap.size oe ce xs es)∧Below w.heap.size w w'∧Jh5 xs∧(JP p=false∨Qe xs=true)∧(0≤p∧p<256)∧i≤n
theorem JaE.mk_err {w w':World}{n:Nat}{c:Jkj}{er:Int}(h:c=.err er)(h0:er≠0)(hb:Below w.heap.size w w'):JaE w n c (.returned (.tuple #[.agg #[.slice none 0 0,.int .u8 0],.int .i64 0,.int .i64 er])) w':=by
 subst h;exact⟨rfl,h0,hb⟩
theorem Jin {f:Nat}{xs:Zq}{p:Int}{i:Nat}{l:List Int}(hb:JP p=true):ZE (f+1) xs p i l=match QY xs p (l.drop i) with
 | .err e=>.err e
 | .ok k d next n=>if X0 k d then .done (xs++[(k,d)]) next (i+n) else ZE f (xs++[(k,d)]) next (i+n) l:=by
 rw[ZE,if_pos hb]
 rfl
theorem Jio {f:Nat}{xs:Zq}{p:Int}{i:Nat}{l:List Int}(hb:JP p=false):ZE f xs p i l=.done xs p i:=by
 cases f with
 |zero=>rfl
 |succ f=>rw[ZE,hb];rfl
theorem Jej:(Tryz.prog.info? 96).map (·.size)=some 2:=by kernel_rfl
theorem Jcl {R:Ending→World→Prop}{w':World}{tmps cs:Array Value}{iv ev:Value}{t:TypeId}(b:Nat)(hp:tmps.getD 4 undef=.pointer (some ⟨b,0,none⟩))(h5:tmps.getD 5 undef=iv)(h6:tmps.getD 6 undef=ev)(hbx:w'.heap[b]? =some (.cells cs t (0,0)))(hs:cs.size=2)(hR:R (.returned (.tuple #[.agg cs,iv,ev])) w'):
 bodyPost Tryz.prog Tryz.f115 R .ret { tmps:=tmps,defers:=[] } w':=
 bodyPost_ret (v:=.tuple #[.agg cs,iv,ev]) (X5 rfl _ _ b 2 _ _ _ Tryz.underlying96 rfl Jej hp h5 h6 cs (by rw[Jn _ _ _ _ _ _ _ hbx,show(0+2:Nat)=2 from rfl,←hs];simp) hs) rfl hR
theorem Jds.kind {w0 y:World}{r:Nat}{xs:Zq}{p:Int}{i:Nat}{A:Option Addr}{n cap:Nat}{l:List Int}(h:Jds w0 y r xs p i A n cap l):y.cell? ⟨r,1,none⟩=some (.int .u8 p):=by
 obtain⟨oe,ce,es,hb,-⟩:=h.st
 exact cell_of_row _ _ 1 _ _ (0,0) hb
theorem Jds.lt {w0 y:World}{r:Nat}{xs:Zq}{p:Int}{i:Nat}{A:Option Addr}{n cap:Nat}{l:List Int}(h:Jds w0 y r xs p i A n cap l):r<y.heap.size:=by
 obtain⟨oe,ce,es,hb,-⟩:=h.st
 exact(Jnw hb).1
theorem Jds.last {w0 y:World}{r:Nat}{xs:Zq}{k:Int}{d:List Int}{p:Int}{i:Nat}{A:Option Addr}{n cap:Nat}{l:List Int}(h:Jds w0 y r (xs++[(k,d)]) p i A n cap l):
 ∃g off ce oD cD,y.cell? ⟨r,0,none⟩=some (.slice (some ⟨g,off,none⟩) (xs.length+1) ce)∧g<y.heap.size∧y.cell? ⟨g,off+xs.length*2,none⟩=some (.int .u8 k)∧y.cell? ⟨g,off+xs.length*2+1,none⟩=some (.slice oD d.length cD)∧Jj y oD d.length cD d:=by
 obtain⟨oe,ce,es,hb,he⟩:=h.st
 have hl:(xs++[(k,d)]).length=xs.length+1:=by simp
 have hle:es.length=xs.length+1:=he.len.trans hl
 obtain⟨e,hxe⟩:∃e,es[xs.length]? =some e:=⟨es[xs.length],List.getElem?_eq_getElem (by omega)⟩
 have hat:=he.each xs.length e (k,d) hxe (by simp)
 have hcs:=JaD es xs.length e hxe
 have hown:=he.own
 rw[hl] at hown
 obtain⟨g,off,rfl,hg0,hg1,hc,-⟩:=hown.here (by omega)
 have hm:e.m=d.length:=hat.rd.len.symm
 refine⟨g,off,ce,e.a,e.c,?_,hg1,?_,?_,?_⟩
 ·have:=cell_of_row y r 0 _ _ (0,0) hb
  rw[hl] at this
  exact this
 ·have:=hc _ _ hcs.1
  rw[show off+xs.length*2=off+2*xs.length by omega,this,hat.k]
 ·have:=hc _ _ hcs.2
  rw[show off+xs.length*2+1=off+(2*xs.length+1) by omega,this,hm]
 ·have:=hat.rd
  rwa [hm] at this
theorem Jip (p0:Int)(A:Option Addr)(n cap:Nat)(l:List Int)(w:World)(hr:Jj w A n cap l)(hA:∀a,A=some a→a.block<w.heap.size)(hn:n≤100000)(hp:0≤p0∧p0<256):
 Calls Tryz.prog 115 #[p0,.slice A n cap] w (JaE w n (ZE 17 [] p0 0 l)):=by
 have HB:Hid (Jm l):=Jnv hr.byte
 have hbx:=heap_alloc_new w (.cells #[JnE,()] 96)
 obtain⟨w1,hw1⟩:∃w1,w.alloc (.cells #[JnE,()] 96)=w1:=⟨_,rfl⟩
 have hs1:w1.heap.size=w.heap.size+1:=by rw[←hw1];simp
 have HB1:Hid (Below w.heap.size w w1):=Jnv (hw1▸Below.all (Jny _ _) _)
 have HR1:Hid (Jj w1 A n cap l):=Jnv (hw1▸hr.alloc _)
 rw[hw1] at hbx
 have HC1:=Jnv hbx
 have hbx2:=heap_alloc_new w1 (.cells #[JnE,p0,.slice A n cap,.int .i64 0] 261)
 have ST:Hid (Jds w1 (w1.alloc (.cells #[JnE,p0,.slice A n cap,.int .i64 0] 261)) w1.heap.size [] p0 0 A n cap l):=
  Jnv ⟨⟨none,0,[],hbx2,JS.nil _ _⟩,HR1.out.alloc _,fun a ha=>by have:=hA a ha;omega,Below.all (Jny _ _) _,JnA _,hp,Nat.zero_le _⟩
 clear hr hbx hbx2
 rw[hs1] at ST
 go_enter Tryz.func115,Tryz.ntmps115
 go_wp2_with fail
 go_step3
 go_wp2_with fail
 go_step3
 go_wp2_with fail
 go_loopg [8] 17 (fun g u8 wr=>∃(z:World) (xs:Zq) (p:Int) (i:Nat),z=wr∧xs.length+g=17∧Hid (Jds w1 z (w.heap.size+1) xs p i A n cap l)∧Hid (Jh5 xs∧Qe xs=false∧ZE 17 [] p0 0 l=ZE (17-xs.length) xs p i l))
 case atStart=>exact⟨_,[],p0,0,rfl,rfl,ST,Jnv ⟨Jh5.nil,rfl,rfl⟩⟩
 case round=>
  obtain⟨z,xs,p,i,hzw,hg,HS,HI0⟩:=hrel
  subst hzw
  have hc1:=HS.out.kind
  have hpb:=HS.out.p
  have hrl:=HS.out.lt
  have hx16:=HI0.out.1.le
  by_cases hb:JP p=true
  rotate_left
  ·have hbf:JP p=false:=by simpa using hb
   have HBF:=Jnv hbf
   clear hb hbf
   go_wp2_with (go_at_call 93;refine(Xs _ _).mono ?_;rintro e w' ⟨rfl,rfl⟩;rw[HBF.out])
   have HRUN:Hid (ZE 17 [] p0 0 l=.done xs p i):=Jnv (by rw[HI0.out.2.2,Jio HBF.out])
   have HST:=HS
   clear HS hc1
   obtain⟨oe,ce,es,hbx,hes⟩:=HST.out.st
   have HES:=Jnv hes
   have HOUT:=Jnv HST.out.out
   have HI:=Jnv HST.out.i
   have HP:=Jnv HST.out.p
   have HRB:Hid (z.heap[w.heap.size]? =some (.cells #[JnE,()] 96 (0,0))):=Jnv ((HOUT.out.block _ (by omega)).trans HC1.out)
   have hrz:w.heap.size+1<z.heap.size:=(Jnw hbx).1
   have hz0:z.cell? ⟨w.heap.size+1,0,none⟩=some (.slice oe xs.length ce):=cell_of_row _ _ 0 _ _ (0,0) hbx
   have hz1:z.cell? ⟨w.heap.size+1,1,none⟩=some (.int .u8 p):=cell_of_row _ _ 1 _ _ (0,0) hbx
   have hz3:z.cell? ⟨w.heap.size+1,3,none⟩=some (.int .i64 ((i:Nat):Int)):=cell_of_row _ _ 3 _ _ (0,0) hbx
   clear hbx hes HST
   generalize hKK:xs.length=kk at*
   refine Xy [.h,.h,.h,.h,.h,.h,.h,.h,.w,.w,.w] [(4,1,1),(5,1,1),(6,1,1),(7,1,0)] (Jlj fun w'=>w'.cell? ⟨w.heap.size+1,3,none⟩=some (.int .i64 ((i:Nat):Int))) [1,3] (by kernel_rfl) rfl (by kernel_rfl) (by kernel_rfl) ?_
   simp only[Ju,Xd,List.map_cons,List.map_nil]
   repeat go_big_quiet_step (fail)
   refine wpQuiet_nil ⟨?_,?_⟩
   ·intro q hq oi hoi
    simp only[List.mem_cons,List.not_mem_nil,or_false] at hq
    rcases hq with rfl|rfl|rfl|rfl
    ·cases hoi;exact⟨_,rfl,rfl,fun w2 hw=>by kernel_rfl⟩
    ·cases hoi;exact⟨_,rfl,rfl,fun w2 hw=>by kernel_rfl⟩
    ·cases hoi;exact⟨_,rfl,rfl,fun w2 hw=>by kernel_rfl⟩
    ·cases hoi;exact⟨_,rfl,rfl,fun w2 hw=>by have hw:w2.cell? ⟨w.heap.size+1,3,none⟩=some (.int .i64 ((i:Nat):Int)):=hw;simp[execOp,go_sem,hw]⟩
   refine QW (fun w2=>∃x:JC z,w2=(x.world.setCell ⟨w.heap.size,0,none⟩ (.slice oe kk ce)).setCell ⟨w.heap.size,1,none⟩ (.int .u8 p)) rfl ?_ (Xe ?_) ?_
   ·rintro w2 ⟨x,rfl⟩
    refine⟨_,?_,x,rfl⟩
    have q0:=(x.below.block w.heap.size (by omega)).trans HRB.out
    have q1:=cell_of_row _ _ 0 _ _ (0,0) q0
    have q2:=cell_of_row _ _ 1 _ _ (0,0) q0
    have q3:=frozen_of_row _ _ 0 _ _ q0
    have q4:=frozen_of_row _ _ 1 _ _ q0
    simp[execOp,go_sem,q1,q2,q3,q4]
   ·rintro w2 ⟨x,rfl⟩
    rw[World.cell?_of_block (w:=z) (a:=⟨w.heap.size+1,3,none⟩) (by rw[heap_setCell_other _ _ _ _ (by show w.heap.size+1≠w.heap.size;omega),heap_setCell_other _ _ _ _ (by show w.heap.size+1≠w.heap.size;omega)];exact x.below.block _ hrz)]
    exact hz3
   refine JF (.int .i64 ((i:Nat):Int)) rfl (fun w2 _=>by kernel_rfl) (Js (by decide)) ?_
   refine JF (.int .i64 0) rfl (fun w2 _=>by kernel_rfl) (Js (by decide)) ?_
   rintro w2 ⟨x,rfl⟩
   have HRX:=Jnv ((x.below.block w.heap.size (by omega)).trans HRB.out)
   have HBX:Hid (Below w.heap.size w ((x.world.setCell ⟨w.heap.size,0,none⟩ (.slice oe kk ce)).setCell ⟨w.heap.size,1,none⟩ (.int .u8 p))):=Jnv ((((HB1.out.trans (HOUT.out.mono (by omega))).trans (x.below.mono (by omega))).trans (QN (JnA _))).trans (QN (JnA _)))
   have HEX:=Jnv (((HES.out.below x.below).other (r:=w.heap.size) (by omega) 0 (.slice oe kk ce)).other (r:=w.heap.size) (by omega) 1 (.int .u8 p))
   have HCX:=Jnv (Jcj (.slice oe kk ce) (.int .u8 p) HRX.out)
   generalize (x.world.setCell ⟨w.heap.size,0,none⟩ (.slice oe kk ce)).setCell ⟨w.heap.size,1,none⟩ (.int .u8 p)=zz at*
   have hq0:=cell_of_row _ _ 0 _ _ (0,0) HCX.out
   have hq1:=cell_of_row _ _ 1 _ _ (0,0) HCX.out
   go_wp2_with fail
   refine Jcl w.heap.size rfl rfl rfl HCX.out rfl ?_
   rw[HRUN.out]
   refine⟨⟨oe,ce,es,?_,HEX.out.mono (by omega)⟩,HBX.out,HI0.out.1,.inl HBF.out,HP.out,HI.out⟩
   rw[hKK];rfl
  ·have HBT:=Jnv hb
   clear hb
   go_wp2_with (go_at_call 93;refine(Xs _ _).mono ?_;rintro e w' ⟨rfl,rfl⟩;rw[HBT.out])
   refine Jnx (JlN w1 _ _ xs p i A n cap l HS.out (by omega) HBT.out hn) ?_
   intro e w2 hpost
   obtain⟨g',hg'⟩:∃g',17-xs.length=g'+1:=⟨16-xs.length,by omega⟩
   have HSTEP:Hid (ZE 17 [] p0 0 l=match QY xs p (l.drop i) with
    | .err e=>.err e
    | .ok k d next n=>if X0 k d then .done (xs++[(k,d)]) next (i+n) else ZE g' (xs++[(k,d)]) next (i+n) l):=Jnv (by rw[HI0.out.2.2,hg',Jin HBT.out])
   unfold Qy at hpost
   cases hco:QY xs p (l.drop i) with
   |err er=>
    rw[hco] at hpost HSTEP
    obtain⟨rfl,her,hb2⟩:=hpost
    have HB2:=Jnv hb2
    have her':(er != 0)=true:=by simpa using her
    have HRB:Hid (w2.heap[w.heap.size]? =some (.cells #[JnE,()] 96 (0,0))):=Jnv ((HB2.out.block _ (by omega)).trans HC1.out)
    have q1:=cell_of_row _ _ 0 _ _ (0,0) HRB.out
    have q2:=cell_of_row _ _ 1 _ _ (0,0) HRB.out
    have q3:=frozen_of_row _ _ 0 _ _ HRB.out
    have q4:=frozen_of_row _ _ 1 _ _ HRB.out
    clear hb2 HS hco
    go_wp2_with fail
    refine Jcl w.heap.size rfl rfl rfl (Jcj _ _ HRB.out) rfl ?_
    exact JaE.mk_err HSTEP.out her (((HB1.out.trans (HB2.out.mono (by omega))).trans (QN (JnA _))).trans (QN (JnA _)))
   |ok k d next m=>
    rw[hco] at hpost HSTEP
    obtain⟨rfl,hst⟩:=hpost
    have HCO:=Jnv hco
    have HS2:=Jnv hst
    obtain⟨ge,oe,ce,oD,cD,hl0,hgl,hl1,hl2,hrd⟩:=hst.last
    have HRD:=Jnv hrd
    have hr2:=HS2.out.lt
    have HCK:Hid (Jh5 (xs++[(k,d)])):=Jnv (HI0.out.1.snoc HI0.out.2.1 (J7 HB.out _) HBT.out hpb HCO.out)
    have hdn:d.length≤100000:=by have h1:=(Jev HCO.out);obtain⟨-,-,-,-,h5,-,h7,-,-⟩:=h1;have h8:=HR1.out.len;rw[h7,List.length_drop,List.length_take,List.length_drop];omega
    have HL:Hid (∀w',Jj w' oD d.length cD d→Calls Tryz.prog 92 #[.agg #[.int .u8 k,.slice oD d.length cD]] w' (Jk w' (.bool (X0 k d)))):=Jnv (fun w' h=>Jck k oD cD d w' h hdn)
    clear hrd hst HS hco hc1
    generalize hXL:X0 k d=XL at*
    have HXL:=Jnv hXL
    have HLL:Hid (Qe (xs++[(k,d)])=XL):=Jnv (by rw[JdM];exact hXL)
    clear hXL
    have hn16:xs.length≤16:=hx16
    go_wp2_with fail
    refine Jr (by kernel_rfl) (by kernel_rfl) ?_
    repeat go_big_quiet_step ((go_at_call 92;exact JJ (HL.out _ (HRD.out.later _))))
    refine wpQuiet_nil ?_
    intro x
    have HS3:Hid (Jds w1 x.world (w.heap.size+1) (xs++[(k,d)]) next (i+m) A n cap l):=Jnv (by
     obtain⟨⟨oe3,ce3,es3,hb3,he3⟩,h2,h3,h4,h5,h6,h7⟩:=HS2.out
     exact⟨⟨oe3,ce3,es3,(x.below.block _ hr2).trans hb3,he3.below x.below⟩,h2.below x.below,h3,Jno h4 x.below,h5,h6,h7⟩)
    clear HS2 HRD HL hl0 hl1 hl2
    cases XL
    ·have HGO:Hid (ZE 17 [] p0 0 l=ZE (17-(xs++[(k,d)]).length) (xs++[(k,d)]) next (i+m) l):=Jnv (by
      rw[HSTEP.out,show 17-(xs++[(k,d)]).length=g' by rw[List.length_append,List.length_singleton];omega]
      simp only[HXL.out]
      rfl)
     generalize x.world=z3 at*
     go_wp2_with fail
     go_roundg (16-xs.length)
     case measure=>omega
     case rel=>exact⟨_,xs++[(k,d)],next,i+m,rfl,by rw[List.length_append,List.length_singleton];omega,HS3,Jnv ⟨HCK.out,HLL.out,HGO.out⟩⟩
    ·have HRUN:Hid (ZE 17 [] p0 0 l=.done (xs++[(k,d)]) next (i+m)):=Jnv (by
      rw[HSTEP.out]
      simp only[HXL.out]
      rfl)
     have HST:=HS3
     clear HS3 HSTEP
     generalize x.world=z3 at*
     go_wp2_with fail
     obtain⟨oe,ce,es,hbx,hes⟩:=HST.out.st
     have HES:=Jnv hes
     have HOUT:=Jnv HST.out.out
     have HI:=Jnv HST.out.i
     have HP:=Jnv HST.out.p
     have HRB:Hid (z3.heap[w.heap.size]? =some (.cells #[JnE,()] 96 (0,0))):=Jnv ((HOUT.out.block _ (by omega)).trans HC1.out)
     have hrz:w.heap.size+1<z3.heap.size:=(Jnw hbx).1
     have hz0:z3.cell? ⟨w.heap.size+1,0,none⟩=some (.slice oe (xs++[(k,d)]).length ce):=cell_of_row _ _ 0 _ _ (0,0) hbx
     have hz1:z3.cell? ⟨w.heap.size+1,1,none⟩=some (.int .u8 next):=cell_of_row _ _ 1 _ _ (0,0) hbx
     have hz3:z3.cell? ⟨w.heap.size+1,3,none⟩=some (.int .i64 ((i+m:Nat):Int)):=cell_of_row _ _ 3 _ _ (0,0) hbx
     clear hbx hes HST
     generalize hKK:(xs++[(k,d)]).length=kk at*
     refine Xy [.h,.h,.h,.h,.h,.h,.h,.h,.w,.w,.w] [(4,1,1),(5,1,1),(6,1,1),(7,1,0)] (Jlj fun w'=>w'.cell? ⟨w.heap.size+1,3,none⟩=some (.int .i64 ((i+m:Nat):Int))) [1,3] (by kernel_rfl) rfl (by kernel_rfl) (by kernel_rfl) ?_
     simp only[Ju,Xd,List.map_cons,List.map_nil]
     repeat go_big_quiet_step (fail)
     refine wpQuiet_nil ⟨?_,?_⟩
     ·intro q hq oi hoi
      simp only[List.mem_cons,List.not_mem_nil,or_false] at hq
      rcases hq with rfl|rfl|rfl|rfl
      ·cases hoi;exact⟨_,rfl,rfl,fun w2 hw=>by kernel_rfl⟩
      ·cases hoi;exact⟨_,rfl,rfl,fun w2 hw=>by kernel_rfl⟩
      ·cases hoi;exact⟨_,rfl,rfl,fun w2 hw=>by kernel_rfl⟩
      ·cases hoi;exact⟨_,rfl,rfl,fun w2 hw=>by have hw:w2.cell? ⟨w.heap.size+1,3,none⟩=some (.int .i64 ((i+m:Nat):Int)):=hw;simp[execOp,go_sem,hw]⟩
     refine QW (fun w2=>∃x:JC z3,w2=(x.world.setCell ⟨w.heap.size,0,none⟩ (.slice oe kk ce)).setCell ⟨w.heap.size,1,none⟩ (.int .u8 next)) rfl ?_ (Xe ?_) ?_
     ·rintro w2 ⟨x,rfl⟩
      refine⟨_,?_,x,rfl⟩
      have q0:=(x.below.block w.heap.size (by omega)).trans HRB.out
      have q1:=cell_of_row _ _ 0 _ _ (0,0) q0
      have q2:=cell_of_row _ _ 1 _ _ (0,0) q0
      have q3:=frozen_of_row _ _ 0 _ _ q0
      have q4:=frozen_of_row _ _ 1 _ _ q0
      simp[execOp,go_sem,q1,q2,q3,q4]
     ·rintro w2 ⟨x,rfl⟩
      rw[World.cell?_of_block (w:=z3) (a:=⟨w.heap.size+1,3,none⟩) (by rw[heap_setCell_other _ _ _ _ (by show w.heap.size+1≠w.heap.size;omega),heap_setCell_other _ _ _ _ (by show w.heap.size+1≠w.heap.size;omega)];exact x.below.block _ hrz)]
      exact hz3
     refine JF (.int .i64 ((i+m:Nat):Int)) rfl (fun w2 _=>by kernel_rfl) (Js (by decide)) ?_
     refine JF (.int .i64 0) rfl (fun w2 _=>by kernel_rfl) (Js (by decide)) ?_
     rintro w2 ⟨x,rfl⟩
     have HRX:=Jnv ((x.below.block w.heap.size (by omega)).trans HRB.out)
     have HBX:Hid (Below w.heap.size w ((x.world.setCell ⟨w.heap.size,0,none⟩ (.slice oe kk ce)).setCell ⟨w.heap.size,1,none⟩ (.int .u8 next))):=Jnv ((((HB1.out.trans (HOUT.out.mono (by omega))).trans (x.below.mono (by omega))).trans (QN (JnA _))).trans (QN (JnA _)))
     have HEX:=Jnv (((HES.out.below x.below).other (r:=w.heap.size) (by omega) 0 (.slice oe kk ce)).other (r:=w.heap.size) (by omega) 1 (.int .u8 next))
     have HCX:=Jnv (Jcj (.slice oe kk ce) (.int .u8 next) HRX.out)
     generalize (x.world.setCell ⟨w.heap.size,0,none⟩ (.slice oe kk ce)).setCell ⟨w.heap.size,1,none⟩ (.int .u8 next)=zz at*
     have hq0:=cell_of_row _ _ 0 _ _ (0,0) HCX.out
     have hq1:=cell_of_row _ _ 1 _ _ (0,0) HCX.out
     go_wp2_with fail
     refine Jcl w.heap.size rfl rfl rfl HCX.out rfl ?_
     rw[HRUN.out]
     refine⟨⟨oe,ce,es,?_,HEX.out.mono (by omega)⟩,HBX.out,HCK.out,.inr HLL.out,HP.out,HI.out⟩
     rw[hKK];rfl
end
end Go.Proofs.YtkgjbipfhhjlpaaGreatDoor
