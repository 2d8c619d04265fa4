import Derived.Test.YtkgjbipfhhjlpaaGreatDoorMc13
set_option linter.unusedVariables false
set_option linter.unusedSimpArgs false
set_option maxRecDepth 100000
set_option maxHeartbeats 32000000
namespace Go.Proofs.YtkgjbipfhhjlpaaGreatDoor
section
open Go.RowKit Bits
def JaY (w:World)(n:Nat)(c:JlH):Ending→World→Prop:=fun e w'=>match c with
 | .err er=>e=.returned (.tuple #[.agg #[.slice none 0 0,.int .u8 0],.int .i64 0,.int .i64 er])∧er≠0∧Below w.heap.size w w'
 | .done xs p i=>(∃oe ce es,e=.returned (.tuple #[.agg #[.slice oe xs.length ce,.int .u8 p],.int .i64 (i:Int),.int .i64 0])∧J0 w' w.heap.size oe ce xs es)∧Below w.heap.size w w'∧Jjf xs∧(J8 p=false∨Qj xs=true)∧(0≤p∧p<256)∧i≤n
theorem JaY.mk_err {w w':World}{n:Nat}{c:JlH}{er:Int}(h:c=.err er)(h0:er≠0)(hb:Below w.heap.size w w'):JaY w n c (.returned (.tuple #[.agg #[.slice none 0 0,.int .u8 0],.int .i64 0,.int .i64 er])) w':=by
 subst h;exact⟨rfl,h0,hb⟩
theorem Jjz {f:Nat}{xs:Zx}{p:Int}{i:Nat}{l:List Int}(hb:J8 p=true):Jaw (f+1) xs p i l=match Xe xs p (l.drop i) with
 | .err e=>.err e
 | .ok k d next n=>if Za k d then .done (xs++[(k,d)]) next (i+n) else Jaw f (xs++[(k,d)]) next (i+n) l:=by
 rw[Jaw,if_pos hb]
 rfl
theorem JjA {f:Nat}{xs:Zx}{p:Int}{i:Nat}{l:List Int}(hb:J8 p=false):Jaw f xs p i l=.done xs p i:=by
 cases f with
 |zero=>rfl
 |succ f=>rw[Jaw,hb];rfl
theorem Jfa:(Tryz.prog.info? 96).map (·.size)=some 2:=by kernel_rfl
theorem JcR {R:Ending→World→Prop}{w':World}{tmps cs:Array Value}{iv ev:Value}{t:TypeId}(b:Nat)(hp:tmps.getD 4 undef=.pointer (some ⟨b,0,none⟩))(h5:tmps.getD 5 undef=iv)(h6:tmps.getD 6 undef=ev)(hbx:w'.heap[b]? =some (.cells cs t (0,0)))(hs:cs.size=2)(hR:R (.returned (.tuple #[.agg cs,iv,ev])) w'):
 bodyPost Tryz.prog Tryz.f115 R .ret { tmps:=tmps,defers:=[] } w':=
 bodyPost_ret (v:=.tuple #[.agg cs,iv,ev]) (Zd rfl _ _ b 2 _ _ _ Tryz.underlying96 rfl Jfa hp h5 h6 cs (by rw[Jl _ _ _ _ _ _ _ hbx,show(0+2:Nat)=2 from rfl,←hs];simp) hs) rfl hR
theorem Jd6.kind {w0 y:World}{r:Nat}{xs:Zx}{p:Int}{i:Nat}{A:Option Addr}{n cap:Nat}{l:List Int}(h:Jd6 w0 y r xs p i A n cap l):y.cell? ⟨r,1,none⟩=some (.int .u8 p):=by
 obtain⟨oe,ce,es,hb,-⟩:=h.st
 exact cell_of_row _ _ 1 _ _ (0,0) hb
theorem Jd6.lt {w0 y:World}{r:Nat}{xs:Zx}{p:Int}{i:Nat}{A:Option Addr}{n cap:Nat}{l:List Int}(h:Jd6 w0 y r xs p i A n cap l):r<y.heap.size:=by
 obtain⟨oe,ce,es,hb,-⟩:=h.st
 exact(JoM hb).1
theorem Jd6.last {w0 y:World}{r:Nat}{xs:Zx}{k:Int}{d:List Int}{p:Int}{i:Nat}{A:Option Addr}{n cap:Nat}{l:List Int}(h:Jd6 w0 y r (xs++[(k,d)]) p i A n cap l):
 ∃g off ce oD cD,y.cell? ⟨r,0,none⟩=some (.slice (some ⟨g,off,none⟩) (xs.length+1) ce)∧g<y.heap.size∧y.cell? ⟨g,off+xs.length*2,none⟩=some (.int .u8 k)∧y.cell? ⟨g,off+xs.length*2+1,none⟩=some (.slice oD d.length cD)∧Jg y oD d.length cD d:=by
 obtain⟨oe,ce,es,hb,he⟩:=h.st
 have hl:(xs++[(k,d)]).length=xs.length+1:=by simp
 have hle:es.length=xs.length+1:=he.len.trans hl
 obtain⟨e,hxe⟩:∃e,es[xs.length]? =some e:=⟨es[xs.length],List.getElem?_eq_getElem (by omega)⟩
 have hat:=he.each xs.length e (k,d) hxe (by simp)
 have hcs:=JaX es xs.length e hxe
 have hown:=he.own
 rw[hl] at hown
 obtain⟨g,off,rfl,hg0,hg1,hc,-⟩:=hown.here (by omega)
 have hm:e.m=d.length:=hat.rd.len.symm
 refine⟨g,off,ce,e.a,e.c,?_,hg1,?_,?_,?_⟩
 ·have:=cell_of_row y r 0 _ _ (0,0) hb
  rw[hl] at this
  exact this
 ·have:=hc _ _ hcs.1
  rw[show off+xs.length*2=off+2*xs.length by omega,this,hat.k]
 ·have:=hc _ _ hcs.2
  rw[show off+xs.length*2+1=off+(2*xs.length+1) by omega,this,hm]
 ·have:=hat.rd
  rwa [hm] at this
theorem JjB (p0:Int)(A:Option Addr)(n cap:Nat)(l:List Int)(w:World)(hr:Jg w A n cap l)(hA:∀a,A=some a→a.block<w.heap.size)(hn:n≤100000)(hp:0≤p0∧p0<256):
 Calls Tryz.prog 115 #[p0,.slice A n cap] w (JaY w n (Jaw 17 [] p0 0 l)):=by
 have HB:Hid (Jp l):=JoL hr.byte
 have hbx:=heap_alloc_new w (.cells #[JoU,()] 96)
 obtain⟨w1,hw1⟩:∃w1,w.alloc (.cells #[JoU,()] 96)=w1:=⟨_,rfl⟩
 have hs1:w1.heap.size=w.heap.size+1:=by rw[←hw1];simp
 have HB1:Hid (Below w.heap.size w w1):=JoL (hw1▸Below.all (JoO _ _) _)
 have HR1:Hid (Jg w1 A n cap l):=JoL (hw1▸hr.alloc _)
 rw[hw1] at hbx
 have HC1:=JoL hbx
 have hbx2:=heap_alloc_new w1 (.cells #[JoU,p0,.slice A n cap,.int .i64 0] 261)
 have ST:Hid (Jd6 w1 (w1.alloc (.cells #[JoU,p0,.slice A n cap,.int .i64 0] 261)) w1.heap.size [] p0 0 A n cap l):=
  JoL ⟨⟨none,0,[],hbx2,J0.nil _ _⟩,HR1.out.alloc _,fun a ha=>by have:=hA a ha;omega,Below.all (JoO _ _) _,JoQ _,hp,Nat.zero_le _⟩
 clear hr hbx hbx2
 rw[hs1] at ST
 go_enter Tryz.func115,Tryz.ntmps115
 go_wp2_with fail
 go_step3
 go_wp2_with fail
 go_step3
 go_wp2_with fail
 go_loopg [8] 17 (fun g u8 wr=>∃(z:World) (xs:Zx) (p:Int) (i:Nat),z=wr∧xs.length+g=17∧Hid (Jd6 w1 z (w.heap.size+1) xs p i A n cap l)∧Hid (Jjf xs∧Qj xs=false∧Jaw 17 [] p0 0 l=Jaw (17-xs.length) xs p i l))
 case atStart=>exact⟨_,[],p0,0,rfl,rfl,ST,JoL ⟨Jjf.nil,rfl,rfl⟩⟩
 case round=>
  obtain⟨z,xs,p,i,hzw,hg,HS,HI0⟩:=hrel
  subst hzw
  have hc1:=HS.out.kind
  have hpb:=HS.out.p
  have hrl:=HS.out.lt
  have hx16:=HI0.out.1.le
  by_cases hb:J8 p=true
  rotate_left
  ·have hbf:J8 p=false:=by simpa using hb
   have HBF:=JoL hbf
   clear hb hbf
   go_wp2_with (go_at_call 93;refine(Xy _ _).mono ?_;rintro e w' ⟨rfl,rfl⟩;rw[HBF.out])
   have HRUN:Hid (Jaw 17 [] p0 0 l=.done xs p i):=JoL (by rw[HI0.out.2.2,JjA HBF.out])
   have HST:=HS
   clear HS hc1
   obtain⟨oe,ce,es,hbx,hes⟩:=HST.out.st
   have HES:=JoL hes
   have HOUT:=JoL HST.out.out
   have HI:=JoL HST.out.i
   have HP:=JoL HST.out.p
   have HRB:Hid (z.heap[w.heap.size]? =some (.cells #[JoU,()] 96 (0,0))):=JoL ((HOUT.out.block _ (by omega)).trans HC1.out)
   have hrz:w.heap.size+1<z.heap.size:=(JoM hbx).1
   have hz0:z.cell? ⟨w.heap.size+1,0,none⟩=some (.slice oe xs.length ce):=cell_of_row _ _ 0 _ _ (0,0) hbx
   have hz1:z.cell? ⟨w.heap.size+1,1,none⟩=some (.int .u8 p):=cell_of_row _ _ 1 _ _ (0,0) hbx
   have hz3:z.cell? ⟨w.heap.size+1,3,none⟩=some (.int .i64 ((i:Nat):Int)):=cell_of_row _ _ 3 _ _ (0,0) hbx
   clear hbx hes HST
   generalize hKK:xs.length=kk at*
   refine XH [.h,.h,.h,.h,.h,.h,.h,.h,.w,.w,.w] [(4,1,1),(5,1,1),(6,1,1),(7,1,0)] (JmG fun w'=>w'.cell? ⟨w.heap.size+1,3,none⟩=some (.int .i64 ((i:Nat):Int))) [1,3] (by kernel_rfl) rfl (by kernel_rfl) (by kernel_rfl) ?_
   simp only[Jx,Xj,List.map_cons,List.map_nil]
   repeat go_big_quiet_step (fail)
   refine wpQuiet_nil ⟨?_,?_⟩
   ·intro q hq oi hoi
    simp only[List.mem_cons,List.not_mem_nil,or_false] at hq
    rcases hq with rfl|rfl|rfl|rfl
    ·cases hoi;exact⟨_,rfl,rfl,fun w2 hw=>by kernel_rfl⟩
    ·cases hoi;exact⟨_,rfl,rfl,fun w2 hw=>by kernel_rfl⟩
    ·cases hoi;exact⟨_,rfl,rfl,fun w2 hw=>by kernel_rfl⟩
    ·cases hoi;exact⟨_,rfl,rfl,fun w2 hw=>by have hw:w2.cell? ⟨w.heap.size+1,3,none⟩=some (.int .i64 ((i:Nat):Int)):=hw;simp[execOp,go_sem,hw]⟩
   refine Q0 (fun w2=>∃x:JG z,w2=(x.world.setCell ⟨w.heap.size,0,none⟩ (.slice oe kk ce)).setCell ⟨w.heap.size,1,none⟩ (.int .u8 p)) rfl ?_ (Xk ?_) ?_
   ·rintro w2 ⟨x,rfl⟩
    refine⟨_,?_,x,rfl⟩
    have q0:=(x.below.block w.heap.size (by omega)).trans HRB.out
    have q1:=cell_of_row _ _ 0 _ _ (0,0) q0
    have q2:=cell_of_row _ _ 1 _ _ (0,0) q0
    have q3:=frozen_of_row _ _ 0 _ _ q0
    have q4:=frozen_of_row _ _ 1 _ _ q0
    simp[execOp,go_sem,q1,q2,q3,q4]
   ·rintro w2 ⟨x,rfl⟩
    rw[World.cell?_of_block (w:=z) (a:=⟨w.heap.size+1,3,none⟩) (by rw[heap_setCell_other _ _ _ _ (by show w.heap.size+1≠w.heap.size;omega),heap_setCell_other _ _ _ _ (by show w.heap.size+1≠w.heap.size;omega)];exact x.below.block _ hrz)]
    exact hz3
   refine JJ (.int .i64 ((i:Nat):Int)) rfl (fun w2 _=>by kernel_rfl) (Jw (by decide)) ?_
   refine JJ (.int .i64 0) rfl (fun w2 _=>by kernel_rfl) (Jw (by decide)) ?_
   rintro w2 ⟨x,rfl⟩
   have HRX:=JoL ((x.below.block w.heap.size (by omega)).trans HRB.out)
   have HBX:Hid (Below w.heap.size w ((x.world.setCell ⟨w.heap.size,0,none⟩ (.slice oe kk ce)).setCell ⟨w.heap.size,1,none⟩ (.int .u8 p))):=JoL ((((HB1.out.trans (HOUT.out.mono (by omega))).trans (x.below.mono (by omega))).trans (QR (JoQ _))).trans (QR (JoQ _)))
   have HEX:=JoL (((HES.out.below x.below).other (r:=w.heap.size) (by omega) 0 (.slice oe kk ce)).other (r:=w.heap.size) (by omega) 1 (.int .u8 p))
   have HCX:=JoL (JcP (.slice oe kk ce) (.int .u8 p) HRX.out)
   generalize (x.world.setCell ⟨w.heap.size,0,none⟩ (.slice oe kk ce)).setCell ⟨w.heap.size,1,none⟩ (.int .u8 p)=zz at*
   have hq0:=cell_of_row _ _ 0 _ _ (0,0) HCX.out
   have hq1:=cell_of_row _ _ 1 _ _ (0,0) HCX.out
   go_wp2_with fail
   refine JcR w.heap.size rfl rfl rfl HCX.out rfl ?_
   rw[HRUN.out]
   refine⟨⟨oe,ce,es,?_,HEX.out.mono (by omega)⟩,HBX.out,HI0.out.1,.inl HBF.out,HP.out,HI.out⟩
   rw[hKK];rfl
  ·have HBT:=JoL hb
   clear hb
   go_wp2_with (go_at_call 93;refine(Xy _ _).mono ?_;rintro e w' ⟨rfl,rfl⟩;rw[HBT.out])
   refine JoN (Jnc w1 _ _ xs p i A n cap l HS.out (by omega) HBT.out hn) ?_
   intro e w2 hpost
   obtain⟨g',hg'⟩:∃g',17-xs.length=g'+1:=⟨16-xs.length,by omega⟩
   have HSTEP:Hid (Jaw 17 [] p0 0 l=match Xe xs p (l.drop i) with
    | .err e=>.err e
    | .ok k d next n=>if Za k d then .done (xs++[(k,d)]) next (i+n) else Jaw g' (xs++[(k,d)]) next (i+n) l):=JoL (by rw[HI0.out.2.2,hg',Jjz HBT.out])
   unfold QB at hpost
   cases hco:Xe xs p (l.drop i) with
   |err er=>
    rw[hco] at hpost HSTEP
    obtain⟨rfl,her,hb2⟩:=hpost
    have HB2:=JoL hb2
    have her':(er != 0)=true:=by simpa using her
    have HRB:Hid (w2.heap[w.heap.size]? =some (.cells #[JoU,()] 96 (0,0))):=JoL ((HB2.out.block _ (by omega)).trans HC1.out)
    have q1:=cell_of_row _ _ 0 _ _ (0,0) HRB.out
    have q2:=cell_of_row _ _ 1 _ _ (0,0) HRB.out
    have q3:=frozen_of_row _ _ 0 _ _ HRB.out
    have q4:=frozen_of_row _ _ 1 _ _ HRB.out
    clear hb2 HS hco
    go_wp2_with fail
    refine JcR w.heap.size rfl rfl rfl (JcP _ _ HRB.out) rfl ?_
    exact JaY.mk_err HSTEP.out her (((HB1.out.trans (HB2.out.mono (by omega))).trans (QR (JoQ _))).trans (QR (JoQ _)))
   |ok k d next m=>
    rw[hco] at hpost HSTEP
    obtain⟨rfl,hst⟩:=hpost
    have HCO:=JoL hco
    have HS2:=JoL hst
    obtain⟨ge,oe,ce,oD,cD,hl0,hgl,hl1,hl2,hrd⟩:=hst.last
    have HRD:=JoL hrd
    have hr2:=HS2.out.lt
    have HCK:Hid (Jjf (xs++[(k,d)])):=JoL (HI0.out.1.snoc HI0.out.2.1 (Qe HB.out _) HBT.out hpb HCO.out)
    have hdn:d.length≤100000:=by have h1:=(Jfi HCO.out);obtain⟨-,-,-,-,h5,-,h7,-,-⟩:=h1;have h8:=HR1.out.len;rw[h7,List.length_drop,List.length_take,List.length_drop];omega
    have HL:Hid (∀w',Jg w' oD d.length cD d→Calls Tryz.prog 92 #[.agg #[.int .u8 k,.slice oD d.length cD]] w' (Jj w' (.bool (Za k d)))):=JoL (fun w' h=>JcQ k oD cD d w' h hdn)
    clear hrd hst HS hco hc1
    generalize hXL:Za k d=XL at*
    have HXL:=JoL hXL
    have HLL:Hid (Qj (xs++[(k,d)])=XL):=JoL (by rw[JeA];exact hXL)
    clear hXL
    have hn16:xs.length≤16:=hx16
    go_wp2_with fail
    refine Jt (by kernel_rfl) (by kernel_rfl) ?_
    repeat go_big_quiet_step ((go_at_call 92;exact JH (HL.out _ (HRD.out.later _))))
    refine wpQuiet_nil ?_
    intro x
    have HS3:Hid (Jd6 w1 x.world (w.heap.size+1) (xs++[(k,d)]) next (i+m) A n cap l):=JoL (by
     obtain⟨⟨oe3,ce3,es3,hb3,he3⟩,h2,h3,h4,h5,h6,h7⟩:=HS2.out
     exact⟨⟨oe3,ce3,es3,(x.below.block _ hr2).trans hb3,he3.below x.below⟩,h2.below x.below,h3,JoE h4 x.below,h5,h6,h7⟩)
    clear HS2 HRD HL hl0 hl1 hl2
    cases XL
    ·have HGO:Hid (Jaw 17 [] p0 0 l=Jaw (17-(xs++[(k,d)]).length) (xs++[(k,d)]) next (i+m) l):=JoL (by
      rw[HSTEP.out,show 17-(xs++[(k,d)]).length=g' by rw[List.length_append,List.length_singleton];omega]
      simp only[HXL.out]
      rfl)
     generalize x.world=z3 at*
     go_wp2_with fail
     go_roundg (16-xs.length)
     case measure=>omega
     case rel=>exact⟨_,xs++[(k,d)],next,i+m,rfl,by rw[List.length_append,List.length_singleton];omega,HS3,JoL ⟨HCK.out,HLL.out,HGO.out⟩⟩
    ·have HRUN:Hid (Jaw 17 [] p0 0 l=.done (xs++[(k,d)]) next (i+m)):=JoL (by
      rw[HSTEP.out]
      simp only[HXL.out]
      rfl)
     have HST:=HS3
     clear HS3 HSTEP
     generalize x.world=z3 at*
     go_wp2_with fail
     obtain⟨oe,ce,es,hbx,hes⟩:=HST.out.st
     have HES:=JoL hes
     have HOUT:=JoL HST.out.out
     have HI:=JoL HST.out.i
     have HP:=JoL HST.out.p
     have HRB:Hid (z3.heap[w.heap.size]? =some (.cells #[JoU,()] 96 (0,0))):=JoL ((HOUT.out.block _ (by omega)).trans HC1.out)
     have hrz:w.heap.size+1<z3.heap.size:=(JoM hbx).1
     have hz0:z3.cell? ⟨w.heap.size+1,0,none⟩=some (.slice oe (xs++[(k,d)]).length ce):=cell_of_row _ _ 0 _ _ (0,0) hbx
     have hz1:z3.cell? ⟨w.heap.size+1,1,none⟩=some (.int .u8 next):=cell_of_row _ _ 1 _ _ (0,0) hbx
     have hz3:z3.cell? ⟨w.heap.size+1,3,none⟩=some (.int .i64 ((i+m:Nat):Int)):=cell_of_row _ _ 3 _ _ (0,0) hbx
     clear hbx hes HST
     generalize hKK:(xs++[(k,d)]).length=kk at*
     refine XH [.h,.h,.h,.h,.h,.h,.h,.h,.w,.w,.w] [(4,1,1),(5,1,1),(6,1,1),(7,1,0)] (JmG fun w'=>w'.cell? ⟨w.heap.size+1,3,none⟩=some (.int .i64 ((i+m:Nat):Int))) [1,3] (by kernel_rfl) rfl (by kernel_rfl) (by kernel_rfl) ?_
     simp only[Jx,Xj,List.map_cons,List.map_nil]
     repeat go_big_quiet_step (fail)
     refine wpQuiet_nil ⟨?_,?_⟩
     ·intro q hq oi hoi
      simp only[List.mem_cons,List.not_mem_nil,or_false] at hq
      rcases hq with rfl|rfl|rfl|rfl
      ·cases hoi;exact⟨_,rfl,rfl,fun w2 hw=>by kernel_rfl⟩
      ·cases hoi;exact⟨_,rfl,rfl,fun w2 hw=>by kernel_rfl⟩
      ·cases hoi;exact⟨_,rfl,rfl,fun w2 hw=>by kernel_rfl⟩
      ·cases hoi;exact⟨_,rfl,rfl,fun w2 hw=>by have hw:w2.cell? ⟨w.heap.size+1,3,none⟩=some (.int .i64 ((i+m:Nat):Int)):=hw;simp[execOp,go_sem,hw]⟩
     refine Q0 (fun w2=>∃x:JG z3,w2=(x.world.setCell ⟨w.heap.size,0,none⟩ (.slice oe kk ce)).setCell ⟨w.heap.size,1,none⟩ (.int .u8 next)) rfl ?_ (Xk ?_) ?_
     ·rintro w2 ⟨x,rfl⟩
      refine⟨_,?_,x,rfl⟩
      have q0:=(x.below.block w.heap.size (by omega)).trans HRB.out
      have q1:=cell_of_row _ _ 0 _ _ (0,0) q0
      have q2:=cell_of_row _ _ 1 _ _ (0,0) q0
      have q3:=frozen_of_row _ _ 0 _ _ q0
      have q4:=frozen_of_row _ _ 1 _ _ q0
      simp[execOp,go_sem,q1,q2,q3,q4]
     ·rintro w2 ⟨x,rfl⟩
      rw[World.cell?_of_block (w:=z3) (a:=⟨w.heap.size+1,3,none⟩) (by rw[heap_setCell_other _ _ _ _ (by show w.heap.size+1≠w.heap.size;omega),heap_setCell_other _ _ _ _ (by show w.heap.size+1≠w.heap.size;omega)];exact x.below.block _ hrz)]
      exact hz3
     refine JJ (.int .i64 ((i+m:Nat):Int)) rfl (fun w2 _=>by kernel_rfl) (Jw (by decide)) ?_
     refine JJ (.int .i64 0) rfl (fun w2 _=>by kernel_rfl) (Jw (by decide)) ?_
     rintro w2 ⟨x,rfl⟩
     have HRX:=JoL ((x.below.block w.heap.size (by omega)).trans HRB.out)
     have HBX:Hid (Below w.heap.size w ((x.world.setCell ⟨w.heap.size,0,none⟩ (.slice oe kk ce)).setCell ⟨w.heap.size,1,none⟩ (.int .u8 next))):=JoL ((((HB1.out.trans (HOUT.out.mono (by omega))).trans (x.below.mono (by omega))).trans (QR (JoQ _))).trans (QR (JoQ _)))
     have HEX:=JoL (((HES.out.below x.below).other (r:=w.heap.size) (by omega) 0 (.slice oe kk ce)).other (r:=w.heap.size) (by omega) 1 (.int .u8 next))
     have HCX:=JoL (JcP (.slice oe kk ce) (.int .u8 next) HRX.out)
     generalize (x.world.setCell ⟨w.heap.size,0,none⟩ (.slice oe kk ce)).setCell ⟨w.heap.size,1,none⟩ (.int .u8 next)=zz at*
     have hq0:=cell_of_row _ _ 0 _ _ (0,0) HCX.out
     have hq1:=cell_of_row _ _ 1 _ _ (0,0) HCX.out
     go_wp2_with fail
     refine JcR w.heap.size rfl rfl rfl HCX.out rfl ?_
     rw[HRUN.out]
     refine⟨⟨oe,ce,es,?_,HEX.out.mono (by omega)⟩,HBX.out,HCK.out,.inr HLL.out,HP.out,HI.out⟩
     rw[hKK];rfl
end
end Go.Proofs.YtkgjbipfhhjlpaaGreatDoor
