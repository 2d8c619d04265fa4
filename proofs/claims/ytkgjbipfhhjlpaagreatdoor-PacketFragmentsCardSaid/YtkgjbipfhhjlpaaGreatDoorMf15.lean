import Derived.Test.YtkgjbipfhhjlpaaGreatDoorMf13
import Derived.Test.YtkgjbipfhhjlpaaGreatDoorMf14
set_option linter.unusedVariables false
set_option linter.unusedSimpArgs false
set_option maxRecDepth 100000
set_option maxHeartbeats 32000000
namespace Go.Proofs.YtkgjbipfhhjlpaaGreatDoor
section
open Go.RowKit Bits
theorem Jft {P:Program}{fn:Func}{p q r s:Tmp}{ty ty2:TypeId}(h:fn.results=#[.cell p ty,.cell q ty2,.tmp r,.tmp s])(tmps:Array Value)(w:World)(b b2 n n2:Nat)(d d2:TypeDesc)(v u:Value)
 (hu:P.underlying ty=some d)(hd:(match d with| .struct _| .array _ _=>true|_=>false)=true)(hi:(P.info? ty).map (·.size)=some n)
 (hu2:P.underlying ty2=some d2)(hd2:(match d2 with| .struct _| .array _ _=>true|_=>false)=true)(hi2:(P.info? ty2).map (·.size)=some n2)
 (hp:tmps.getD p undef=.pointer (some ⟨b,0,none⟩))(hq:tmps.getD q undef=.pointer (some ⟨b2,0,none⟩))(hr:tmps.getD r undef=v)(hs0:tmps.getD s undef=u)(cs cs2:Array Value)(hc:Jc w b 0 n=cs)(hs:cs.size=n)(hc2:Jc w b2 0 n2=cs2)(hs2:cs2.size=n2):
 (results fn tmps).run P w=.ok (.tuple #[.agg cs,.agg cs2,v,u]) w:=by
 subst hc hc2
 have hp':tmps[p]?.getD undef=.pointer (some ⟨b,0,none⟩):=by simpa using hp
 have hq':tmps[q]?.getD undef=.pointer (some ⟨b2,0,none⟩):=by simpa using hq
 have hr':tmps[r]?.getD undef=v:=by simpa using hr
 have hs':tmps[s]?.getD undef=u:=by simpa using hs0
 simp[results,h,hp',hq',hr',hs',asAddr,Qp w b 0 n ty d hu hd hi hs,Qp w b2 0 n2 ty2 d2 hu2 hd2 hi2 hs2]
theorem Xf {G:Nat→World→Prop}{k:Nat}{C:World→Prop}:JfE G [] (k+1) C:=by
 intro g hg w _
 simp at hg
def JmA (oe:Option Addr)(es:List QB)(b:Nat):Prop:=(∀a,oe=some a→a.block≠b)∧∀e∈es,∀a,e.a=some a→a.block≠b
theorem JS.keep {w w':World}{lo:Nat}{oe:Option Addr}{ce:Nat}{xs:Zq}{es:List QB}(h:JS w lo oe ce xs es)(hs:w.heap.size≤w'.heap.size){b:Nat}(ho:JmA oe es b)(hk:∀k,k<w.heap.size→k≠b→w'.heap[k]? =w.heap[k]?):JS w' lo oe ce xs es:=
 ⟨h.own.keep hs (fun a ha=>hk _ (h.own.lt ha).2 (ho.1 a ha)),h.len,fun i e x h1 h2=>(h.each i e x h1 h2).keep hs (fun a ha=>hk _ ((h.each i e x h1 h2).blk a ha).2.1 (ho.2 e (List.mem_of_getElem? h1) a ha))⟩
theorem JS.off {w:World}{lo:Nat}{oe:Option Addr}{ce:Nat}{xs:Zq}{es:List QB}(h:JS w lo oe ce xs es){b:Nat}(hb:b<lo∨w.heap.size≤b):JmA oe es b:=by
 refine⟨fun a ha=>?_,fun e he a ha=>?_⟩
 ·have:=h.own.lt ha;omega
 ·obtain⟨i,hi⟩:=List.getElem?_of_mem he
  have hlt:=(List.getElem?_eq_some_iff.1 hi).1
  have hl:=h.len
  have:=(h.each i e _ hi (List.getElem?_eq_getElem (by omega))).blk a ha
  omega
theorem JS.keepLo {w w':World}{lo:Nat}{oe:Option Addr}{ce:Nat}{xs:Zq}{es:List QB}(h:JS w lo oe ce xs es)(hs:w.heap.size≤w'.heap.size)(hk:∀k,lo≤k→k<w.heap.size→w'.heap[k]? =w.heap[k]?):JS w' lo oe ce xs es:=
 ⟨h.own.keep hs (fun a ha=>hk _ (h.own.lt ha).1 (h.own.lt ha).2),h.len,fun i e x h1 h2=>(h.each i e x h1 h2).keep hs (fun a ha=>hk _ ((h.each i e x h1 h2).blk a ha).1 ((h.each i e x h1 h2).blk a ha).2.1)⟩
structure Jiw (z:World)(b:Nat)(oa:Option Addr)(m cp:Nat)(L:List Int)(w2:World):Prop where
 own:JI w2 z.heap.size 1 oa m cp (L.map (.int .u8))
 out:Below b z w2
 rest:∀k,k<z.heap.size→b+2≤k→w2.heap[k]? =z.heap[k]?
theorem Jiw.set {z:World}{b:Nat}{oa:Option Addr}{m cp:Nat}{L:List Int}{w2:World}(h:Jiw z b oa m cp L w2)(cs:Array Value)(k:Nat)(hk:b≤k∧k≤b+1)(hz:b+2≤z.heap.size):Jiw z b oa m cp L (w2.setRow k cs):=
 ⟨h.own.keep (by simp) (fun a ha=>setRow_other _ _ _ _ (by have:=(h.own.lt ha).1;omega)),h.out.trans (Jf _ hk.1),fun q h1 h2=>(setRow_other _ _ _ _ (by omega)).trans (h.rest q h1 h2)⟩
def Jix (w:World)(l:List Int):Ending→World→Prop:=fun e w'=>
 (JE l≠0∧e=.returned (.tuple #[.agg sxZ,.agg #[.slice none 0 0,.int .u8 0],JnE,.int .i64 (JE l)])∧Below w.heap.size w w')∨
 (JE l=0∧∃oe ce es oa cap,e=.returned (.tuple #[.agg (sxA l),.agg #[.slice oe (Xw l).length ce,.int .u8 (Xx l)],.slice oa (Xl l).length cap,.int .i64 0])∧
   JS w' w.heap.size oe ce (Xw l) es∧JI w' w.heap.size 1 oa (Xl l).length cap ((Xl l).map (.int .u8))∧Below w.heap.size w w'∧Jh5 (Xw l)∧(JP (Xx l)=false∨Qe (Xw l)=true)∧0≤Xx l∧Xx l<256)
theorem JcU {R:Ending→World→Prop}{w':World}{tmps cs cs2:Array Value}{v u:Value}{t2:TypeId}(b:Nat)(hp:tmps.getD 2 undef=.pointer (some ⟨b,0,none⟩))(hq:tmps.getD 3 undef=.pointer (some ⟨b+1,0,none⟩))(h4:tmps.getD 4 undef=v)(h5:tmps.getD 5 undef=u)(hc:Jc w' b 0 37=cs)(hs:cs.size=37)(hbx:w'.heap[b+1]? =some (.cells cs2 t2 (0,0)))(hs2:cs2.size=2)(hR:R (.returned (.tuple #[.agg cs,.agg cs2,v,u])) w'):
 bodyPost Tryz.prog Tryz.f54 R .ret { tmps:=tmps,defers:=[] } w':=
 bodyPost_ret (v:=.tuple #[.agg cs,.agg cs2,v,u]) (Jft rfl _ _ b (b+1) 37 2 _ _ _ _ Tryz.underlying118 rfl JhJ Tryz.underlying96 rfl Jej hp hq h4 h5 cs cs2 hc hs (by rw[Jn _ _ _ _ _ _ _ hbx,show(0+2:Nat)=2 from rfl,←hs2];simp) hs2) rfl hR
theorem Jem (oa:Option Addr)(n cap:Nat)(l:List Int)(w:World)(hr:Jj w oa n cap l)(hn2:n≤100000):Calls Tryz.prog 54 #[.slice oa n cap] w (Jix w l):=by
 have hlen:=hr.len
 have hb0:=heap_alloc_new w (.cells sxZ 118)
 obtain⟨wa,hwa⟩:∃wa,(w.alloc (.cells sxZ 118))=wa:=⟨_,rfl⟩
 have hsa:wa.heap.size=w.heap.size+1:=by rw[←hwa];simp
 rw[hwa] at hb0
 have hb1:=heap_alloc_new wa (.cells #[JnE,()] 96)
 have hb0':=(heap_alloc_old wa (.cells #[JnE,()] 96) (show w.heap.size<wa.heap.size by omega)).trans hb0
 obtain⟨w1,hw1⟩:∃w1,(wa.alloc (.cells #[JnE,()] 96))=w1:=⟨_,rfl⟩
 have hs1:w1.heap.size=w.heap.size+2:=by rw[←hw1];simp[hsa]
 rw[hw1,hsa] at hb1
 rw[hw1] at hb0'
 have HB1:Hid (Below w.heap.size w w1):=Jnv (hw1▸Below.all (hwa▸Below.all (Jny _ _) _) _)
 have HR1:Hid (Jj w1 oa n cap l):=Jnv (hw1▸(hwa▸hr.alloc _).alloc _)
 have HRA:=Jnv hb0'
 have HRB:=Jnv hb1
 have HLT:Hid (∀a,oa=some a→0<n→a.block<w.heap.size):=Jnv (fun a ha hp=>by
  obtain⟨g,off,e,hlt,-⟩:=hr.here hp
  rw[ha] at e;cases e;exact hlt)
 have HP:=Jnv (Jhj oa n cap l w1 HR1.out hn2)
 clear hr hb0 hb1 hb0'
 by_cases h0:ZR l=0
 rotate_left
 ·have HV:Hid (sxR l=.tuple #[.agg sxZ,.int .i64 (ZR l)]):=Jnv (by unfold sxR;rw[if_neg h0])
  have HE:Hid (JE l=ZR l):=Jnv (by unfold JE;rw[if_pos h0])
  have hne:(ZR l != 0)=true:=by simpa using h0
  have HN:=Jnv h0
  rw[HV.out] at HP
  clear h0 HV
  generalize ZR l=er at*
  unfold sxZ sxF at*
  go_enter Tryz.func54,Tryz.ntmps54
  go_wp2_with fail
  refine Jnx HP.out ?_
  rintro e z ⟨rfl,hbz⟩
  have HZ:=Jnv hbz
  have HZA:=Jnv ((hbz.block _ (by omega)).trans HRA.out)
  have HZB:=Jnv ((hbz.block _ (by omega)).trans HRB.out)
  have hz2:w.heap.size+2≤z.heap.size:=by have:=hbz.size;omega
  clear hbz HP
  have hzl0:w.heap.size<z.heap.size:=by omega
  have hzl1:w.heap.size+1<z.heap.size:=by omega
  have hrf:Jl z w.heap.size 37=true:=by rw[Jd _ _ _ _ _ HZA.out];rfl
  have hrf2:Jl z (w.heap.size+1) 2=true:=by rw[Jd _ _ _ _ _ HZB.out];rfl
  have q0:=cell_of_row _ _ 0 _ _ (0,0) HZB.out
  have q1:=cell_of_row _ _ 1 _ _ (0,0) HZB.out
  have q2:=frozen_of_row _ _ 0 _ _ HZB.out
  have q3:=frozen_of_row _ _ 1 _ _ HZB.out
  go_wp2_with fail
  have HA2:=Jnv ((heap_alloc_old ((z.setRow w.heap.size (Jn2 (.int .u8 ((fun _=>0) 0)) (.int .u8 ((fun _=>0) 1)) (.int .u8 ((fun _=>0) 2)) (.int .u8 ((fun _=>0) 3)) (.int .u8 ((fun _=>0) 4)) (.int .u8 ((fun _=>0) 5)) (.int .u8 ((fun _=>0) 6)) (.int .u8 ((fun _=>0) 7)) (.int .u8 ((fun _=>0) 8)) (.int .u8 ((fun _=>0) 9)) (.int .u8 ((fun _=>0) 10)) (.int .u8 ((fun _=>0) 11)) (.int .u8 ((fun _=>0) 12)) (.int .u8 ((fun _=>0) 13)) (.int .u8 ((fun _=>0) 14)) (.int .u8 ((fun _=>0) 15)) (.int .u8 ((fun _=>0) 0)) (.int .u8 ((fun _=>0) 1)) (.int .u8 ((fun _=>0) 2)) (.int .u8 ((fun _=>0) 3)) (.int .u8 ((fun _=>0) 4)) (.int .u8 ((fun _=>0) 5)) (.int .u8 ((fun _=>0) 6)) (.int .u8 ((fun _=>0) 7)) (.int .u8 ((fun _=>0) 8)) (.int .u8 ((fun _=>0) 9)) (.int .u8 ((fun _=>0) 10)) (.int .u8 ((fun _=>0) 11)) (.int .u8 ((fun _=>0) 12)) (.int .u8 ((fun _=>0) 13)) (.int .u8 ((fun _=>0) 14)) (.int .u8 ((fun _=>0) 15)))).setRow (w.heap.size+1) #[JnE,()]) (.cells (Jn2 (.int .u8 ((fun _=>0) 0)) (.int .u8 ((fun _=>0) 1)) (.int .u8 ((fun _=>0) 2)) (.int .u8 ((fun _=>0) 3)) (.int .u8 ((fun _=>0) 4)) (.int .u8 ((fun _=>0) 5)) (.int .u8 ((fun _=>0) 6)) (.int .u8 ((fun _=>0) 7)) (.int .u8 ((fun _=>0) 8)) (.int .u8 ((fun _=>0) 9)) (.int .u8 ((fun _=>0) 10)) (.int .u8 ((fun _=>0) 11)) (.int .u8 ((fun _=>0) 12)) (.int .u8 ((fun _=>0) 13)) (.int .u8 ((fun _=>0) 14)) (.int .u8 ((fun _=>0) 15)) (.int .u8 ((fun _=>0) 0)) (.int .u8 ((fun _=>0) 1)) (.int .u8 ((fun _=>0) 2)) (.int .u8 ((fun _=>0) 3)) (.int .u8 ((fun _=>0) 4)) (.int .u8 ((fun _=>0) 5)) (.int .u8 ((fun _=>0) 6)) (.int .u8 ((fun _=>0) 7)) (.int .u8 ((fun _=>0) 8)) (.int .u8 ((fun _=>0) 9)) (.int .u8 ((fun _=>0) 10)) (.int .u8 ((fun _=>0) 11)) (.int .u8 ((fun _=>0) 12)) (.int .u8 ((fun _=>0) 13)) (.int .u8 ((fun _=>0) 14)) (.int .u8 ((fun _=>0) 15))) 118) (by simp;omega)).trans ((setRow_other _ _ _ _ (by omega)).trans (Jh HZA.out)))
  have HB2:=Jnv ((heap_alloc_old ((z.setRow w.heap.size (Jn2 (.int .u8 ((fun _=>0) 0)) (.int .u8 ((fun _=>0) 1)) (.int .u8 ((fun _=>0) 2)) (.int .u8 ((fun _=>0) 3)) (.int .u8 ((fun _=>0) 4)) (.int .u8 ((fun _=>0) 5)) (.int .u8 ((fun _=>0) 6)) (.int .u8 ((fun _=>0) 7)) (.int .u8 ((fun _=>0) 8)) (.int .u8 ((fun _=>0) 9)) (.int .u8 ((fun _=>0) 10)) (.int .u8 ((fun _=>0) 11)) (.int .u8 ((fun _=>0) 12)) (.int .u8 ((fun _=>0) 13)) (.int .u8 ((fun _=>0) 14)) (.int .u8 ((fun _=>0) 15)) (.int .u8 ((fun _=>0) 0)) (.int .u8 ((fun _=>0) 1)) (.int .u8 ((fun _=>0) 2)) (.int .u8 ((fun _=>0) 3)) (.int .u8 ((fun _=>0) 4)) (.int .u8 ((fun _=>0) 5)) (.int .u8 ((fun _=>0) 6)) (.int .u8 ((fun _=>0) 7)) (.int .u8 ((fun _=>0) 8)) (.int .u8 ((fun _=>0) 9)) (.int .u8 ((fun _=>0) 10)) (.int .u8 ((fun _=>0) 11)) (.int .u8 ((fun _=>0) 12)) (.int .u8 ((fun _=>0) 13)) (.int .u8 ((fun _=>0) 14)) (.int .u8 ((fun _=>0) 15)))).setRow (w.heap.size+1) #[JnE,()]) (.cells (Jn2 (.int .u8 ((fun _=>0) 0)) (.int .u8 ((fun _=>0) 1)) (.int .u8 ((fun _=>0) 2)) (.int .u8 ((fun _=>0) 3)) (.int .u8 ((fun _=>0) 4)) (.int .u8 ((fun _=>0) 5)) (.int .u8 ((fun _=>0) 6)) (.int .u8 ((fun _=>0) 7)) (.int .u8 ((fun _=>0) 8)) (.int .u8 ((fun _=>0) 9)) (.int .u8 ((fun _=>0) 10)) (.int .u8 ((fun _=>0) 11)) (.int .u8 ((fun _=>0) 12)) (.int .u8 ((fun _=>0) 13)) (.int .u8 ((fun _=>0) 14)) (.int .u8 ((fun _=>0) 15)) (.int .u8 ((fun _=>0) 0)) (.int .u8 ((fun _=>0) 1)) (.int .u8 ((fun _=>0) 2)) (.int .u8 ((fun _=>0) 3)) (.int .u8 ((fun _=>0) 4)) (.int .u8 ((fun _=>0) 5)) (.int .u8 ((fun _=>0) 6)) (.int .u8 ((fun _=>0) 7)) (.int .u8 ((fun _=>0) 8)) (.int .u8 ((fun _=>0) 9)) (.int .u8 ((fun _=>0) 10)) (.int .u8 ((fun _=>0) 11)) (.int .u8 ((fun _=>0) 12)) (.int .u8 ((fun _=>0) 13)) (.int .u8 ((fun _=>0) 14)) (.int .u8 ((fun _=>0) 15))) 118) (by simp;omega)).trans (Jh ((setRow_other _ _ _ _ (by omega)).trans HZB.out)))
  exact JcU (cs:=sxZ) (cs2:=#[JnE,()]) (v:=.slice none 0 0) (u:=.int .i64 er) w.heap.size rfl rfl rfl rfl (Jb HA2.out rfl) rfl HB2.out rfl (.inl ⟨by rw[HE.out];exact HN.out,by rw[HE.out],Below.all ((((HB1.out.trans (HZ.out.mono HB1.out.size)).trans (Jf _ (JnA _))).trans (Jf _ (Nat.le_succ _)))) _⟩)
 have HV:Hid (sxR l=.tuple #[.agg (sxA l),.int .i64 0]):=Jnv (by unfold sxR;rw[if_pos h0])
 have HBE:Hid (JE l=if (l.length:Int)<40+w2 l 4 then 10 else match Xk l with
  | .err e=>e
  | .done _ _ _=>0):=Jnv (by unfold JE;rw[if_neg (by rw[h0];decide)];rfl)
 have h40:40≤n:=by
  rcases Nat.lt_or_ge l.length 40 with h|h
  ·unfold ZR at h0;rw[if_pos h] at h0;cases h0
  ·omega
 rw[HV.out] at HP
 obtain⟨g,off,rfl,hgl,hcells⟩:=HR1.out.here (by omega)
 have hgw:g<w.heap.size:=HLT.out _ rfl (by omega)
 have hbd4:=Zd HR1.out.byte 4
 have hbd6:=HR1.out.getD 6
 have HAE:Hid (sxA l=sxF (w4 l 0/1048576%256) (w4 l 0%1048576) (w2 l 4) (l.getD 6 0) (l.getD 7 0) (atB l 8) (atB l 24)):=Jnv rfl
 obtain⟨tot,htot⟩:∃t:Nat,w2 l 4=t:=⟨(w2 l 4).toNat,by omega⟩
 obtain⟨nx,hnx⟩:∃t,l.getD 6 0=t:=⟨_,rfl⟩
 have HTOT:=Jnv htot
 have HNX:=Jnv hnx
 have HCE:Hid (Xk l=ZE 17 [] nx 0 ((l.drop 40).take tot)):=Jnv (by unfold Xk;rw[hnx,htot,Int.toNat_natCast])
 rw[htot,hnx] at HAE
 rw[htot,hlen] at HBE
 rw[htot] at hbd4
 rw[hnx] at hbd6
 rw[HAE.out] at HP
 have HA0:=Jnv HAE.out
 generalize atB l 8=S at*
 generalize atB l 24=D at*
 generalize w4 l 0/1048576%256=f0 at*
 generalize w4 l 0%1048576=f1 at*
 generalize l.getD 7 0=f4 at*
 have hle:=HR1.out.le
 clear h0 HV hcells htot hnx HAE
 unfold sxZ at HRA hwa
 unfold sxF at HRA HP hwa
 go_enter Tryz.func54,Tryz.ntmps54
 by_cases hs:(n:Int)<40+(tot:Int)
 ·have hds:decide ((n:Int)<40+(tot:Int))=true:=by simp;omega
  have HE:Hid (JE l=10):=Jnv (by rw[HBE.out,if_pos hs])
  go_wp2_with fail
  refine Jnx HP.out ?_
  rintro e z ⟨rfl,hbz⟩
  have HZ:=Jnv hbz
  have HZA:=Jnv ((hbz.block _ (by omega)).trans HRA.out)
  have HZB:=Jnv ((hbz.block _ (by omega)).trans HRB.out)
  have hz2:w.heap.size+2≤z.heap.size:=by have:=hbz.size;omega
  clear hbz HP HBE
  have hzl0:w.heap.size<z.heap.size:=by omega
  have hzl1:w.heap.size+1<z.heap.size:=by omega
  have hrf:Jl z w.heap.size 37=true:=by rw[Jd _ _ _ _ _ HZA.out];rfl
  have hrf2:Jl z (w.heap.size+1) 2=true:=by rw[Jd _ _ _ _ _ HZB.out];rfl
  go_wp2_with fail
  have HA2:=Jnv ((heap_alloc_old ((z.setRow w.heap.size (Jn2 (.int .u8 ((fun _=>0) 0)) (.int .u8 ((fun _=>0) 1)) (.int .u8 ((fun _=>0) 2)) (.int .u8 ((fun _=>0) 3)) (.int .u8 ((fun _=>0) 4)) (.int .u8 ((fun _=>0) 5)) (.int .u8 ((fun _=>0) 6)) (.int .u8 ((fun _=>0) 7)) (.int .u8 ((fun _=>0) 8)) (.int .u8 ((fun _=>0) 9)) (.int .u8 ((fun _=>0) 10)) (.int .u8 ((fun _=>0) 11)) (.int .u8 ((fun _=>0) 12)) (.int .u8 ((fun _=>0) 13)) (.int .u8 ((fun _=>0) 14)) (.int .u8 ((fun _=>0) 15)) (.int .u8 ((fun _=>0) 0)) (.int .u8 ((fun _=>0) 1)) (.int .u8 ((fun _=>0) 2)) (.int .u8 ((fun _=>0) 3)) (.int .u8 ((fun _=>0) 4)) (.int .u8 ((fun _=>0) 5)) (.int .u8 ((fun _=>0) 6)) (.int .u8 ((fun _=>0) 7)) (.int .u8 ((fun _=>0) 8)) (.int .u8 ((fun _=>0) 9)) (.int .u8 ((fun _=>0) 10)) (.int .u8 ((fun _=>0) 11)) (.int .u8 ((fun _=>0) 12)) (.int .u8 ((fun _=>0) 13)) (.int .u8 ((fun _=>0) 14)) (.int .u8 ((fun _=>0) 15)))).setRow (w.heap.size+1) #[JnE,()]) (.cells (JnP f0 (.int .u32 f1) (.int .u16 (tot:Int)) nx f4 S D) 118) (by simp;omega)).trans ((setRow_other _ _ _ _ (by omega)).trans (Jh HZA.out)))
  have HB2:=Jnv ((heap_alloc_old ((z.setRow w.heap.size (Jn2 (.int .u8 ((fun _=>0) 0)) (.int .u8 ((fun _=>0) 1)) (.int .u8 ((fun _=>0) 2)) (.int .u8 ((fun _=>0) 3)) (.int .u8 ((fun _=>0) 4)) (.int .u8 ((fun _=>0) 5)) (.int .u8 ((fun _=>0) 6)) (.int .u8 ((fun _=>0) 7)) (.int .u8 ((fun _=>0) 8)) (.int .u8 ((fun _=>0) 9)) (.int .u8 ((fun _=>0) 10)) (.int .u8 ((fun _=>0) 11)) (.int .u8 ((fun _=>0) 12)) (.int .u8 ((fun _=>0) 13)) (.int .u8 ((fun _=>0) 14)) (.int .u8 ((fun _=>0) 15)) (.int .u8 ((fun _=>0) 0)) (.int .u8 ((fun _=>0) 1)) (.int .u8 ((fun _=>0) 2)) (.int .u8 ((fun _=>0) 3)) (.int .u8 ((fun _=>0) 4)) (.int .u8 ((fun _=>0) 5)) (.int .u8 ((fun _=>0) 6)) (.int .u8 ((fun _=>0) 7)) (.int .u8 ((fun _=>0) 8)) (.int .u8 ((fun _=>0) 9)) (.int .u8 ((fun _=>0) 10)) (.int .u8 ((fun _=>0) 11)) (.int .u8 ((fun _=>0) 12)) (.int .u8 ((fun _=>0) 13)) (.int .u8 ((fun _=>0) 14)) (.int .u8 ((fun _=>0) 15)))).setRow (w.heap.size+1) #[JnE,()]) (.cells (JnP f0 (.int .u32 f1) (.int .u16 (tot:Int)) nx f4 S D) 118) (by simp;omega)).trans (Jh ((setRow_other _ _ _ _ (by omega)).trans HZB.out)))
  exact JcU (cs:=sxZ) (cs2:=#[JnE,()]) (v:=.slice none 0 0) (u:=.int .i64 10) w.heap.size rfl rfl rfl rfl (Jb HA2.out rfl) rfl HB2.out rfl (.inl ⟨by rw[HE.out];decide,by rw[HE.out],Below.all ((((HB1.out.trans (HZ.out.mono HB1.out.size)).trans (Jf _ (JnA _))).trans (Jf _ (Nat.le_succ _)))) _⟩)
 have hds:decide ((n:Int)<40+(tot:Int))=false:=by simp;omega
 have HE1:Hid (JE l=match Xk l with
  | .err e=>e
  | .done _ _ _=>0):=Jnv (by rw[HBE.out,if_neg hs])
 clear HBE
 go_wp2_with fail
 refine Jnx HP.out ?_
 rintro e z ⟨rfl,hbz⟩
 have HZ:=Jnv hbz
 have HZA:=Jnv ((hbz.block _ (by omega)).trans HRA.out)
 have HZB:=Jnv ((hbz.block _ (by omega)).trans HRB.out)
 have hz2:w.heap.size+2≤z.heap.size:=by have:=hbz.size;omega
 clear hbz HP
 go_wp2_with fail
 have hyb:=heap_alloc_new z (.cells (JnP f0 (.int .u32 f1) (.int .u16 (tot:Int)) nx f4 S D) 118)
 obtain⟨y,hy⟩:∃y,z.alloc (.cells (JnP f0 (.int .u32 f1) (.int .u16 (tot:Int)) nx f4 S D) 118)=y:=⟨_,rfl⟩
 have HZY:Hid (Below z.heap.size z y):=Jnv (hy▸Below.all (Jny _ _) _)
 have hys:y.heap.size=z.heap.size+1:=by rw[←hy];simp
 rw[hy] at hyb⊢
 clear hy
 have HYH:=Jnv hyb
 have HYA:=Jnv ((HZY.out.block _ (by omega)).trans HZA.out)
 have HYB:=Jnv ((HZY.out.block _ (by omega)).trans HZB.out)
 have HRY:=Jnv ((HR1.out.below HZ.out).below HZY.out)
 have HBY:Hid (Below w.heap.size w y):=Jnv ((HB1.out.trans (HZ.out.mono HB1.out.size)).trans (HZY.out.mono (by omega)))
 have hc3:y.cell? ⟨z.heap.size,3,none⟩=some (.int .u8 nx):=cell_of_row _ _ 3 _ _ (0,0) hyb
 clear hyb HZY
 obtain⟨hb,hhb⟩:∃b,z.heap.size=b:=⟨_,rfl⟩
 rw[hhb] at hc3 HYH hys hz2⊢
 have hby:hb<y.heap.size:=by omega
 clear HZ HZA HZB hhb
 have hcut:∀w,(Instr.slice 22 (.slice (some ⟨g,off,none⟩) n cap) (some (.int .i64 40)) (some (.int .i64 (40+(tot:Int)))) none).run Tryz.prog w=.ok (.slice (Jp (some ⟨g,off,none⟩) 40 cap 1) (40+tot-40) (cap-40)) w:=fun w=>Qm (P:=Tryz.prog) 22 (some ⟨g,off,none⟩) n cap 1 elemBytes sizeBytes 40 (40+tot) 40 (40+(tot:Int)) rfl (by omega) (by omega) (by omega) w
 have HPC:Hid (∀w',Below y.heap.size y w'→Calls Tryz.prog 115 #[nx,.slice (Jp (some ⟨g,off,none⟩) 40 cap 1) tot (cap-40)] w' (JaE w' tot (Xk l))):=Jnv (fun w' hb'=>by
  rw[HCE.out]
  refine Jip nx _ tot _ ((l.drop 40).take tot) w' ?_ ?_ (by omega) hbd6
  ·have:=(((HRY.out.below hb').cut 40 (by omega)).take tot (by omega))
   exact this
  ·intro a ha
   have hlt:g<w'.heap.size:=Jnz (Jnz hgw HBY.out.size) hb'.size
   unfold Jp at ha
   split at ha
   ·cases ha;exact hlt
   ·obtain⟨a0,h1,rfl⟩:=Option.map_eq_some_iff.1 ha
    cases h1
    unfold Addr.add;split<;>exact hlt)
 rw[show 40+tot-40=tot by omega] at hcut
 generalize hA40:Jp (some ⟨g,off,none⟩) 40 cap 1=A40 at*
 cases hch:Xk l with
 |err er=>
  rw[hch] at HPC HE1
  have HE:=Jnv HE1.out
  simp only at HE
  refine JG [.h,.h,.h,.h,.h] [] (fun _ _=>True) [] [(.w,5),(.q,6),(.q,7),(.q,8),(.q,9)] [(.w,11),(.q,12),(.q,13)] 10 (.cells #[JnE,()] 96) (by kernel_rfl) (by kernel_rfl) rfl rfl ⟨fun _=>rfl,fun _ _=>by kernel_rfl⟩ (by kernel_rfl) (by kernel_rfl) ?_
  apply Exists.intro
  refine⟨fun wx hbx=>?_,by simp,?_⟩
  ·have hcx:wx.cell? ⟨hb,3,none⟩=some (.int .u8 nx):=(Jg hbx hby _ rfl).trans hc3
   have hbx2:hb<wx.heap.size:=Jnz hby hbx.size
   simp only[Ju]
   repeat go_big_quiet_step (fail)
   exact wpQuiet_nil rfl
  simp only[JY,List.getElem?_cons_succ,List.getElem?_cons_zero]
  refine⟨fun v fl w2=>v=.tuple #[.agg #[.slice none 0 0,.int .u8 0],.int .i64 0,.int .i64 er]∧er≠0∧Below y.heap.size y w2∧∀b,fl=some b→y.heap.size≤b∧w2.heap[b]? =some (.cells #[JnE,()] 96),?_,fun _ _=>Xf,?_,?_⟩
  ·rintro fl-
   refine⟨rfl,fun w' hw'=>.inr ⟨115,#[nx,.slice A40 tot (cap-40)],by kernel_rfl,?_⟩⟩
   obtain⟨⟨x,rfl⟩,hfb⟩:=hw'
   refine(HPC.out x.world x.below).mono ?_
   rintro e w2 ⟨rfl,her,hb2⟩
   refine⟨_,rfl,rfl,her,Jno x.below hb2,fun b hb'=>⟨(hfb b hb').1,?_⟩⟩
   have:=(hfb b hb').2
   exact(hb2.block b (Jnw this).1).trans this
  ·rintro-v w2 ⟨h1,h2,h3,-⟩
   exact⟨h1,h2,Below.all h3 _,fun b hb'=>by cases hb';exact⟨h3.size,heap_alloc_new _ _⟩⟩
  rintro v ⟨fl,w2,rfl,her,-⟩
  refine⟨.tuple #[.agg #[.slice none 0 0,.int .u8 0],.int .i64 0,.int .i64 er],⟨rfl,fun _=>by kernel_rfl⟩,?_⟩
  refine⟨.agg #[JnE,()],⟨rfl,fun _=>by kernel_rfl⟩,?_⟩
  refine⟨.int .i64 0,⟨rfl,fun _=>by kernel_rfl⟩,?_⟩
  refine⟨.int .i64 er,⟨rfl,fun _=>by kernel_rfl⟩,?_⟩
  intro b
  refine⟨fun v fl w2=>v=undef∧Below y.heap.size y w2,?_,fun _ _=>Xf,(fun h=>by cases h),?_⟩
  ·rintro fl rfl
   refine Jv.skip rfl ?_
   rintro w' ⟨-,-,hb1,hb2⟩
   obtain⟨hbge,hbx⟩:=hb2 b rfl
   refine⟨_,JaF _ w' b #[JnE,()] (by kernel_rfl) (by kernel_rfl) (by rw[Jd _ _ _ _ _ hbx];rfl) rfl rfl,hb1.trans (Jf _ hbge)⟩
  rintro v ⟨fl,w3,rfl,-⟩
  refine⟨.int .i64 0,⟨rfl,fun _=>by kernel_rfl⟩,?_⟩
  refine⟨.int .i64 er,⟨rfl,fun _=>by kernel_rfl⟩,?_⟩
  rintro zz ⟨-,hzz⟩
  have HZZ:=Jnv hzz
  have HZA:=Jnv ((hzz.block _ (by omega)).trans HYA.out)
  have HZB:=Jnv ((hzz.block _ (by omega)).trans HYB.out)
  have hz3:y.heap.size≤zz.heap.size:=hzz.size
  have her':(er != 0)=true:=by simpa using her
  clear hzz
  have hzl0:w.heap.size<zz.heap.size:=by omega
  have hzl1:w.heap.size+1<zz.heap.size:=by omega
  have hrf:Jl zz w.heap.size 37=true:=by rw[Jd _ _ _ _ _ HZA.out];rfl
  have hrf2:Jl zz (w.heap.size+1) 2=true:=by rw[Jd _ _ _ _ _ HZB.out];rfl
  unfold QQ
  go_wp2_with fail
  have HA2:=Jnv ((setRow_other (zz.setRow w.heap.size (Jn2 (.int .u8 ((fun _=>0) 0)) (.int .u8 ((fun _=>0) 1)) (.int .u8 ((fun _=>0) 2)) (.int .u8 ((fun _=>0) 3)) (.int .u8 ((fun _=>0) 4)) (.int .u8 ((fun _=>0) 5)) (.int .u8 ((fun _=>0) 6)) (.int .u8 ((fun _=>0) 7)) (.int .u8 ((fun _=>0) 8)) (.int .u8 ((fun _=>0) 9)) (.int .u8 ((fun _=>0) 10)) (.int .u8 ((fun _=>0) 11)) (.int .u8 ((fun _=>0) 12)) (.int .u8 ((fun _=>0) 13)) (.int .u8 ((fun _=>0) 14)) (.int .u8 ((fun _=>0) 15)) (.int .u8 ((fun _=>0) 0)) (.int .u8 ((fun _=>0) 1)) (.int .u8 ((fun _=>0) 2)) (.int .u8 ((fun _=>0) 3)) (.int .u8 ((fun _=>0) 4)) (.int .u8 ((fun _=>0) 5)) (.int .u8 ((fun _=>0) 6)) (.int .u8 ((fun _=>0) 7)) (.int .u8 ((fun _=>0) 8)) (.int .u8 ((fun _=>0) 9)) (.int .u8 ((fun _=>0) 10)) (.int .u8 ((fun _=>0) 11)) (.int .u8 ((fun _=>0) 12)) (.int .u8 ((fun _=>0) 13)) (.int .u8 ((fun _=>0) 14)) (.int .u8 ((fun _=>0) 15)))) (w.heap.size+1) w.heap.size #[JnE,()] (by omega)).trans (Jh HZA.out))
  have HB2:=Jnv (Jh (w:=zz.setRow w.heap.size (Jn2 (.int .u8 ((fun _=>0) 0)) (.int .u8 ((fun _=>0) 1)) (.int .u8 ((fun _=>0) 2)) (.int .u8 ((fun _=>0) 3)) (.int .u8 ((fun _=>0) 4)) (.int .u8 ((fun _=>0) 5)) (.int .u8 ((fun _=>0) 6)) (.int .u8 ((fun _=>0) 7)) (.int .u8 ((fun _=>0) 8)) (.int .u8 ((fun _=>0) 9)) (.int .u8 ((fun _=>0) 10)) (.int .u8 ((fun _=>0) 11)) (.int .u8 ((fun _=>0) 12)) (.int .u8 ((fun _=>0) 13)) (.int .u8 ((fun _=>0) 14)) (.int .u8 ((fun _=>0) 15)) (.int .u8 ((fun _=>0) 0)) (.int .u8 ((fun _=>0) 1)) (.int .u8 ((fun _=>0) 2)) (.int .u8 ((fun _=>0) 3)) (.int .u8 ((fun _=>0) 4)) (.int .u8 ((fun _=>0) 5)) (.int .u8 ((fun _=>0) 6)) (.int .u8 ((fun _=>0) 7)) (.int .u8 ((fun _=>0) 8)) (.int .u8 ((fun _=>0) 9)) (.int .u8 ((fun _=>0) 10)) (.int .u8 ((fun _=>0) 11)) (.int .u8 ((fun _=>0) 12)) (.int .u8 ((fun _=>0) 13)) (.int .u8 ((fun _=>0) 14)) (.int .u8 ((fun _=>0) 15)))) (cs:=#[JnE,()]) ((setRow_other _ _ _ _ (by omega)).trans HZB.out))
  exact JcU (cs:=sxZ) (cs2:=#[JnE,()]) (v:=.slice none 0 0) (u:=.int .i64 er) w.heap.size rfl rfl rfl rfl (Jb HA2.out rfl) rfl HB2.out rfl (.inl ⟨by rw[HE.out];exact her,by rw[HE.out],((HBY.out.trans (HZZ.out.mono HBY.out.size)).trans (Jf _ (JnA _))).trans (Jf _ (Nat.le_succ _))⟩)
 |done xs p i=>
  rw[hch] at HPC HE1
  have HE:=Jnv HE1.out
  simp only at HE
  have HXS:Hid (Xw l=xs∧Xx l=p∧Jmg l=i):=Jnv (by unfold Xw Xx Jmg;rw[hch];exact⟨rfl,rfl,rfl⟩)
  obtain⟨k,hk⟩:∃k,xs.length=k:=⟨_,rfl⟩
  have HK:=Jnv hk
  clear hch hk
  refine JG [.h,.h,.h,.h,.h] [] (fun _ _=>True) [] [(.w,5),(.q,6),(.q,7),(.q,8),(.q,9)] [(.w,11),(.q,12),(.q,13)] 10 (.cells #[JnE,()] 96) (by kernel_rfl) (by kernel_rfl) rfl rfl ⟨fun _=>rfl,fun _ _=>by kernel_rfl⟩ (by kernel_rfl) (by kernel_rfl) ?_
  apply Exists.intro
  refine⟨fun wx hbx=>?_,by simp,?_⟩
  ·have hcx:wx.cell? ⟨hb,3,none⟩=some (.int .u8 nx):=(Jg hbx hby _ rfl).trans hc3
   have hbx2:hb<wx.heap.size:=Jnz hby hbx.size
   simp only[Ju]
   repeat go_big_quiet_step (fail)
   exact wpQuiet_nil rfl
  simp only[JY,List.getElem?_cons_succ,List.getElem?_cons_zero]
  refine⟨fun v fl w2=>(∃oe ce es,v=.tuple #[.agg #[.slice oe k ce,.int .u8 p],.int .i64 (i:Int),.int .i64 0]∧JS w2 y.heap.size oe ce xs es∧∀b,fl=some b→JmA oe es b)∧(Below y.heap.size y w2∧Jh5 xs∧(JP p=false∨Qe xs=true)∧(0≤p∧p<256)∧i≤tot)∧∀b,fl=some b→y.heap.size≤b∧w2.heap[b]? =some (.cells #[JnE,()] 96),?_,fun _ _=>Xf,?_,?_⟩
  ·rintro fl-
   refine⟨rfl,fun w' hw'=>.inr ⟨115,#[nx,.slice A40 tot (cap-40)],by kernel_rfl,?_⟩⟩
   obtain⟨⟨x,rfl⟩,hfb⟩:=hw'
   refine(HPC.out x.world x.below).mono ?_
   rintro e w2 ⟨⟨oe,ce,es,rfl,hes⟩,hb2,hck,hbh,hpp,hii⟩
   refine⟨_,rfl,⟨oe,ce,es,by rw[HK.out],hes.mono x.below.size,fun b hb'=>?_⟩,⟨Jno x.below hb2,hck,hbh,hpp,hii⟩,fun b hb'=>⟨(hfb b hb').1,?_⟩⟩
   ·have:=(hfb b hb').2
    exact hes.off (.inl (Jnw this).1)
   ·have:=(hfb b hb').2
    exact(hb2.block b (Jnw this).1).trans this
  ·rintro-v w2 ⟨⟨oe,ce,es,rfl,hes,-⟩,⟨h3,h4⟩,-⟩
   have hb1:=Below.all (Jny w2.heap.size w2) (.cells #[JnE,()] 96)
   exact⟨⟨oe,ce,es,rfl,hes.below hb1,fun b hb'=>by cases hb';exact hes.off (.inr (JnA _))⟩,⟨Below.all h3 _,h4⟩,fun b hb'=>by cases hb';exact⟨h3.size,heap_alloc_new _ _⟩⟩
  rintro v ⟨fl,w2,⟨oe,ce,es,rfl,-⟩,⟨-,hck,hbh,hpp,hii⟩,-⟩
  refine⟨.tuple #[.agg #[.slice oe k ce,.int .u8 p],.int .i64 (i:Int),.int .i64 0],⟨rfl,fun _=>by kernel_rfl⟩,?_⟩
  refine⟨.agg #[.slice oe k ce,p],⟨rfl,fun _=>by kernel_rfl⟩,?_⟩
  refine⟨.int .i64 (i:Int),⟨rfl,fun _=>by kernel_rfl⟩,?_⟩
  refine⟨.int .i64 0,⟨rfl,fun _=>by kernel_rfl⟩,?_⟩
  intro b
  refine⟨fun v fl w2=>v=undef∧(∃es,JS w2 y.heap.size oe ce xs es∧JmA oe es b)∧Below y.heap.size y w2∧y.heap.size≤b∧w2.heap[b]? =some (.cells #[.slice oe k ce,p] 96 (0,0)),?_,fun _ _=>Xf,(fun h=>by cases h),?_⟩
  ·rintro fl rfl
   refine Jv.skip rfl ?_
   rintro w' ⟨⟨oe',ce',es,he,hes,hoff⟩,⟨hb1,-⟩,hb2⟩
   obtain⟨rfl,rfl⟩:oe=oe'∧ce=ce':=by injection he with he;injection he with he;injection he with he;injection he with h1;injection h1 with h1;injection h1 with h1 h2;injection h1 with h3 h4 h5;exact⟨h3,h5⟩
   obtain⟨hbge,hbx⟩:=hb2 b rfl
   refine⟨_,JaF _ w' b #[.slice oe k ce,p] (by kernel_rfl) (by kernel_rfl) (by rw[Jd _ _ _ _ _ hbx];rfl) rfl rfl,⟨es,hes.keep (by simp) (hoff b rfl) (fun q _ hq=>setRow_other _ _ _ _ hq),hoff b rfl⟩,hb1.trans (Jf _ hbge),hbge,Jh hbx⟩
  rintro v ⟨fl,w3,rfl,-⟩
  refine⟨.int .i64 (i:Int),⟨rfl,fun _=>by kernel_rfl⟩,?_⟩
  refine⟨.int .i64 0,⟨rfl,fun _=>by kernel_rfl⟩,?_⟩
  rintro zz ⟨-,⟨es,hes,hoff⟩,hzz,hbge,hbx⟩
  have HES:=Jnv hes
  have HBX:=Jnv hbx
  have HZZ:=Jnv hzz
  have HZA:=Jnv ((hzz.block _ (by omega)).trans HYA.out)
  have HZB:=Jnv ((hzz.block _ (by omega)).trans HYB.out)
  have HZH:=Jnv ((hzz.block _ hby).trans HYH.out)
  have HZR:=Jnv (HRY.out.belowB hzz (fun a ha=>by cases ha;show g<_;omega))
  have hz3:y.heap.size≤zz.heap.size:=hzz.size
  have hbz:b<zz.heap.size:=(Jnw hbx).1
  clear hzz hes hoff hbx w2 w3
  unfold QQ
  go_wp2_with fail
  have hil:i≤tot:=hii
  have hcut2:∀w,(Instr.slice 22 (.slice (some ⟨g,off,none⟩) n cap) (some (.int .i64 (40+(i:Int)))) (some (.int .i64 (40+(tot:Int)))) none).run Tryz.prog w=.ok (.slice (Jp (some ⟨g,off,none⟩) (40+i) cap 1) (40+tot-(40+i)) (cap-(40+i))) w:=fun w=>Qm (P:=Tryz.prog) 22 (some ⟨g,off,none⟩) n cap 1 elemBytes sizeBytes (40+i) (40+tot) (40+(i:Int)) (40+(tot:Int)) (by omega) (by omega) (by omega) (by omega) w
  rw[show 40+tot-(40+i)=tot-i by omega] at hcut2
  obtain⟨LB,hLB⟩:∃L,((l.drop 40).take tot).drop i=L:=⟨_,rfl⟩
  have hLBl:LB.length=tot-i:=by rw[←hLB,List.length_drop,List.length_take,List.length_drop];omega
  have HLB:Hid (Xl l=LB):=Jnv (by unfold Xl;rw[HXS.out.2.2,HTOT.out,Int.toNat_natCast];exact hLB)
  have HCL:Hid (∀w',Below zz.heap.size zz w'→Calls Tryz.prog 116 #[.slice (Jp (some ⟨g,off,none⟩) (40+i) cap 1) (tot-i) (cap-(40+i))] w' (J9 w' LB)):=Jnv (fun w' hb'=>by
   have:=JaX _ _ _ _ w' (((HZR.out.below hb').cut (40+i) (by omega)).take (tot-i) (by omega)) (by omega)
   rwa [←List.drop_drop,←List.drop_take,hLB] at this)
  generalize Jp (some ⟨g,off,none⟩) (40+i) cap 1=AB at*
  generalize cap-(40+i)=cB at*
  clear hLB
  have hpH:Jc zz hb 0 37=(JnP f0 (.int .u32 f1) (.int .u16 (tot:Int)) nx f4 S D:Array Value):=Jb HZH.out rfl
  have hpC:Jc zz b 0 2=#[.slice oe k ce,.int .u8 p]:=Jb HBX.out rfl
  refine J0 [.h,.h,.h,.h,.h,.h,.h] [(0,1,0),(1,2,0)] (Jlj fun w'=>Jc w' hb 0 37=(JnP f0 (.int .u32 f1) (.int .u16 (tot:Int)) nx f4 S D:Array Value)∧Jc w' b 0 2=#[.slice oe k ce,.int .u8 p]) [2,9] [(.w,7),(.w,8),(.w,9),(.q,10),(.q,11)] (by kernel_rfl) (by kernel_rfl) (by kernel_rfl) (by kernel_rfl) ?_
  apply Exists.intro
  refine⟨fun wx hbx=>?_,?_,?_⟩
  ·have hbx1:hb<wx.heap.size:=Jnz (by omega) hbx.size
   have hbx2:b<wx.heap.size:=Jnz hbz hbx.size
   have hq1:Jc wx hb 0 37=(JnP f0 (.int .u32 f1) (.int .u16 (tot:Int)) nx f4 S D:Array Value):=Jb ((hbx.block hb (by omega)).trans HZH.out) rfl
   have hq2:Jc wx b 0 2=#[.slice oe k ce,.int .u8 p]:=Jb ((hbx.block b hbz).trans HBX.out) rfl
   simp only[Ju]
   repeat go_big_quiet_step (fail)
   exact wpQuiet_nil rfl
  ·intro q hq oi hoi
   simp only[List.mem_cons,List.not_mem_nil,or_false] at hq
   rcases hq with rfl|rfl
   ·cases hoi;exact⟨_,rfl,rfl,fun w2 hw=>Jhm _ w2 hb (JnP f0 (.int .u32 f1) (.int .u16 (tot:Int)) nx f4 S D) (by kernel_rfl) hw.1 rfl⟩
   ·cases hoi;exact⟨_,rfl,rfl,fun w2 hw=>Jhl _ w2 b #[.slice oe k ce,p] (by kernel_rfl) hw.2 rfl⟩
  simp only[JY,List.getElem?_cons_succ,List.getElem?_cons_zero]
  have keepG:∀w2:World,(∀k,k<zz.heap.size→w.heap.size+2≤k→w2.heap[k]? =zz.heap[k]?)→Jc w2 hb 0 37=(JnP f0 (.int .u32 f1) (.int .u16 (tot:Int)) nx f4 S D:Array Value)∧Jc w2 b 0 2=#[.slice oe k ce,.int .u8 p]:=fun w2 h=>by
   constructor
   ·exact Jb ((h hb (by omega) (by omega)).trans HZH.out) rfl
   ·exact Jb ((h b hbz (by omega)).trans HBX.out) rfl
  refine⟨fun v fl w2=>∃oc cc,v=.slice oc (tot-i) cc∧Jiw zz w.heap.size oc (tot-i) cc LB w2∧Below zz.heap.size zz w2,?_,fun v fl=>Xe ?_,(fun h=>by cases h),?_⟩
  ·rintro fl rfl
   refine⟨rfl,fun w' hw'=>.inr ⟨116,#[.slice AB (tot-i) cB],by kernel_rfl,?_⟩⟩
   obtain⟨⟨x,rfl⟩,-⟩:=hw'
   refine(HCL.out x.world x.below).mono ?_
   rintro e w2 ⟨oc,cc,rfl,ho,hb2⟩
   rw[hLBl] at ho⊢
   exact⟨_,rfl,oc,cc,rfl,⟨ho.mono x.below.size,(Jno x.below hb2).mono (by omega),fun q h1 _=>(Jno x.below hb2).block q h1⟩,Jno x.below hb2⟩
  ·rintro w2 ⟨oc,cc,-,st,-⟩
   exact keepG w2 st.rest
  rintro v ⟨fl,w2,oc,cc,rfl,-⟩
  refine⟨fun v fl w2=>v=undef∧Jiw zz w.heap.size oc (tot-i) cc LB w2∧w2.heap[w.heap.size]? =some (.cells (JnP f0 (.int .u32 f1) (.int .u16 (tot:Int)) nx f4 S D) 118 (0,0))∧w2.heap[w.heap.size+1]? =zz.heap[w.heap.size+1]?,?_,fun v fl=>Xe ?_,(fun h=>by cases h),?_⟩
  ·rintro fl rfl
   refine Jv.skip rfl ?_
   rintro w' ⟨oc',cc',he,st,hbw⟩
   obtain⟨rfl,rfl⟩:oc=oc'∧cc=cc':=by injection he with h1 h2 h3;exact⟨h1,h3⟩
   have hr0:=(hbw.block w.heap.size (by omega)).trans HZA.out
   exact⟨_,Jgy _ w' w.heap.size (JnP f0 (.int .u32 f1) (.int .u16 (tot:Int)) nx f4 S D) (by kernel_rfl) (by kernel_rfl) (by rw[Jd _ _ _ _ _ hr0];rfl) rfl rfl,st.set _ _ (by omega) (by omega),Jh hr0,(setRow_other _ _ _ _ (by omega)).trans (hbw.block _ (by omega))⟩
  ·rintro w2 ⟨-,st,-⟩
   exact keepG w2 st.rest
  rintro v ⟨fl,w3,rfl,-⟩
  refine⟨fun v fl w2=>v=undef∧Jiw zz w.heap.size oc (tot-i) cc LB w2∧w2.heap[w.heap.size]? =some (.cells (JnP f0 (.int .u32 f1) (.int .u16 (tot:Int)) nx f4 S D) 118 (0,0))∧w2.heap[w.heap.size+1]? =some (.cells #[.slice oe k ce,p] 96 (0,0)),?_,fun v fl=>Js (by decide),(fun h=>by cases h),?_⟩
  ·rintro fl rfl
   refine Jv.skip rfl ?_
   rintro w' ⟨-,st,h1,h2⟩
   have hr0:=h2.trans HZB.out
   exact⟨_,JaF _ w' (w.heap.size+1) #[.slice oe k ce,p] (by kernel_rfl) (by kernel_rfl) (by rw[Jd _ _ _ _ _ hr0];rfl) rfl rfl,st.set _ _ (by omega) (by omega),(setRow_other _ _ _ _ (by omega)).trans h1,Jh hr0⟩
  rintro v ⟨fl,w4,rfl,-⟩
  refine⟨.slice oc (tot-i) cc,⟨rfl,fun _=>by kernel_rfl⟩,?_⟩
  refine⟨.int .i64 0,⟨rfl,fun _=>by kernel_rfl⟩,?_⟩
  rintro zf ⟨-,hst,hfa,hfb⟩
  have HST:=Jnv hst
  have HFA:=Jnv hfa
  have HFB:=Jnv hfb
  clear hst hfa hfb w2 w3 w4 keepG hpH hpC
  have HEF:Hid (JS zf y.heap.size oe ce xs es):=Jnv (HES.out.keepLo HST.out.out.size (fun q h1 h2=>HST.out.rest q h2 (by omega)))
  go_wp2_with fail
  refine JcU (cs:=(JnP f0 (.int .u32 f1) (.int .u16 (tot:Int)) nx f4 S D)) (cs2:=#[.slice oe k ce,p]) (v:=.slice oc (tot-i) cc) (u:=.int .i64 0) w.heap.size rfl rfl rfl rfl (Jb HFA.out rfl) rfl HFB.out rfl (.inr ⟨by rw[HE.out],oe,ce,es,oc,cc,?_,?_,?_,(HBY.out.trans (HZZ.out.mono HBY.out.size)).trans HST.out.out,?_,?_,?_⟩)
  ·rw[HA0.out,HXS.out.1,HXS.out.2.1,HLB.out,hLBl,HK.out];rfl
  ·rw[HXS.out.1];exact HEF.out.mono HBY.out.size
  ·rw[HLB.out,hLBl];exact HST.out.own.mono (by omega)
  ·rw[HXS.out.1];exact hck
  ·rw[HXS.out.1,HXS.out.2.1];exact hbh
  ·rw[HXS.out.2.1];exact hpp
end
end Go.Proofs.YtkgjbipfhhjlpaaGreatDoor
