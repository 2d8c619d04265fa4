import Derived.Test.YtkgjbipfhhjlpaaGreatDoorMf11
set_option linter.unusedVariables false
set_option linter.unusedSimpArgs false
set_option maxRecDepth 100000
set_option maxHeartbeats 32000000
namespace Go.Proofs.YtkgjbipfhhjlpaaGreatDoor
section
open Go.RowKit Bits
theorem JaX (oa:Option Addr)(n cap:Nat)(l:List Int)(w:World)(hr:Jj w oa n cap l)(hn:n≤1000000):Calls Tryz.prog 116 #[.slice oa n cap] w (J9 w l):=by
 have hlen:=hr.len
 cases oa with
 |none=>
  have h0:n=0:=by
   rcases hr.at' with h|⟨g,off,e,-⟩
   ·exact h
   ·cases e
  subst h0
  have hl:l=[]:=List.eq_nil_of_length_eq_zero hlen
  subst hl
  refine(Tryz.bytes_Clone_nil 0 cap w).mono ?_
  rintro e w' ⟨rfl,rfl⟩
  exact⟨none,0,rfl,JI.nil _ _ _,Jny _ _⟩
 |some a=>
  refine(Tryz.bytes_Clone_at a n cap l w hlen (by omega) (fun i hi=>by
   rcases hr.at' with h|⟨g,off,e,-,hc⟩
   ·omega
   ·cases e;rw[Addr.add_lit];exact hc i hi)).mono ?_
  rintro e w' ⟨v',rfl,ho,-,hb⟩
  obtain⟨oa',cap',rfl,ho'⟩:=JI.of_row ho
  subst hlen
  exact⟨oa',cap',rfl,ho',hb⟩
theorem Jg {w w':World}{b:Nat}(h:Below w.heap.size w w')(hb:b<w.heap.size)(q:Addr)(e:q.block=b):w'.cell? q=w.cell? q:=h.cell (p:=q) (by omega)
structure QB where
 k:Int
 a:Option Addr
 m:Nat
 c:Nat
def Q3 (es:List QB):List Value:=es.flatMap fun e=>[.int .u8 e.k,.slice e.a e.m e.c]
theorem Jfp (es:List QB)(e:QB):Q3 (es++[e])=Q3 es++[.int .u8 e.k,.slice e.a e.m e.c]:=by simp[Q3]
theorem JaD:∀(es:List QB) (i:Nat) (e:QB),es[i]? =some e→(Q3 es)[2*i]? =some (.int .u8 e.k)∧(Q3 es)[2*i+1]? =some (.slice e.a e.m e.c)
 |[],i,e,h=>by simp at h
 |x::es,0,e,h=>by
  obtain rfl:x=e:=by simpa using h
  exact⟨rfl,rfl⟩
 |x::es,i+1,e,h=>by
  have:=JaD es i e (by simpa using h)
  have hc:Q3 (x::es)=.int .u8 x.k::.slice x.a x.m x.c::Q3 es:=by simp[Q3]
  rw[hc]
  exact⟨by rw[show 2*(i+1)=2*i+1+1 by omega];simpa using this.1,by rw[show 2*(i+1)+1=(2*i+1)+1+1 by omega];simpa using this.2⟩
structure Jhk (w:World)(lo:Nat)(oe:Option Addr)(e:QB)(x:Int×List Int):Prop where
 k:e.k=x.1
 rd:Jj w e.a e.m e.c x.2
 blk:∀a,e.a=some a→lo≤a.block∧a.block<w.heap.size∧∀b,oe=some b→b.block≠a.block
structure JS (w:World)(lo:Nat)(oe:Option Addr)(ce:Nat)(xs:Zq)(es:List QB):Prop where
 own:JI w lo 2 oe xs.length ce (Q3 es)
 len:es.length=xs.length
 each:∀(i:Nat) e x,es[i]? =some e→xs[i]? =some x→Jhk w lo oe e x
theorem Jhk.keep {w w':World}{lo:Nat}{oe:Option Addr}{e:QB}{x:Int×List Int}(h:Jhk w lo oe e x)(hs:w.heap.size≤w'.heap.size)(hk:∀a,e.a=some a→w'.heap[a.block]? =w.heap[a.block]?):Jhk w' lo oe e x:=
 ⟨h.k,h.rd.keep hs (fun a ha _=>hk a ha),fun a ha=>⟨(h.blk a ha).1,Jnz (h.blk a ha).2.1 hs,(h.blk a ha).2.2⟩⟩
theorem JS.below {w w':World}{lo:Nat}{oe:Option Addr}{ce:Nat}{xs:Zq}{es:List QB}(h:JS w lo oe ce xs es)(hb:Below w.heap.size w w'):JS w' lo oe ce xs es:=
 ⟨h.own.below hb,h.len,fun i e x h1 h2=>(h.each i e x h1 h2).keep hb.size (fun a ha=>hb.block _ ((h.each i e x h1 h2).blk a ha).2.1)⟩
theorem JS.mono {w:World}{lo lo':Nat}{oe:Option Addr}{ce:Nat}{xs:Zq}{es:List QB}(h:JS w lo oe ce xs es)(hl:lo'≤lo):JS w lo' oe ce xs es:=
 ⟨h.own.mono hl,h.len,fun i e x h1 h2=>⟨(h.each i e x h1 h2).k,(h.each i e x h1 h2).rd,fun a ha=>⟨Nat.le_trans hl ((h.each i e x h1 h2).blk a ha).1,((h.each i e x h1 h2).blk a ha).2⟩⟩⟩
theorem JS.other {w:World}{lo:Nat}{oe:Option Addr}{ce:Nat}{xs:Zq}{es:List QB}(h:JS w lo oe ce xs es){r:Nat}(hr:r<lo)(o:Nat)(v:Value):JS (w.setCell ⟨r,o,none⟩ v) lo oe ce xs es:=
 ⟨h.own.other (fun a ha=>by have:=(h.own.lt ha).1;show a.block≠r;omega) v,h.len,fun i e x h1 h2=>(h.each i e x h1 h2).keep (by simp) (fun a ha=>Below.heap_setCell _ _ _ _ (by have:=((h.each i e x h1 h2).blk a ha).1;show a.block≠r;omega))⟩
theorem JS.nil (w:World)(lo:Nat):JS w lo none 0 [] []:=⟨JI.nil _ _ _,rfl,fun i e x h _=>by simp at h⟩
theorem JS.snoc {w w':World}{lo:Nat}{oe oe':Option Addr}{ce ce':Nat}{xs:Zq}{es:List QB}(h:JS w lo oe ce xs es)(e:QB)(x:Int×List Int)(he:Jhk w lo oe e x)
 (ho:JI w' lo 2 oe' (xs.length+1) ce' (Q3 es++[.int .u8 e.k,.slice e.a e.m e.c]))(hg:w.grownBy w' (oe.map Addr.block))(hd:∀a,oe'=some a→oe=some a∨w.heap.size≤a.block):JS w' lo oe' ce' (xs++[x]) (es++[e]):=by
 have up:∀(e:QB) (x:Int×List Int),Jhk w lo oe e x→Jhk w' lo oe' e x:=fun e x h1=>by
  refine⟨h1.k,h1.rd.keep hg.size (fun a ha hlt=>hg.block _ hlt (fun hc=>?_)),fun a ha=>⟨(h1.blk a ha).1,Jnz (h1.blk a ha).2.1 hg.size,fun b hb=>?_⟩⟩
  ·obtain⟨b,hb,hb2⟩:=Option.map_eq_some_iff.1 hc.symm
   exact(h1.blk a ha).2.2 b hb hb2
  ·rcases hd b hb with h2|h2
   ·exact(h1.blk a ha).2.2 b h2
   ·have:=(h1.blk a ha).2.1;omega
 refine⟨by rw[Jfp,List.length_append,List.length_singleton];exact ho,by simp[h.len],fun i e1 x1 h1 h2=>?_⟩
 rcases Nat.lt_or_ge i es.length with hlt|hge
 ·rw[List.getElem?_append_left hlt] at h1
  rw[List.getElem?_append_left (by have:=h.len;omega)] at h2
  exact up _ _ (h.each i e1 x1 h1 h2)
 ·rw[List.getElem?_append_right hge] at h1
  rw[List.getElem?_append_right (by have:=h.len;omega)] at h2
  have hz:i-es.length=0:=by
   rcases Nat.eq_zero_or_pos (i-es.length) with e|e
   ·exact e
   ·rw[List.getElem?_eq_none (by simp;omega)] at h1;cases h1
  rw[hz] at h1
  rw[show i-xs.length=0 by have:=h.len;omega] at h2
  obtain rfl:e=e1:=by simpa using h1
  obtain rfl:x=x1:=by simpa using h2
  exact up _ _ he
theorem JmQ (B:Nat)(l:List Int):Jhb B (JkK l):=fun lo hi v w1 w2 ⟨ob,cb,e,ho,hl⟩ hh hk=>⟨ob,cb,e,ho.keep hk.size (fun a ha=>hk.own _ (ho.lt ha).1 (hl a ha)),hl⟩
structure Jds (w0 y:World)(r:Nat)(xs:Zq)(p:Int)(i:Nat)(A:Option Addr)(n cap:Nat)(l:List Int):Prop where
 st:∃oe ce es,y.heap[r]? =some (.cells #[.slice oe xs.length ce,p,.slice A n cap,.int .i64 (i:Int)] 261 (0,0))∧JS y (r+1) oe ce xs es
 rd:Jj y A n cap l
 ra:∀a,A=some a→a.block<r
 out:Below w0.heap.size w0 y
 lo:w0.heap.size≤r
 p:0≤p∧p<256
 i:i≤n
def Qy (w0:World)(r:Nat)(xs:Zq)(p:Int)(i:Nat)(A:Option Addr)(n cap:Nat)(l:List Int):Ending→World→Prop:=fun e w'=>match QY xs p (l.drop i) with
 | .err er=>e=.returned (.int .i64 er)∧er≠0∧Below w0.heap.size w0 w'
 | .ok k d next m=>e=.returned (.int .i64 0)∧Jds w0 w' r (xs++[(k,d)]) next (i+m) A n cap l
theorem Qy.err {w0 w':World}{r:Nat}{xs:Zq}{p:Int}{i:Nat}{A:Option Addr}{n cap:Nat}{l:List Int}{er:Int}(h:QY xs p (l.drop i)=.err er)(h0:er≠0)(hb:Below w0.heap.size w0 w'):Qy w0 r xs p i A n cap l (.returned (.int .i64 er)) w':=by
 unfold Qy;rw[h];exact⟨rfl,h0,hb⟩
structure X8 (z:World)(r:Nat)(A:Option Addr)(n cap:Nat)(oe:Option Addr)(ce:Nat)(xs:Zq)(es:List QB)(c0 c1 c3:Value)(w:World):Prop where
 box:w.heap[r]? =some (.cells #[c0,c1,.slice A n cap,c3] 261 (0,0))
 exts:JS w (r+1) oe ce xs es
 out:Below r z w
theorem X8.set0 {z:World}{r:Nat}{A:Option Addr}{n cap:Nat}{oe:Option Addr}{ce:Nat}{xs:Zq}{es:List QB}{c0 c1 c3:Value}{w:World}(h:X8 z r A n cap oe ce xs es c0 c1 c3 w)(v:Value):X8 z r A n cap oe ce xs es v c1 c3 (w.setCell ⟨r,0,none⟩ v):=
 ⟨by rw[heap_setCell_same _ r 0 _ _ v h.box];rfl,h.exts.other (Nat.lt_succ_self _) _ _,h.out.setCell (JnA r) v⟩
theorem X8.set1 {z:World}{r:Nat}{A:Option Addr}{n cap:Nat}{oe:Option Addr}{ce:Nat}{xs:Zq}{es:List QB}{c0 c1 c3:Value}{w:World}(h:X8 z r A n cap oe ce xs es c0 c1 c3 w)(v:Value):X8 z r A n cap oe ce xs es c0 v c3 (w.setCell ⟨r,1,none⟩ v):=
 ⟨by rw[heap_setCell_same _ r 1 _ _ v h.box];rfl,h.exts.other (Nat.lt_succ_self _) _ _,h.out.setCell (JnA r) v⟩
theorem X8.set3 {z:World}{r:Nat}{A:Option Addr}{n cap:Nat}{oe:Option Addr}{ce:Nat}{xs:Zq}{es:List QB}{c0 c1 c3:Value}{w:World}(h:X8 z r A n cap oe ce xs es c0 c1 c3 w)(v:Value):X8 z r A n cap oe ce xs es c0 c1 v (w.setCell ⟨r,3,none⟩ v):=
 ⟨by rw[heap_setCell_same _ r 3 _ _ v h.box];rfl,h.exts.other (Nat.lt_succ_self _) _ _,h.out.setCell (JnA r) v⟩
theorem JcT:(Tryz.prog.info? 170).map (fun i=>(i.zero,i.size,i.bytes))=some (some (.agg #[(),JnE]),2,32):=by kernel_rfl
theorem Jbo (ev:Operand→Value)(w:World){dst:Option Tmp}{ty:TypeId}{pos:String}{after:Array Edge}{g:Option (Nat×Bool)}(x:Operand)(u v:Value)(hx:ev x=.agg #[u,v]):
 (execOp ev ⟨dst,.buildSlice 94 1 #[(0,x)],ty,pos,after,g⟩).run Tryz.prog w=.ok (.value (.slice (some ⟨w.heap.size,0,none⟩) 1 1)) (w.alloc (.cells #[u,v] 170)):=by
 obtain⟨ie,hie,hz,h4,h5⟩:=info_parts JcT
 refine Jil ev w 94 170 1 _ _ ie (.agg #[(),JnE]) (by kernel_rfl) hie hz (by rw[h4];decide) (by rw[h4];decide) ?_
 rw[h4]
 simp[Instr.fill,Value.cells,go_sem,hx]
theorem JlN (w0 y:World)(r:Nat)(xs:Zq)(p:Int)(i:Nat)(A:Option Addr)(n cap:Nat)(l:List Int)(st:Jds w0 y r xs p i A n cap l)(hx:xs.length≤16)(hbp:JP p=true)(hn:n≤100000):
 Calls Tryz.prog 162 #[.pointer (some ⟨r,0,none⟩)] y (Qy w0 r xs p i A n cap l):=by
 obtain⟨⟨oe,ce,es,hbx,hes⟩,hrd,hra,hout,hlo,hp,hi⟩:=st
 have HX:=Jnv hes
 have HR:=Jnv hrd
 have HO:=Jnv hout
 have HBX:=Jnv hbx
 have hlen:=hrd.len
 have hrl:r<y.heap.size:=(Jnw hbx).1
 have hc0:y.cell? ⟨r,0,none⟩=some (.slice oe xs.length ce):=cell_of_row _ _ 0 _ _ (0,0) hbx
 have hc1:y.cell? ⟨r,1,none⟩=some (.int .u8 p):=cell_of_row _ _ 1 _ _ (0,0) hbx
 have hc2:y.cell? ⟨r,2,none⟩=some (.slice A n cap):=cell_of_row _ _ 2 _ _ (0,0) hbx
 have hc3:y.cell? ⟨r,3,none⟩=some (.int .i64 (i:Int)):=cell_of_row _ _ 3 _ _ (0,0) hbx
 clear hbx hes hrd hout
 obtain⟨k,hk⟩:∃k,xs.length=k:=⟨_,rfl⟩
 rw[hk] at hc0 hx
 have HK:=Jnv hk
 have HCH:Hid (QY xs p (l.drop i)=if k=16∨(p=0∧0<k) then .err 60 else if (l.drop i).length<2 then .err 10 else (fun(m:Nat)=>if (l.drop i).length<m then .err 10 else if p=44∧((l.drop i).getD 1 0≠0∨Qc 44 (((l.drop i).take m).drop 2)=false) then .err 60 else .ok p (((l.drop i).take m).drop 2) ((l.drop i).getD 0 0) m) (if p=44 then 8 else 8*(((l.drop i).getD 1 0).toNat+1))):=Jnv (by unfold QY;rw[hk])
 clear hk
 by_cases h16:k=16
 ·have hd16:((k:Int)==16)=true:=by simp;omega
  have HE:Hid (QY xs p (l.drop i)=.err 60):=Jnv (by rw[HCH.out,if_pos (.inl h16)])
  clear HCH HX HR HBX
  go_enter Tryz.func162,Tryz.ntmps162
  go_wp2_with fail
  go_ret
  exact Qy.err HE.out (by decide) HO.out
 have hd16:((k:Int)==16)=false:=by simp;omega
 by_cases h00:p=0∧0<k
 ·have hp0:(p==0)=true:=by simp[h00.1]
  have hk0:decide ((0:Int)<(k:Int))=true:=by simp;exact h00.2
  have HE:Hid (QY xs p (l.drop i)=.err 60):=Jnv (by rw[HCH.out,if_pos (.inr h00)])
  clear HCH HX HR HBX
  go_enter Tryz.func162,Tryz.ntmps162
  go_wp2_with fail
  go_ret
  exact Qy.err HE.out (by decide) HO.out
 have HCH2:Hid (QY xs p (l.drop i)=if (l.drop i).length<2 then .err 10 else (fun(m:Nat)=>if (l.drop i).length<m then .err 10 else if p=44∧((l.drop i).getD 1 0≠0∨Qc 44 (((l.drop i).take m).drop 2)=false) then .err 60 else .ok p (((l.drop i).take m).drop 2) ((l.drop i).getD 0 0) m) (if p=44 then 8 else 8*(((l.drop i).getD 1 0).toNat+1))):=Jnv (by rw[HCH.out,if_neg (by intro h;rcases h with h|h;exact h16 h;exact h00 h)])
 clear HCH
 have hle:=HR.out.le
 have hcut:∀w,(Instr.slice 22 (.slice A n cap) (some (.int .i64 (i:Int))) none none).run Tryz.prog w=.ok (.slice (Jp A i cap 1) (n-i) (cap-i)) w:=fun w=>Jbf _ A n cap 1 elemBytes sizeBytes i _ rfl hi w
 have HR1:Hid (Jj y (Jp A i cap 1) (n-i) (cap-i) (l.drop i)):=Jnv (HR.out.cut i hi)
 have hA1:Hid (∀a,Jp A i cap 1=some a→a.block<r):=Jnv (fun a ha=>by
  unfold Jp at ha
  split at ha
  ·exact hra a ha
  ·obtain⟨a0,h1,rfl⟩:=Option.map_eq_some_iff.1 ha
   unfold Addr.add;split<;>exact hra a0 h1)
 obtain⟨N,hN⟩:∃N,n-i=N:=⟨_,rfl⟩
 rw[hN] at HR1 hcut
 generalize hL:l.drop i=L at*
 generalize Jp A i cap 1=A1 at*
 generalize cap-i=cap1 at*
 have hlenL:=HR1.out.len
 rw[hlenL] at HCH2
 have hNi:i+N=n:=by omega
 have hcond:∀b:Bool,(if (p==0)=b then True else True):=fun _=>by split<;>trivial
 have hNb:N≤100000:=by omega
 by_cases hpv:p=44
 ·obtain rfl:p=44:=hpv
  by_cases h2:N<2
  ·have hd2:decide ((N:Int)<2)=true:=by simp;omega
   have HE:Hid (QY xs (44:Int) (l.drop i)=.err 10):=Jnv (by rw[hL,HCH2.out,if_pos h2])
   clear HCH2 HX HR HBX HR1 hA1
   go_enter Tryz.func162,Tryz.ntmps162
   go_wp2_with fail
   refine Jr (by kernel_rfl) (by kernel_rfl) ?_
   repeat go_big_quiet_step (fail)
   refine wpQuiet_nil ?_
   intro x
   go_wp2_with fail
   go_ret
   exact Qy.err HE.out (by decide) (HO.out.trans (x.below.mono HO.out.size))
  have hd2:decide ((N:Int)<2)=false:=by simp;omega
  obtain⟨g,off,rfl,hgl,hcells⟩:=HR1.out.here (by omega)
  have hgr:g<r:=hA1.out _ rfl
  obtain⟨b0,hb0⟩:∃b,L.getD 0 0=b:=⟨_,rfl⟩
  obtain⟨b1,hb1⟩:∃b,L.getD 1 0=b:=⟨_,rfl⟩
  have hbd0:=HR1.out.getD 0
  have hbd1:=HR1.out.getD 1
  have hcb0:=hcells 0 (by omega)
  have hcb1:=hcells 1 (by omega)
  rw[hb0] at hbd0 hcb0
  rw[hb1] at hbd1 hcb1
  rw[Nat.add_zero] at hcb0
  obtain⟨m,hm⟩:∃m:Nat,(if (44:Int)=44 then 8 else 8*(b1.toNat+1))=m:=⟨_,rfl⟩
  have hmv:(m:Int)=8∧8≤m∧m≤2048:=by rw[if_pos rfl] at hm;omega
  have HC3:Hid (QY xs (44:Int) L=if N<m then .err 10 else if (44:Int)=44∧(b1≠0∨Qc 44 ((L.take m).drop 2)=false) then .err 60 else .ok (44:Int) ((L.take m).drop 2) b0 m):=Jnv (by rw[HCH2.out,if_neg h2,hb0,hb1,hm])
  clear HCH2 hm hcells
  have hi1:(1:Int)<(N:Int):=by omega
  have hi0:(0:Int)<(N:Int):=by omega
  by_cases hNm:N<m
  ·have hdm:decide ((N:Int)<8)=true:=by simp;omega
   have HE:Hid (QY xs (44:Int) (l.drop i)=.err 10):=Jnv (by rw[hL,HC3.out,if_pos hNm])
   clear HC3 HX HR HBX HR1 hA1
   go_enter Tryz.func162,Tryz.ntmps162
   go_wp2_with fail
   refine Jr (by kernel_rfl) (by kernel_rfl) ?_
   repeat go_big_quiet_step (fail)
   refine wpQuiet_nil ?_
   intro x
   go_wp2_with fail
   go_ret
   exact Qy.err HE.out (by decide) (HO.out.trans (x.below.mono HO.out.size))
  have hdm:decide ((N:Int)<8)=false:=by simp;omega
  have HRX:Hid (∀d:List Int,True):=Jnv (fun _=>trivial)
  clear HRX
  obtain⟨D,hD⟩:∃D,(L.take m).drop 2=D:=⟨_,rfl⟩
  have hDl:D.length=m-2:=by rw[←hD,List.length_drop,List.length_take];omega
  have HC4:Hid (QY xs (44:Int) L=if (44:Int)=44∧(b1≠0∨Qc 44 D=false) then .err 60 else .ok (44:Int) D b0 m):=Jnv (by rw[HC3.out,if_neg hNm,hD])
  clear HC3
  have hcut2:∀w,(Instr.slice 22 (.slice (some ⟨g,off,none⟩) N cap1) (some (.int .i64 2)) (some (.int .i64 (8))) none).run Tryz.prog w=.ok (.slice (Jp (some ⟨g,off,none⟩) 2 cap1 1) (m-2) (cap1-2)) w:=fun w=>Qm (P:=Tryz.prog) 22 (some ⟨g,off,none⟩) N cap1 1 elemBytes sizeBytes 2 m 2 (8) rfl (by omega) (by omega) (by have:=HR1.out.le;omega) w
  have HCL:Hid (∀w',Below y.heap.size y w'→Calls Tryz.prog 116 #[.slice (Jp (some ⟨g,off,none⟩) 2 cap1 1) (m-2) (cap1-2)] w' (J9 w' D)):=Jnv (fun w' hb=>by
   have:=JaX _ _ _ _ w' (((HR1.out.below hb).cut 2 (by omega)).take (m-2) (by omega)) (by omega)
   rwa [←List.drop_take,hD] at this)
  generalize hA2:Jp (some ⟨g,off,none⟩) 2 cap1 1=A2 at*
  clear hA2
  have HDB:Hid (Jm D):=Jnv (hD▸J7 (Qk HR1.out.byte _) _)
  clear hD
  go_enter Tryz.func162,Tryz.ntmps162
  go_wp2_with fail
  refine Jr (by kernel_rfl) (by kernel_rfl) ?_
  repeat go_big_quiet_step (fail)
  refine wpQuiet_nil ?_
  intro x
  have HO1:=Jnv (HO.out.trans (x.below.mono HO.out.size))
  have HX1:=Jnv (HX.out.below x.below)
  have HB1:Hid (x.world.heap[r]? =some (.cells #[.slice oe k ce,.int .u8 (44:Int),.slice A n cap,.int .i64 (i:Int)] 261 (0,0))):=Jnv ((x.below.block r hrl).trans (by rw[HBX.out,HK.out]))
  have HRA:=Jnv (HR.out.later x)
  have HYX:Hid (Below y.heap.size y x.world):=Jnv x.below
  go_wp2_with fail
  generalize x.world=y1 at*
  refine ZC [.h,.h,.h,.h,.h,.h,.h,.h,.w,.q,.f] 10 (.cells #[(),JnE] 170) (by kernel_rfl) rfl rfl ⟨fun _=>rfl,fun _ _=>by kernel_rfl⟩ (by kernel_rfl) (by kernel_rfl) ?_
  apply Exists.intro
  refine⟨fun wx hbx=>?_,?_⟩
  ·have hc1x:wx.cell? ⟨r,1,none⟩=some (.int .u8 (44:Int)):=cell_of_row _ _ 1 _ _ (0,0) ((hbx.block r (Jnw HB1.out).1).trans HB1.out)
   have hrx:r<wx.heap.size:=Jnz (Jnw HB1.out).1 hbx.size
   simp only[Ju]
   repeat go_big_quiet_step (fail)
   exact wpQuiet_nil rfl
  simp only[Xd,List.drop_succ_cons,List.drop_zero,List.length_cons,List.length_nil]
  refine Jce (JkK D) (JcK.call 116 #[.slice A2 (m-2) (cap1-2)] rfl (fun _=>by kernel_rfl) (fun w1 hb1 _=>(HCL.out w1 (HYX.out.trans (hb1.mono HYX.out.size))).mono (fun e w2 h=>Jcg h))) (JmQ _ _) ?_
  rintro lo hi v hlo1 hlh ⟨wz,oD,cD,rfl,-,-⟩
  refine Jbl (.agg #[(44:Int),.slice oD D.length cD]) (Q6.plain rfl (fun _=>by kernel_rfl)) ?_
  intro b w' hbw hbb hob hok
  obtain⟨oD',cD',he,hoD,hlD⟩:=hok.fact2
  obtain⟨rfl,rfl⟩:oD=oD'∧cD=cD':=by injection he with e1 e2 e3;exact⟨e1,e3⟩
  have haw:=hok.two
  clear hok he
  rw[hDl] at hoD⊢
  have HWY:Hid (Below y.heap.size y w'):=Jnv (HYX.out.trans (hbw.mono HYX.out.size))
  have hyb:y.heap.size≤b:=Nat.le_trans HYX.out.size hbb
  have hgb:g≠b:=by omega
  have hrb:r≠b:=by omega
  have HOD:=Jnv hoD
  have HAW:Hid (∀a,oD=some a→a.block≠b):=Jnv (fun a ha=>by have h1:=(hoD.lt ha).1;have h2:=hlD a ha;rcases haw with h|h<;>simp only at h<;>omega)
  have HOB:=Jnv hob
  clear hob hoD hlD haw hbw
  have hw1:w'.cell? ⟨g,off+1,none⟩=some (.int .u8 b1):=(Jg HWY.out hgl (⟨g,off+1,none⟩:Addr) rfl).trans hcb1
  have hw0:w'.cell? ⟨g,off,none⟩=some (.int .u8 b0):=(Jg HWY.out hgl (⟨g,off,none⟩:Addr) rfl).trans hcb0
  have hwr:w'.cell? ⟨r,1,none⟩=some (.int .u8 (44:Int)):=(Jg HWY.out hrl (⟨r,1,none⟩:Addr) rfl).trans hc1
  have hs0:w'.cell? ⟨b,0,none⟩=some (.int .u8 0):=cell_of_row _ _ 0 _ _ (0,0) HOB.out
  have hs1:w'.cell? ⟨b,1,none⟩=some (.slice none 0 0):=cell_of_row _ _ 1 _ _ (0,0) HOB.out
  have hf0:w'.frozen? ⟨b,0,none⟩=false:=frozen_of_row _ _ _ _ _ HOB.out
  have hf1:w'.frozen? ⟨b,1,none⟩=false:=frozen_of_row _ _ _ _ _ HOB.out
  unfold QQ
  have HZ:Hid (Below y.heap.size y ((w'.setCell ⟨b,0,none⟩ (.int .u8 (44:Int))).setCell ⟨b,1,none⟩ (.slice oD (m-2) cD))):=Jnv ((HWY.out.trans (QN hyb)).trans (QN hyb))
  have HZX:Hid (((w'.setCell ⟨b,0,none⟩ (.int .u8 (44:Int))).setCell ⟨b,1,none⟩ (.slice oD (m-2) cD)).heap[b]? =some (.cells #[.int .u8 (44:Int),.slice oD (m-2) cD] 170 (0,0))):=Jnv (Jcj _ _ HOB.out)
  have HZR:Hid (Jj ((w'.setCell ⟨b,0,none⟩ (.int .u8 (44:Int))).setCell ⟨b,1,none⟩ (.slice oD (m-2) cD)) oD (m-2) cD D):=Jnv (((HOD.out.reads HDB.out).other (fun a ha=>HAW.out a ha) _).other (fun a ha=>HAW.out a ha) _)
  have HZB:Hid (∀a,oD=some a→y.heap.size≤a.block∧a.block<((w'.setCell ⟨b,0,none⟩ (.int .u8 (44:Int))).setCell ⟨b,1,none⟩ (.slice oD (m-2) cD)).heap.size∧a.block≠b):=Jnv (fun a ha=>⟨Nat.le_trans (Nat.le_trans HYX.out.size hlo1) (HOD.out.lt ha).1,by simpa using(HOD.out.lt ha).2,HAW.out a ha⟩)
  by_cases hb10:b1=0
  rotate_left
  ·have hz1:(b1 != 0)=true:=by simpa using hb10
   have HE:Hid (QY xs (44:Int) (l.drop i)=.err 60):=Jnv (by rw[hL,HC4.out,if_pos ⟨trivial,.inl hb10⟩])
   go_wp2_with fail
   go_ret
   exact Qy.err HE.out (by decide) (HO.out.trans (HZ.out.mono HO.out.size))
  have hz1:(b1 != 0)=false:=by simp[hb10]
  have HS:Hid (∀w1,Jj w1 oD (m-2) cD D→Calls Tryz.prog 91 #[.agg #[.int .u8 (44:Int),.slice oD (m-2) cD]] w1 (Jk w1 (.bool (Qc (44:Int) D)))):=Jnv (fun w1 h1=>by
   have:=Jei (44:Int) oD cD D w1 (by rw[hDl];exact h1) (by omega)
   rwa [hDl] at this)
  obtain⟨XR,hXR⟩:∃B,Qc (44:Int) D=B:=⟨_,rfl⟩
  rw[hXR] at HS HC4
  go_wp2_with fail
  generalize ((w'.setCell ⟨b,0,none⟩ (.int .u8 (44:Int))).setCell ⟨b,1,none⟩ (.slice oD (m-2) cD))=zz at*
  refine Jnx (HS.out _ HZR.out) ?_
  rintro e z ⟨rfl,hbz⟩
  have HZ2:=Jnv (HZ.out.trans (hbz.mono HZ.out.size))
  have HZX2:=Jnv ((hbz.block b (Jnw HZX.out).1).trans HZX.out)
  have HZR2:=Jnv (HZR.out.below hbz)
  have HZB2:Hid (∀a,oD=some a→y.heap.size≤a.block∧a.block<z.heap.size∧a.block≠b):=Jnv (fun a ha=>⟨(HZB.out a ha).1,Jnz (HZB.out a ha).2.1 hbz.size,(HZB.out a ha).2.2⟩)
  clear hbz HZ HZX HZR HZB HS
  by_cases hxr:XR=true
  rotate_left
  ·have hxf:XR=false:=by simpa using hxr
   have HE:Hid (QY xs (44:Int) (l.drop i)=.err 60):=Jnv (by rw[hL,HC4.out,if_pos ⟨trivial,.inr hxf⟩])
   subst hxf
   go_wp2_with fail
   go_ret
   exact Qy.err HE.out (by decide) (HO.out.trans (HZ2.out.mono HO.out.size))
  subst hxr
  have HE:Hid (QY xs (44:Int) (l.drop i)=.ok (44:Int) D b0 m):=Jnv (by rw[hL,HC4.out,if_neg (by intro h;rcases h.2 with h|h;exact h hb10;cases h)])
  go_wp2_with fail
  clear HC4 HCL hw1 hw0 hwr hs0 hs1 hf0 hf1 HOD HAW HOB HWY
  have hrz:z.heap[r]? =some (.cells #[.slice oe k ce,.int .u8 (44:Int),.slice A n cap,.int .i64 (i:Int)] 261 (0,0)):=(HZ2.out.block r hrl).trans (by rw[HBX.out,HK.out])
  have HRZ:=Jnv hrz
  have hrlz:r<z.heap.size:=(Jnw hrz).1
  have hblz:b<z.heap.size:=(Jnw HZX2.out).1
  have hglz:g<z.heap.size:=Nat.lt_trans hgr hrlz
  have hz0:z.cell? ⟨r,0,none⟩=some (.slice oe k ce):=cell_of_row _ _ 0 _ _ (0,0) hrz
  have hz3:z.cell? ⟨r,3,none⟩=some (.int .i64 (i:Int)):=cell_of_row _ _ 3 _ _ (0,0) hrz
  have hzb0:z.cell? ⟨b,0,none⟩=some (.int .u8 (44:Int)):=cell_of_row _ _ 0 _ _ (0,0) HZX2.out
  have hzb1:z.cell? ⟨b,1,none⟩=some (.slice oD (m-2) cD):=cell_of_row _ _ 1 _ _ (0,0) HZX2.out
  have hzg:z.cell? ⟨g,off,none⟩=some (.int .u8 b0):=(Jg HZ2.out hgl (⟨g,off,none⟩:Addr) rfl).trans hcb0
  have HG0:=Jnv hzg
  clear hrz
  refine Xy [.h,.h,.h,.h,.h,.h,.h,.h,.h,.w,.w,.h,.h,.h,.h,.h,.h,.h,.h,.h,.w,.w,.w,.w,.w,.w,.w,.w,.w,.w,.w] [(0,2,1),(1,6,1),(2,10,1),(3,1,1),(4,1,1),(5,1,1),(6,1,1),(7,1,0),(11,2,1),(12,2,1),(13,2,0),(14,2,1),(15,2,1),(16,2,1),(17,2,0),(18,10,1),(19,10,1)] (Jlj fun w'=>(w'.cell? ⟨r,0,none⟩=some (.slice oe k ce)∧w'.cell? ⟨r,3,none⟩=some (.int .i64 (i:Int)))∧w'.cell? ⟨g,off,none⟩=some (.int .u8 b0)) [2,13] (by kernel_rfl) rfl (by kernel_rfl) (by kernel_rfl) ?_
  simp only[Ju,Xd,List.map_cons,List.map_nil]
  repeat go_big_quiet_step (fail)
  refine wpQuiet_nil ⟨?_,?_⟩
  ·intro q hq oi hoi
   simp only[List.mem_cons,List.not_mem_nil,or_false] at hq
   have hwp:IntKind.i64.wrap ((i:Int)+8)=(i:Int)+8:=IntWalk.i64_in _ (by omega)
   rcases hq with rfl|rfl|rfl|rfl|rfl|rfl|rfl|rfl|rfl|rfl|rfl|rfl|rfl|rfl|rfl|rfl|rfl
   ·cases hoi;exact⟨_,rfl,rfl,fun w2 hw=>by kernel_rfl⟩
   ·cases hoi;exact⟨_,rfl,rfl,fun w2 hw=>by kernel_rfl⟩
   ·cases hoi;exact⟨_,rfl,rfl,fun w2 hw=>by kernel_rfl⟩
   ·cases hoi;exact⟨_,rfl,rfl,fun w2 hw=>by kernel_rfl⟩
   ·cases hoi;exact⟨_,rfl,rfl,fun w2 hw=>by kernel_rfl⟩
   ·cases hoi;exact⟨_,rfl,rfl,fun w2 hw=>by kernel_rfl⟩
   ·cases hoi;exact⟨_,rfl,rfl,fun w2 hw=>by kernel_rfl⟩
   ·cases hoi;exact⟨_,rfl,rfl,fun w2 hw=>by simp[execOp,go_sem,hw.1.1]⟩
   ·cases hoi;exact⟨_,rfl,rfl,fun w2 hw=>by kernel_rfl⟩
   ·cases hoi;exact⟨_,rfl,rfl,fun w2 hw=>by simp[execOp,go_sem,hi0];intro h;exfalso;omega⟩
   ·cases hoi;exact⟨_,rfl,rfl,fun w2 hw=>by simp[execOp,go_sem,hw.2]⟩
   ·cases hoi;exact⟨_,rfl,rfl,fun w2 hw=>by kernel_rfl⟩
   ·cases hoi;exact⟨_,rfl,rfl,fun w2 hw=>by kernel_rfl⟩
   ·cases hoi;exact⟨_,rfl,rfl,fun w2 hw=>by kernel_rfl⟩
   ·cases hoi;exact⟨_,rfl,rfl,fun w2 hw=>by simp[execOp,go_sem,hw.1.2]⟩
   ·cases hoi;exact⟨_,rfl,rfl,fun w2 hw=>by kernel_rfl⟩
   ·cases hoi;exact⟨_,rfl,rfl,fun w2 hw=>by simp[execOp,go_sem,hwp]⟩
  refine ZM (fun v w2=>∃x:JC z,v=.slice (some ⟨x.world.heap.size,0,none⟩) 1 1∧w2=x.world.alloc (.cells #[.int .u8 (44:Int),.slice oD (m-2) cD] 170)) rfl ?_ ?_ ?_
  ·rintro w2 ⟨x,rfl⟩
   exact⟨_,_,Jbo _ _ _ _ _ rfl,x,rfl,rfl⟩
  ·intro v
   refine Xe ?_
   rintro w2 ⟨x,-,rfl⟩
   have hb:=Below.all x.below (.cells #[.int .u8 (44:Int),.slice oD (m-2) cD] 170)
   exact⟨⟨(Jg hb hrlz _ rfl).trans hz0,(Jg hb hrlz _ rfl).trans hz3⟩,(Jg hb hglz _ rfl).trans HG0.out⟩
  rintro v ⟨w2,x0,rfl,-⟩
  generalize x0.world.heap.size=B1
  clear x0 w2
  refine ZM (fun v w2=>∃oe' ce',v=.slice oe' (k+1) ce'∧X8 z r A n cap oe' ce' (xs++[((44:Int),D)]) (es++[⟨(44:Int),oD,m-2,cD⟩]) (.slice oe k ce) (.int .u8 (44:Int)) (.int .i64 (i:Int)) w2∧w2.cell? ⟨g,off,none⟩=some (.int .u8 b0)) rfl ?_ ?_ ?_
  ·rintro w2 ⟨x,hv,rfl⟩
   obtain rfl:B1=x.world.heap.size:=by injection hv with h;injection h with h;injection h
   have hbz:=Below.all x.below (.cells #[.int .u8 (44:Int),.slice oD (m-2) cD] 170)
   have hX:=(HX.out.below HZ2.out).below hbz
   obtain⟨oe',ce',w3,hr,ho,hg,hd⟩:=QS (P:=Tryz.prog) _ 94 94 170 _ 2 32 (r+1) (by kernel_rfl) JcT rfl (by decide) oe k ce (Q3 es) (by rw[←HK.out];exact hX.own) ⟨x.world.heap.size,0,none⟩ 1 1 [.int .u8 (44:Int),.slice oD (m-2) cD] rfl (X1 x.world #[.int .u8 (44:Int),.slice oD (m-2) cD] 170) (by intro u hu;simp only[List.mem_cons,List.not_mem_nil,or_false] at hu;rcases hu with rfl|rfl<;>rfl) (by decide) (by unfold maxLen;omega) (by omega) (by have:=hbz.size;omega)
   have hne:some r≠oe.map Addr.block:=by
    intro h
    obtain⟨a,h1,h2⟩:=Option.map_eq_some_iff.1 h.symm
    have:=(hX.own.lt h1).1
    omega
   have hlt:r<(x.world.alloc (.cells #[.int .u8 (44:Int),.slice oD (m-2) cD] 170)).heap.size:=Jnz hrlz hbz.size
   refine⟨_,_,Xn _ _ rfl rfl hr,oe',ce',rfl,⟨?_,?_,?_⟩,?_⟩
   ·exact(hg.block r hlt hne).trans ((hbz.block r hrlz).trans HRZ.out)
   ·refine hX.snoc ⟨(44:Int),oD,m-2,cD⟩ ((44:Int),D) ⟨rfl,HZR2.out.below hbz,fun a ha=>?_⟩ (by rw[HK.out];exact ho) hg hd
    have hb1:=HZB2.out a ha
    refine⟨by show r+1≤a.block;omega,Jnz hb1.2.1 hbz.size,fun b' hb'=>?_⟩
    have:=(HX.out.own.lt hb').2
    omega
   ·refine Below.grown (hbz.mono (by omega)) hg (by omega) (fun q hq=>?_)
    obtain⟨a,h1,h2⟩:=Option.map_eq_some_iff.1 hq
    have:=(hX.own.lt h1).1
    omega
   ·refine hg.cell ((Jg hbz hglz _ rfl).trans HG0.out) (fun h=>?_)
    obtain⟨a,h1,h2⟩:=Option.map_eq_some_iff.1 h.symm
    have:=(hX.own.lt h1).1
    simp only at h2
    omega
  ·intro v
   refine Xe ?_
   rintro w2 ⟨oe',ce',-,st,hc⟩
   exact⟨⟨cell_of_row _ _ 0 _ _ (0,0) st.box,cell_of_row _ _ 3 _ _ (0,0) st.box⟩,hc⟩
  rintro v ⟨w2,oe',ce',rfl,-⟩
  refine Jax (C3:=X8 z r A n cap oe' ce' (xs++[((44:Int),D)]) (es++[⟨(44:Int),oD,m-2,cD⟩]) (.slice oe k ce) (.int .u8 (44:Int)) (.int .i64 (i:Int))) (by rintro w2 ⟨oe2,ce2,hv,st,-⟩;injection hv with h1 h2 h3;subst h1;subst h3;exact st) ?_
  clear w2
  refine JF (.pointer (some ⟨r,0,none⟩)) rfl (fun w2 _=>by kernel_rfl) (Js (by decide)) ?_
  refine JF (.pointer (some ⟨r,0,none⟩)) rfl (fun w2 _=>by kernel_rfl) (Js (by decide)) ?_
  refine JF (.pointer (some ⟨r,0,none⟩)) rfl (fun w2 _=>by kernel_rfl) (Js (by decide)) ?_
  refine QW (X8 z r A n cap oe' ce' (xs++[((44:Int),D)]) (es++[⟨(44:Int),oD,m-2,cD⟩]) (.slice oe' (k+1) ce') (.int .u8 (44:Int)) (.int .i64 (i:Int))) rfl (fun w2 st=>⟨_,?_,st.set0 _⟩) (Js (by decide)) ?_
  ·have q1:=cell_of_row _ _ 0 _ _ (0,0) st.box
   have q2:=frozen_of_row _ _ 0 _ _ st.box
   simp[execOp,go_sem,q1,q2]
  refine JF (.pointer (some ⟨r,0,none⟩)) rfl (fun w2 _=>by kernel_rfl) (Js (by decide)) ?_
  refine JF (.pointer (some ⟨r,0,none⟩)) rfl (fun w2 _=>by kernel_rfl) (Js (by decide)) ?_
  refine JF (.pointer (some ⟨r,1,none⟩)) rfl (fun w2 _=>by kernel_rfl) (Js (by decide)) ?_
  refine QW (X8 z r A n cap oe' ce' (xs++[((44:Int),D)]) (es++[⟨(44:Int),oD,m-2,cD⟩]) (.slice oe' (k+1) ce') (.int .u8 b0) (.int .i64 (i:Int))) rfl (fun w2 st=>⟨_,?_,st.set1 _⟩) (Js (by decide)) ?_
  ·have q1:=cell_of_row _ _ 1 _ _ (0,0) st.box
   have q2:=frozen_of_row _ _ 1 _ _ st.box
   simp[execOp,go_sem,q1,q2]
  refine JF (.pointer (some ⟨r,0,none⟩)) rfl (fun w2 _=>by kernel_rfl) (Js (by decide)) ?_
  refine JF (.pointer (some ⟨r,3,none⟩)) rfl (fun w2 _=>by kernel_rfl) (Js (by decide)) ?_
  refine QW (X8 z r A n cap oe' ce' (xs++[((44:Int),D)]) (es++[⟨(44:Int),oD,m-2,cD⟩]) (.slice oe' (k+1) ce') (.int .u8 b0) (.int .i64 ((i:Int)+8))) rfl (fun w2 st=>⟨_,?_,st.set3 _⟩) (Js (by decide)) ?_
  ·have q1:=cell_of_row _ _ 3 _ _ (0,0) st.box
   have q2:=frozen_of_row _ _ 3 _ _ st.box
   simp[execOp,go_sem,q1,q2]
  intro w2 st
  have HST:=Jnv st
  clear st
  go_wp2_with fail
  go_ret
  show Qy w0 r xs (44:Int) i A n cap l _ _
  unfold Qy
  rw[HE.out]
  have hlx:(xs++[((44:Int),D)]).length=k+1:=by rw[List.length_append,HK.out];rfl
  refine⟨rfl,⟨oe',ce',es++[⟨(44:Int),oD,m-2,cD⟩],?_,HST.out.exts⟩,?_,hra,?_,hlo,hbd0,?_⟩
  ·have hb:=HST.out.box
   rw[show(i:Int)+(8)=((i+m:Nat):Int) by omega] at hb
   rw[hlx]
   exact hb
  ·exact(HR.out.below HZ2.out).belowB HST.out.out hra
  ·exact(HO.out.trans (HZ2.out.mono HO.out.size)).trans (HST.out.out.mono hlo)
  ·omega
 by_cases hpz:p=0
 ·obtain rfl:p=0:=hpz
  have hk0:decide ((0:Int)<(k:Int))=false:=by simp;omega
  by_cases h2:N<2
  ·have hd2:decide ((N:Int)<2)=true:=by simp;omega
   have HE:Hid (QY xs (0:Int) (l.drop i)=.err 10):=Jnv (by rw[hL,HCH2.out,if_pos h2])
   clear HCH2 HX HR HBX HR1 hA1
   go_enter Tryz.func162,Tryz.ntmps162
   go_wp2_with fail
   refine Jr (by kernel_rfl) (by kernel_rfl) ?_
   repeat go_big_quiet_step (fail)
   refine wpQuiet_nil ?_
   intro x
   go_wp2_with fail
   go_ret
   exact Qy.err HE.out (by decide) (HO.out.trans (x.below.mono HO.out.size))
  have hd2:decide ((N:Int)<2)=false:=by simp;omega
  obtain⟨g,off,rfl,hgl,hcells⟩:=HR1.out.here (by omega)
  have hgr:g<r:=hA1.out _ rfl
  obtain⟨b0,hb0⟩:∃b,L.getD 0 0=b:=⟨_,rfl⟩
  obtain⟨b1,hb1⟩:∃b,L.getD 1 0=b:=⟨_,rfl⟩
  have hbd0:=HR1.out.getD 0
  have hbd1:=HR1.out.getD 1
  have hcb0:=hcells 0 (by omega)
  have hcb1:=hcells 1 (by omega)
  rw[hb0] at hbd0 hcb0
  rw[hb1] at hbd1 hcb1
  rw[Nat.add_zero] at hcb0
  obtain⟨m,hm⟩:∃m:Nat,(if (0:Int)=44 then 8 else 8*(b1.toNat+1))=m:=⟨_,rfl⟩
  have hmv:(m:Int)=8*(b1+1)∧8≤m∧m≤2048:=by rw[if_neg (by decide)] at hm;omega
  have HC3:Hid (QY xs (0:Int) L=if N<m then .err 10 else if (0:Int)=44∧(b1≠0∨Qc 44 ((L.take m).drop 2)=false) then .err 60 else .ok (0:Int) ((L.take m).drop 2) b0 m):=Jnv (by rw[HCH2.out,if_neg h2,hb0,hb1,hm])
  clear HCH2 hm hcells
  have hi1:(1:Int)<(N:Int):=by omega
  have hi0:(0:Int)<(N:Int):=by omega
  by_cases hNm:N<m
  ·have hdm:decide ((N:Int)<8*(b1+1))=true:=by simp;omega
   have HE:Hid (QY xs (0:Int) (l.drop i)=.err 10):=Jnv (by rw[hL,HC3.out,if_pos hNm])
   clear HC3 HX HR HBX HR1 hA1
   go_enter Tryz.func162,Tryz.ntmps162
   go_wp2_with fail
   refine Jr (by kernel_rfl) (by kernel_rfl) ?_
   repeat go_big_quiet_step (fail)
   refine wpQuiet_nil ?_
   intro x
   go_wp2_with fail
   go_ret
   exact Qy.err HE.out (by decide) (HO.out.trans (x.below.mono HO.out.size))
  have hdm:decide ((N:Int)<8*(b1+1))=false:=by simp;omega
  have HRX:Hid (∀d:List Int,True):=Jnv (fun _=>trivial)
  clear HRX
  obtain⟨D,hD⟩:∃D,(L.take m).drop 2=D:=⟨_,rfl⟩
  have hDl:D.length=m-2:=by rw[←hD,List.length_drop,List.length_take];omega
  have HC4:Hid (QY xs (0:Int) L=if (0:Int)=44∧(b1≠0∨Qc 44 D=false) then .err 60 else .ok (0:Int) D b0 m):=Jnv (by rw[HC3.out,if_neg hNm,hD])
  clear HC3
  have hcut2:∀w,(Instr.slice 22 (.slice (some ⟨g,off,none⟩) N cap1) (some (.int .i64 2)) (some (.int .i64 (8*(b1+1)))) none).run Tryz.prog w=.ok (.slice (Jp (some ⟨g,off,none⟩) 2 cap1 1) (m-2) (cap1-2)) w:=fun w=>Qm (P:=Tryz.prog) 22 (some ⟨g,off,none⟩) N cap1 1 elemBytes sizeBytes 2 m 2 (8*(b1+1)) rfl (by omega) (by omega) (by have:=HR1.out.le;omega) w
  have HCL:Hid (∀w',Below y.heap.size y w'→Calls Tryz.prog 116 #[.slice (Jp (some ⟨g,off,none⟩) 2 cap1 1) (m-2) (cap1-2)] w' (J9 w' D)):=Jnv (fun w' hb=>by
   have:=JaX _ _ _ _ w' (((HR1.out.below hb).cut 2 (by omega)).take (m-2) (by omega)) (by omega)
   rwa [←List.drop_take,hD] at this)
  generalize hA2:Jp (some ⟨g,off,none⟩) 2 cap1 1=A2 at*
  clear hA2
  have HDB:Hid (Jm D):=Jnv (hD▸J7 (Qk HR1.out.byte _) _)
  clear hD
  go_enter Tryz.func162,Tryz.ntmps162
  go_wp2_with fail
  refine Jr (by kernel_rfl) (by kernel_rfl) ?_
  repeat go_big_quiet_step (fail)
  refine wpQuiet_nil ?_
  intro x
  have HO1:=Jnv (HO.out.trans (x.below.mono HO.out.size))
  have HX1:=Jnv (HX.out.below x.below)
  have HB1:Hid (x.world.heap[r]? =some (.cells #[.slice oe k ce,.int .u8 (0:Int),.slice A n cap,.int .i64 (i:Int)] 261 (0,0))):=Jnv ((x.below.block r hrl).trans (by rw[HBX.out,HK.out]))
  have HRA:=Jnv (HR.out.later x)
  have HYX:Hid (Below y.heap.size y x.world):=Jnv x.below
  go_wp2_with fail
  generalize x.world=y1 at*
  refine ZC [.h,.h,.h,.h,.h,.h,.h,.h,.w,.q,.f] 10 (.cells #[(),JnE] 170) (by kernel_rfl) rfl rfl ⟨fun _=>rfl,fun _ _=>by kernel_rfl⟩ (by kernel_rfl) (by kernel_rfl) ?_
  apply Exists.intro
  refine⟨fun wx hbx=>?_,?_⟩
  ·have hc1x:wx.cell? ⟨r,1,none⟩=some (.int .u8 (0:Int)):=cell_of_row _ _ 1 _ _ (0,0) ((hbx.block r (Jnw HB1.out).1).trans HB1.out)
   have hrx:r<wx.heap.size:=Jnz (Jnw HB1.out).1 hbx.size
   simp only[Ju]
   repeat go_big_quiet_step (fail)
   exact wpQuiet_nil rfl
  simp only[Xd,List.drop_succ_cons,List.drop_zero,List.length_cons,List.length_nil]
  refine Jce (JkK D) (JcK.call 116 #[.slice A2 (m-2) (cap1-2)] rfl (fun _=>by kernel_rfl) (fun w1 hb1 _=>(HCL.out w1 (HYX.out.trans (hb1.mono HYX.out.size))).mono (fun e w2 h=>Jcg h))) (JmQ _ _) ?_
  rintro lo hi v hlo1 hlh ⟨wz,oD,cD,rfl,-,-⟩
  refine Jbl (.agg #[(),.slice oD D.length cD]) (Q6.plain rfl (fun _=>by kernel_rfl)) ?_
  intro b w' hbw hbb hob hok
  obtain⟨oD',cD',he,hoD,hlD⟩:=hok.fact2
  obtain⟨rfl,rfl⟩:oD=oD'∧cD=cD':=by injection he with e1 e2 e3;exact⟨e1,e3⟩
  have haw:=hok.two
  clear hok he
  rw[hDl] at hoD⊢
  have HWY:Hid (Below y.heap.size y w'):=Jnv (HYX.out.trans (hbw.mono HYX.out.size))
  have hyb:y.heap.size≤b:=Nat.le_trans HYX.out.size hbb
  have hgb:g≠b:=by omega
  have hrb:r≠b:=by omega
  have HOD:=Jnv hoD
  have HAW:Hid (∀a,oD=some a→a.block≠b):=Jnv (fun a ha=>by have h1:=(hoD.lt ha).1;have h2:=hlD a ha;rcases haw with h|h<;>simp only at h<;>omega)
  have HOB:=Jnv hob
  clear hob hoD hlD haw hbw
  have hw1:w'.cell? ⟨g,off+1,none⟩=some (.int .u8 b1):=(Jg HWY.out hgl (⟨g,off+1,none⟩:Addr) rfl).trans hcb1
  have hw0:w'.cell? ⟨g,off,none⟩=some (.int .u8 b0):=(Jg HWY.out hgl (⟨g,off,none⟩:Addr) rfl).trans hcb0
  have hwr:w'.cell? ⟨r,1,none⟩=some (.int .u8 (0:Int)):=(Jg HWY.out hrl (⟨r,1,none⟩:Addr) rfl).trans hc1
  have hs0:w'.cell? ⟨b,0,none⟩=some (.int .u8 0):=cell_of_row _ _ 0 _ _ (0,0) HOB.out
  have hs1:w'.cell? ⟨b,1,none⟩=some (.slice none 0 0):=cell_of_row _ _ 1 _ _ (0,0) HOB.out
  have hf0:w'.frozen? ⟨b,0,none⟩=false:=frozen_of_row _ _ _ _ _ HOB.out
  have hf1:w'.frozen? ⟨b,1,none⟩=false:=frozen_of_row _ _ _ _ _ HOB.out
  unfold QQ
  have HZ:Hid (Below y.heap.size y ((w'.setCell ⟨b,0,none⟩ (.int .u8 (0:Int))).setCell ⟨b,1,none⟩ (.slice oD (m-2) cD))):=Jnv ((HWY.out.trans (QN hyb)).trans (QN hyb))
  have HZX:Hid (((w'.setCell ⟨b,0,none⟩ (.int .u8 (0:Int))).setCell ⟨b,1,none⟩ (.slice oD (m-2) cD)).heap[b]? =some (.cells #[.int .u8 (0:Int),.slice oD (m-2) cD] 170 (0,0))):=Jnv (Jcj _ _ HOB.out)
  have HZR:Hid (Jj ((w'.setCell ⟨b,0,none⟩ (.int .u8 (0:Int))).setCell ⟨b,1,none⟩ (.slice oD (m-2) cD)) oD (m-2) cD D):=Jnv (((HOD.out.reads HDB.out).other (fun a ha=>HAW.out a ha) _).other (fun a ha=>HAW.out a ha) _)
  have HZB:Hid (∀a,oD=some a→y.heap.size≤a.block∧a.block<((w'.setCell ⟨b,0,none⟩ (.int .u8 (0:Int))).setCell ⟨b,1,none⟩ (.slice oD (m-2) cD)).heap.size∧a.block≠b):=Jnv (fun a ha=>⟨Nat.le_trans (Nat.le_trans HYX.out.size hlo1) (HOD.out.lt ha).1,by simpa using(HOD.out.lt ha).2,HAW.out a ha⟩)
  have HE:Hid (QY xs (0:Int) (l.drop i)=.ok (0:Int) D b0 m):=Jnv (by rw[hL,HC4.out,if_neg (by intro h;cases h.1)])
  go_wp2_with fail
  generalize ((w'.setCell ⟨b,0,none⟩ (.int .u8 (0:Int))).setCell ⟨b,1,none⟩ (.slice oD (m-2) cD))=z at*
  have HZ2:=Jnv HZ.out
  have HZX2:=Jnv HZX.out
  have HZR2:=Jnv HZR.out
  have HZB2:=Jnv HZB.out
  clear HZ HZX HZR HZB
  clear HC4 HCL hw1 hw0 hwr hs0 hs1 hf0 hf1 HOD HAW HOB HWY
  have hrz:z.heap[r]? =some (.cells #[.slice oe k ce,.int .u8 (0:Int),.slice A n cap,.int .i64 (i:Int)] 261 (0,0)):=(HZ2.out.block r hrl).trans (by rw[HBX.out,HK.out])
  have HRZ:=Jnv hrz
  have hrlz:r<z.heap.size:=(Jnw hrz).1
  have hblz:b<z.heap.size:=(Jnw HZX2.out).1
  have hglz:g<z.heap.size:=Nat.lt_trans hgr hrlz
  have hz0:z.cell? ⟨r,0,none⟩=some (.slice oe k ce):=cell_of_row _ _ 0 _ _ (0,0) hrz
  have hz3:z.cell? ⟨r,3,none⟩=some (.int .i64 (i:Int)):=cell_of_row _ _ 3 _ _ (0,0) hrz
  have hzb0:z.cell? ⟨b,0,none⟩=some (.int .u8 (0:Int)):=cell_of_row _ _ 0 _ _ (0,0) HZX2.out
  have hzb1:z.cell? ⟨b,1,none⟩=some (.slice oD (m-2) cD):=cell_of_row _ _ 1 _ _ (0,0) HZX2.out
  have hzg:z.cell? ⟨g,off,none⟩=some (.int .u8 b0):=(Jg HZ2.out hgl (⟨g,off,none⟩:Addr) rfl).trans hcb0
  have HG0:=Jnv hzg
  clear hrz
  refine Xy [.h,.h,.h,.h,.h,.h,.h,.h,.h,.w,.w,.h,.h,.h,.h,.h,.h,.h,.h,.h,.w,.w,.w,.w,.w,.w,.w,.w,.w,.w,.w] [(0,2,1),(1,6,1),(2,10,1),(3,1,1),(4,1,1),(5,1,1),(6,1,1),(7,1,0),(11,2,1),(12,2,1),(13,2,0),(14,2,1),(15,2,1),(16,2,1),(17,2,0),(18,10,1),(19,10,1)] (Jlj fun w'=>(w'.cell? ⟨r,0,none⟩=some (.slice oe k ce)∧w'.cell? ⟨r,3,none⟩=some (.int .i64 (i:Int)))∧w'.cell? ⟨g,off,none⟩=some (.int .u8 b0)) [2,13] (by kernel_rfl) rfl (by kernel_rfl) (by kernel_rfl) ?_
  simp only[Ju,Xd,List.map_cons,List.map_nil]
  repeat go_big_quiet_step (fail)
  refine wpQuiet_nil ⟨?_,?_⟩
  ·intro q hq oi hoi
   simp only[List.mem_cons,List.not_mem_nil,or_false] at hq
   have hwp:IntKind.i64.wrap ((i:Int)+8*(b1+1))=(i:Int)+8*(b1+1):=IntWalk.i64_in _ (by omega)
   rcases hq with rfl|rfl|rfl|rfl|rfl|rfl|rfl|rfl|rfl|rfl|rfl|rfl|rfl|rfl|rfl|rfl|rfl
   ·cases hoi;exact⟨_,rfl,rfl,fun w2 hw=>by kernel_rfl⟩
   ·cases hoi;exact⟨_,rfl,rfl,fun w2 hw=>by kernel_rfl⟩
   ·cases hoi;exact⟨_,rfl,rfl,fun w2 hw=>by kernel_rfl⟩
   ·cases hoi;exact⟨_,rfl,rfl,fun w2 hw=>by kernel_rfl⟩
   ·cases hoi;exact⟨_,rfl,rfl,fun w2 hw=>by kernel_rfl⟩
   ·cases hoi;exact⟨_,rfl,rfl,fun w2 hw=>by kernel_rfl⟩
   ·cases hoi;exact⟨_,rfl,rfl,fun w2 hw=>by kernel_rfl⟩
   ·cases hoi;exact⟨_,rfl,rfl,fun w2 hw=>by simp[execOp,go_sem,hw.1.1]⟩
   ·cases hoi;exact⟨_,rfl,rfl,fun w2 hw=>by kernel_rfl⟩
   ·cases hoi;exact⟨_,rfl,rfl,fun w2 hw=>by simp[execOp,go_sem,hi0];intro h;exfalso;omega⟩
   ·cases hoi;exact⟨_,rfl,rfl,fun w2 hw=>by simp[execOp,go_sem,hw.2]⟩
   ·cases hoi;exact⟨_,rfl,rfl,fun w2 hw=>by kernel_rfl⟩
   ·cases hoi;exact⟨_,rfl,rfl,fun w2 hw=>by kernel_rfl⟩
   ·cases hoi;exact⟨_,rfl,rfl,fun w2 hw=>by kernel_rfl⟩
   ·cases hoi;exact⟨_,rfl,rfl,fun w2 hw=>by simp[execOp,go_sem,hw.1.2]⟩
   ·cases hoi;exact⟨_,rfl,rfl,fun w2 hw=>by kernel_rfl⟩
   ·cases hoi;exact⟨_,rfl,rfl,fun w2 hw=>by simp[execOp,go_sem,hwp]⟩
  refine ZM (fun v w2=>∃x:JC z,v=.slice (some ⟨x.world.heap.size,0,none⟩) 1 1∧w2=x.world.alloc (.cells #[.int .u8 (0:Int),.slice oD (m-2) cD] 170)) rfl ?_ ?_ ?_
  ·rintro w2 ⟨x,rfl⟩
   exact⟨_,_,Jbo _ _ _ _ _ rfl,x,rfl,rfl⟩
  ·intro v
   refine Xe ?_
   rintro w2 ⟨x,-,rfl⟩
   have hb:=Below.all x.below (.cells #[.int .u8 (0:Int),.slice oD (m-2) cD] 170)
   exact⟨⟨(Jg hb hrlz _ rfl).trans hz0,(Jg hb hrlz _ rfl).trans hz3⟩,(Jg hb hglz _ rfl).trans HG0.out⟩
  rintro v ⟨w2,x0,rfl,-⟩
  generalize x0.world.heap.size=B1
  clear x0 w2
  refine ZM (fun v w2=>∃oe' ce',v=.slice oe' (k+1) ce'∧X8 z r A n cap oe' ce' (xs++[((0:Int),D)]) (es++[⟨(0:Int),oD,m-2,cD⟩]) (.slice oe k ce) (.int .u8 (0:Int)) (.int .i64 (i:Int)) w2∧w2.cell? ⟨g,off,none⟩=some (.int .u8 b0)) rfl ?_ ?_ ?_
  ·rintro w2 ⟨x,hv,rfl⟩
   obtain rfl:B1=x.world.heap.size:=by injection hv with h;injection h with h;injection h
   have hbz:=Below.all x.below (.cells #[.int .u8 (0:Int),.slice oD (m-2) cD] 170)
   have hX:=(HX.out.below HZ2.out).below hbz
   obtain⟨oe',ce',w3,hr,ho,hg,hd⟩:=QS (P:=Tryz.prog) _ 94 94 170 _ 2 32 (r+1) (by kernel_rfl) JcT rfl (by decide) oe k ce (Q3 es) (by rw[←HK.out];exact hX.own) ⟨x.world.heap.size,0,none⟩ 1 1 [.int .u8 (0:Int),.slice oD (m-2) cD] rfl (X1 x.world #[.int .u8 (0:Int),.slice oD (m-2) cD] 170) (by intro u hu;simp only[List.mem_cons,List.not_mem_nil,or_false] at hu;rcases hu with rfl|rfl<;>rfl) (by decide) (by unfold maxLen;omega) (by omega) (by have:=hbz.size;omega)
   have hne:some r≠oe.map Addr.block:=by
    intro h
    obtain⟨a,h1,h2⟩:=Option.map_eq_some_iff.1 h.symm
    have:=(hX.own.lt h1).1
    omega
   have hlt:r<(x.world.alloc (.cells #[.int .u8 (0:Int),.slice oD (m-2) cD] 170)).heap.size:=Jnz hrlz hbz.size
   refine⟨_,_,Xn _ _ rfl rfl hr,oe',ce',rfl,⟨?_,?_,?_⟩,?_⟩
   ·exact(hg.block r hlt hne).trans ((hbz.block r hrlz).trans HRZ.out)
   ·refine hX.snoc ⟨(0:Int),oD,m-2,cD⟩ ((0:Int),D) ⟨rfl,HZR2.out.below hbz,fun a ha=>?_⟩ (by rw[HK.out];exact ho) hg hd
    have hb1:=HZB2.out a ha
    refine⟨by show r+1≤a.block;omega,Jnz hb1.2.1 hbz.size,fun b' hb'=>?_⟩
    have:=(HX.out.own.lt hb').2
    omega
   ·refine Below.grown (hbz.mono (by omega)) hg (by omega) (fun q hq=>?_)
    obtain⟨a,h1,h2⟩:=Option.map_eq_some_iff.1 hq
    have:=(hX.own.lt h1).1
    omega
   ·refine hg.cell ((Jg hbz hglz _ rfl).trans HG0.out) (fun h=>?_)
    obtain⟨a,h1,h2⟩:=Option.map_eq_some_iff.1 h.symm
    have:=(hX.own.lt h1).1
    simp only at h2
    omega
  ·intro v
   refine Xe ?_
   rintro w2 ⟨oe',ce',-,st,hc⟩
   exact⟨⟨cell_of_row _ _ 0 _ _ (0,0) st.box,cell_of_row _ _ 3 _ _ (0,0) st.box⟩,hc⟩
  rintro v ⟨w2,oe',ce',rfl,-⟩
  refine Jax (C3:=X8 z r A n cap oe' ce' (xs++[((0:Int),D)]) (es++[⟨(0:Int),oD,m-2,cD⟩]) (.slice oe k ce) (.int .u8 (0:Int)) (.int .i64 (i:Int))) (by rintro w2 ⟨oe2,ce2,hv,st,-⟩;injection hv with h1 h2 h3;subst h1;subst h3;exact st) ?_
  clear w2
  refine JF (.pointer (some ⟨r,0,none⟩)) rfl (fun w2 _=>by kernel_rfl) (Js (by decide)) ?_
  refine JF (.pointer (some ⟨r,0,none⟩)) rfl (fun w2 _=>by kernel_rfl) (Js (by decide)) ?_
  refine JF (.pointer (some ⟨r,0,none⟩)) rfl (fun w2 _=>by kernel_rfl) (Js (by decide)) ?_
  refine QW (X8 z r A n cap oe' ce' (xs++[((0:Int),D)]) (es++[⟨(0:Int),oD,m-2,cD⟩]) (.slice oe' (k+1) ce') (.int .u8 (0:Int)) (.int .i64 (i:Int))) rfl (fun w2 st=>⟨_,?_,st.set0 _⟩) (Js (by decide)) ?_
  ·have q1:=cell_of_row _ _ 0 _ _ (0,0) st.box
   have q2:=frozen_of_row _ _ 0 _ _ st.box
   simp[execOp,go_sem,q1,q2]
  refine JF (.pointer (some ⟨r,0,none⟩)) rfl (fun w2 _=>by kernel_rfl) (Js (by decide)) ?_
  refine JF (.pointer (some ⟨r,0,none⟩)) rfl (fun w2 _=>by kernel_rfl) (Js (by decide)) ?_
  refine JF (.pointer (some ⟨r,1,none⟩)) rfl (fun w2 _=>by kernel_rfl) (Js (by decide)) ?_
  refine QW (X8 z r A n cap oe' ce' (xs++[((0:Int),D)]) (es++[⟨(0:Int),oD,m-2,cD⟩]) (.slice oe' (k+1) ce') (.int .u8 b0) (.int .i64 (i:Int))) rfl (fun w2 st=>⟨_,?_,st.set1 _⟩) (Js (by decide)) ?_
  ·have q1:=cell_of_row _ _ 1 _ _ (0,0) st.box
   have q2:=frozen_of_row _ _ 1 _ _ st.box
   simp[execOp,go_sem,q1,q2]
  refine JF (.pointer (some ⟨r,0,none⟩)) rfl (fun w2 _=>by kernel_rfl) (Js (by decide)) ?_
  refine JF (.pointer (some ⟨r,3,none⟩)) rfl (fun w2 _=>by kernel_rfl) (Js (by decide)) ?_
  refine QW (X8 z r A n cap oe' ce' (xs++[((0:Int),D)]) (es++[⟨(0:Int),oD,m-2,cD⟩]) (.slice oe' (k+1) ce') (.int .u8 b0) (.int .i64 ((i:Int)+8*(b1+1)))) rfl (fun w2 st=>⟨_,?_,st.set3 _⟩) (Js (by decide)) ?_
  ·have q1:=cell_of_row _ _ 3 _ _ (0,0) st.box
   have q2:=frozen_of_row _ _ 3 _ _ st.box
   simp[execOp,go_sem,q1,q2]
  intro w2 st
  have HST:=Jnv st
  clear st
  go_wp2_with fail
  go_ret
  show Qy w0 r xs (0:Int) i A n cap l _ _
  unfold Qy
  rw[HE.out]
  have hlx:(xs++[((0:Int),D)]).length=k+1:=by rw[List.length_append,HK.out];rfl
  refine⟨rfl,⟨oe',ce',es++[⟨(0:Int),oD,m-2,cD⟩],?_,HST.out.exts⟩,?_,hra,?_,hlo,hbd0,?_⟩
  ·have hb:=HST.out.box
   rw[show(i:Int)+(8*(b1+1))=((i+m:Nat):Int) by omega] at hb
   rw[hlx]
   exact hb
  ·exact(HR.out.below HZ2.out).belowB HST.out.out hra
  ·exact(HO.out.trans (HZ2.out.mono HO.out.size)).trans (HST.out.out.mono hlo)
  ·omega
 ·have hp0':(p==0)=false:=by simp;omega
  have h44':(p==44)=false:=by simp;omega
  by_cases h2:N<2
  ·have hd2:decide ((N:Int)<2)=true:=by simp;omega
   have HE:Hid (QY xs p (l.drop i)=.err 10):=Jnv (by rw[hL,HCH2.out,if_pos h2])
   clear HCH2 HX HR HBX HR1 hA1
   go_enter Tryz.func162,Tryz.ntmps162
   go_wp2_with fail
   refine Jr (by kernel_rfl) (by kernel_rfl) ?_
   repeat go_big_quiet_step (fail)
   refine wpQuiet_nil ?_
   intro x
   go_wp2_with fail
   go_ret
   exact Qy.err HE.out (by decide) (HO.out.trans (x.below.mono HO.out.size))
  have hd2:decide ((N:Int)<2)=false:=by simp;omega
  obtain⟨g,off,rfl,hgl,hcells⟩:=HR1.out.here (by omega)
  have hgr:g<r:=hA1.out _ rfl
  obtain⟨b0,hb0⟩:∃b,L.getD 0 0=b:=⟨_,rfl⟩
  obtain⟨b1,hb1⟩:∃b,L.getD 1 0=b:=⟨_,rfl⟩
  have hbd0:=HR1.out.getD 0
  have hbd1:=HR1.out.getD 1
  have hcb0:=hcells 0 (by omega)
  have hcb1:=hcells 1 (by omega)
  rw[hb0] at hbd0 hcb0
  rw[hb1] at hbd1 hcb1
  rw[Nat.add_zero] at hcb0
  obtain⟨m,hm⟩:∃m:Nat,(if p=44 then 8 else 8*(b1.toNat+1))=m:=⟨_,rfl⟩
  have hmv:(m:Int)=8*(b1+1)∧8≤m∧m≤2048:=by rw[if_neg (by omega)] at hm;omega
  have HC3:Hid (QY xs p L=if N<m then .err 10 else if p=44∧(b1≠0∨Qc 44 ((L.take m).drop 2)=false) then .err 60 else .ok p ((L.take m).drop 2) b0 m):=Jnv (by rw[HCH2.out,if_neg h2,hb0,hb1,hm])
  clear HCH2 hm hcells
  have hi1:(1:Int)<(N:Int):=by omega
  have hi0:(0:Int)<(N:Int):=by omega
  by_cases hNm:N<m
  ·have hdm:decide ((N:Int)<8*(b1+1))=true:=by simp;omega
   have HE:Hid (QY xs p (l.drop i)=.err 10):=Jnv (by rw[hL,HC3.out,if_pos hNm])
   clear HC3 HX HR HBX HR1 hA1
   go_enter Tryz.func162,Tryz.ntmps162
   go_wp2_with fail
   refine Jr (by kernel_rfl) (by kernel_rfl) ?_
   repeat go_big_quiet_step (fail)
   refine wpQuiet_nil ?_
   intro x
   go_wp2_with fail
   go_ret
   exact Qy.err HE.out (by decide) (HO.out.trans (x.below.mono HO.out.size))
  have hdm:decide ((N:Int)<8*(b1+1))=false:=by simp;omega
  have HRX:Hid (∀d:List Int,True):=Jnv (fun _=>trivial)
  clear HRX
  obtain⟨D,hD⟩:∃D,(L.take m).drop 2=D:=⟨_,rfl⟩
  have hDl:D.length=m-2:=by rw[←hD,List.length_drop,List.length_take];omega
  have HC4:Hid (QY xs p L=if p=44∧(b1≠0∨Qc 44 D=false) then .err 60 else .ok p D b0 m):=Jnv (by rw[HC3.out,if_neg hNm,hD])
  clear HC3
  have hcut2:∀w,(Instr.slice 22 (.slice (some ⟨g,off,none⟩) N cap1) (some (.int .i64 2)) (some (.int .i64 (8*(b1+1)))) none).run Tryz.prog w=.ok (.slice (Jp (some ⟨g,off,none⟩) 2 cap1 1) (m-2) (cap1-2)) w:=fun w=>Qm (P:=Tryz.prog) 22 (some ⟨g,off,none⟩) N cap1 1 elemBytes sizeBytes 2 m 2 (8*(b1+1)) rfl (by omega) (by omega) (by have:=HR1.out.le;omega) w
  have HCL:Hid (∀w',Below y.heap.size y w'→Calls Tryz.prog 116 #[.slice (Jp (some ⟨g,off,none⟩) 2 cap1 1) (m-2) (cap1-2)] w' (J9 w' D)):=Jnv (fun w' hb=>by
   have:=JaX _ _ _ _ w' (((HR1.out.below hb).cut 2 (by omega)).take (m-2) (by omega)) (by omega)
   rwa [←List.drop_take,hD] at this)
  generalize hA2:Jp (some ⟨g,off,none⟩) 2 cap1 1=A2 at*
  clear hA2
  have HDB:Hid (Jm D):=Jnv (hD▸J7 (Qk HR1.out.byte _) _)
  clear hD
  go_enter Tryz.func162,Tryz.ntmps162
  go_wp2_with fail
  refine Jr (by kernel_rfl) (by kernel_rfl) ?_
  repeat go_big_quiet_step (fail)
  refine wpQuiet_nil ?_
  intro x
  have HO1:=Jnv (HO.out.trans (x.below.mono HO.out.size))
  have HX1:=Jnv (HX.out.below x.below)
  have HB1:Hid (x.world.heap[r]? =some (.cells #[.slice oe k ce,p,.slice A n cap,.int .i64 (i:Int)] 261 (0,0))):=Jnv ((x.below.block r hrl).trans (by rw[HBX.out,HK.out]))
  have HRA:=Jnv (HR.out.later x)
  have HYX:Hid (Below y.heap.size y x.world):=Jnv x.below
  go_wp2_with fail
  generalize x.world=y1 at*
  refine ZC [.h,.h,.h,.h,.h,.h,.h,.h,.w,.q,.f] 10 (.cells #[(),JnE] 170) (by kernel_rfl) rfl rfl ⟨fun _=>rfl,fun _ _=>by kernel_rfl⟩ (by kernel_rfl) (by kernel_rfl) ?_
  apply Exists.intro
  refine⟨fun wx hbx=>?_,?_⟩
  ·have hc1x:wx.cell? ⟨r,1,none⟩=some (.int .u8 p):=cell_of_row _ _ 1 _ _ (0,0) ((hbx.block r (Jnw HB1.out).1).trans HB1.out)
   have hrx:r<wx.heap.size:=Jnz (Jnw HB1.out).1 hbx.size
   simp only[Ju]
   repeat go_big_quiet_step (fail)
   exact wpQuiet_nil rfl
  simp only[Xd,List.drop_succ_cons,List.drop_zero,List.length_cons,List.length_nil]
  refine Jce (JkK D) (JcK.call 116 #[.slice A2 (m-2) (cap1-2)] rfl (fun _=>by kernel_rfl) (fun w1 hb1 _=>(HCL.out w1 (HYX.out.trans (hb1.mono HYX.out.size))).mono (fun e w2 h=>Jcg h))) (JmQ _ _) ?_
  rintro lo hi v hlo1 hlh ⟨wz,oD,cD,rfl,-,-⟩
  refine Jbl (.agg #[p,.slice oD D.length cD]) (Q6.plain rfl (fun _=>by kernel_rfl)) ?_
  intro b w' hbw hbb hob hok
  obtain⟨oD',cD',he,hoD,hlD⟩:=hok.fact2
  obtain⟨rfl,rfl⟩:oD=oD'∧cD=cD':=by injection he with e1 e2 e3;exact⟨e1,e3⟩
  have haw:=hok.two
  clear hok he
  rw[hDl] at hoD⊢
  have HWY:Hid (Below y.heap.size y w'):=Jnv (HYX.out.trans (hbw.mono HYX.out.size))
  have hyb:y.heap.size≤b:=Nat.le_trans HYX.out.size hbb
  have hgb:g≠b:=by omega
  have hrb:r≠b:=by omega
  have HOD:=Jnv hoD
  have HAW:Hid (∀a,oD=some a→a.block≠b):=Jnv (fun a ha=>by have h1:=(hoD.lt ha).1;have h2:=hlD a ha;rcases haw with h|h<;>simp only at h<;>omega)
  have HOB:=Jnv hob
  clear hob hoD hlD haw hbw
  have hw1:w'.cell? ⟨g,off+1,none⟩=some (.int .u8 b1):=(Jg HWY.out hgl (⟨g,off+1,none⟩:Addr) rfl).trans hcb1
  have hw0:w'.cell? ⟨g,off,none⟩=some (.int .u8 b0):=(Jg HWY.out hgl (⟨g,off,none⟩:Addr) rfl).trans hcb0
  have hwr:w'.cell? ⟨r,1,none⟩=some (.int .u8 p):=(Jg HWY.out hrl (⟨r,1,none⟩:Addr) rfl).trans hc1
  have hs0:w'.cell? ⟨b,0,none⟩=some (.int .u8 0):=cell_of_row _ _ 0 _ _ (0,0) HOB.out
  have hs1:w'.cell? ⟨b,1,none⟩=some (.slice none 0 0):=cell_of_row _ _ 1 _ _ (0,0) HOB.out
  have hf0:w'.frozen? ⟨b,0,none⟩=false:=frozen_of_row _ _ _ _ _ HOB.out
  have hf1:w'.frozen? ⟨b,1,none⟩=false:=frozen_of_row _ _ _ _ _ HOB.out
  unfold QQ
  have HZ:Hid (Below y.heap.size y ((w'.setCell ⟨b,0,none⟩ (.int .u8 p)).setCell ⟨b,1,none⟩ (.slice oD (m-2) cD))):=Jnv ((HWY.out.trans (QN hyb)).trans (QN hyb))
  have HZX:Hid (((w'.setCell ⟨b,0,none⟩ (.int .u8 p)).setCell ⟨b,1,none⟩ (.slice oD (m-2) cD)).heap[b]? =some (.cells #[p,.slice oD (m-2) cD] 170 (0,0))):=Jnv (Jcj _ _ HOB.out)
  have HZR:Hid (Jj ((w'.setCell ⟨b,0,none⟩ (.int .u8 p)).setCell ⟨b,1,none⟩ (.slice oD (m-2) cD)) oD (m-2) cD D):=Jnv (((HOD.out.reads HDB.out).other (fun a ha=>HAW.out a ha) _).other (fun a ha=>HAW.out a ha) _)
  have HZB:Hid (∀a,oD=some a→y.heap.size≤a.block∧a.block<((w'.setCell ⟨b,0,none⟩ (.int .u8 p)).setCell ⟨b,1,none⟩ (.slice oD (m-2) cD)).heap.size∧a.block≠b):=Jnv (fun a ha=>⟨Nat.le_trans (Nat.le_trans HYX.out.size hlo1) (HOD.out.lt ha).1,by simpa using(HOD.out.lt ha).2,HAW.out a ha⟩)
  have HE:Hid (QY xs p (l.drop i)=.ok p D b0 m):=Jnv (by rw[hL,HC4.out,if_neg (by intro h;exact hpv h.1)])
  go_wp2_with fail
  generalize ((w'.setCell ⟨b,0,none⟩ (.int .u8 p)).setCell ⟨b,1,none⟩ (.slice oD (m-2) cD))=z at*
  have HZ2:=Jnv HZ.out
  have HZX2:=Jnv HZX.out
  have HZR2:=Jnv HZR.out
  have HZB2:=Jnv HZB.out
  clear HZ HZX HZR HZB
  clear HC4 HCL hw1 hw0 hwr hs0 hs1 hf0 hf1 HOD HAW HOB HWY
  have hrz:z.heap[r]? =some (.cells #[.slice oe k ce,p,.slice A n cap,.int .i64 (i:Int)] 261 (0,0)):=(HZ2.out.block r hrl).trans (by rw[HBX.out,HK.out])
  have HRZ:=Jnv hrz
  have hrlz:r<z.heap.size:=(Jnw hrz).1
  have hblz:b<z.heap.size:=(Jnw HZX2.out).1
  have hglz:g<z.heap.size:=Nat.lt_trans hgr hrlz
  have hz0:z.cell? ⟨r,0,none⟩=some (.slice oe k ce):=cell_of_row _ _ 0 _ _ (0,0) hrz
  have hz3:z.cell? ⟨r,3,none⟩=some (.int .i64 (i:Int)):=cell_of_row _ _ 3 _ _ (0,0) hrz
  have hzb0:z.cell? ⟨b,0,none⟩=some (.int .u8 p):=cell_of_row _ _ 0 _ _ (0,0) HZX2.out
  have hzb1:z.cell? ⟨b,1,none⟩=some (.slice oD (m-2) cD):=cell_of_row _ _ 1 _ _ (0,0) HZX2.out
  have hzg:z.cell? ⟨g,off,none⟩=some (.int .u8 b0):=(Jg HZ2.out hgl (⟨g,off,none⟩:Addr) rfl).trans hcb0
  have HG0:=Jnv hzg
  clear hrz
  refine Xy [.h,.h,.h,.h,.h,.h,.h,.h,.h,.w,.w,.h,.h,.h,.h,.h,.h,.h,.h,.h,.w,.w,.w,.w,.w,.w,.w,.w,.w,.w,.w] [(0,2,1),(1,6,1),(2,10,1),(3,1,1),(4,1,1),(5,1,1),(6,1,1),(7,1,0),(11,2,1),(12,2,1),(13,2,0),(14,2,1),(15,2,1),(16,2,1),(17,2,0),(18,10,1),(19,10,1)] (Jlj fun w'=>(w'.cell? ⟨r,0,none⟩=some (.slice oe k ce)∧w'.cell? ⟨r,3,none⟩=some (.int .i64 (i:Int)))∧w'.cell? ⟨g,off,none⟩=some (.int .u8 b0)) [2,13] (by kernel_rfl) rfl (by kernel_rfl) (by kernel_rfl) ?_
  simp only[Ju,Xd,List.map_cons,List.map_nil]
  repeat go_big_quiet_step (fail)
  refine wpQuiet_nil ⟨?_,?_⟩
  ·intro q hq oi hoi
   simp only[List.mem_cons,List.not_mem_nil,or_false] at hq
   have hwp:IntKind.i64.wrap ((i:Int)+8*(b1+1))=(i:Int)+8*(b1+1):=IntWalk.i64_in _ (by omega)
   rcases hq with rfl|rfl|rfl|rfl|rfl|rfl|rfl|rfl|rfl|rfl|rfl|rfl|rfl|rfl|rfl|rfl|rfl
   ·cases hoi;exact⟨_,rfl,rfl,fun w2 hw=>by kernel_rfl⟩
   ·cases hoi;exact⟨_,rfl,rfl,fun w2 hw=>by kernel_rfl⟩
   ·cases hoi;exact⟨_,rfl,rfl,fun w2 hw=>by kernel_rfl⟩
   ·cases hoi;exact⟨_,rfl,rfl,fun w2 hw=>by kernel_rfl⟩
   ·cases hoi;exact⟨_,rfl,rfl,fun w2 hw=>by kernel_rfl⟩
   ·cases hoi;exact⟨_,rfl,rfl,fun w2 hw=>by kernel_rfl⟩
   ·cases hoi;exact⟨_,rfl,rfl,fun w2 hw=>by kernel_rfl⟩
   ·cases hoi;exact⟨_,rfl,rfl,fun w2 hw=>by simp[execOp,go_sem,hw.1.1]⟩
   ·cases hoi;exact⟨_,rfl,rfl,fun w2 hw=>by kernel_rfl⟩
   ·cases hoi;exact⟨_,rfl,rfl,fun w2 hw=>by simp[execOp,go_sem,hi0];intro h;exfalso;omega⟩
   ·cases hoi;exact⟨_,rfl,rfl,fun w2 hw=>by simp[execOp,go_sem,hw.2]⟩
   ·cases hoi;exact⟨_,rfl,rfl,fun w2 hw=>by kernel_rfl⟩
   ·cases hoi;exact⟨_,rfl,rfl,fun w2 hw=>by kernel_rfl⟩
   ·cases hoi;exact⟨_,rfl,rfl,fun w2 hw=>by kernel_rfl⟩
   ·cases hoi;exact⟨_,rfl,rfl,fun w2 hw=>by simp[execOp,go_sem,hw.1.2]⟩
   ·cases hoi;exact⟨_,rfl,rfl,fun w2 hw=>by kernel_rfl⟩
   ·cases hoi;exact⟨_,rfl,rfl,fun w2 hw=>by simp[execOp,go_sem,hwp]⟩
  refine ZM (fun v w2=>∃x:JC z,v=.slice (some ⟨x.world.heap.size,0,none⟩) 1 1∧w2=x.world.alloc (.cells #[p,.slice oD (m-2) cD] 170)) rfl ?_ ?_ ?_
  ·rintro w2 ⟨x,rfl⟩
   exact⟨_,_,Jbo _ _ _ _ _ rfl,x,rfl,rfl⟩
  ·intro v
   refine Xe ?_
   rintro w2 ⟨x,-,rfl⟩
   have hb:=Below.all x.below (.cells #[p,.slice oD (m-2) cD] 170)
   exact⟨⟨(Jg hb hrlz _ rfl).trans hz0,(Jg hb hrlz _ rfl).trans hz3⟩,(Jg hb hglz _ rfl).trans HG0.out⟩
  rintro v ⟨w2,x0,rfl,-⟩
  generalize x0.world.heap.size=B1
  clear x0 w2
  refine ZM (fun v w2=>∃oe' ce',v=.slice oe' (k+1) ce'∧X8 z r A n cap oe' ce' (xs++[(p,D)]) (es++[⟨p,oD,m-2,cD⟩]) (.slice oe k ce) (.int .u8 p) (.int .i64 (i:Int)) w2∧w2.cell? ⟨g,off,none⟩=some (.int .u8 b0)) rfl ?_ ?_ ?_
  ·rintro w2 ⟨x,hv,rfl⟩
   obtain rfl:B1=x.world.heap.size:=by injection hv with h;injection h with h;injection h
   have hbz:=Below.all x.below (.cells #[p,.slice oD (m-2) cD] 170)
   have hX:=(HX.out.below HZ2.out).below hbz
   obtain⟨oe',ce',w3,hr,ho,hg,hd⟩:=QS (P:=Tryz.prog) _ 94 94 170 _ 2 32 (r+1) (by kernel_rfl) JcT rfl (by decide) oe k ce (Q3 es) (by rw[←HK.out];exact hX.own) ⟨x.world.heap.size,0,none⟩ 1 1 [.int .u8 p,.slice oD (m-2) cD] rfl (X1 x.world #[p,.slice oD (m-2) cD] 170) (by intro u hu;simp only[List.mem_cons,List.not_mem_nil,or_false] at hu;rcases hu with rfl|rfl<;>rfl) (by decide) (by unfold maxLen;omega) (by omega) (by have:=hbz.size;omega)
   have hne:some r≠oe.map Addr.block:=by
    intro h
    obtain⟨a,h1,h2⟩:=Option.map_eq_some_iff.1 h.symm
    have:=(hX.own.lt h1).1
    omega
   have hlt:r<(x.world.alloc (.cells #[p,.slice oD (m-2) cD] 170)).heap.size:=Jnz hrlz hbz.size
   refine⟨_,_,Xn _ _ rfl rfl hr,oe',ce',rfl,⟨?_,?_,?_⟩,?_⟩
   ·exact(hg.block r hlt hne).trans ((hbz.block r hrlz).trans HRZ.out)
   ·refine hX.snoc ⟨p,oD,m-2,cD⟩ (p,D) ⟨rfl,HZR2.out.below hbz,fun a ha=>?_⟩ (by rw[HK.out];exact ho) hg hd
    have hb1:=HZB2.out a ha
    refine⟨by show r+1≤a.block;omega,Jnz hb1.2.1 hbz.size,fun b' hb'=>?_⟩
    have:=(HX.out.own.lt hb').2
    omega
   ·refine Below.grown (hbz.mono (by omega)) hg (by omega) (fun q hq=>?_)
    obtain⟨a,h1,h2⟩:=Option.map_eq_some_iff.1 hq
    have:=(hX.own.lt h1).1
    omega
   ·refine hg.cell ((Jg hbz hglz _ rfl).trans HG0.out) (fun h=>?_)
    obtain⟨a,h1,h2⟩:=Option.map_eq_some_iff.1 h.symm
    have:=(hX.own.lt h1).1
    simp only at h2
    omega
  ·intro v
   refine Xe ?_
   rintro w2 ⟨oe',ce',-,st,hc⟩
   exact⟨⟨cell_of_row _ _ 0 _ _ (0,0) st.box,cell_of_row _ _ 3 _ _ (0,0) st.box⟩,hc⟩
  rintro v ⟨w2,oe',ce',rfl,-⟩
  refine Jax (C3:=X8 z r A n cap oe' ce' (xs++[(p,D)]) (es++[⟨p,oD,m-2,cD⟩]) (.slice oe k ce) (.int .u8 p) (.int .i64 (i:Int))) (by rintro w2 ⟨oe2,ce2,hv,st,-⟩;injection hv with h1 h2 h3;subst h1;subst h3;exact st) ?_
  clear w2
  refine JF (.pointer (some ⟨r,0,none⟩)) rfl (fun w2 _=>by kernel_rfl) (Js (by decide)) ?_
  refine JF (.pointer (some ⟨r,0,none⟩)) rfl (fun w2 _=>by kernel_rfl) (Js (by decide)) ?_
  refine JF (.pointer (some ⟨r,0,none⟩)) rfl (fun w2 _=>by kernel_rfl) (Js (by decide)) ?_
  refine QW (X8 z r A n cap oe' ce' (xs++[(p,D)]) (es++[⟨p,oD,m-2,cD⟩]) (.slice oe' (k+1) ce') (.int .u8 p) (.int .i64 (i:Int))) rfl (fun w2 st=>⟨_,?_,st.set0 _⟩) (Js (by decide)) ?_
  ·have q1:=cell_of_row _ _ 0 _ _ (0,0) st.box
   have q2:=frozen_of_row _ _ 0 _ _ st.box
   simp[execOp,go_sem,q1,q2]
  refine JF (.pointer (some ⟨r,0,none⟩)) rfl (fun w2 _=>by kernel_rfl) (Js (by decide)) ?_
  refine JF (.pointer (some ⟨r,0,none⟩)) rfl (fun w2 _=>by kernel_rfl) (Js (by decide)) ?_
  refine JF (.pointer (some ⟨r,1,none⟩)) rfl (fun w2 _=>by kernel_rfl) (Js (by decide)) ?_
  refine QW (X8 z r A n cap oe' ce' (xs++[(p,D)]) (es++[⟨p,oD,m-2,cD⟩]) (.slice oe' (k+1) ce') (.int .u8 b0) (.int .i64 (i:Int))) rfl (fun w2 st=>⟨_,?_,st.set1 _⟩) (Js (by decide)) ?_
  ·have q1:=cell_of_row _ _ 1 _ _ (0,0) st.box
   have q2:=frozen_of_row _ _ 1 _ _ st.box
   simp[execOp,go_sem,q1,q2]
  refine JF (.pointer (some ⟨r,0,none⟩)) rfl (fun w2 _=>by kernel_rfl) (Js (by decide)) ?_
  refine JF (.pointer (some ⟨r,3,none⟩)) rfl (fun w2 _=>by kernel_rfl) (Js (by decide)) ?_
  refine QW (X8 z r A n cap oe' ce' (xs++[(p,D)]) (es++[⟨p,oD,m-2,cD⟩]) (.slice oe' (k+1) ce') (.int .u8 b0) (.int .i64 ((i:Int)+8*(b1+1)))) rfl (fun w2 st=>⟨_,?_,st.set3 _⟩) (Js (by decide)) ?_
  ·have q1:=cell_of_row _ _ 3 _ _ (0,0) st.box
   have q2:=frozen_of_row _ _ 3 _ _ st.box
   simp[execOp,go_sem,q1,q2]
  intro w2 st
  have HST:=Jnv st
  clear st
  go_wp2_with fail
  go_ret
  show Qy w0 r xs p i A n cap l _ _
  unfold Qy
  rw[HE.out]
  have hlx:(xs++[(p,D)]).length=k+1:=by rw[List.length_append,HK.out];rfl
  refine⟨rfl,⟨oe',ce',es++[⟨p,oD,m-2,cD⟩],?_,HST.out.exts⟩,?_,hra,?_,hlo,hbd0,?_⟩
  ·have hb:=HST.out.box
   rw[show(i:Int)+(8*(b1+1))=((i+m:Nat):Int) by omega] at hb
   rw[hlx]
   exact hb
  ·exact(HR.out.below HZ2.out).belowB HST.out.out hra
  ·exact(HO.out.trans (HZ2.out.mono HO.out.size)).trans (HST.out.out.mono hlo)
  ·omega
end
end Go.Proofs.YtkgjbipfhhjlpaaGreatDoor
