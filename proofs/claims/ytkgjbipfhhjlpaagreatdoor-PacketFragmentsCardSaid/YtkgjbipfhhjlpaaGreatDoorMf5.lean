import Derived.Test.YtkgjbipfhhjlpaaGreatDoorMf4
import Derived.Lib.AppendZerosOnto
set_option linter.unusedVariables false
set_option linter.unusedSimpArgs false
set_option maxRecDepth 100000
set_option maxHeartbeats 32000000
namespace Go.Proofs.YtkgjbipfhhjlpaaGreatDoor
section
open Go.RowKit
structure ZA (w W:World)(hi:Nat)(op:Option Addr)(nP capp:Nat)(P:List (List UInt8))(oa:Option Addr)(n cap:Nat)(G:List Nat)(ok:Bool):Prop where
 below:Below w.heap.size w W
 list:W.cell? ⟨w.heap.size,0,none⟩=some (.slice oa n cap)
 okc:W.cell? ⟨w.heap.size+1,0,none⟩=some (.bool ok)
 listF:W.frozen? ⟨w.heap.size,0,none⟩=false
 okF:W.frozen? ⟨w.heap.size+1,0,none⟩=false
 parts:JI W (w.heap.size+2) 1 op nP capp (P.map JdK)
 plt:∀a,op=some a→a.block<hi
 hiW:hi≤W.heap.size
 lo:w.heap.size+2≤hi
 row:JI W hi 1 oa n cap (G.map fun(m:Nat)=>Value.int .u64 (m:Int))
theorem ZA.go {w W W':World}{hi:Nat}{op:Option Addr}{nP capp:Nat}{P:List (List UInt8)}{oa:Option Addr}{n cap:Nat}{G:List Nat}{ok:Bool}(h:ZA w W hi op nP capp P oa n cap G ok)(hb:Below W.heap.size W W'):ZA w W' hi op nP capp P oa n cap G ok where
 below:=Jno h.below hb
 list:=(hb.cell (p:=⟨_,_,none⟩) (World.block_lt_of_cell? W _ h.list)).trans h.list
 okc:=(hb.cell (p:=⟨_,_,none⟩) (World.block_lt_of_cell? W _ h.okc)).trans h.okc
 listF:=(hb.frozen (p:=⟨_,_,none⟩) (World.block_lt_of_cell? W _ h.list)).trans h.listF
 okF:=(hb.frozen (p:=⟨_,_,none⟩) (World.block_lt_of_cell? W _ h.okc)).trans h.okF
 parts:=h.parts.below hb
 plt:=h.plt
 hiW:=Nat.le_trans h.hiW hb.size
 lo:=h.lo
 row:=h.row.below hb
theorem JaS:(Tryz.prog.info? 124).map (fun i=>(i.zero,i.size,i.bytes))=some (some (.int .u64 0),1,8):=by kernel_rfl
theorem ZA.put {w W:World}{hi:Nat}{op:Option Addr}{nP capp:Nat}{P:List (List UInt8)}{oa:Option Addr}{n cap:Nat}{G:List Nat}{ok:Bool}(h:ZA w W hi op nP capp P oa n cap G ok)(b:Bool):ZA w (W.setCell ⟨w.heap.size+1,0,none⟩ (.bool b)) hi op nP capp P oa n cap G b where
 below:=h.below.setCell (by simp only;omega) _
 list:=(by rw[World.cell?_setCell_other];exact h.list;intro e;injection e;omega)
 okc:=by first|exact World.cell?_setCell_same _ h.okc|exact World.cell?_setCell_same _ _ h.okc|exact World.cell?_setCell_same _ _ _ h.okc
 listF:=by simpa using h.listF
 okF:=by simpa using h.okF
 parts:=h.parts.other (fun a ha=>by have:=(h.parts.lt ha).1;simp only;omega) _
 plt:=h.plt
 hiW:=by simpa using h.hiW
 lo:=h.lo
 row:=h.row.other (fun a ha=>by have:=(h.row.lt ha).1;have:=h.lo;simp only;omega) _
structure Jkt (w W:World)(hi:Nat)(op:Option Addr)(nP capp:Nat)(P:List (List UInt8))(oa:Option Addr)(n cap:Nat)(G:List Nat)(ok:Bool):Prop where
 list:∃v,W.cell? ⟨w.heap.size,0,none⟩=some v
 listF:W.frozen? ⟨w.heap.size,0,none⟩=false
 put:ZA w (W.setCell ⟨w.heap.size,0,none⟩ (.slice oa n cap)) hi op nP capp P oa n cap G ok
theorem ZA.grown {w W w':World}{hi:Nat}{op:Option Addr}{nP capp:Nat}{P:List (List UInt8)}{oa:Option Addr}{n cap:Nat}{G:List Nat}{ok:Bool}(h:ZA w W hi op nP capp P oa n cap G ok)
 (hg:W.grownBy w' (oa.map Addr.block)){oa':Option Addr}{n' cap':Nat}{G':List Nat}(ho:JI w' hi 1 oa' n' cap' (G'.map fun(m:Nat)=>Value.int .u64 (m:Int))):Jkt w w' hi op nP capp P oa' n' cap' G' ok:=by
 have hlo:=h.lo
 have hhi:=h.hiW
 have hne:∀k,k<hi→some k≠oa.map Addr.block:=by
  intro k hk e
  obtain⟨a,e1,e2⟩:=Option.map_eq_some_iff.1 e.symm
  have:=(h.row.lt e1).1
  omega
 have e0:w'.heap[w.heap.size]? =W.heap[w.heap.size]?:=hg.block _ (by omega) (hne _ (by omega))
 have e1:w'.heap[w.heap.size+1]? =W.heap[w.heap.size+1]?:=hg.block _ (by omega) (hne _ (by omega))
 have hl:w'.cell? ⟨w.heap.size,0,none⟩=some (.slice oa n cap):=by rw[World.cell?_of_block (w:=W) (a:=⟨w.heap.size,0,none⟩) e0];exact h.list
 have hok:w'.cell? ⟨w.heap.size+1,0,none⟩=some (.bool ok):=by rw[World.cell?_of_block (w:=W) (a:=⟨w.heap.size+1,0,none⟩) e1];exact h.okc
 have hlF:w'.frozen? ⟨w.heap.size,0,none⟩=false:=by rw[World.frozen?_of_block (w:=W) (a:=⟨w.heap.size,0,none⟩) e0];exact h.listF
 have hokF:w'.frozen? ⟨w.heap.size+1,0,none⟩=false:=by rw[World.frozen?_of_block (w:=W) (a:=⟨w.heap.size+1,0,none⟩) e1];exact h.okF
 have hP:JI w' (w.heap.size+2) 1 op nP capp (P.map JdK):=h.parts.grown hg fun a ha=>hne _ (h.plt a ha)
 have hB:Below w.heap.size w w':=Jnm h.below h.row (by omega) hg (by omega)
 refine⟨⟨_,hl⟩,hlF,?_⟩
 refine⟨hB.setCell (by simp only;omega) _,?_,?_,by simpa using hlF,by simpa using hokF,hP.other (fun a ha=>by have:=(hP.lt ha).1;simp only;omega) _,h.plt,?_,hlo,ho.other (fun a ha=>by have:=(ho.lt ha).1;simp only;omega) _⟩
 ·first|exact World.cell?_setCell_same _ hl|exact World.cell?_setCell_same _ _ hl|exact World.cell?_setCell_same _ _ _ hl
 ·rw[World.cell?_setCell_other];exact hok;intro e;injection e;omega
 ·have:=hg.size;simp;omega
theorem Jid (p:ByteArray)(hp:p.size≤1000)(w W:World)(hi:Nat)(op:Option Addr)(nP capp:Nat)(P:List (List UInt8))(oa:Option Addr)(n cap:Nat)(G:List Nat)(HE:Hid (Env W))
 (hn:n≤1000)(h:Hid (ZA w W hi op nP capp P oa n cap G false)):
 Calls Tryz.prog 207 #[.string p,.pointer (some ⟨w.heap.size+1,0,none⟩),.pointer (some ⟨w.heap.size,0,none⟩)] W
  (fun e w'=>∃oa' cap' u,e=.returned (.tuple #[])∧ZA w w' hi op nP capp P oa' (n+1) cap' (G++[u]) false):=by
 go_enter Tryz.func207,Tryz.ntmps207
 go_wp2_with fail
 refine Jnx (X4 p hp W HE.out) ?_
 rintro e w1 ⟨u,er,rfl,hu0,hu1,-,hb⟩
 obtain⟨v,rfl⟩:∃v:Nat,u=(v:Int):=⟨u.toNat,by omega⟩
 have H1:=Jnv (h.out.go hb)
 have hl:=H1.out.list
 have ho:=H1.out.okc
 have hlF:=H1.out.listF
 have hoF:=H1.out.okF
 clear hb HE h
 go_wp2_with (at_builtin;refine JB.of ?_)
 refine JB.mk ?_
 have H2:=Jnv (H1.out.put false)
 refine J2 _ rfl _ _ 252 rfl 124 (.int .u64 0) 1 8 hi Tryz.underlying252 JaS rfl (by decide) oa n cap _ rfl (H2.out.row.alloc _) ⟨w1.heap.size,0,none⟩ 1 1 [.int .u64 v] rfl rfl ?_ ?_ (by decide) ?_ ?_ ?_ ?_
 ·have h:=X1 (w1.setCell ⟨w.heap.size+1,0,none⟩ (.bool false)) #[.int .u64 v] 124
  simpa using h
 ·simp[Value.oneCell']
 ·unfold maxLen;omega
 ·omega
 ·have:=H2.out.hiW;simp only[World.size_alloc];omega
 intro oa' cap' w' ho' hg2 hd
 have HG:=Jnv ((H2.out.go ((Jny _ _).alloc (JnA _) _)).grown hg2 (G':=G++[v]) (by rw[List.map_append];exact ho'))
 obtain⟨vl,hvl⟩:=HG.out.list
 have hvF:=HG.out.listF
 clear hg2 hd ho' H1 H2 hl ho hlF hoF
 go_wp2_with fail
 go_end0
 exact⟨oa',cap',v,rfl,HG.out.put⟩
theorem Jg4 (p:ByteArray)(hp:p.size≤1000)(w W:World)(hi:Nat)(op:Option Addr)(nP capp:Nat)(P:List (List UInt8))(oa:Option Addr)(n cap:Nat)(G:List Nat)(HE:Hid (Env W))
 (hn:n≤1000)(h:Hid (ZA w W hi op nP capp P oa n cap G true))(hx:Xv 16 65536 p.data.toList=none):
 Calls Tryz.prog 207 #[.string p,.pointer (some ⟨w.heap.size+1,0,none⟩),.pointer (some ⟨w.heap.size,0,none⟩)] W
  (fun e w'=>∃oa' cap' u,e=.returned (.tuple #[])∧ZA w w' hi op nP capp P oa' (n+1) cap' (G++[u]) false):=by
 go_enter Tryz.func207,Tryz.ntmps207
 go_wp2_with fail
 refine Jnx (X4 p hp W HE.out) ?_
 rintro e w1 ⟨u,er,rfl,hu0,hu1,hcase,hb⟩
 obtain⟨te,pe,rfl⟩:∃te pe,er=.iface te pe:=by
  rcases hcase with ⟨m,h1,-⟩|⟨-,h2⟩
  ·rw[hx] at h1;cases h1
  ·exact h2
 clear hcase hx
 obtain⟨v,rfl⟩:∃v:Nat,u=(v:Int):=⟨u.toNat,by omega⟩
 have H1:=Jnv (h.out.go hb)
 have hl:=H1.out.list
 have ho:=H1.out.okc
 have hlF:=H1.out.listF
 have hoF:=H1.out.okF
 clear hb HE h
 go_wp2_with (at_builtin;refine JB.of ?_)
 refine JB.mk ?_
 have H2:=Jnv (H1.out.put false)
 refine J2 _ rfl _ _ 252 rfl 124 (.int .u64 0) 1 8 hi Tryz.underlying252 JaS rfl (by decide) oa n cap _ rfl (H2.out.row.alloc _) ⟨w1.heap.size,0,none⟩ 1 1 [.int .u64 v] rfl rfl ?_ ?_ (by decide) ?_ ?_ ?_ ?_
 ·have h:=X1 (w1.setCell ⟨w.heap.size+1,0,none⟩ (.bool false)) #[.int .u64 v] 124
  simpa using h
 ·simp[Value.oneCell']
 ·unfold maxLen;omega
 ·omega
 ·have:=H2.out.hiW;simp only[World.size_alloc];omega
 intro oa' cap' w' ho' hg2 hd
 have HG:=Jnv ((H2.out.go ((Jny _ _).alloc (JnA _) _)).grown hg2 (G':=G++[v]) (by rw[List.map_append];exact ho'))
 obtain⟨vl,hvl⟩:=HG.out.list
 have hvF:=HG.out.listF
 clear hg2 hd ho' H1 H2 hl ho hlF hoF
 go_wp2_with fail
 go_end0
 exact⟨oa',cap',v,rfl,HG.out.put⟩
theorem Jf7 (p:ByteArray)(hp:p.size≤1000)(w W:World)(hi:Nat)(op:Option Addr)(nP capp:Nat)(P:List (List UInt8))(oa:Option Addr)(n cap:Nat)(G:List Nat)(HE:Hid (Env W))
 (hn:n≤1000)(h:Hid (ZA w W hi op nP capp P oa n cap G true))(m:Nat)(hx:Xv 16 65536 p.data.toList=some m)(h4:4<p.size):
 Calls Tryz.prog 207 #[.string p,.pointer (some ⟨w.heap.size+1,0,none⟩),.pointer (some ⟨w.heap.size,0,none⟩)] W
  (fun e w'=>∃oa' cap' u,e=.returned (.tuple #[])∧ZA w w' hi op nP capp P oa' (n+1) cap' (G++[u]) false):=by
 go_enter Tryz.func207,Tryz.ntmps207
 go_wp2_with fail
 refine Jnx (X4 p hp W HE.out) ?_
 rintro e w1 ⟨u,er,rfl,hu0,hu1,hcase,hb⟩
 obtain rfl:er=.nilIface:=by
  rcases hcase with ⟨m,h1,-,h2⟩|⟨h1,-⟩
  ·exact h2
  ·rw[hx] at h1;cases h1
 clear hcase hx
 obtain⟨v,rfl⟩:∃v:Nat,u=(v:Int):=⟨u.toNat,by omega⟩
 have H1:=Jnv (h.out.go hb)
 have hl:=H1.out.list
 have ho:=H1.out.okc
 have hlF:=H1.out.listF
 have hoF:=H1.out.okF
 clear hb HE h
 go_wp2_with (at_builtin;refine JB.of ?_)
 refine JB.mk ?_
 have H2:=Jnv (H1.out.put false)
 refine J2 _ rfl _ _ 252 rfl 124 (.int .u64 0) 1 8 hi Tryz.underlying252 JaS rfl (by decide) oa n cap _ rfl (H2.out.row.alloc _) ⟨w1.heap.size,0,none⟩ 1 1 [.int .u64 v] rfl rfl ?_ ?_ (by decide) ?_ ?_ ?_ ?_
 ·have h:=X1 (w1.setCell ⟨w.heap.size+1,0,none⟩ (.bool false)) #[.int .u64 v] 124
  simpa using h
 ·simp[Value.oneCell']
 ·unfold maxLen;omega
 ·omega
 ·have:=H2.out.hiW;simp only[World.size_alloc];omega
 intro oa' cap' w' ho' hg2 hd
 have HG:=Jnv ((H2.out.go ((Jny _ _).alloc (JnA _) _)).grown hg2 (G':=G++[v]) (by rw[List.map_append];exact ho'))
 obtain⟨vl,hvl⟩:=HG.out.list
 have hvF:=HG.out.listF
 clear hg2 hd ho' H1 H2 hl ho hlF hoF
 go_wp2_with fail
 go_end0
 exact⟨oa',cap',v,rfl,HG.out.put⟩
theorem Jg5 (p:ByteArray)(hp:p.size≤1000)(w W:World)(hi:Nat)(op:Option Addr)(nP capp:Nat)(P:List (List UInt8))(oa:Option Addr)(n cap:Nat)(G:List Nat)(HE:Hid (Env W))
 (hn:n≤1000)(h:Hid (ZA w W hi op nP capp P oa n cap G true))(m:Nat)(hx:Xv 16 65536 p.data.toList=some m)(h4:p.size≤4):
 Calls Tryz.prog 207 #[.string p,.pointer (some ⟨w.heap.size+1,0,none⟩),.pointer (some ⟨w.heap.size,0,none⟩)] W
  (fun e w'=>∃oa' cap' u,e=.returned (.tuple #[])∧ZA w w' hi op nP capp P oa' (n+1) cap' (G++[u]) true∧u=m):=by
 go_enter Tryz.func207,Tryz.ntmps207
 go_wp2_with fail
 refine Jnx (X4 p hp W HE.out) ?_
 rintro e w1 ⟨u,er,rfl,hu0,hu1,hcase,hb⟩
 obtain⟨rfl,rfl⟩:u=(m:Int)∧er=.nilIface:=by
  rcases hcase with ⟨m',h1,h3,h2⟩|⟨h1,-⟩
  ·rw[hx] at h1;cases h1;exact⟨h3,h2⟩
  ·rw[hx] at h1;cases h1
 have hdg:∀c∈p.data.toList,XU c<16:=by
  unfold Xv at hx
  split at hx
  ·cases hx
  ·exact Jc9 16 65536 _ _ _ hx
 have HI:=Jnv (JhG p hdg p.size 0)
 clear hcase hx hdg
 have H1:=Jnv (h.out.go hb)
 have hl:=H1.out.list
 have ho:=H1.out.okc
 have hlF:=H1.out.listF
 have hoF:=H1.out.okF
 clear hb HE h
 go_wp2_with fail
 refine Jnx (Tryz.strings_IndexFunc_grows 209 #[] (enters_of Tryz.func209 (by kernel_rfl) rfl) (fun x=>!Jlf x) p w1 (JeR w1)) ?_
 rintro e w2 ⟨rfl,hb2⟩
 rw[show Lib.idxFunc (fun x=>!Jlf x) true p=-1 from HI.out]
 have H3:=Jnv (H1.out.go hb2)
 clear H1
 clear hl ho hlF hoF hb2
 have H1:=H3
 have hl:=H1.out.list
 have ho:=H1.out.okc
 have hlF:=H1.out.listF
 have hoF:=H1.out.okF
 clear H3
 go_wp2_with (at_builtin;refine JB.of ?_)
 refine JB.mk ?_
 have H2:=Jnv (H1.out.put true)
 refine J2 _ rfl _ _ 252 rfl 124 (.int .u64 0) 1 8 hi Tryz.underlying252 JaS rfl (by decide) oa n cap _ rfl (H2.out.row.alloc _) ⟨w2.heap.size,0,none⟩ 1 1 [.int .u64 m] rfl rfl ?_ ?_ (by decide) ?_ ?_ ?_ ?_
 ·have h:=X1 (w2.setCell ⟨w.heap.size+1,0,none⟩ (.bool true)) #[.int .u64 m] 124
  simpa using h
 ·simp[Value.oneCell']
 ·unfold maxLen;omega
 ·omega
 ·have:=H2.out.hiW;simp only[World.size_alloc];omega
 intro oa' cap' w' ho' hg2 hd
 have HG:=Jnv ((H2.out.go ((Jny _ _).alloc (JnA _) _)).grown hg2 (G':=G++[m]) (by rw[List.map_append];exact ho'))
 obtain⟨vl,hvl⟩:=HG.out.list
 have hvF:=HG.out.listF
 clear hg2 hd ho' H1 H2 hl ho hlF hoF
 go_wp2_with fail
 go_end0
 exact⟨oa',cap',m,rfl,HG.out.put,rfl⟩
theorem Jjc (s:ByteArray)(c:UInt8):(Lib.splitB ⟨#[c]⟩ 0 (Lib.countB s ⟨#[c]⟩) s).map Value.string=(J6 c s.data.toList).map JdK:=by
 have h:=Lib.splitB_data ⟨#[c]⟩ 0 (Lib.countB s ⟨#[c]⟩) s
 have h2:Lib.splitK (⟨#[c]⟩:ByteArray).data.toList 0 (Lib.countB s ⟨#[c]⟩) s.data.toList=J6 c s.data.toList:=Jia c s.data.toList
 rw[h2] at h
 rw[←h,List.map_map]
 congr 1
theorem Jda (s:ByteArray)(c:UInt8)(w:World)(henv:Env w)(hs:s.size≤1000):Calls Tryz.prog 57 #[.string s,.string ⟨#[c]⟩] w (Jea w (J6 c s.data.toList)):=by
 obtain⟨m,hm⟩:=henv.len
 refine(Tryz.strings_Split s ⟨#[c]⟩ m w (by omega) hm (JnA 1)).mono ?_
 rintro e w' ⟨rfl,rfl⟩
 have hr:=Jjc s c
 have hl:Lib.countB s ⟨#[c]⟩+1=(J6 c s.data.toList).length:=by
  have h1:=Lib.splitB_all ⟨#[c]⟩ (JnA 1) 0 (Lib.countB s ⟨#[c]⟩) s rfl
  have h2:=congrArg List.length hr
  rw[List.length_map,List.length_map,h1] at h2
  exact h2
 have hn:(J6 c s.data.toList).length≤1001:=by
  have:=Ze c s.data.toList
  have hz:s.data.toList.length=s.size:=by rw[Array.length_toList,ByteArray.size_data]
  omega
 rw[hl,hr]
 refine⟨_,_,rfl,?_,(Jny _ _).alloc (JnA _) _⟩
 exact JI.made _ _ _ _ _ (JnA _) (by simp) (JnA _) (by unfold maxLen;omega) (by
  rw[List.toList_toArray,Nat.mul_one]
  exact List.take_of_length_le (by rw[List.length_map];exact JnA _))
def Jg6 (w:World)(o:Option (List Nat)):Ending→World→Prop:=fun e w'=>∃(oa:Option Addr) (cap:Nat) (G:List Nat) (ok:Bool),e=.returned (.tuple #[.slice oa G.length cap,ok])∧
 JI w' w.heap.size 1 oa G.length cap (G.map fun(m:Nat)=>Value.int .u64 (m:Int))∧Below w.heap.size w w'∧G.length≤1001∧((ok=true∧o=some G)∨(ok=false∧o=none))
theorem ZA.start {w w1:World}{op:Option Addr}{nP capp:Nat}{P:List (List UInt8)}(HO:JI w1 ((w.alloc (Obj.cells #[Value.slice none 0 0] 252)).alloc (Obj.cells #[Value.bool true] 4)).heap.size 1 op nP capp (P.map JdK))
 (HB:Below ((w.alloc (Obj.cells #[Value.slice none 0 0] 252)).alloc (Obj.cells #[Value.bool true] 4)).heap.size ((w.alloc (Obj.cells #[Value.slice none 0 0] 252)).alloc (Obj.cells #[Value.bool true] 4)) w1):
 ZA w w1 w1.heap.size op nP capp P none 0 0 [] true where
 below:=Jno (Below.all (Below.all (Jny _ _) _) _) HB
 list:=(HB.cell (p:=⟨w.heap.size,0,none⟩) (by simp;omega)).trans (by simp[go_sem])
 okc:=(HB.cell (p:=⟨w.heap.size+1,0,none⟩) (by simp)).trans (by simp[go_sem])
 listF:=(HB.frozen (p:=⟨w.heap.size,0,none⟩) (by simp;omega)).trans (by simp[go_sem])
 okF:=(HB.frozen (p:=⟨w.heap.size+1,0,none⟩) (by simp)).trans (by simp[go_sem])
 parts:=by simpa using HO
 plt:=fun a ha=>(HO.lt ha).2
 hiW:=JnA _
 lo:=by have:=HB.size;simpa using this
 row:=JI.nil _ _ _
theorem Jjd (s:ByteArray)(w:World)(hs:s.size≤1000)(henv:Env w):Calls Tryz.prog 174 #[.string s] w (Jg6 w (Qi s.data.toList)):=by
 have HE:=Jnv henv
 clear henv
 by_cases he:s=⟨#[]⟩
 ·subst he
  go_enter Tryz.func174,Tryz.ntmps174
  go_wp2_with fail
  refine bodyPost_ret (v:=.tuple #[JnE,true]) (by simp[results,Tryz.results174,go_sem]) rfl ⟨none,0,[],true,rfl,JI.nil _ _ _,?_,by simp,.inl ⟨rfl,rfl⟩⟩
  exact Below.all (Below.all (Jny _ _) _) _
 ·have hne:s.data.toList≠[]:=fun e=>he (by cases s;rename_i d;cases d;simp only at e;subst e;rfl)
  have HGL:=Jnv (show Qi s.data.toList=(J6 58 s.data.toList).mapM Ji3 by rw[Qi,if_neg hne])
  have hls:s.data.toList.length=s.size:=by rw[Array.length_toList,ByteArray.size_data]
  have HPL:Hid (∀p∈J6 58 s.data.toList,p.length≤1000):=Jnv (fun p hp=>by have:=Jas 58 _ p hp;omega)
  have HPC:Hid ((J6 58 s.data.toList).length≤1001):=Jnv (by have:=Ze 58 s.data.toList;omega)
  have HCA:=Jnv (fun w h=>Jda s 58 w h hs)
  have heq:s.toList.isEmpty=false:=by rw[Jaq];cases h:s.data.toList with
   |nil=>exact absurd h hne
   |cons a t=>rfl
  clear he hls hs hne
  generalize J6 58 s.data.toList=P at*
  go_enter Tryz.func174,Tryz.ntmps174
  go_wp2_with fail
  refine Jnx (HCA.out _ (HE.out.below (Below.all (Below.all (Jny _ _) _) _))) ?_
  rintro e w1 ⟨op,capp,rfl,HO,HB⟩
  have HS:=Jnv (ZA.start HO HB)
  clear HO HB
  have hpc:=HPC.out
  generalize hnP:P.length=nP at*
  have HNP:=Jnv hnP
  clear hnP
  generalize w1.heap.size=hi at*
  go_wp2_with fail
  go_loopw [6,13] (fun u6 u13 wr=>∃(k:Nat) (oa:Option Addr) (cap:Nat) (G:List Nat) (ok:Bool),k≤nP∧u13=.int .i64 k∧Hid (G.length=k)∧Hid ((ok=true∧(P.take k).mapM Ji3=some G)∨(ok=false∧P.mapM Ji3=none))∧Hid (ZA w wr hi op nP capp P oa k cap G ok)) (fun _ u13 _=>(nP:Int)-intOf u13 |>.toNat)
  case atStart=>exact⟨0,none,0,[],true,Nat.zero_le _,rfl,Jnv rfl,Jnv (.inl ⟨rfl,rfl⟩),HS⟩
  case round=>
   obtain⟨k,oa,cap,G,ok,hk,rfl,HGn,HG,HR⟩:=hrel
   by_cases hlt:k<nP
   ·have hkP:k<P.length:=by rw[HNP.out];exact hlt
    obtain⟨g,off,hop,hbg,hg,hc,ht⟩:=HR.out.parts.here (by omega)
    subst hop
    have hcl:=hc k (JdK P[k]) (by simp[hkP])
    have hpl:=HPL.out P[k] (List.getElem_mem hkP)
    have HTS:=Jnv (show P.take (k+1)=P.take k++[P[k]] by rw[List.take_succ_eq_append_getElem hkP])
    have HMI:=Jnv (fun h=>Jf3 Ji3 P k hkP h)
    have HEw:=Jnv (HE.out.below HR.out.below)
    clear hc ht
    unfold JdK at hcl
    generalize P[k]=p at*
    have hsz:(⟨p.toArray⟩:ByteArray).size=p.length:=by simp[ByteArray.size]
    have hpe:((⟨p.toArray⟩:ByteArray).data.toList)=p:=by simp
    have hp1:(⟨p.toArray⟩:ByteArray).size≤1000:=by omega
    have hk1:k≤1000:=by omega
    rcases HG.out with ⟨rfl,hG⟩|⟨rfl,hG⟩
    ·cases hn:Xv 16 65536 p with
     |none=>
      have HX:=Jnv (HMI.out (by unfold Ji3;split<;>simp[hn]))
      rw[←hpe] at hn
      clear hpl hsz
      go_wp2_with fail
      refine Jnx (Jg4 _ hp1 w wr hi _ nP capp P oa k cap G HEw hk1 HR hn) ?_
      rintro e w2 ⟨oa',cap',u,rfl,H⟩
      have H2:=Jnv H
      clear H
      go_wp2_with fail
      go_roundw
      case rel=>exact⟨k+1,oa',cap',G++[u],false,by omega,by go_num,Jnv (by rw[List.length_append,HGn.out];rfl),Jnv (.inr ⟨rfl,HX.out⟩),H2⟩
      case measure=>simp[intOf];omega
     |some n=>
      by_cases h4:p.length≤4
      ·have HX:=Jnv (show(P.take (k+1)).mapM Ji3=some (G++[n]) by rw[HTS.out];exact Jf2 _ _ _ _ _ hG (by unfold Ji3;rw[if_pos h4,hn]))
       rw[←hpe] at hn
       rw[←hsz] at h4
       clear hpl hsz
       go_wp2_with fail
       refine Jnx (Jg5 _ hp1 w wr hi _ nP capp P oa k cap G HEw hk1 HR n hn h4) ?_
       rintro e w2 ⟨oa',cap',u,rfl,H,rfl⟩
       have H2:=Jnv H
       clear H
       go_wp2_with fail
       go_roundw
       case rel=>exact⟨k+1,oa',cap',G++[u],true,by omega,by go_num,Jnv (by rw[List.length_append,HGn.out];rfl),Jnv (.inl ⟨rfl,HX.out⟩),H2⟩
       case measure=>simp[intOf];omega
      ·have HX:=Jnv (HMI.out (by unfold Ji3;rw[if_neg h4]))
       rw[←hpe] at hn
       have h5:4<(⟨p.toArray⟩:ByteArray).size:=by omega
       clear hpl hsz
       go_wp2_with fail
       refine Jnx (Jf7 _ hp1 w wr hi _ nP capp P oa k cap G HEw hk1 HR n hn h5) ?_
       rintro e w2 ⟨oa',cap',u,rfl,H⟩
       have H2:=Jnv H
       clear H
       go_wp2_with fail
       go_roundw
       case rel=>exact⟨k+1,oa',cap',G++[u],false,by omega,by go_num,Jnv (by rw[List.length_append,HGn.out];rfl),Jnv (.inr ⟨rfl,HX.out⟩),H2⟩
       case measure=>simp[intOf];omega
    ·have HX:=Jnv hG
     clear hpl hsz
     go_wp2_with fail
     refine Jnx (Jid _ hp1 w wr hi _ nP capp P oa k cap G HEw hk1 HR) ?_
     rintro e w2 ⟨oa',cap',u,rfl,H⟩
     have H2:=Jnv H
     clear H
     go_wp2_with fail
     go_roundw
     case rel=>exact⟨k+1,oa',cap',G++[u],false,by omega,by go_num,Jnv (by rw[List.length_append,HGn.out];rfl),Jnv (.inr ⟨rfl,HX.out⟩),H2⟩
     case measure=>simp[intOf];omega
   ·obtain rfl:k=nP:=by omega
    have HF:Hid (P.take k=P):=Jnv (by rw[List.take_of_length_le (by rw[HNP.out];exact JnA _)])
    have hl:=HR.out.list
    have ho:=HR.out.okc
    have hlF:=HR.out.listF
    have hoF:=HR.out.okF
    go_wp2_with fail
    go_region
    go_wp2_with fail
    refine bodyPost_ret (v:=.tuple #[.slice oa k cap,ok]) (by simp[results,Tryz.results174,go_sem,hl,ho]) rfl ?_
    have h1:=HR.out.row
    have hh:=HR.out.lo
    have h2:∀(b:Nat) (u:Value),b<hi→∀w',JI w' hi 1 oa k cap (G.map fun(m:Nat)=>Value.int .u64 (m:Int))→JI (w'.setCell ⟨b,0,none⟩ u) hi 1 oa k cap (G.map fun(m:Nat)=>Value.int .u64 (m:Int)):=fun b u hb w' h=>h.other (fun a ha=>by have:=(h.lt ha).1;simp only;omega) u
    obtain rfl:=HGn.out
    have hpc:=HPC.out
    have hnp:=HNP.out
    refine⟨oa,cap,G,ok,rfl,?_,?_,by omega,?_⟩
    ·exact JI.mono (by first|exact(h2 _ _ (by omega) _ (h2 _ _ (by omega) _ h1)).drew|exact h2 _ _ (by omega) _ (h2 _ _ (by omega) _ h1)|exact h2 _ _ (by omega) _ (h2 _ _ (by omega) _ h1.drew)) (by omega)
    ·first|exact((HR.out.below.setCell (by simp only;omega) _).setCell (by simp only;omega) _).drew|exact(HR.out.below.setCell (by simp only;omega) _).setCell (by simp only;omega) _|exact(HR.out.below.drew.setCell (by simp only;omega) _).setCell (by simp only;omega) _
    ·rcases HG.out with ⟨h,hG⟩|⟨h,hG⟩
     ·exact .inl ⟨h,by rw[HGL.out,←hG,HF.out]⟩
     ·exact .inr ⟨h,by rw[HGL.out,hG]⟩
theorem Q0 {w:World}{b n:Nat}{cs cs':Array Value}{t:TypeId}{fr:Nat×Nat}(h:w.heap[b]? =some (.cells cs t fr))(hs:cs'.size=n:=by rfl):Jc (w.setRow b cs') b 0 n=cs':=by
 rw[Jn _ _ _ _ _ _ _ (setRow_heap _ _ _ _ _ _ h)];subst hs;simp
def Ja1 (l:List Nat)(i:Nat):Int:=(l.getD i 0:Nat)
def JaT (w:World)(o:Option (List Nat)):Ending→World→Prop:=fun e w'=>∃(B:Nat→Int) (ok:Bool),e=.returned (.tuple #[adV false B,ok])∧Below w.heap.size w w'∧
 ((ok=true∧∃l,o=some l∧∀i,i<16→B i=Ja1 l i)∨(ok=false∧o=none))
theorem JaT.mk {w w':World}{o:Option (List Nat)}{B:Nat→Int}{ok:Bool}(hb:Below w.heap.size w w')(h:(ok=true∧∃l,o=some l∧∀i,i<16→B i=Ja1 l i)∨(ok=false∧o=none)):
 JaT w o (.returned (.tuple #[adV false B,ok])) w':=⟨B,ok,rfl,hb,h⟩
theorem Zf:(Tryz.prog.info? 27).map (·.size)=some 17:=by kernel_rfl
theorem Jku (s:ByteArray)(w:World)(hs:s.size≤1000)(henv:Env w):Calls Tryz.prog 120 #[.string s] w (JaT w (JgX s.data.toList)):=by
 have HE:=Jnv henv
 clear henv
 have HFL:Hid (JgX s.data.toList=if (J6 46 s.data.toList).length=4 then (J6 46 s.data.toList).mapM (JdR 256) else none):=Jnv rfl
 have hls:s.data.toList.length=s.size:=by rw[Array.length_toList,ByteArray.size_data]
 have HPL:Hid (∀p∈J6 46 s.data.toList,p.length≤1000):=Jnv (fun p hp=>by have:=Jas 46 _ p hp;omega)
 have HPC:Hid ((J6 46 s.data.toList).length≤1001):=Jnv (by have:=Ze 46 s.data.toList;omega)
 have HCA:=Jnv (fun w h=>Jda s 46 w h hs)
 clear hls hs
 generalize J6 46 s.data.toList=P at*
 go_enter Tryz.func120,Tryz.ntmps120
 go_wp2_with fail
 refine Jnx (HCA.out _ (HE.out.below (Below.all (Jny _ _) _))) ?_
 rintro e w1 ⟨op,capp,rfl,HO,HB⟩
 have HX:=Jnv ((JZ.made0 w 27 false).below HB)
 have HBB:=Jnv (Jno (Below.all (Jny _ _) _) HB)
 have HOO:=Jnv HO
 clear HO HB
 by_cases h4:P.length=4
 ·rw[h4]
  have HP:=Jnv h4
  clear h4
  go_wp2_with fail
  go_loopw [3,5] (fun u3 u5 wr=>∃(k:Nat) (ok:Bool) (B:Nat→Int),k≤4∧u5=.int .i64 k∧u3=.bool ok∧Hid (JZ wr w.heap.size 27 false B)∧Hid (JI wr (w.heap.size+1) 1 op 4 capp (P.map JdK))∧Hid (Below w.heap.size w wr)∧
   Hid ((ok=true∧∃l,(P.take k).mapM (JdR 256)=some l∧∀i,i<16→B i=Ja1 l i)∨(ok=false∧P.mapM (JdR 256)=none))) (fun _ u5 _=>(4:Int)-intOf u5 |>.toNat)
  case atStart=>exact⟨0,true,fun _=>0,by omega,rfl,rfl,HX,Jnv (by have:=HOO.out;rwa [HP.out,World.size_alloc] at this),HBB,Jnv (.inl ⟨rfl,[],rfl,fun i _=>by simp[Ja1]⟩)⟩
  case round=>
   obtain⟨k,ok,B,hk,rfl,rfl,HA,HR,HW,HC⟩:=hrel
   by_cases hlt:k<4
   ·cases ok
    ·have hpp:=HA.out.part
     have hrr:=HA.out.row
     have HAA:=HA.out.heap
     have HN:=Jnv (show P.mapM (JdR 256)=none by rcases HC.out with ⟨h,-⟩|⟨-,h⟩;cases h;exact h)
     have HH:=Jnv HAA
     clear HAA
     go_wp2_with fail
     refine bodyPost_ret (v:=.tuple #[adV false B,false]) ?_ ?_ ?_
     ·exact J4 _ _ Tryz.underlying27 Zf rfl _ _ w.heap.size (.bool false) rfl rfl (Q0 HH.out)
     ·rfl
     exact JaT.mk (below_setRow HW.out (JnA _) _) (.inr ⟨rfl,by rw[HFL.out,if_pos HP.out,HN.out]⟩)
    ·have hkP:k<P.length:=by rw[HP.out];exact hlt
     obtain⟨g,off,hop,hbg,hg,hc,ht⟩:=HR.out.here (by omega)
     subst hop
     have hcl:=hc k (JdK P[k]) (by simp[hkP])
     have hpl:=HPL.out P[k] (List.getElem_mem hkP)
     have HTS:=Jnv (show P.take (k+1)=P.take k++[P[k]] by rw[List.take_succ_eq_append_getElem hkP])
     have HMI:=Jnv (fun h=>Jf3 (JdR 256) P k hkP h)
     have HEw:=Jnv (HE.out.below HW.out)
     clear hc ht
     unfold JdK at hcl
     generalize P[k]=p at*
     have hsz:(⟨p.toArray⟩:ByteArray).size=p.length:=by simp[ByteArray.size]
     have hpe:((⟨p.toArray⟩:ByteArray).data.toList)=p:=by simp
     have hp1:(⟨p.toArray⟩:ByteArray).size≤1000:=by omega
     have HD:=Jnv (Jg2 ⟨p.toArray⟩ 256 (by omega) hp1 wr HEw.out)
     rw[hpe] at HD
     clear hpl hsz hpe hp1
     go_wp2_with fail
     refine Jnx HD.out ?_
     rintro e w2 ⟨n,ok2,rfl,hn0,hn1,hcase,hb2⟩
     have HA2:=Jnv (HA.out.below hb2)
     have HR2:=Jnv (HR.out.below hb2)
     have HW2:=Jnv (Jno HW.out hb2)
     have hcx:=HA2.out.cell k (by omega)
     have hfx:=HA2.out.free (1+k)
     have HC2:=Jnv hcase
     clear hcase hcl HA HR HW HD hb2
     go_wp2_with fail
     go_roundw
     case rel=>
      refine⟨k+1,ok2,fun i=>if i=k then n%256 else B i,by omega,by go_num,rfl,Jnv (HA2.out.set k (by omega) _),Jnv (HR2.out.other (fun a ha=>by cases ha;simp only;omega) _),Jnv (HW2.out.setCell (JnA _) _),Jnv ?_⟩
      rcases HC2.out with ⟨rfl,h0,hd⟩|⟨rfl,hd⟩
      ·obtain⟨l,hl,hB⟩:∃l,List.mapM (JdR 256) (List.take k P)=some l∧∀(i:Nat),i<16→B i=Ja1 l i:=by rcases HC.out with ⟨-,h⟩|⟨h,-⟩;exact h;cases h
       have hlen:l.length=k:=by rw[JeQ _ _ _ hl,List.length_take];omega
       have hm:=(Q9.1 hd).1
       refine .inl ⟨rfl,l++[n.toNat],by rw[HTS.out];exact Jf2 _ _ _ _ _ hl hd,fun i hi=>?_⟩
       by_cases hik:i=k
       ·subst hik
        simp only[if_true,Ja1]
        rw[List.getD_eq_getElem?_getD,List.getElem?_append_right (by omega)]
        simp[hlen];omega
       ·simp only[if_neg hik,hB i hi,Ja1]
        rw[List.getD_eq_getElem?_getD,List.getD_eq_getElem?_getD]
        by_cases hlt2:i<k
        ·rw[List.getElem?_append_left (by omega)]
        ·rw[List.getElem?_eq_none (by omega),List.getElem?_eq_none (by simp;omega)]
      ·exact .inr ⟨rfl,HMI.out hd⟩
     case measure=>simp[intOf];omega
   ·obtain rfl:k=4:=by omega
    have hpp:=HA.out.part
    have hrr:=HA.out.row
    have HH:=Jnv HA.out.heap
    have HF:Hid (P.take 4=P):=Jnv (by rw[List.take_of_length_le (by rw[HP.out];exact JnA _)])
    go_wp2_with fail
    refine bodyPost_ret (v:=.tuple #[adV false B,ok]) ?_ ?_ ?_
    ·exact J4 _ _ Tryz.underlying27 Zf rfl _ _ w.heap.size (.bool ok) rfl rfl (Q0 HH.out)
    ·rfl
    refine JaT.mk (below_setRow HW.out (JnA _) _) ?_
    rcases HC.out with ⟨h1,l,hl,hB⟩|⟨h1,hn⟩
    ·exact .inl ⟨h1,l,by rw[HFL.out,if_pos HP.out,←HF.out];exact hl,hB⟩
    ·exact .inr ⟨h1,by rw[HFL.out,if_pos HP.out,hn]⟩
 ·have h5:((P.length:Int)==4)=false:=by simp;omega
  have HN4:=Jnv h4
  have hpp:=HX.out.part
  have hrr:=HX.out.row
  have HH:=Jnv HX.out.heap
  have hln:=HPC.out
  generalize P.length=nP at*
  go_wp2_with fail
  go_loopw [3,5] (fun u3 u5 wr=>u5=.int .i64 0∧u3=.bool false∧wr=w1) (fun _ u5 _=>0)
  case atStart=>exact⟨rfl,rfl,rfl⟩
  case round=>
   obtain⟨rfl,rfl,rfl⟩:=hrel
   by_cases h0:0<nP
   all_goals
    go_wp2_with fail
    refine bodyPost_ret (v:=.tuple #[adV false fun _=>0,false]) ?_ ?_ ?_
    ·exact J4 _ _ Tryz.underlying27 Zf rfl _ _ w.heap.size (.bool false) rfl rfl (Q0 HH.out)
    ·rfl
    exact JaT.mk (below_setRow HBB.out (JnA _) _) (.inr ⟨rfl,by rw[HFL.out,if_neg HN4.out]⟩)
end
section
open Go.RowKit
theorem ZW (z:Value)(n:Nat):Builtin.zeroCells #[z] n=(List.replicate n z).toArray:=by
 apply Array.ext
 ·simp[Builtin.zeroCells]
 ·intro i h1 h2
  simp[Builtin.zeroCells,Nat.mod_one]
section
variable {P:Program}
theorem Jai (w:World)(t tn ty e:TypeId)(i:TypeInfo)(kn:IntKind)(ht:P.underlying t=some (.slice e))(htn:P.underlying tn=some (.int kn))(hi:P.info? e=some i)(base:Option Addr)(n cap:Nat)(hle:n≤cap):
 (Builtin.append_ #[t,tn] ty #[.slice base n cap,.int .i64 ((0:Nat):Int)]).run P w=.ok (.slice base n cap) w:=by
 have hw:IntKind.i64.wrap ((0:Nat):Int)=0:=by rw[IntKind.wrap_i64];decide
 have hw':IntKind.i64.wrap 0=0:=hw
 cases base<;>simp[Builtin.append_,run_underlying ht,run_underlying htn,sizeOf,typeInfo,hi,asInt,asIntOf,hw',hle,storeCells,Question.forced]
theorem Jat (w:World)(t tn ty e:TypeId)(i:TypeInfo)(z:Value)(kn:IntKind)(ht:P.underlying t=some (.slice e))(htn:P.underlying tn=some (.int kn))(hi:P.info? e=some i)(hz:i.zero=some z)(hzc:z.cells=#[z])
 (g off n cap k:Nat)(h0:0<k)(hsz:i.size=1)(hroom:n+k≤cap)(hk:k≤1000000)(hby:k*i.bytes≤281474976710656)(h1:z.oneCell'=true)
 (hc:∀j,j<k→(w.cell? ⟨g,off+n+j,none⟩).isSome=true)(hf:∀j,j<k→w.frozen? ⟨g,off+n+j,none⟩=false):
 (Builtin.append_ #[t,tn] ty #[.slice (some ⟨g,off,none⟩) n cap,.int .i64 (k:Int)]).run P w=.ok (.slice (some ⟨g,off,none⟩) (n+k) cap) (w.setCells g (off+n) (List.replicate k z)):=by
 have hst:=run_storeCells_cells (P:=P) g (off+n) (List.replicate k z) 0 w (by simpa using hc) (by simpa using hf) (fun v hv=>by rw[(List.mem_replicate.1 hv).2];exact h1)
 simp only[Nat.add_zero] at hst
 have hw:IntKind.i64.wrap (k:Int)=k:=by rw[IntKind.wrap_i64];omega
 have hneg:¬((k:Int)<0):=by omega
 have hk0:k≠0:=by omega
 have h48i:¬(281474976710656<(k:Int)*(i.bytes:Int)):=by rw[←Int.natCast_mul];omega
 simp[Builtin.append_,run_underlying ht,run_underlying htn,sizeOf,typeInfo,zeroValue,hi,hz,hsz,asInt,asIntOf,hw,hneg,h48i,hk0,hroom,hzc,ZW,Addr.add_lit,hst,Question.forced]
theorem Jau (w:World)(t tn ty e:TypeId)(z:Value)(bytes base:Nat)(kn:IntKind)(ht:P.underlying t=some (.slice e))(htn:P.underlying tn=some (.int kn))
 (hinfo:(P.info? e).map (fun i=>(i.zero,i.size,i.bytes))=some (some z,1,bytes))(hzc:z.cells=#[z])(h1:z.oneCell'=true)
 (oa:Option Addr)(n cap:Nat)(xs:List Value)(hown:JI w base 1 oa n cap xs)(k:Nat)(hk:k≤1000000)(h63:n+k≤maxLen)(hbytes:(n+k)*bytes≤140737488355328)(hbase:base≤w.heap.size):
 ∃oa' cap' w',(Builtin.append_ #[t,tn] ty #[.slice oa n cap,.int .i64 (k:Int)]).run P w=.ok (.slice oa' (n+k) cap') w'∧JI w' base 1 oa' (n+k) cap' (xs++List.replicate k z)∧
  w.grownBy w' (oa.map Addr.block)∧(∀a,oa'=some a→oa=some a∨w.heap.size≤a.block):=by
 obtain⟨i,hi,hz,h4,h5⟩:=info_parts hinfo
 have hby:k*i.bytes≤140737488355328:=by rw[h5];exact Nat.le_trans (Nat.mul_le_mul_right _ (by omega)) hbytes
 rcases Nat.eq_zero_or_pos k with h0|h0
 ·subst h0
  exact⟨oa,cap,w,Jai w t tn ty e i kn ht htn hi oa n cap hown.le,by simpa using hown,Jns w _,fun a ha=>.inl ha⟩
 ·have hsm:((n+k:Nat):Int)≤9223372036854775807:=by unfold maxLen at h63;omega
  have hge:=grownCap_ge w (n+k) cap e
  have hcm:grownCap w (n+k) cap e≤maxLen:=grownCap_le_maxLen w (n+k) cap e h63
  have hmade:∀(olds:List Value),olds.length=n→(∀u,(olds[n]? =some u)→False)→olds=xs→∀rest:Nat,rest=grownCap w (n+k) cap e-(n+k)→
   JI (w.drew.alloc (.cells (olds.toArray++Builtin.zeroCells z.cells k++Builtin.zeroCells z.cells rest) e)) base 1 (some ⟨w.heap.size,0,none⟩) (n+k) (grownCap w (n+k) cap e) (xs++List.replicate k z):=by
   intro olds hl _ he rest hrest
   subst he
   refine JI.made (w:=w.drew) _ _ _ _ _ (by simpa using hbase) ?_ hge hcm ?_
   ·simp only[Array.size_append,List.size_toArray,size_zeroCells,hl,hzc,Nat.mul_one,List.size_toArray,List.length_singleton];omega
   ·rw[hzc,ZW,ZW]
    simp only[List.append_toArray,List.toList_toArray,Nat.mul_one]
    rw[List.take_append_of_le_length (by simp[hl])]
    exact List.take_of_length_le (by simp[hl])
  rcases hown.at' with ⟨rfl,rfl⟩|⟨g,off,rfl,hb,hlt,hc,hth⟩
  ·have hn:n=0:=by have:=hown.le;omega
   subst hn
   have hx:xs=[]:=List.eq_nil_of_length_eq_zero (by simpa using hown.len)
   subst hx
   have hr:=Lib.run_append_grow_zeros (P:=P) w t tn ty e i z .i64 kn ht htn hi hz none 0 0 [] (by simp[Builtin.firstCells]) k h0 (by omega) (by omega) hsm (by omega) (growslice_fits (by omega) (by rw[h5];exact hbytes))
   refine⟨_,_,_,hr,hmade [] rfl (by simp) rfl _ rfl,⟨rfl,rfl,rfl,by simp,fun k hk _=>heap_alloc_old w.drew _ hk⟩,fun a ha=>.inr ?_⟩
   cases ha;exact JnA _
  ·by_cases hroom:n+k≤cap
   ·have hsome:∀j,j<k→(w.cell? ⟨g,off+n+j,none⟩).isSome=true:=fun j hj=>by have:=(hth (n+j) (by omega)).1;rwa [←Nat.add_assoc] at this
    have hfz:∀j,j<k→w.frozen? ⟨g,off+n+j,none⟩=false:=fun j hj=>by have:=(hth (n+j) (by omega)).2;rwa [←Nat.add_assoc] at this
    have hr:=Jat (P:=P) w t tn ty e i z kn ht htn hi hz hzc g off n cap k h0 h4 hroom hk (by omega) h1 hsome hfz
    have hlen:=hown.len
    refine⟨_,_,_,hr,⟨by rw[List.length_append,List.length_replicate,hlen];omega,hroom,hown.max,.inr ⟨g,off,rfl,hb,?_,fun j u hu=>?_,fun j hj=>?_⟩⟩,?_,fun a ha=>.inl ha⟩
    ·have hk:=World.keptBut_setCells g (may:=fun _=>True) (List.replicate k z) (off+n) w (fun _ _=>trivial)
     exact Jnz hlt hk.size
    ·by_cases hj:j<xs.length
     ·rw[List.getElem?_append_left hj] at hu
      rw[World.cell?_setCells_out g _ _ _ _ (fun _ _=>Or.inl (by simp only;omega))]
      exact hc j u hu
     ·rw[List.getElem?_append_right (by omega)] at hu
      have hjl:=(List.getElem?_eq_some_iff.1 hu).1
      have:=World.cell?_setCells_in g (List.replicate k z) (off+n) w (by simpa using hsome) (j-xs.length) hjl
      rw[show off+j=off+n+(j-xs.length) by omega,this,←hu,List.getElem?_eq_getElem hjl]
    ·rw[World.frozen?_setCells]
     refine⟨?_,(hth j hj).2⟩
     by_cases hin:n≤j∧j<n+k
     ·have:=World.cell?_setCells_in g (List.replicate k z) (off+n) w (by simpa using hsome) (j-n) (by simp;omega)
      rw[show off+j=off+n+(j-n) by omega,this];rfl
     ·rw[World.cell?_setCells_out g _ _ _ _ (fun _ _=>by simp only[List.length_replicate];omega)]
      exact(hth j hj).1
    ·have hk:=World.keptBut_setCells g (may:=fun p=>p.block=g) (List.replicate k z) (off+n) w (fun _ _=>rfl)
     have htape:∀(vs:List Value) (o:Nat) (w:World),(w.setCells g o vs).tape=w.tape:=by
      intro vs;induction vs with
      |nil=>intro o w;rfl
      |cons v r ih=>intro o w;rw[World.setCells,ih];rfl
     refine⟨hk.1,htape _ _ _,hk.2.1,hk.size,fun k hkl hne=>?_⟩
     exact hk.block hkl (fun _ hp e=>hne (by simp[←hp,e]))
   ·have hr:=Lib.run_append_grow_zeros (P:=P) w t tn ty e i z .i64 kn ht htn hi hz (some ⟨g,off,none⟩) n cap xs (run_firstCells_some (P:=P) w.drew i.size n ⟨g,off,none⟩ n cap xs (by rw[h4];exact hown.len) (fun j u hu=>by rw[Addr.add_lit];exact hc j u hu)) k h0 (by omega) (by omega) hsm (by omega) (growslice_fits (by omega) (by rw[h5];exact hbytes))
    refine⟨_,_,_,hr,hmade xs (by simpa using hown.len) (fun u hu=>by rw[List.getElem?_eq_none (by have:=hown.len;omega)] at hu;cases hu) rfl _ rfl,⟨rfl,rfl,rfl,by simp,fun k hk _=>heap_alloc_old w.drew _ hk⟩,fun a ha=>.inr ?_⟩
    cases ha;exact JnA _
theorem Zg (w:World){ops:Array Oper}{rest:List Oper}{o:Oper}{a:Act}{Q:Exit→Act→World→Prop}
 (hg:o.guard=none)(s x:Operand)(t tn:TypeId)(hop:o.op=Op.call { callee:=Callee.builtin Builtin.append,args:=#[s,x],argTypes:=#[t,tn] })
 (e:TypeId)(z:Value)(bytes base:Nat)(kn:IntKind)(ht:P.underlying t=some (.slice e))(htn:P.underlying tn=some (.int kn))
 (hinfo:(P.info? e).map (fun i=>(i.zero,i.size,i.bytes))=some (some z,1,bytes))(hzc:z.cells=#[z])(h1:z.oneCell'=true)
 (oa:Option Addr)(n cap:Nat)(xs:List Value)(hs:a.eval s=.slice oa n cap)(hown:JI w base 1 oa n cap xs)(k:Nat)(hx:a.eval x=.int .i64 (k:Int))(hk:k≤1000000)(h63:n+k≤maxLen)(hbytes:(n+k)*bytes≤140737488355328)(hbase:base≤w.heap.size)
 (h:∀oa' cap' w',JI w' base 1 oa' (n+k) cap' (xs++List.replicate k z)→w.grownBy w' (oa.map Addr.block)→(∀a,oa'=some a→oa=some a∨w.heap.size≤a.block)→wpList P ops Q rest (a.put o.dst (.slice oa' (n+k) cap')) w'):
 wpList P ops Q (o::rest) a w:=by
 obtain⟨oa',cap',w',hr,h2,h3,h4⟩:=Jau (P:=P) w t tn o.type e z bytes base kn ht htn hinfo hzc h1 oa n cap xs hown k hk h63 hbytes hbase
 exact Lib.wpList_append_run w hg s x t tn hop _ _ hs hx _ _ hr (h oa' cap' w' h2 h3 h4)
end
end
section
def JfC (l:List Nat)(i:Nat):Int:=if i%2=0 then ((l.getD (i/2) 0/256:Nat):Int) else ((l.getD (i/2) 0%256:Nat):Int)
theorem JlB (l:List UInt8):Lib.cut l [58,58]=if Lib.index l [58,58]=-1 then (l,[],false) else (l.take (Lib.index l [58,58]).toNat,l.drop ((Lib.index l [58,58]).toNat+2),true):=by
 unfold Lib.cut
 have:=Lib.index_ge l [58,58]
 by_cases h:Lib.index l [58,58]=-1
 ·rw[if_pos h,if_neg (by omega)]
 ·rw[if_neg h,if_pos (by omega)];rfl
def Jje (c:List UInt8×List UInt8×Bool):Option (List Nat):=(Qi c.1).bind fun l=>(Qi c.2.1).bind fun m=>
 if (c.2.2=true∧l.length+m.length≤7)∨(c.2.2=false∧l.length+m.length=8) then some (l++List.replicate (8-l.length-m.length) 0++m) else none
theorem Jkv (l:List UInt8):JhF l=Jje (Lib.cut l [58,58]):=by
 rw[JlB]
 unfold JhF
 split
 ·rename_i h
  simp only[Jje]
  have h0:Qi []=some []:=rfl
  rw[h0]
  cases Qi l with
  |none=>rfl
  |some m=>
   simp only[Option.bind]
   by_cases hm:m.length=8
   ·rw[if_pos hm,if_pos (.inr ⟨by simp,by simpa using hm⟩),hm];simp
   ·rw[if_neg hm,if_neg (by simp;omega)]
 ·simp only[Jje]
  cases Qi (l.take (Lib.index l [58,58]).toNat) with
  |none=>rfl
  |some a=>
   simp only[Option.bind]
   cases Qi (l.drop ((Lib.index l [58,58]).toNat+2)) with
   |none=>rfl
   |some b=>simp
theorem JlC (l sep:List UInt8):(Lib.cut l sep).1.length≤l.length∧(Lib.cut l sep).2.1.length≤l.length:=by
 unfold Lib.cut
 split
 ·simp;omega
 ·simp
open Go.Lib
theorem Jb5 (b:Nat)(hb:b≤16)(hb2:2≤b):∀(k u:Nat),u≤k→∀c∈XS b u,∃d,d<16∧c=hexc d
 |0,u,hk,c,hc=>by
  obtain rfl:u=0:=by omega
  rw[XS,dif_pos (by omega)] at hc
  exact⟨0,by omega,by simpa using hc⟩
 |k+1,u,hk,c,hc=>by
  rw[XS] at hc
  by_cases h:u<b
  ·rw[dif_pos (.inl h)] at hc
   exact⟨u,by omega,by simpa using hc⟩
  ·rw[dif_neg (by omega),List.mem_append] at hc
   have hlt:u/b<u:=Nat.div_lt_self (by omega) (by omega)
   rcases hc with hc|hc
   ·exact Jb5 b hb hb2 k (u/b) (by omega) c hc
   ·exact⟨u%b,by have:=Nat.mod_lt u (show 0<b by omega);omega,by simpa using hc⟩
theorem Jeb (u:Nat)(h:u<65536):(XS 16 u).length≤4:=by
 rw[XS];split
 ·simp
 rw[XS];split
 ·simp
 rw[XS];split
 ·simp
 rw[XS,dif_pos (.inl (by omega))]
 simp
def zg (g:Nat→Nat):Nat→Bool:=zof [g 0==0,g 1==0,g 2==0,g 3==0,g 4==0,g 5==0,g 6==0,g 7==0]
theorem JmK (g:Nat→Nat)(i:Nat)(h:i<8):zg g i=(g i==0):=by
 rcases i with _|_|_|_|_|_|_|_|i
 all_goals first|rfl|omega
def Jjf (g:Nat→Nat):List UInt8:=Jb3 (fun i=>XS 16 (g i)) (Ji4 (zg g))
def Jmc (b:Nat→Nat):List UInt8:=Xa 46 ((List.range 4).map fun i=>decDigits (b i))
theorem Jdb (u:Nat):∀c∈decDigits u,∃d,d<16∧c=hexc d:=by
 rw[←JcO u u (JnA _)];exact Jb5 10 (by omega) (by omega) u u (JnA _)
open Go.Lib
def Xq (s:List UInt8):Option (Bool×(Nat→Int)):=match JgX s with
 |some l=>some (false,Ja1 l)
 |none=>match JhF s with
  |some l=>some (true,JfC l)
  |none=>none
def Jec (o:Option (Bool×(Nat→Int))):Value:=match o with
 |some p=>.tuple #[adV p.1 p.2,.int .i64 0]
 |none=>.tuple #[adV false fun _=>0,.int .i64 40]
theorem JlD {most:Nat}{l:List UInt8}{n:Nat}(h:JdR most l=some n):n<most:=(Q9.1 h).1
theorem JeS {α β:Type}(f:α→Option β)(p:β→Prop)(hf:∀x b,f x=some b→p b):∀(l:List α) (a:List β),l.mapM f=some a→∀b∈a,p b
 |[],a,h,b,hb=>by
  simp only[List.mapM_nil] at h
  cases h;cases hb
 |y::l,a,h,b,hb=>by
  rw[List.mapM_cons] at h
  cases hy:f y with
  |none=>rw[hy] at h;cases h
  |some c=>
   rw[hy] at h
   cases hl:l.mapM f with
   |none=>rw[hl] at h;cases h
   |some m=>
    rw[hl] at h
    cases h
    rcases List.mem_cons.1 hb with rfl|hb
    ·exact hf _ _ hy
    ·exact JeS f p hf l m hl b hb
theorem JhH {s:List UInt8}{l:List Nat}(h:JgX s=some l):l.length=4∧∀n∈l,n<256:=by
 unfold JgX at h
 split at h
 ·rename_i h4
  exact⟨by rw[JeQ _ _ _ h,h4],JeS _ (·<256) (fun x b e=>JlD e) _ _ h⟩
 ·cases h
theorem JlE {p:List UInt8}{n:Nat}(h:Ji3 p=some n):n<65536:=by
 unfold Ji3 at h
 split at h
 ·unfold Xv at h
  split at h
  ·cases h
  ·exact JgW 16 65536 p 0 n (by omega) h
 ·cases h
theorem Jb6 {s:List UInt8}{l:List Nat}(h:Qi s=some l):∀n∈l,n<65536:=by
 unfold Qi at h
 split at h
 ·cases h;intro n hn;cases hn
 ·exact JeS _ (·<65536) (fun x b e=>JlE e) _ _ h
theorem Jjg {s:List UInt8}{l:List Nat}(h:JhF s=some l):l.length=8∧∀n∈l,n<65536:=by
 unfold JhF at h
 split at h
 ·cases hg:Qi s with
  |none=>rw[hg] at h;cases h
  |some a=>
   rw[hg] at h
   simp only[Option.bind] at h
   split at h
   ·cases h;rename_i h8;exact⟨h8,Jb6 hg⟩
   ·cases h
 ·cases hg:Qi (s.take (index s [58,58]).toNat) with
  |none=>rw[hg] at h;cases h
  |some a=>
   rw[hg] at h
   simp only[Option.bind] at h
   cases hg2:Qi (s.drop ((index s [58,58]).toNat+2)) with
   |none=>rw[hg2] at h;cases h
   |some b=>
    rw[hg2] at h
    simp only at h
    split at h
    ·cases h
     refine⟨by simp;omega,fun n hn=>?_⟩
     simp only[List.mem_append,List.mem_replicate] at hn
     rcases hn with (hn|⟨-,rfl⟩)|hn
     ·exact Jb6 hg n hn
     ·omega
     ·exact Jb6 hg2 n hn
    ·cases h
theorem Jjh {l:List Nat}{m:Nat}(hm:0<m)(h:∀n∈l,n<m)(i:Nat):l.getD i 0<m:=by
 rw[List.getD_eq_getElem?_getD]
 cases hi:l[i]? with
 |none=>simpa using hm
 |some n=>exact h n (List.mem_of_getElem? hi)
theorem Jkw {l:List Nat}(h:∀n∈l,n<256):U8 (Ja1 l):=fun i=>by
 have:=Jjh (by omega) h i
 unfold Ja1
 omega
theorem JlF {l:List Nat}(h:∀n∈l,n<65536):U8 (JfC l):=fun i=>by
 have:=Jjh (by omega) h (i/2)
 unfold JfC
 split<;>omega
theorem Jg7 {l:List Nat}(h:l.length=4):JR false (Ja1 l)=true:=by
 rw[Jbg]
 intro i h4 _
 unfold Ja1
 rw[List.getD_eq_getElem?_getD,List.getElem?_eq_none (by omega)];rfl
theorem Jf8 {s:List UInt8}{p:Bool×(Nat→Int)}(h:Xq s=some p):JR p.1 p.2=true∧U8 p.2:=by
 unfold Xq at h
 split at h
 ·rename_i l hl
  cases h
  exact⟨Jg7 (JhH hl).1,Jkw (JhH hl).2⟩
 ·split at h
  ·rename_i l hl
   cases h
   exact⟨rfl,JlF (Jjg hl).2⟩
  ·cases h
end
section
open Go.RowKit
def JlG (w:World)(o:Option (List Nat)):Ending→World→Prop:=fun e w'=>Below w.heap.size w w'∧
 ((∃l,o=some l∧e=.returned (.tuple #[adV true (JfC l),true]))∨(o=none∧e=.returned (.tuple #[adV false fun _=>0,false])))
section
variable {P:Program}
theorem JbB (w:World){ops:Array Oper}{rest:List Oper}{o:Oper}{a:Act}{Q:Exit→Act→World→Prop}
 (hg:o.guard=none)(s x:Operand)(t:TypeId)(hop:o.op=Op.call { callee:=Callee.builtin Builtin.append,args:=#[s,x],argTypes:=#[t,t] })
 (e:TypeId)(z:Value)(bytes base base2:Nat)(ht:P.underlying t=some (.slice e))(hinfo:(P.info? e).map (fun i=>(i.zero,i.size,i.bytes))=some (some z,1,bytes))(hzs:z.cells.size=1)
 (oa:Option Addr)(n cap:Nat)(xs:List Value)(hs:a.eval s=.slice oa n cap)(hown:JI w base 1 oa n cap xs)
 (A:Option Addr)(m c:Nat)(ys:List Value)(hx:a.eval x=.slice A m c)(hsrc:JI w base2 1 A m c ys)(h1:∀u∈ys,u.oneCell'=true)
 (h63:n+m≤maxLen)(hbytes:(n+m)*bytes≤140737488355328)(hbase:base≤w.heap.size)
 (h:∀oa' cap' w',JI w' base 1 oa' (n+m) cap' (xs++ys)→w.grownBy w' (oa.map Addr.block)→(∀a,oa'=some a→oa=some a∨w.heap.size≤a.block)→wpList P ops Q rest (a.put o.dst (.slice oa' (n+m) cap')) w'):
 wpList P ops Q (o::rest) a w:=by
 rcases Nat.eq_zero_or_pos m with h0|h0
 ·subst h0
  have hy:ys=[]:=List.eq_nil_of_length_eq_zero (by simpa using hsrc.len)
  subst hy
  obtain⟨i,hi,-,h4,-⟩:=info_parts hinfo
  have hr:=Jae (P:=P) w t o.type e 1 ht (by rw[hi,←h4];rfl) oa n cap hown.le A c
  exact Lib.wpList_append_run w hg s x t t hop _ _ hs hx _ _ hr (h oa cap w (by simpa using hown) (Jns w _) fun a ha=>.inl ha)
 ·obtain⟨g,off,rfl,-,-,hc,-⟩:=hsrc.here h0
  exact J2 w hg s x t hop e z 1 bytes base ht hinfo hzs (by omega) oa n cap xs hs hown ⟨g,off,none⟩ m c ys hx hsrc.len (fun j u hu=>by rw[Addr.add_lit];exact hc j u hu) h1 h0 h63 hbytes hbase h
end
theorem Jmd {w:World}{b:Nat}{t:TypeId}{k:Nat}{L:List Nat}(h:JZ w b t true (fun j=>if j<2*k then JfC L j else 0))(hk:k<8){u v:Int}(hu:u=JfC L (2*k))(hv:v=JfC L (2*k+1)):
 JZ ((w.setCell ⟨b,1+2*k,none⟩ (.int .u8 u)).setCell ⟨b,1+(2*k+1),none⟩ (.int .u8 v)) b t true (fun j=>if j<2*(k+1) then JfC L j else 0):=
 ((h.set (2*k) (by omega) u).set (2*k+1) (by omega) v).congr fun i _=>by
   by_cases e:i=2*k+1
   ·subst e;simp only[if_true,if_pos (show 2*k+1<2*(k+1) by omega),hv]
   ·by_cases e2:i=2*k
    ·subst e2;simp only[if_neg e,if_true,if_pos (show 2*k<2*(k+1) by omega),hu]
    ·simp only[if_neg e,if_neg e2]
     by_cases h:i<2*k
     ·rw[if_pos h,if_pos (show i<2*(k+1) by omega)]
     ·rw[if_neg h,if_neg (show¬i<2*(k+1) by omega)]
theorem JlH (s:ByteArray)(w:World)(hs:s.size≤1000)(henv:Env w):Calls Tryz.prog 121 #[.string s] w (JlG w (JhF s.data.toList)):=by
 have HE:=Jnv henv
 obtain⟨m,hm⟩:=henv.len
 have HS6:=Jnv (Jkv s.data.toList)
 have hls:s.data.toList.length=s.size:=by rw[Array.length_toList,ByteArray.size_data]
 have hcl:=JlC s.data.toList [58,58]
 have HC:=Jnv (fun(w:World) h=>Tryz.strings_Cut s ⟨#[58,58]⟩ m w (by omega) h)
 have HB0:Hid (Below w.heap.size w (w.alloc (.cells (Joa false) 27))):=Jnv (Below.all (Jny _ _) _)
 have HM:=Jnv hm
 rw[show(⟨#[58,58]⟩:ByteArray).data.toList=[58,58] from rfl] at HC
 clear henv hm
 generalize Lib.cut s.data.toList [58,58]=C at*
 obtain⟨H,T,short⟩:=C
 obtain⟨hH,hT⟩:=hcl
 simp only at hH hT HC
 go_enter Tryz.func121,Tryz.ntmps121
 go_wp2_with fail
 have hd0:∀(v:World) (n:Nat),Below v.heap.size v (v.drewN n):=fun v n=>⟨rfl,rfl,rfl,JnA _,fun _ _=>rfl⟩
 refine Jnx (HC.out _ ((HB0.out.cell (World.block_lt_of_cell? w _ HM.out)).trans HM.out)) ?_
 rintro e w1 ⟨rfl,nd,rfl⟩
 have HX1:=Jnv ((JZ.made0 w 27 false).below (hd0 _ nd))
 have HB1:=Jnv (Jno HB0.out (hd0 _ nd))
 have hW1:w.heap.size<((w.alloc (.cells (Joa false) 27)).drewN nd).heap.size:=by simp[World.drewN]
 clear hd0 HB0 HC HM
 generalize World.drewN _ nd=w1 at*
 have HE1:=Jnv (HE.out.below HB1.out)
 have HR1:Hid (∀w,Env w→Calls Tryz.prog 174 #[.string ⟨H.toArray⟩] w (Jg6 w (Qi H))):=Jnv fun w h=>Jjd ⟨H.toArray⟩ w (by simp[ByteArray.size];omega) h
 have HR2:Hid (∀w,Env w→Calls Tryz.prog 174 #[.string ⟨T.toArray⟩] w (Jg6 w (Qi T))):=Jnv fun w h=>Jjd ⟨T.toArray⟩ w (by simp[ByteArray.size];omega) h
 have HS6':Hid (JhF s.data.toList=(Qi H).bind fun l=>(Qi T).bind fun m=>if (short=true∧l.length+m.length≤7)∨(short=false∧l.length+m.length=8) then some (l++List.replicate (8-l.length-m.length) 0++m) else none):=HS6
 clear HS6 hls hH hT hs
 go_wp2_with fail
 refine Jnx (HR1.out _ HE1.out) ?_
 rintro e w2 ⟨oa1,cap1,G1,ok1,rfl,hO1,hb2,hl1,hc1⟩
 have HO1:=Jnv hO1
 have HE2:=Jnv (HE1.out.below hb2)
 have HX2:=Jnv (HX1.out.below hb2)
 have HB2:=Jnv (Jno HB1.out hb2)
 have HC1:=Jnv hc1
 have HO1l2:=Jnv (fun a (ha:oa1=some a)=>hO1.lt ha)
 have hW2:w1.heap.size≤w2.heap.size:=hb2.size
 clear hO1 hb2 hc1 HX1 HB1 HE1 HR1
 generalize hn1:G1.length=n1 at*
 have HN1:=Jnv hn1
 clear hn1
 go_wp2_with fail
 refine Jnx (HR2.out _ HE2.out) ?_
 rintro e w3 ⟨oa2,cap2,G2,ok2,rfl,hO2,hb3,hl2,hc2⟩
 have HO1:=Jnv (HO1.out.below hb3)
 have HO2:=Jnv hO2
 have HX3:=Jnv (HX2.out.below hb3)
 have HB3:=Jnv (Jno HB2.out hb3)
 have HC2:=Jnv hc2
 have HO1lt:=Jnv (fun a (ha:oa1=some a)=>HO1.out.lt ha)
 have hW3:w2.heap.size≤w3.heap.size:=hb3.size
 have hpp:=HX3.out.part
 have hrr:=HX3.out.row
 have HH:=Jnv HX3.out.heap
 clear hO2 hb3 hc2 HX2 HB2 HE2 HR2
 generalize hn2:G2.length=n2 at*
 have HN2:=Jnv hn2
 clear hn2
 cases ok1
 ·have HF:Hid (JhF s.data.toList=none):=Jnv (by
   rcases HC1.out with ⟨h,-⟩|⟨-,h⟩
   ·cases h
   ·rw[HS6'.out,h];rfl)
  go_wp2_with fail
  refine bodyPost_ret (v:=.tuple #[adV false fun _=>0,false]) ?_ ?_ ?_
  ·exact J4 _ _ Tryz.underlying27 Zf rfl _ _ w.heap.size (.bool false) rfl rfl (Q0 HH.out)
  ·rfl
  ·exact⟨below_setRow HB3.out (JnA _) _,.inr ⟨HF.out,rfl⟩⟩
 cases ok2
 ·have HF:Hid (JhF s.data.toList=none):=Jnv (by
   rcases HC2.out with ⟨h,-⟩|⟨-,h⟩
   ·cases h
   ·rw[HS6'.out,h];cases Qi H<;>rfl)
  go_wp2_with fail
  refine bodyPost_ret (v:=.tuple #[adV false fun _=>0,false]) ?_ ?_ ?_
  ·exact J4 _ _ Tryz.underlying27 Zf rfl _ _ w.heap.size (.bool false) rfl rfl (Q0 HH.out)
  ·rfl
  ·exact⟨below_setRow HB3.out (JnA _) _,.inr ⟨HF.out,rfl⟩⟩
 have HG1:Hid (Qi H=some G1):=Jnv (by rcases HC1.out with ⟨-,h⟩|⟨h,-⟩;exact h;cases h)
 have HG2:Hid (Qi T=some G2):=Jnv (by rcases HC2.out with ⟨-,h⟩|⟨h,-⟩;exact h;cases h)
 have HS7:Hid (JhF s.data.toList=if (short=true∧n1+n2≤7)∨(short=false∧n1+n2=8) then some (G1++List.replicate (8-n1-n2) 0++G2) else none):=Jnv (by rw[HS6'.out,HG1.out,HG2.out,←HN1.out,←HN2.out];rfl)
 clear HS6' HC1 HC2
 by_cases hok:(short=true∧n1+n2≤7)∨(short=false∧n1+n2=8)
 ·have HF:Hid (JhF s.data.toList=some (G1++List.replicate (8-n1-n2) 0++G2)):=Jnv (by rw[HS7.out,if_pos hok])
  obtain⟨mi,hmi⟩:∃mi:Nat,(8:Int)-n1-n2=mi:=⟨8-n1-n2,by omega⟩
  have hsm:(short=true∧1≤mi)∨(short=false∧mi=0):=by rcases hok with ⟨h1,h2⟩|⟨h1,h2⟩<;>simp only[h1,true_and,false_and,Bool.false_eq_true]<;>omega
  have h8:n1+mi+n2=8:=by omega
  have hm8:mi≤8:=by omega
  rw[show 8-n1-n2=mi by omega] at HF
  clear hok HS7
  cases short
  all_goals
   first
    |(have hmz:mi=0:=by simpa using hsm)
    |(have hmz:1≤mi:=by simpa using hsm)
   clear hsm
   go_wp2_with (at_builtin;refine JB.of ?_)
   have HMZ:=Jnv hmz
   clear hmz
   refine JB.mk ?_
   refine Zg _ rfl _ _ 252 3 rfl 124 (.int .u64 0) 8 w1.heap.size .i64 Tryz.underlying252 Tryz.underlying3 JaS rfl rfl oa1 n1 cap1 _ rfl (HO1.out.alloc _) mi ?_ (by omega) (by unfold maxLen;omega) (by omega) (by simp only[World.size_alloc];omega) ?_
   ·first
     |rfl
     |(show Value.int .i64 0=.int .i64 (mi:Int);rw[HMZ.out];rfl)
   intro oa' cap' w5 hO5 hg5 hd5
   have hlt1:=HX3.out.lt
   have hne:∀b,(b<w1.heap.size∨w3.heap.size≤b)→some b≠oa1.map Addr.block:=fun b hb e=>by
    obtain⟨a,ha,hab⟩:=Option.map_eq_some_iff.1 e.symm
    have:=HO1lt.out a ha;omega
   have HX5:=Jnv ((HX3.out.alloc (.cells (Joa true) 27)).keep (hg5.block _ (by simp;omega) (hne _ (.inl hW1))))
   have HY5:=Jnv ((JZ.made0 w3 27 true).keep (hg5.block _ (by simp) (hne _ (.inr (JnA _)))))
   have HB5:=Jnv (Below.grown (Below.all HB3.out _) hg5 (by simp;omega) (fun k hk=>by
    obtain⟨a,ha,hab⟩:=Option.map_eq_some_iff.1 hk
    have:=HO1lt.out a ha;omega))
   have HO25:=Jnv ((HO2.out.alloc _).grown hg5 (fun a ha e=>by
    obtain⟨a',ha',hab⟩:=Option.map_eq_some_iff.1 e.symm
    have h1:=HO1l2.out a' ha'
    have h2:=HO2.out.lt ha
    omega))
   have hsz5:w3.heap.size+1≤w5.heap.size:=by have:=hg5.size;simpa using this
   have HD5:Hid (∀a,oa'=some a→w1.heap.size≤a.block∧a.block≠w3.heap.size∧a.block<w5.heap.size):=Jnv fun a ha=>by
    have h1:=hO5.lt ha
    rcases hd5 a ha with h|h
    ·have:=HO1lt.out a h;omega
    ·simp only[World.size_alloc] at h;omega
   have HO5:=Jnv hO5
   clear hne hg5 hd5 hO5 hpp hrr HH HO1 HO2
   go_wp2_with (at_builtin;refine JB.of ?_)
   refine JB.mk ?_
   refine JbB _ rfl _ _ 252 rfl 124 (.int .u64 0) 8 w1.heap.size w2.heap.size Tryz.underlying252 JaS rfl oa' (n1+mi) cap' _ rfl HO5.out oa2 n2 cap2 _ rfl HO25.out ?_ (by unfold maxLen;omega) (by omega) (by omega) ?_
   ·intro u hu
    obtain⟨i,-,rfl⟩:=List.mem_map.1 hu
    rfl
   intro oa'' cap'' w6 hO6 hg6 hd6
   have hne:∀b,(b<w1.heap.size∨b=w3.heap.size)→some b≠oa'.map Addr.block:=fun b hb e=>by
    obtain⟨a,ha,hab⟩:=Option.map_eq_some_iff.1 e.symm
    have:=HD5.out a ha;omega
   have HX6:=Jnv (HX5.out.keep (hg6.block _ (by omega) (hne _ (.inl hW1))))
   have HY6:=Jnv (HY5.out.keep (hg6.block _ (by omega) (hne _ (.inr rfl))))
   have HB6:=Jnv (Below.grown HB5.out hg6 (by omega) (fun k hk=>by
    obtain⟨a,ha,hab⟩:=Option.map_eq_some_iff.1 hk
    have:=HD5.out a ha;omega))
   have HD6:Hid (∀a,oa''=some a→w1.heap.size≤a.block∧a.block≠w3.heap.size):=Jnv fun a ha=>by
    have h1:=hO6.lt ha
    rcases hd6 a ha with h|h
    ·have:=HD5.out a h;omega
    ·omega
   rw[h8] at hO6⊢
   have hmap:List.map (fun(m:Nat)=>Value.int .u64 (m:Int)) G1++List.replicate mi (.int .u64 0)++List.map (fun(m:Nat)=>Value.int .u64 (m:Int)) G2=(G1++List.replicate mi 0++G2).map fun(m:Nat)=>Value.int .u64 (m:Int):=by simp
   rw[hmap] at hO6
   have HO6:=Jnv hO6
   have HLB:=Jnv (Jjg HF.out)
   clear hmap hne hg6 hd6 hO6 HX5 HY5 HB5 HO25 HO5 HD5 HX3 HB3 HO1l2 HO1lt HMZ HG1 HG2 HN1 HN2 hmi hl1 hl2 hm8
   generalize G1++List.replicate mi 0++G2=L at*
   generalize w3.heap.size=b3 at*
   go_wp2_with fail
   have HLG:Hid (∀k (h:k<L.length),L[k]<65536):=Jnv fun k h=>HLB.out.2 _ (List.getElem_mem h)
   have HL8:=Jnv HLB.out.1
   clear HLB
   go_loopw [66] (fun u66 wr=>∃k:Nat,k≤8∧u66=.int .i64 k∧Hid (JZ wr w.heap.size 27 false fun _=>0)∧Hid (JZ wr b3 27 true (fun j=>if j<2*k then JfC L j else 0))∧Hid (JI wr w1.heap.size 1 oa'' 8 cap'' (L.map fun(m:Nat)=>Value.int .u64 (m:Int)))∧Hid (Below w.heap.size w wr)) (fun u66 _=>(8:Int)-intOf u66 |>.toNat)
   case atStart=>exact⟨0,by omega,rfl,HX6,Jnv (HY6.out.congr fun i _=>by simp),HO6,HB6⟩
   case round=>
    obtain⟨k,hk,rfl,HX,HY,HO,HW⟩:=hrel
    by_cases hlt:k<8
    ·have hkL:k<L.length:=by rw[HL8.out];exact hlt
     obtain⟨g,off,hop,hbg,hg,hc,ht⟩:=HO.out.here (by omega)
     have hgb:=(HD6.out _ hop).2
     subst hop
     have hcl:=hc k (.int .u64 (L[k]:Nat)) (by simp[hkL])
     have hnb:=HLG.out k hkL
     have HSX:Hid (((L[k]/256:Nat):Int)=JfC L (2*k)∧((L[k]%256:Nat):Int)=JfC L (2*k+1)):=Jnv (by
      unfold JfC
      rw[if_pos (by omega),if_neg (by omega),show 2*k/2=k by omega,show(2*k+1)/2=k by omega,List.getD_eq_getElem?_getD,List.getElem?_eq_getElem hkL]
      exact⟨rfl,rfl⟩)
     generalize L[k]=n at*
     have hcx:=HY.out.cell (2*k) (by omega)
     have hcy:=HY.out.cell (2*k+1) (by omega)
     have hfx:=HY.out.free (1+2*k)
     have hfy:=HY.out.free (1+(2*k+1))
     clear hc ht
     go_wp2_with fail
     go_roundw
     case rel=>
      refine⟨k+1,by omega,by go_num,Jnv ((HX.out.other _ _ (by simp only;omega)).other _ _ (by simp only;omega)),Jnv (Jmd HY.out hlt (by rw[←HSX.out.1];omega) (by rw[←HSX.out.2];omega)),Jnv ((HO.out.other ?_ _).other ?_ _),Jnv ((HW.out.setCell (by simp only;omega) _).setCell (by simp only;omega) _)⟩
      ·intro a ha;cases ha;exact hgb
      ·intro a ha;cases ha;exact hgb
     case measure=>simp[intOf];omega
    ·obtain rfl:k=8:=by omega
     have HZ:=HY.out.congr (C:=JfC L) fun i hi=>by rw[if_pos (by omega)]
     have hpp:=HZ.part
     have hrr:=HX.out.row
     have HH:=Jnv HX.out.heap
     clear HZ
     go_wp2_with fail
     refine bodyPost_ret (v:=.tuple #[adV true (JfC L),true]) ?_ ?_ ?_
     ·exact J4 _ _ Tryz.underlying27 Zf rfl _ _ w.heap.size (.bool true) rfl rfl (Q0 HH.out)
     ·rfl
     ·exact⟨below_setRow HW.out (JnA _) _,.inl ⟨L,HF.out,rfl⟩⟩
 ·have HF:Hid (JhF s.data.toList=none):=Jnv (by rw[HS7.out,if_neg hok])
  clear HS7
  cases short
  ·have hne:¬((8:Int)-n1-n2=0):=fun h=>hok (.inr ⟨rfl,by omega⟩)
   clear hok
   go_wp2_with fail
   refine bodyPost_ret (v:=.tuple #[adV false fun _=>0,false]) ?_ ?_ ?_
   ·exact J4 _ _ Tryz.underlying27 Zf rfl _ _ w.heap.size (.bool false) rfl rfl (Q0 HH.out)
   ·rfl
   ·exact⟨below_setRow HB3.out (JnA _) _,.inr ⟨HF.out,rfl⟩⟩
  ·have hne:(8:Int)-n1-n2<1:=by
    have:¬(n1+n2≤7):=fun h=>hok (.inl ⟨rfl,h⟩)
    omega
   clear hok
   go_wp2_with fail
   refine bodyPost_ret (v:=.tuple #[adV false fun _=>0,false]) ?_ ?_ ?_
   ·exact J4 _ _ Tryz.underlying27 Zf rfl _ _ w.heap.size (.bool false) rfl rfl (Q0 HH.out)
   ·rfl
   ·exact⟨below_setRow HB3.out (JnA _) _,.inr ⟨HF.out,rfl⟩⟩
end
end Go.Proofs.YtkgjbipfhhjlpaaGreatDoor
