import Derived.Test.YtkgjbipfhhjlpaaGreatDoorMc5
import Derived.Lib.AppendZerosOnto
set_option linter.unusedVariables false
set_option linter.unusedSimpArgs false
set_option maxRecDepth 100000
set_option maxHeartbeats 32000000
namespace Go.Proofs.YtkgjbipfhhjlpaaGreatDoor
section
open Go.RowKit
structure ZL (w W:World)(hi:Nat)(op:Option Addr)(nP capp:Nat)(P:List (List UInt8))(oa:Option Addr)(n cap:Nat)(G:List Nat)(ok:Bool):Prop where
 below:Below w.heap.size w W
 list:W.cell? ⟨w.heap.size,0,none⟩=some (.slice oa n cap)
 okc:W.cell? ⟨w.heap.size+1,0,none⟩=some (.bool ok)
 listF:W.frozen? ⟨w.heap.size,0,none⟩=false
 okF:W.frozen? ⟨w.heap.size+1,0,none⟩=false
 parts:JQ W (w.heap.size+2) 1 op nP capp (P.map Jew)
 plt:∀a,op=some a→a.block<hi
 hiW:hi≤W.heap.size
 lo:w.heap.size+2≤hi
 row:JQ W hi 1 oa n cap (G.map fun(m:Nat)=>Value.int .u64 (m:Int))
theorem ZL.go {w W W':World}{hi:Nat}{op:Option Addr}{nP capp:Nat}{P:List (List UInt8)}{oa:Option Addr}{n cap:Nat}{G:List Nat}{ok:Bool}(h:ZL w W hi op nP capp P oa n cap G ok)(hb:Below W.heap.size W W'):ZL w W' hi op nP capp P oa n cap G ok where
 below:=JoE h.below hb
 list:=(hb.cell (p:=⟨_,_,none⟩) (World.block_lt_of_cell? W _ h.list)).trans h.list
 okc:=(hb.cell (p:=⟨_,_,none⟩) (World.block_lt_of_cell? W _ h.okc)).trans h.okc
 listF:=(hb.frozen (p:=⟨_,_,none⟩) (World.block_lt_of_cell? W _ h.list)).trans h.listF
 okF:=(hb.frozen (p:=⟨_,_,none⟩) (World.block_lt_of_cell? W _ h.okc)).trans h.okF
 parts:=h.parts.below hb
 plt:=h.plt
 hiW:=Nat.le_trans h.hiW hb.size
 lo:=h.lo
 row:=h.row.below hb
theorem Jbd:(Tryz.prog.info? 124).map (fun i=>(i.zero,i.size,i.bytes))=some (some (.int .u64 0),1,8):=by kernel_rfl
theorem ZL.put {w W:World}{hi:Nat}{op:Option Addr}{nP capp:Nat}{P:List (List UInt8)}{oa:Option Addr}{n cap:Nat}{G:List Nat}{ok:Bool}(h:ZL w W hi op nP capp P oa n cap G ok)(b:Bool):ZL w (W.setCell ⟨w.heap.size+1,0,none⟩ (.bool b)) hi op nP capp P oa n cap G b where
 below:=h.below.setCell (by simp only;omega) _
 list:=(by rw[World.cell?_setCell_other];exact h.list;intro e;injection e;omega)
 okc:=by first|exact World.cell?_setCell_same _ h.okc|exact World.cell?_setCell_same _ _ h.okc|exact World.cell?_setCell_same _ _ _ h.okc
 listF:=by simpa using h.listF
 okF:=by simpa using h.okF
 parts:=h.parts.other (fun a ha=>by have:=(h.parts.lt ha).1;simp only;omega) _
 plt:=h.plt
 hiW:=by simpa using h.hiW
 lo:=h.lo
 row:=h.row.other (fun a ha=>by have:=(h.row.lt ha).1;have:=h.lo;simp only;omega) _
structure JlQ (w W:World)(hi:Nat)(op:Option Addr)(nP capp:Nat)(P:List (List UInt8))(oa:Option Addr)(n cap:Nat)(G:List Nat)(ok:Bool):Prop where
 list:∃v,W.cell? ⟨w.heap.size,0,none⟩=some v
 listF:W.frozen? ⟨w.heap.size,0,none⟩=false
 put:ZL w (W.setCell ⟨w.heap.size,0,none⟩ (.slice oa n cap)) hi op nP capp P oa n cap G ok
theorem ZL.grown {w W w':World}{hi:Nat}{op:Option Addr}{nP capp:Nat}{P:List (List UInt8)}{oa:Option Addr}{n cap:Nat}{G:List Nat}{ok:Bool}(h:ZL w W hi op nP capp P oa n cap G ok)
 (hg:W.grownBy w' (oa.map Addr.block)){oa':Option Addr}{n' cap':Nat}{G':List Nat}(ho:JQ w' hi 1 oa' n' cap' (G'.map fun(m:Nat)=>Value.int .u64 (m:Int))):JlQ w w' hi op nP capp P oa' n' cap' G' ok:=by
 have hlo:=h.lo
 have hhi:=h.hiW
 have hne:∀k,k<hi→some k≠oa.map Addr.block:=by
  intro k hk e
  obtain⟨a,e1,e2⟩:=Option.map_eq_some_iff.1 e.symm
  have:=(h.row.lt e1).1
  omega
 have e0:w'.heap[w.heap.size]? =W.heap[w.heap.size]?:=hg.block _ (by omega) (hne _ (by omega))
 have e1:w'.heap[w.heap.size+1]? =W.heap[w.heap.size+1]?:=hg.block _ (by omega) (hne _ (by omega))
 have hl:w'.cell? ⟨w.heap.size,0,none⟩=some (.slice oa n cap):=by rw[World.cell?_of_block (w:=W) (a:=⟨w.heap.size,0,none⟩) e0];exact h.list
 have hok:w'.cell? ⟨w.heap.size+1,0,none⟩=some (.bool ok):=by rw[World.cell?_of_block (w:=W) (a:=⟨w.heap.size+1,0,none⟩) e1];exact h.okc
 have hlF:w'.frozen? ⟨w.heap.size,0,none⟩=false:=by rw[World.frozen?_of_block (w:=W) (a:=⟨w.heap.size,0,none⟩) e0];exact h.listF
 have hokF:w'.frozen? ⟨w.heap.size+1,0,none⟩=false:=by rw[World.frozen?_of_block (w:=W) (a:=⟨w.heap.size+1,0,none⟩) e1];exact h.okF
 have hP:JQ w' (w.heap.size+2) 1 op nP capp (P.map Jew):=h.parts.grown hg fun a ha=>hne _ (h.plt a ha)
 have hB:Below w.heap.size w w':=JoC h.below h.row (by omega) hg (by omega)
 refine⟨⟨_,hl⟩,hlF,?_⟩
 refine⟨hB.setCell (by simp only;omega) _,?_,?_,by simpa using hlF,by simpa using hokF,hP.other (fun a ha=>by have:=(hP.lt ha).1;simp only;omega) _,h.plt,?_,hlo,ho.other (fun a ha=>by have:=(ho.lt ha).1;simp only;omega) _⟩
 ·first|exact World.cell?_setCell_same _ hl|exact World.cell?_setCell_same _ _ hl|exact World.cell?_setCell_same _ _ _ hl
 ·rw[World.cell?_setCell_other];exact hok;intro e;injection e;omega
 ·have:=hg.size;simp;omega
theorem Jjn (p:ByteArray)(hp:p.size≤1000)(w W:World)(hi:Nat)(op:Option Addr)(nP capp:Nat)(P:List (List UInt8))(oa:Option Addr)(n cap:Nat)(G:List Nat)(HE:Hid (Env W))
 (hn:n≤1000)(h:Hid (ZL w W hi op nP capp P oa n cap G false)):
 Calls Tryz.prog 207 #[.string p,.pointer (some ⟨w.heap.size+1,0,none⟩),.pointer (some ⟨w.heap.size,0,none⟩)] W
  (fun e w'=>∃oa' cap' u,e=.returned (.tuple #[])∧ZL w w' hi op nP capp P oa' (n+1) cap' (G++[u]) false):=by
 go_enter Tryz.func207,Tryz.ntmps207
 go_wp2_with fail
 refine JoN (Zc p hp W HE.out) ?_
 rintro e w1 ⟨u,er,rfl,hu0,hu1,-,hb⟩
 obtain⟨v,rfl⟩:∃v:Nat,u=(v:Int):=⟨u.toNat,by omega⟩
 have H1:=JoL (h.out.go hb)
 have hl:=H1.out.list
 have ho:=H1.out.okc
 have hlF:=H1.out.listF
 have hoF:=H1.out.okF
 clear hb HE h
 go_wp2_with (at_builtin;refine JC.of ?_)
 refine JC.mk ?_
 have H2:=JoL (H1.out.put false)
 refine Qa _ rfl _ _ 252 rfl 124 (.int .u64 0) 1 8 hi Tryz.underlying252 Jbd rfl (by decide) oa n cap _ rfl (H2.out.row.alloc _) ⟨w1.heap.size,0,none⟩ 1 1 [.int .u64 v] rfl rfl ?_ ?_ (by decide) ?_ ?_ ?_ ?_
 ·have h:=Zb (w1.setCell ⟨w.heap.size+1,0,none⟩ (.bool false)) #[.int .u64 v] 124
  simpa using h
 ·simp[Value.oneCell']
 ·unfold maxLen;omega
 ·omega
 ·have:=H2.out.hiW;simp only[World.size_alloc];omega
 intro oa' cap' w' ho' hg2 hd
 have HG:=JoL ((H2.out.go ((JoO _ _).alloc (JoQ _) _)).grown hg2 (G':=G++[v]) (by rw[List.map_append];exact ho'))
 obtain⟨vl,hvl⟩:=HG.out.list
 have hvF:=HG.out.listF
 clear hg2 hd ho' H1 H2 hl ho hlF hoF
 go_wp2_with fail
 go_end0
 exact⟨oa',cap',v,rfl,HG.out.put⟩
theorem JhW (p:ByteArray)(hp:p.size≤1000)(w W:World)(hi:Nat)(op:Option Addr)(nP capp:Nat)(P:List (List UInt8))(oa:Option Addr)(n cap:Nat)(G:List Nat)(HE:Hid (Env W))
 (hn:n≤1000)(h:Hid (ZL w W hi op nP capp P oa n cap G true))(hx:Xa 16 65536 p.data.toList=none):
 Calls Tryz.prog 207 #[.string p,.pointer (some ⟨w.heap.size+1,0,none⟩),.pointer (some ⟨w.heap.size,0,none⟩)] W
  (fun e w'=>∃oa' cap' u,e=.returned (.tuple #[])∧ZL w w' hi op nP capp P oa' (n+1) cap' (G++[u]) false):=by
 go_enter Tryz.func207,Tryz.ntmps207
 go_wp2_with fail
 refine JoN (Zc p hp W HE.out) ?_
 rintro e w1 ⟨u,er,rfl,hu0,hu1,hcase,hb⟩
 obtain⟨te,pe,rfl⟩:∃te pe,er=.iface te pe:=by
  rcases hcase with ⟨m,h1,-⟩|⟨-,h2⟩
  ·rw[hx] at h1;cases h1
  ·exact h2
 clear hcase hx
 obtain⟨v,rfl⟩:∃v:Nat,u=(v:Int):=⟨u.toNat,by omega⟩
 have H1:=JoL (h.out.go hb)
 have hl:=H1.out.list
 have ho:=H1.out.okc
 have hlF:=H1.out.listF
 have hoF:=H1.out.okF
 clear hb HE h
 go_wp2_with (at_builtin;refine JC.of ?_)
 refine JC.mk ?_
 have H2:=JoL (H1.out.put false)
 refine Qa _ rfl _ _ 252 rfl 124 (.int .u64 0) 1 8 hi Tryz.underlying252 Jbd rfl (by decide) oa n cap _ rfl (H2.out.row.alloc _) ⟨w1.heap.size,0,none⟩ 1 1 [.int .u64 v] rfl rfl ?_ ?_ (by decide) ?_ ?_ ?_ ?_
 ·have h:=Zb (w1.setCell ⟨w.heap.size+1,0,none⟩ (.bool false)) #[.int .u64 v] 124
  simpa using h
 ·simp[Value.oneCell']
 ·unfold maxLen;omega
 ·omega
 ·have:=H2.out.hiW;simp only[World.size_alloc];omega
 intro oa' cap' w' ho' hg2 hd
 have HG:=JoL ((H2.out.go ((JoO _ _).alloc (JoQ _) _)).grown hg2 (G':=G++[v]) (by rw[List.map_append];exact ho'))
 obtain⟨vl,hvl⟩:=HG.out.list
 have hvF:=HG.out.listF
 clear hg2 hd ho' H1 H2 hl ho hlF hoF
 go_wp2_with fail
 go_end0
 exact⟨oa',cap',v,rfl,HG.out.put⟩
theorem JgO (p:ByteArray)(hp:p.size≤1000)(w W:World)(hi:Nat)(op:Option Addr)(nP capp:Nat)(P:List (List UInt8))(oa:Option Addr)(n cap:Nat)(G:List Nat)(HE:Hid (Env W))
 (hn:n≤1000)(h:Hid (ZL w W hi op nP capp P oa n cap G true))(m:Nat)(hx:Xa 16 65536 p.data.toList=some m)(h4:4<p.size):
 Calls Tryz.prog 207 #[.string p,.pointer (some ⟨w.heap.size+1,0,none⟩),.pointer (some ⟨w.heap.size,0,none⟩)] W
  (fun e w'=>∃oa' cap' u,e=.returned (.tuple #[])∧ZL w w' hi op nP capp P oa' (n+1) cap' (G++[u]) false):=by
 go_enter Tryz.func207,Tryz.ntmps207
 go_wp2_with fail
 refine JoN (Zc p hp W HE.out) ?_
 rintro e w1 ⟨u,er,rfl,hu0,hu1,hcase,hb⟩
 obtain rfl:er=.nilIface:=by
  rcases hcase with ⟨m,h1,-,h2⟩|⟨h1,-⟩
  ·exact h2
  ·rw[hx] at h1;cases h1
 clear hcase hx
 obtain⟨v,rfl⟩:∃v:Nat,u=(v:Int):=⟨u.toNat,by omega⟩
 have H1:=JoL (h.out.go hb)
 have hl:=H1.out.list
 have ho:=H1.out.okc
 have hlF:=H1.out.listF
 have hoF:=H1.out.okF
 clear hb HE h
 go_wp2_with (at_builtin;refine JC.of ?_)
 refine JC.mk ?_
 have H2:=JoL (H1.out.put false)
 refine Qa _ rfl _ _ 252 rfl 124 (.int .u64 0) 1 8 hi Tryz.underlying252 Jbd rfl (by decide) oa n cap _ rfl (H2.out.row.alloc _) ⟨w1.heap.size,0,none⟩ 1 1 [.int .u64 v] rfl rfl ?_ ?_ (by decide) ?_ ?_ ?_ ?_
 ·have h:=Zb (w1.setCell ⟨w.heap.size+1,0,none⟩ (.bool false)) #[.int .u64 v] 124
  simpa using h
 ·simp[Value.oneCell']
 ·unfold maxLen;omega
 ·omega
 ·have:=H2.out.hiW;simp only[World.size_alloc];omega
 intro oa' cap' w' ho' hg2 hd
 have HG:=JoL ((H2.out.go ((JoO _ _).alloc (JoQ _) _)).grown hg2 (G':=G++[v]) (by rw[List.map_append];exact ho'))
 obtain⟨vl,hvl⟩:=HG.out.list
 have hvF:=HG.out.listF
 clear hg2 hd ho' H1 H2 hl ho hlF hoF
 go_wp2_with fail
 go_end0
 exact⟨oa',cap',v,rfl,HG.out.put⟩
theorem JhX (p:ByteArray)(hp:p.size≤1000)(w W:World)(hi:Nat)(op:Option Addr)(nP capp:Nat)(P:List (List UInt8))(oa:Option Addr)(n cap:Nat)(G:List Nat)(HE:Hid (Env W))
 (hn:n≤1000)(h:Hid (ZL w W hi op nP capp P oa n cap G true))(m:Nat)(hx:Xa 16 65536 p.data.toList=some m)(h4:p.size≤4):
 Calls Tryz.prog 207 #[.string p,.pointer (some ⟨w.heap.size+1,0,none⟩),.pointer (some ⟨w.heap.size,0,none⟩)] W
  (fun e w'=>∃oa' cap' u,e=.returned (.tuple #[])∧ZL w w' hi op nP capp P oa' (n+1) cap' (G++[u]) true∧u=m):=by
 go_enter Tryz.func207,Tryz.ntmps207
 go_wp2_with fail
 refine JoN (Zc p hp W HE.out) ?_
 rintro e w1 ⟨u,er,rfl,hu0,hu1,hcase,hb⟩
 obtain⟨rfl,rfl⟩:u=(m:Int)∧er=.nilIface:=by
  rcases hcase with ⟨m',h1,h3,h2⟩|⟨h1,-⟩
  ·rw[hx] at h1;cases h1;exact⟨h3,h2⟩
  ·rw[hx] at h1;cases h1
 have hdg:∀c∈p.data.toList,XG c<16:=by
  unfold Xa at hx
  split at hx
  ·cases hx
  ·exact JbE 16 65536 _ _ _ hx
 have HI:=JoL (JiJ p hdg p.size 0)
 clear hcase hx hdg
 have H1:=JoL (h.out.go hb)
 have hl:=H1.out.list
 have ho:=H1.out.okc
 have hlF:=H1.out.listF
 have hoF:=H1.out.okF
 clear hb HE h
 go_wp2_with fail
 refine JoN (Tryz.strings_IndexFunc_grows 209 #[] (enters_of Tryz.func209 (by kernel_rfl) rfl) (fun x=>!JmC x) p w1 (JfE w1)) ?_
 rintro e w2 ⟨rfl,hb2⟩
 rw[show Lib.idxFunc (fun x=>!JmC x) true p=-1 from HI.out]
 have H3:=JoL (H1.out.go hb2)
 clear H1
 clear hl ho hlF hoF hb2
 have H1:=H3
 have hl:=H1.out.list
 have ho:=H1.out.okc
 have hlF:=H1.out.listF
 have hoF:=H1.out.okF
 clear H3
 go_wp2_with (at_builtin;refine JC.of ?_)
 refine JC.mk ?_
 have H2:=JoL (H1.out.put true)
 refine Qa _ rfl _ _ 252 rfl 124 (.int .u64 0) 1 8 hi Tryz.underlying252 Jbd rfl (by decide) oa n cap _ rfl (H2.out.row.alloc _) ⟨w2.heap.size,0,none⟩ 1 1 [.int .u64 m] rfl rfl ?_ ?_ (by decide) ?_ ?_ ?_ ?_
 ·have h:=Zb (w2.setCell ⟨w.heap.size+1,0,none⟩ (.bool true)) #[.int .u64 m] 124
  simpa using h
 ·simp[Value.oneCell']
 ·unfold maxLen;omega
 ·omega
 ·have:=H2.out.hiW;simp only[World.size_alloc];omega
 intro oa' cap' w' ho' hg2 hd
 have HG:=JoL ((H2.out.go ((JoO _ _).alloc (JoQ _) _)).grown hg2 (G':=G++[m]) (by rw[List.map_append];exact ho'))
 obtain⟨vl,hvl⟩:=HG.out.list
 have hvF:=HG.out.listF
 clear hg2 hd ho' H1 H2 hl ho hlF hoF
 go_wp2_with fail
 go_end0
 exact⟨oa',cap',m,rfl,HG.out.put,rfl⟩
theorem Jkv (s:ByteArray)(c:UInt8):(Lib.splitB ⟨#[c]⟩ 0 (Lib.countB s ⟨#[c]⟩) s).map Value.string=(J7 c s.data.toList).map Jew:=by
 have h:=Lib.splitB_data ⟨#[c]⟩ 0 (Lib.countB s ⟨#[c]⟩) s
 have h2:Lib.splitK (⟨#[c]⟩:ByteArray).data.toList 0 (Lib.countB s ⟨#[c]⟩) s.data.toList=J7 c s.data.toList:=Jjk c s.data.toList
 rw[h2] at h
 rw[←h,List.map_map]
 congr 1
theorem JdN (s:ByteArray)(c:UInt8)(w:World)(henv:Env w)(hs:s.size≤1000):Calls Tryz.prog 57 #[.string s,.string ⟨#[c]⟩] w (JeY w (J7 c s.data.toList)):=by
 obtain⟨m,hm⟩:=henv.len
 refine(Tryz.strings_Split s ⟨#[c]⟩ m w (by omega) hm (JoQ 1)).mono ?_
 rintro e w' ⟨rfl,rfl⟩
 have hr:=Jkv s c
 have hl:Lib.countB s ⟨#[c]⟩+1=(J7 c s.data.toList).length:=by
  have h1:=Lib.splitB_all ⟨#[c]⟩ (JoQ 1) 0 (Lib.countB s ⟨#[c]⟩) s rfl
  have h2:=congrArg List.length hr
  rw[List.length_map,List.length_map,h1] at h2
  exact h2
 have hn:(J7 c s.data.toList).length≤1001:=by
  have:=Zl c s.data.toList
  have hz:s.data.toList.length=s.size:=by rw[Array.length_toList,ByteArray.size_data]
  omega
 rw[hl,hr]
 refine⟨_,_,rfl,?_,(JoO _ _).alloc (JoQ _) _⟩
 exact JQ.made _ _ _ _ _ (JoQ _) (by simp) (JoQ _) (by unfold maxLen;omega) (by
  rw[List.toList_toArray,Nat.mul_one]
  exact List.take_of_length_le (by rw[List.length_map];exact JoQ _))
def JhY (w:World)(o:Option (List Nat)):Ending→World→Prop:=fun e w'=>∃(oa:Option Addr) (cap:Nat) (G:List Nat) (ok:Bool),e=.returned (.tuple #[.slice oa G.length cap,ok])∧
 JQ w' w.heap.size 1 oa G.length cap (G.map fun(m:Nat)=>Value.int .u64 (m:Int))∧Below w.heap.size w w'∧G.length≤1001∧((ok=true∧o=some G)∨(ok=false∧o=none))
theorem ZL.start {w w1:World}{op:Option Addr}{nP capp:Nat}{P:List (List UInt8)}(HO:JQ w1 ((w.alloc (Obj.cells #[Value.slice none 0 0] 252)).alloc (Obj.cells #[Value.bool true] 4)).heap.size 1 op nP capp (P.map Jew))
 (HB:Below ((w.alloc (Obj.cells #[Value.slice none 0 0] 252)).alloc (Obj.cells #[Value.bool true] 4)).heap.size ((w.alloc (Obj.cells #[Value.slice none 0 0] 252)).alloc (Obj.cells #[Value.bool true] 4)) w1):
 ZL w w1 w1.heap.size op nP capp P none 0 0 [] true where
 below:=JoE (Below.all (Below.all (JoO _ _) _) _) HB
 list:=(HB.cell (p:=⟨w.heap.size,0,none⟩) (by simp;omega)).trans (by simp[go_sem])
 okc:=(HB.cell (p:=⟨w.heap.size+1,0,none⟩) (by simp)).trans (by simp[go_sem])
 listF:=(HB.frozen (p:=⟨w.heap.size,0,none⟩) (by simp;omega)).trans (by simp[go_sem])
 okF:=(HB.frozen (p:=⟨w.heap.size+1,0,none⟩) (by simp)).trans (by simp[go_sem])
 parts:=by simpa using HO
 plt:=fun a ha=>(HO.lt ha).2
 hiW:=JoQ _
 lo:=by have:=HB.size;simpa using this
 row:=JQ.nil _ _ _
theorem Jkw (s:ByteArray)(w:World)(hs:s.size≤1000)(henv:Env w):Calls Tryz.prog 174 #[.string s] w (JhY w (J9 s.data.toList)):=by
 have HE:=JoL henv
 clear henv
 by_cases he:s=⟨#[]⟩
 ·subst he
  go_enter Tryz.func174,Tryz.ntmps174
  go_wp2_with fail
  refine bodyPost_ret (v:=.tuple #[JoU,true]) (by simp[results,Tryz.results174,go_sem]) rfl ⟨none,0,[],true,rfl,JQ.nil _ _ _,?_,by simp,.inl ⟨rfl,rfl⟩⟩
  exact Below.all (Below.all (JoO _ _) _) _
 ·have hne:s.data.toList≠[]:=fun e=>he (by cases s;rename_i d;cases d;simp only at e;subst e;rfl)
  have HGL:=JoL (show J9 s.data.toList=(J7 58 s.data.toList).mapM Jgu by rw[J9,if_neg hne])
  have hls:s.data.toList.length=s.size:=by rw[Array.length_toList,ByteArray.size_data]
  have HPL:Hid (∀p∈J7 58 s.data.toList,p.length≤1000):=JoL (fun p hp=>by have:=JaJ 58 _ p hp;omega)
  have HPC:Hid ((J7 58 s.data.toList).length≤1001):=JoL (by have:=Zl 58 s.data.toList;omega)
  have HCA:=JoL (fun w h=>JdN s 58 w h hs)
  have heq:s.toList.isEmpty=false:=by rw[JaH];cases h:s.data.toList with
   |nil=>exact absurd h hne
   |cons a t=>rfl
  clear he hls hs hne
  generalize J7 58 s.data.toList=P at*
  go_enter Tryz.func174,Tryz.ntmps174
  go_wp2_with fail
  refine JoN (HCA.out _ (HE.out.below (Below.all (Below.all (JoO _ _) _) _))) ?_
  rintro e w1 ⟨op,capp,rfl,HO,HB⟩
  have HS:=JoL (ZL.start HO HB)
  clear HO HB
  have hpc:=HPC.out
  generalize hnP:P.length=nP at*
  have HNP:=JoL hnP
  clear hnP
  generalize w1.heap.size=hi at*
  go_wp2_with fail
  go_loopw [6,13] (fun u6 u13 wr=>∃(k:Nat) (oa:Option Addr) (cap:Nat) (G:List Nat) (ok:Bool),k≤nP∧u13=.int .i64 k∧Hid (G.length=k)∧Hid ((ok=true∧(P.take k).mapM Jgu=some G)∨(ok=false∧P.mapM Jgu=none))∧Hid (ZL w wr hi op nP capp P oa k cap G ok)) (fun _ u13 _=>(nP:Int)-intOf u13 |>.toNat)
  case atStart=>exact⟨0,none,0,[],true,Nat.zero_le _,rfl,JoL rfl,JoL (.inl ⟨rfl,rfl⟩),HS⟩
  case round=>
   obtain⟨k,oa,cap,G,ok,hk,rfl,HGn,HG,HR⟩:=hrel
   by_cases hlt:k<nP
   ·have hkP:k<P.length:=by rw[HNP.out];exact hlt
    obtain⟨g,off,hop,hbg,hg,hc,ht⟩:=HR.out.parts.here (by omega)
    subst hop
    have hcl:=hc k (Jew P[k]) (by simp[hkP])
    have hpl:=HPL.out P[k] (List.getElem_mem hkP)
    have HTS:=JoL (show P.take (k+1)=P.take k++[P[k]] by rw[List.take_succ_eq_append_getElem hkP])
    have HMI:=JoL (fun h=>JgK Jgu P k hkP h)
    have HEw:=JoL (HE.out.below HR.out.below)
    clear hc ht
    unfold Jew at hcl
    generalize P[k]=p at*
    have hsz:(⟨p.toArray⟩:ByteArray).size=p.length:=by simp[ByteArray.size]
    have hpe:((⟨p.toArray⟩:ByteArray).data.toList)=p:=by simp
    have hp1:(⟨p.toArray⟩:ByteArray).size≤1000:=by omega
    have hk1:k≤1000:=by omega
    rcases HG.out with ⟨rfl,hG⟩|⟨rfl,hG⟩
    ·cases hn:Xa 16 65536 p with
     |none=>
      have HX:=JoL (HMI.out (by unfold Jgu;split<;>simp[hn]))
      rw[←hpe] at hn
      clear hpl hsz
      go_wp2_with fail
      refine JoN (JhW _ hp1 w wr hi _ nP capp P oa k cap G HEw hk1 HR hn) ?_
      rintro e w2 ⟨oa',cap',u,rfl,H⟩
      have H2:=JoL H
      clear H
      go_wp2_with fail
      go_roundw
      case rel=>exact⟨k+1,oa',cap',G++[u],false,by omega,by go_num,JoL (by rw[List.length_append,HGn.out];rfl),JoL (.inr ⟨rfl,HX.out⟩),H2⟩
      case measure=>simp[intOf];omega
     |some n=>
      by_cases h4:p.length≤4
      ·have HX:=JoL (show(P.take (k+1)).mapM Jgu=some (G++[n]) by rw[HTS.out];exact JgJ _ _ _ _ _ hG (by unfold Jgu;rw[if_pos h4,hn]))
       rw[←hpe] at hn
       rw[←hsz] at h4
       clear hpl hsz
       go_wp2_with fail
       refine JoN (JhX _ hp1 w wr hi _ nP capp P oa k cap G HEw hk1 HR n hn h4) ?_
       rintro e w2 ⟨oa',cap',u,rfl,H,rfl⟩
       have H2:=JoL H
       clear H
       go_wp2_with fail
       go_roundw
       case rel=>exact⟨k+1,oa',cap',G++[u],true,by omega,by go_num,JoL (by rw[List.length_append,HGn.out];rfl),JoL (.inl ⟨rfl,HX.out⟩),H2⟩
       case measure=>simp[intOf];omega
      ·have HX:=JoL (HMI.out (by unfold Jgu;rw[if_neg h4]))
       rw[←hpe] at hn
       have h5:4<(⟨p.toArray⟩:ByteArray).size:=by omega
       clear hpl hsz
       go_wp2_with fail
       refine JoN (JgO _ hp1 w wr hi _ nP capp P oa k cap G HEw hk1 HR n hn h5) ?_
       rintro e w2 ⟨oa',cap',u,rfl,H⟩
       have H2:=JoL H
       clear H
       go_wp2_with fail
       go_roundw
       case rel=>exact⟨k+1,oa',cap',G++[u],false,by omega,by go_num,JoL (by rw[List.length_append,HGn.out];rfl),JoL (.inr ⟨rfl,HX.out⟩),H2⟩
       case measure=>simp[intOf];omega
    ·have HX:=JoL hG
     clear hpl hsz
     go_wp2_with fail
     refine JoN (Jjn _ hp1 w wr hi _ nP capp P oa k cap G HEw hk1 HR) ?_
     rintro e w2 ⟨oa',cap',u,rfl,H⟩
     have H2:=JoL H
     clear H
     go_wp2_with fail
     go_roundw
     case rel=>exact⟨k+1,oa',cap',G++[u],false,by omega,by go_num,JoL (by rw[List.length_append,HGn.out];rfl),JoL (.inr ⟨rfl,HX.out⟩),H2⟩
     case measure=>simp[intOf];omega
   ·obtain rfl:k=nP:=by omega
    have HF:Hid (P.take k=P):=JoL (by rw[List.take_of_length_le (by rw[HNP.out];exact JoQ _)])
    have hl:=HR.out.list
    have ho:=HR.out.okc
    have hlF:=HR.out.listF
    have hoF:=HR.out.okF
    go_wp2_with fail
    go_region
    go_wp2_with fail
    refine bodyPost_ret (v:=.tuple #[.slice oa k cap,ok]) (by simp[results,Tryz.results174,go_sem,hl,ho]) rfl ?_
    have h1:=HR.out.row
    have hh:=HR.out.lo
    have h2:∀(b:Nat) (u:Value),b<hi→∀w',JQ w' hi 1 oa k cap (G.map fun(m:Nat)=>Value.int .u64 (m:Int))→JQ (w'.setCell ⟨b,0,none⟩ u) hi 1 oa k cap (G.map fun(m:Nat)=>Value.int .u64 (m:Int)):=fun b u hb w' h=>h.other (fun a ha=>by have:=(h.lt ha).1;simp only;omega) u
    obtain rfl:=HGn.out
    have hpc:=HPC.out
    have hnp:=HNP.out
    refine⟨oa,cap,G,ok,rfl,?_,?_,by omega,?_⟩
    ·exact JQ.mono (by first|exact(h2 _ _ (by omega) _ (h2 _ _ (by omega) _ h1)).drew|exact h2 _ _ (by omega) _ (h2 _ _ (by omega) _ h1)|exact h2 _ _ (by omega) _ (h2 _ _ (by omega) _ h1.drew)) (by omega)
    ·first|exact((HR.out.below.setCell (by simp only;omega) _).setCell (by simp only;omega) _).drew|exact(HR.out.below.setCell (by simp only;omega) _).setCell (by simp only;omega) _|exact(HR.out.below.drew.setCell (by simp only;omega) _).setCell (by simp only;omega) _
    ·rcases HG.out with ⟨h,hG⟩|⟨h,hG⟩
     ·exact .inl ⟨h,by rw[HGL.out,←hG,HF.out]⟩
     ·exact .inr ⟨h,by rw[HGL.out,hG]⟩
theorem Q3 {w:World}{b n:Nat}{cs cs':Array Value}{t:TypeId}{fr:Nat×Nat}(h:w.heap[b]? =some (.cells cs t fr))(hs:cs'.size=n:=by rfl):Jb (w.setRow b cs') b 0 n=cs':=by
 rw[Jl _ _ _ _ _ _ _ (setRow_heap _ _ _ _ _ _ h)];subst hs;simp
def Jax (l:List Nat)(i:Nat):Int:=(l.getD i 0:Nat)
def Jbe (w:World)(o:Option (List Nat)):Ending→World→Prop:=fun e w'=>∃(B:Nat→Int) (ok:Bool),e=.returned (.tuple #[adV false B,ok])∧Below w.heap.size w w'∧
 ((ok=true∧∃l,o=some l∧∀i,i<16→B i=Jax l i)∨(ok=false∧o=none))
theorem Jbe.mk {w w':World}{o:Option (List Nat)}{B:Nat→Int}{ok:Bool}(hb:Below w.heap.size w w')(h:(ok=true∧∃l,o=some l∧∀i,i<16→B i=Jax l i)∨(ok=false∧o=none)):
 Jbe w o (.returned (.tuple #[adV false B,ok])) w':=⟨B,ok,rfl,hb,h⟩
theorem Zm:(Tryz.prog.info? 27).map (·.size)=some 17:=by kernel_rfl
theorem JlR (s:ByteArray)(w:World)(hs:s.size≤1000)(henv:Env w):Calls Tryz.prog 120 #[.string s] w (Jbe w (JdJ s.data.toList)):=by
 have HE:=JoL henv
 clear henv
 have HFL:Hid (JdJ s.data.toList=if (J7 46 s.data.toList).length=4 then (J7 46 s.data.toList).mapM (Jdc 256) else none):=JoL rfl
 have hls:s.data.toList.length=s.size:=by rw[Array.length_toList,ByteArray.size_data]
 have HPL:Hid (∀p∈J7 46 s.data.toList,p.length≤1000):=JoL (fun p hp=>by have:=JaJ 46 _ p hp;omega)
 have HPC:Hid ((J7 46 s.data.toList).length≤1001):=JoL (by have:=Zl 46 s.data.toList;omega)
 have HCA:=JoL (fun w h=>JdN s 46 w h hs)
 clear hls hs
 generalize J7 46 s.data.toList=P at*
 go_enter Tryz.func120,Tryz.ntmps120
 go_wp2_with fail
 refine JoN (HCA.out _ (HE.out.below (Below.all (JoO _ _) _))) ?_
 rintro e w1 ⟨op,capp,rfl,HO,HB⟩
 have HX:=JoL ((J6.made0 w 27 false).below HB)
 have HBB:=JoL (JoE (Below.all (JoO _ _) _) HB)
 have HOO:=JoL HO
 clear HO HB
 by_cases h4:P.length=4
 ·rw[h4]
  have HP:=JoL h4
  clear h4
  go_wp2_with fail
  go_loopw [3,5] (fun u3 u5 wr=>∃(k:Nat) (ok:Bool) (B:Nat→Int),k≤4∧u5=.int .i64 k∧u3=.bool ok∧Hid (J6 wr w.heap.size 27 false B)∧Hid (JQ wr (w.heap.size+1) 1 op 4 capp (P.map Jew))∧Hid (Below w.heap.size w wr)∧
   Hid ((ok=true∧∃l,(P.take k).mapM (Jdc 256)=some l∧∀i,i<16→B i=Jax l i)∨(ok=false∧P.mapM (Jdc 256)=none))) (fun _ u5 _=>(4:Int)-intOf u5 |>.toNat)
  case atStart=>exact⟨0,true,fun _=>0,by omega,rfl,rfl,HX,JoL (by have:=HOO.out;rwa [HP.out,World.size_alloc] at this),HBB,JoL (.inl ⟨rfl,[],rfl,fun i _=>by simp[Jax]⟩)⟩
  case round=>
   obtain⟨k,ok,B,hk,rfl,rfl,HA,HR,HW,HC⟩:=hrel
   by_cases hlt:k<4
   ·cases ok
    ·have hpp:=HA.out.part
     have hrr:=HA.out.row
     have HAA:=HA.out.heap
     have HN:=JoL (show P.mapM (Jdc 256)=none by rcases HC.out with ⟨h,-⟩|⟨-,h⟩;cases h;exact h)
     have HH:=JoL HAA
     clear HAA
     go_wp2_with fail
     refine bodyPost_ret (v:=.tuple #[adV false B,false]) ?_ ?_ ?_
     ·exact Qd _ _ Tryz.underlying27 Zm rfl _ _ w.heap.size (.bool false) rfl rfl (Q3 HH.out)
     ·rfl
     exact Jbe.mk (below_setRow HW.out (JoQ _) _) (.inr ⟨rfl,by rw[HFL.out,if_pos HP.out,HN.out]⟩)
    ·have hkP:k<P.length:=by rw[HP.out];exact hlt
     obtain⟨g,off,hop,hbg,hg,hc,ht⟩:=HR.out.here (by omega)
     subst hop
     have hcl:=hc k (Jew P[k]) (by simp[hkP])
     have hpl:=HPL.out P[k] (List.getElem_mem hkP)
     have HTS:=JoL (show P.take (k+1)=P.take k++[P[k]] by rw[List.take_succ_eq_append_getElem hkP])
     have HMI:=JoL (fun h=>JgK (Jdc 256) P k hkP h)
     have HEw:=JoL (HE.out.below HW.out)
     clear hc ht
     unfold Jew at hcl
     generalize P[k]=p at*
     have hsz:(⟨p.toArray⟩:ByteArray).size=p.length:=by simp[ByteArray.size]
     have hpe:((⟨p.toArray⟩:ByteArray).data.toList)=p:=by simp
     have hp1:(⟨p.toArray⟩:ByteArray).size≤1000:=by omega
     have HD:=JoL (JhU ⟨p.toArray⟩ 256 (by omega) hp1 wr HEw.out)
     rw[hpe] at HD
     clear hpl hsz hpe hp1
     go_wp2_with fail
     refine JoN HD.out ?_
     rintro e w2 ⟨n,ok2,rfl,hn0,hn1,hcase,hb2⟩
     have HA2:=JoL (HA.out.below hb2)
     have HR2:=JoL (HR.out.below hb2)
     have HW2:=JoL (JoE HW.out hb2)
     have hcx:=HA2.out.cell k (by omega)
     have hfx:=HA2.out.free (1+k)
     have HC2:=JoL hcase
     clear hcase hcl HA HR HW HD hb2
     go_wp2_with fail
     go_roundw
     case rel=>
      refine⟨k+1,ok2,fun i=>if i=k then n%256 else B i,by omega,by go_num,rfl,JoL (HA2.out.set k (by omega) _),JoL (HR2.out.other (fun a ha=>by cases ha;simp only;omega) _),JoL (HW2.out.setCell (JoQ _) _),JoL ?_⟩
      rcases HC2.out with ⟨rfl,h0,hd⟩|⟨rfl,hd⟩
      ·obtain⟨l,hl,hB⟩:∃l,List.mapM (Jdc 256) (List.take k P)=some l∧∀(i:Nat),i<16→B i=Jax l i:=by rcases HC.out with ⟨-,h⟩|⟨h,-⟩;exact h;cases h
       have hlen:l.length=k:=by rw[JfD _ _ _ hl,List.length_take];omega
       have hm:=(QG.1 hd).1
       refine .inl ⟨rfl,l++[n.toNat],by rw[HTS.out];exact JgJ _ _ _ _ _ hl hd,fun i hi=>?_⟩
       by_cases hik:i=k
       ·subst hik
        simp only[if_true,Jax]
        rw[List.getD_eq_getElem?_getD,List.getElem?_append_right (by omega)]
        simp[hlen];omega
       ·simp only[if_neg hik,hB i hi,Jax]
        rw[List.getD_eq_getElem?_getD,List.getD_eq_getElem?_getD]
        by_cases hlt2:i<k
        ·rw[List.getElem?_append_left (by omega)]
        ·rw[List.getElem?_eq_none (by omega),List.getElem?_eq_none (by simp;omega)]
      ·exact .inr ⟨rfl,HMI.out hd⟩
     case measure=>simp[intOf];omega
   ·obtain rfl:k=4:=by omega
    have hpp:=HA.out.part
    have hrr:=HA.out.row
    have HH:=JoL HA.out.heap
    have HF:Hid (P.take 4=P):=JoL (by rw[List.take_of_length_le (by rw[HP.out];exact JoQ _)])
    go_wp2_with fail
    refine bodyPost_ret (v:=.tuple #[adV false B,ok]) ?_ ?_ ?_
    ·exact Qd _ _ Tryz.underlying27 Zm rfl _ _ w.heap.size (.bool ok) rfl rfl (Q3 HH.out)
    ·rfl
    refine Jbe.mk (below_setRow HW.out (JoQ _) _) ?_
    rcases HC.out with ⟨h1,l,hl,hB⟩|⟨h1,hn⟩
    ·exact .inl ⟨h1,l,by rw[HFL.out,if_pos HP.out,←HF.out];exact hl,hB⟩
    ·exact .inr ⟨h1,by rw[HFL.out,if_pos HP.out,hn]⟩
 ·have h5:((P.length:Int)==4)=false:=by simp;omega
  have HN4:=JoL h4
  have hpp:=HX.out.part
  have hrr:=HX.out.row
  have HH:=JoL HX.out.heap
  have hln:=HPC.out
  generalize P.length=nP at*
  go_wp2_with fail
  go_loopw [3,5] (fun u3 u5 wr=>u5=.int .i64 0∧u3=.bool false∧wr=w1) (fun _ u5 _=>0)
  case atStart=>exact⟨rfl,rfl,rfl⟩
  case round=>
   obtain⟨rfl,rfl,rfl⟩:=hrel
   by_cases h0:0<nP
   all_goals
    go_wp2_with fail
    refine bodyPost_ret (v:=.tuple #[adV false fun _=>0,false]) ?_ ?_ ?_
    ·exact Qd _ _ Tryz.underlying27 Zm rfl _ _ w.heap.size (.bool false) rfl rfl (Q3 HH.out)
    ·rfl
    exact Jbe.mk (below_setRow HBB.out (JoQ _) _) (.inr ⟨rfl,by rw[HFL.out,if_neg HN4.out]⟩)
end
section
open Go.RowKit
theorem Jab (z:Value)(n:Nat):Builtin.zeroCells #[z] n=(List.replicate n z).toArray:=by
 apply Array.ext
 ·simp[Builtin.zeroCells]
 ·intro i h1 h2
  simp[Builtin.zeroCells,Nat.mod_one]
section
variable {P:Program}
theorem Jay (w:World)(t tn ty e:TypeId)(i:TypeInfo)(kn:IntKind)(ht:P.underlying t=some (.slice e))(htn:P.underlying tn=some (.int kn))(hi:P.info? e=some i)(base:Option Addr)(n cap:Nat)(hle:n≤cap):
 (Builtin.append_ #[t,tn] ty #[.slice base n cap,.int .i64 ((0:Nat):Int)]).run P w=.ok (.slice base n cap) w:=by
 have hw:IntKind.i64.wrap ((0:Nat):Int)=0:=by rw[IntKind.wrap_i64];decide
 have hw':IntKind.i64.wrap 0=0:=hw
 cases base<;>simp[Builtin.append_,run_underlying ht,run_underlying htn,sizeOf,typeInfo,hi,asInt,asIntOf,hw',hle,storeCells,Question.forced]
theorem JaK (w:World)(t tn ty e:TypeId)(i:TypeInfo)(z:Value)(kn:IntKind)(ht:P.underlying t=some (.slice e))(htn:P.underlying tn=some (.int kn))(hi:P.info? e=some i)(hz:i.zero=some z)(hzc:z.cells=#[z])
 (g off n cap k:Nat)(h0:0<k)(hsz:i.size=1)(hroom:n+k≤cap)(hk:k≤1000000)(hby:k*i.bytes≤281474976710656)(h1:z.oneCell'=true)
 (hc:∀j,j<k→(w.cell? ⟨g,off+n+j,none⟩).isSome=true)(hf:∀j,j<k→w.frozen? ⟨g,off+n+j,none⟩=false):
 (Builtin.append_ #[t,tn] ty #[.slice (some ⟨g,off,none⟩) n cap,.int .i64 (k:Int)]).run P w=.ok (.slice (some ⟨g,off,none⟩) (n+k) cap) (w.setCells g (off+n) (List.replicate k z)):=by
 have hst:=run_storeCells_cells (P:=P) g (off+n) (List.replicate k z) 0 w (by simpa using hc) (by simpa using hf) (fun v hv=>by rw[(List.mem_replicate.1 hv).2];exact h1)
 simp only[Nat.add_zero] at hst
 have hw:IntKind.i64.wrap (k:Int)=k:=by rw[IntKind.wrap_i64];omega
 have hneg:¬((k:Int)<0):=by omega
 have hk0:k≠0:=by omega
 have h48i:¬(281474976710656<(k:Int)*(i.bytes:Int)):=by rw[←Int.natCast_mul];omega
 simp[Builtin.append_,run_underlying ht,run_underlying htn,sizeOf,typeInfo,zeroValue,hi,hz,hsz,asInt,asIntOf,hw,hneg,h48i,hk0,hroom,hzc,Jab,Addr.add_lit,hst,Question.forced]
theorem JaL (w:World)(t tn ty e:TypeId)(z:Value)(bytes base:Nat)(kn:IntKind)(ht:P.underlying t=some (.slice e))(htn:P.underlying tn=some (.int kn))
 (hinfo:(P.info? e).map (fun i=>(i.zero,i.size,i.bytes))=some (some z,1,bytes))(hzc:z.cells=#[z])(h1:z.oneCell'=true)
 (oa:Option Addr)(n cap:Nat)(xs:List Value)(hown:JQ w base 1 oa n cap xs)(k:Nat)(hk:k≤1000000)(h63:n+k≤maxLen)(hbytes:(n+k)*bytes≤140737488355328)(hbase:base≤w.heap.size):
 ∃oa' cap' w',(Builtin.append_ #[t,tn] ty #[.slice oa n cap,.int .i64 (k:Int)]).run P w=.ok (.slice oa' (n+k) cap') w'∧JQ w' base 1 oa' (n+k) cap' (xs++List.replicate k z)∧
  w.grownBy w' (oa.map Addr.block)∧(∀a,oa'=some a→oa=some a∨w.heap.size≤a.block):=by
 obtain⟨i,hi,hz,h4,h5⟩:=info_parts hinfo
 have hby:k*i.bytes≤140737488355328:=by rw[h5];exact Nat.le_trans (Nat.mul_le_mul_right _ (by omega)) hbytes
 rcases Nat.eq_zero_or_pos k with h0|h0
 ·subst h0
  exact⟨oa,cap,w,Jay w t tn ty e i kn ht htn hi oa n cap hown.le,by simpa using hown,JoI w _,fun a ha=>.inl ha⟩
 ·have hsm:((n+k:Nat):Int)≤9223372036854775807:=by unfold maxLen at h63;omega
  have hge:=grownCap_ge w (n+k) cap e
  have hcm:grownCap w (n+k) cap e≤maxLen:=grownCap_le_maxLen w (n+k) cap e h63
  have hmade:∀(olds:List Value),olds.length=n→(∀u,(olds[n]? =some u)→False)→olds=xs→∀rest:Nat,rest=grownCap w (n+k) cap e-(n+k)→
   JQ (w.drew.alloc (.cells (olds.toArray++Builtin.zeroCells z.cells k++Builtin.zeroCells z.cells rest) e)) base 1 (some ⟨w.heap.size,0,none⟩) (n+k) (grownCap w (n+k) cap e) (xs++List.replicate k z):=by
   intro olds hl _ he rest hrest
   subst he
   refine JQ.made (w:=w.drew) _ _ _ _ _ (by simpa using hbase) ?_ hge hcm ?_
   ·simp only[Array.size_append,List.size_toArray,size_zeroCells,hl,hzc,Nat.mul_one,List.size_toArray,List.length_singleton];omega
   ·rw[hzc,Jab,Jab]
    simp only[List.append_toArray,List.toList_toArray,Nat.mul_one]
    rw[List.take_append_of_le_length (by simp[hl])]
    exact List.take_of_length_le (by simp[hl])
  rcases hown.at' with ⟨rfl,rfl⟩|⟨g,off,rfl,hb,hlt,hc,hth⟩
  ·have hn:n=0:=by have:=hown.le;omega
   subst hn
   have hx:xs=[]:=List.eq_nil_of_length_eq_zero (by simpa using hown.len)
   subst hx
   have hr:=Lib.run_append_grow_zeros (P:=P) w t tn ty e i z .i64 kn ht htn hi hz none 0 0 [] (by simp[Builtin.firstCells]) k h0 (by omega) (by omega) hsm (by omega) (growslice_fits (by omega) (by rw[h5];exact hbytes))
   refine⟨_,_,_,hr,hmade [] rfl (by simp) rfl _ rfl,⟨rfl,rfl,rfl,by simp,fun k hk _=>heap_alloc_old w.drew _ hk⟩,fun a ha=>.inr ?_⟩
   cases ha;exact JoQ _
  ·by_cases hroom:n+k≤cap
   ·have hsome:∀j,j<k→(w.cell? ⟨g,off+n+j,none⟩).isSome=true:=fun j hj=>by have:=(hth (n+j) (by omega)).1;rwa [←Nat.add_assoc] at this
    have hfz:∀j,j<k→w.frozen? ⟨g,off+n+j,none⟩=false:=fun j hj=>by have:=(hth (n+j) (by omega)).2;rwa [←Nat.add_assoc] at this
    have hr:=JaK (P:=P) w t tn ty e i z kn ht htn hi hz hzc g off n cap k h0 h4 hroom hk (by omega) h1 hsome hfz
    have hlen:=hown.len
    refine⟨_,_,_,hr,⟨by rw[List.length_append,List.length_replicate,hlen];omega,hroom,hown.max,.inr ⟨g,off,rfl,hb,?_,fun j u hu=>?_,fun j hj=>?_⟩⟩,?_,fun a ha=>.inl ha⟩
    ·have hk:=World.keptBut_setCells g (may:=fun _=>True) (List.replicate k z) (off+n) w (fun _ _=>trivial)
     exact JoP hlt hk.size
    ·by_cases hj:j<xs.length
     ·rw[List.getElem?_append_left hj] at hu
      rw[World.cell?_setCells_out g _ _ _ _ (fun _ _=>Or.inl (by simp only;omega))]
      exact hc j u hu
     ·rw[List.getElem?_append_right (by omega)] at hu
      have hjl:=(List.getElem?_eq_some_iff.1 hu).1
      have:=World.cell?_setCells_in g (List.replicate k z) (off+n) w (by simpa using hsome) (j-xs.length) hjl
      rw[show off+j=off+n+(j-xs.length) by omega,this,←hu,List.getElem?_eq_getElem hjl]
    ·rw[World.frozen?_setCells]
     refine⟨?_,(hth j hj).2⟩
     by_cases hin:n≤j∧j<n+k
     ·have:=World.cell?_setCells_in g (List.replicate k z) (off+n) w (by simpa using hsome) (j-n) (by simp;omega)
      rw[show off+j=off+n+(j-n) by omega,this];rfl
     ·rw[World.cell?_setCells_out g _ _ _ _ (fun _ _=>by simp only[List.length_replicate];omega)]
      exact(hth j hj).1
    ·have hk:=World.keptBut_setCells g (may:=fun p=>p.block=g) (List.replicate k z) (off+n) w (fun _ _=>rfl)
     have htape:∀(vs:List Value) (o:Nat) (w:World),(w.setCells g o vs).tape=w.tape:=by
      intro vs;induction vs with
      |nil=>intro o w;rfl
      |cons v r ih=>intro o w;rw[World.setCells,ih];rfl
     refine⟨hk.1,htape _ _ _,hk.2.1,hk.size,fun k hkl hne=>?_⟩
     exact hk.block hkl (fun _ hp e=>hne (by simp[←hp,e]))
   ·have hr:=Lib.run_append_grow_zeros (P:=P) w t tn ty e i z .i64 kn ht htn hi hz (some ⟨g,off,none⟩) n cap xs (run_firstCells_some (P:=P) w.drew i.size n ⟨g,off,none⟩ n cap xs (by rw[h4];exact hown.len) (fun j u hu=>by rw[Addr.add_lit];exact hc j u hu)) k h0 (by omega) (by omega) hsm (by omega) (growslice_fits (by omega) (by rw[h5];exact hbytes))
    refine⟨_,_,_,hr,hmade xs (by simpa using hown.len) (fun u hu=>by rw[List.getElem?_eq_none (by have:=hown.len;omega)] at hu;cases hu) rfl _ rfl,⟨rfl,rfl,rfl,by simp,fun k hk _=>heap_alloc_old w.drew _ hk⟩,fun a ha=>.inr ?_⟩
    cases ha;exact JoQ _
theorem Zn (w:World){ops:Array Oper}{rest:List Oper}{o:Oper}{a:Act}{Q:Exit→Act→World→Prop}
 (hg:o.guard=none)(s x:Operand)(t tn:TypeId)(hop:o.op=Op.call { callee:=Callee.builtin Builtin.append,args:=#[s,x],argTypes:=#[t,tn] })
 (e:TypeId)(z:Value)(bytes base:Nat)(kn:IntKind)(ht:P.underlying t=some (.slice e))(htn:P.underlying tn=some (.int kn))
 (hinfo:(P.info? e).map (fun i=>(i.zero,i.size,i.bytes))=some (some z,1,bytes))(hzc:z.cells=#[z])(h1:z.oneCell'=true)
 (oa:Option Addr)(n cap:Nat)(xs:List Value)(hs:a.eval s=.slice oa n cap)(hown:JQ w base 1 oa n cap xs)(k:Nat)(hx:a.eval x=.int .i64 (k:Int))(hk:k≤1000000)(h63:n+k≤maxLen)(hbytes:(n+k)*bytes≤140737488355328)(hbase:base≤w.heap.size)
 (h:∀oa' cap' w',JQ w' base 1 oa' (n+k) cap' (xs++List.replicate k z)→w.grownBy w' (oa.map Addr.block)→(∀a,oa'=some a→oa=some a∨w.heap.size≤a.block)→wpList P ops Q rest (a.put o.dst (.slice oa' (n+k) cap')) w'):
 wpList P ops Q (o::rest) a w:=by
 obtain⟨oa',cap',w',hr,h2,h3,h4⟩:=JaL (P:=P) w t tn o.type e z bytes base kn ht htn hinfo hzc h1 oa n cap xs hown k hk h63 hbytes hbase
 exact Lib.wpList_append_run w hg s x t tn hop _ _ hs hx _ _ hr (h oa' cap' w' h2 h3 h4)
end
end
section
def JeZ (l:List Nat)(i:Nat):Int:=if i%2=0 then ((l.getD (i/2) 0/256:Nat):Int) else ((l.getD (i/2) 0%256:Nat):Int)
theorem JmZ (l:List UInt8):Lib.cut l [58,58]=if Lib.index l [58,58]=-1 then (l,[],false) else (l.take (Lib.index l [58,58]).toNat,l.drop ((Lib.index l [58,58]).toNat+2),true):=by
 unfold Lib.cut
 have:=Lib.index_ge l [58,58]
 by_cases h:Lib.index l [58,58]=-1
 ·rw[if_pos h,if_neg (by omega)]
 ·rw[if_neg h,if_pos (by omega)];rfl
def JiK (c:List UInt8×List UInt8×Bool):Option (List Nat):=(J9 c.1).bind fun l=>(J9 c.2.1).bind fun m=>
 if (c.2.2=true∧l.length+m.length≤7)∨(c.2.2=false∧l.length+m.length=8) then some (l++List.replicate (8-l.length-m.length) 0++m) else none
theorem JiL (l:List UInt8):Jft l=JiK (Lib.cut l [58,58]):=by
 rw[JmZ]
 unfold Jft
 split
 ·rename_i h
  simp only[JiK]
  have h0:J9 []=some []:=rfl
  rw[h0]
  cases J9 l with
  |none=>rfl
  |some m=>
   simp only[Option.bind]
   by_cases hm:m.length=8
   ·rw[if_pos hm,if_pos (.inr ⟨by simp,by simpa using hm⟩),hm];simp
   ·rw[if_neg hm,if_neg (by simp;omega)]
 ·simp only[JiK]
  cases J9 (l.take (Lib.index l [58,58]).toNat) with
  |none=>rfl
  |some a=>
   simp only[Option.bind]
   cases J9 (l.drop ((Lib.index l [58,58]).toNat+2)) with
   |none=>rfl
   |some b=>simp
theorem Jm0 (l sep:List UInt8):(Lib.cut l sep).1.length≤l.length∧(Lib.cut l sep).2.1.length≤l.length:=by
 unfold Lib.cut
 split
 ·simp;omega
 ·simp
open Go.Lib
theorem JdO (c x:UInt8):∀l:List UInt8,x∈l→x=c∨∃p∈J7 c l,x∈p
 |[],h=>by cases h
 |y::r,h=>by
  rw[J7]
  by_cases hy:y=c
  ·rw[if_pos hy]
   rcases List.mem_cons.1 h with rfl|h
   ·exact .inl hy
   ·rcases JdO c x r h with h|⟨p,hp,hx⟩
    ·exact .inl h
    ·exact .inr ⟨p,List.mem_cons_of_mem _ hp,hx⟩
  ·rw[if_neg hy]
   cases hc:J7 c r with
   |nil=>exact absurd hc (JiH c r)
   |cons a t=>
    rcases List.mem_cons.1 h with rfl|h
    ·exact .inr ⟨x::a,by simp,by simp⟩
    ·rcases JdO c x r h with h|⟨p,hp,hx⟩
     ·exact .inl h
     ·rw[hc] at hp
      rcases List.mem_cons.1 hp with rfl|hp
      ·exact .inr ⟨y::p,by simp,by simp[hx]⟩
      ·exact .inr ⟨p,by simp[hp],hx⟩
theorem JgP {α β:Type}(f:α→Option β):∀(l:List α) (a:List β),l.mapM f=some a→∀x∈l,∃b,f x=some b
 |[],_,_,x,hx=>by cases hx
 |y::l,a,h,x,hx=>by
  rw[List.mapM_cons] at h
  cases hy:f y with
  |none=>rw[hy] at h;cases h
  |some b=>
   rw[hy] at h
   cases hl:l.mapM f with
   |none=>rw[hl] at h;cases h
   |some m=>
    rcases List.mem_cons.1 hx with rfl|hx
    ·exact⟨b,hy⟩
    ·exact JgP f l m hl x hx
theorem JhZ {p:List UInt8}{n:Nat}(h:Jgu p=some n):∀c∈p,XG c<16:=by
 unfold Jgu at h
 split at h
 ·unfold Xa at h
  split at h
  ·cases h
  ·exact JbE 16 65536 p 0 n h
 ·cases h
theorem JdP {l:List UInt8}{m:List Nat}(h:J9 l=some m):(46:UInt8)∉l:=by
 intro hx
 unfold J9 at h
 split at h
 ·rename_i e;subst e;cases hx
 ·rcases JdO 58 46 l hx with h0|⟨p,hp,hxp⟩
  ·exact absurd h0 (by decide)
  ·obtain⟨b,hb⟩:=JgP Jgu _ _ h p hp
   have:=JhZ hb 46 hxp
   exact absurd this (by decide)
theorem Jm1 (x:UInt8)(l:List UInt8)(hx:x∈l):x∈(cut l [58,58]).1∨x∈(cut l [58,58]).2.1∨x=58:=by
 unfold cut
 split
 ·rename_i h
  rcases index_spec l [58,58] with ⟨h1,-⟩|⟨i,h1,h2,h3,-⟩
  ·omega
  ·rw[h1] at*
   simp only[Int.toNat_natCast,List.length_cons,List.length_nil]
   have e:l=l.take i++l.drop i:=(List.take_append_drop _ _).symm
   rw[e,List.mem_append] at hx
   rcases hx with hx|hx
   ·exact .inl hx
   ·obtain⟨r,hr⟩:∃r,l.drop i=58::58::r:=by
     unfold occAt at h3
     obtain⟨r,hr⟩:=List.isPrefixOf_iff_prefix.1 h3
     exact⟨r,by simpa using hr.symm⟩
    have hd:l.drop (i+2)=r:=by rw[←List.drop_drop,hr];rfl
    rw[hr] at hx
    rcases List.mem_cons.1 hx with h|hx
    ·exact .inr (.inr h)
    ·rcases List.mem_cons.1 hx with h|hx
     ·exact .inr (.inr h)
     ·exact .inr (.inl (by rw[hd];exact hx))
 ·exact .inl hx
theorem JlS {l:List UInt8}{m:List Nat}(h:Jft l=some m):(46:UInt8)∉l:=by
 intro hx
 rw[JiL] at h
 unfold JiK at h
 cases h1:J9 (cut l [58,58]).1 with
 |none=>rw[h1] at h;cases h
 |some a=>
  rw[h1] at h
  simp only[Option.bind] at h
  cases h2:J9 (cut l [58,58]).2.1 with
  |none=>rw[h2] at h;cases h
  |some b=>
   rcases Jm1 46 l hx with h3|h3|h3
   ·exact JdP h1 h3
   ·exact JdP h2 h3
   ·exact absurd h3 (by decide)
theorem JlT (l:List UInt8){m:List Nat}(h:Jft l=some m):JdJ l=none:=by
 unfold JdJ
 rw[Jcz 46 l (JlS h)]
 rfl
theorem ZS (d:Nat)(h:d<16):XG (hexc d)=d∧(hexc d)≠58∧(hexc d)≠46∧(hexc d)≠47:=by
 have:d=0∨d=1∨d=2∨d=3∨d=4∨d=5∨d=6∨d=7∨d=8∨d=9∨d=10∨d=11∨d=12∨d=13∨d=14∨d=15:=by omega
 rcases this with rfl|rfl|rfl|rfl|rfl|rfl|rfl|rfl|rfl|rfl|rfl|rfl|rfl|rfl|rfl|rfl<;>decide
theorem Jh0 (b u:Nat):Q8 b u≠[]:=by
 rw[Q8];split<;>simp
theorem Jbf (b:Nat)(hb:b≤16)(hb2:2≤b):∀(k u:Nat),u≤k→∀c∈Q8 b u,∃d,d<16∧c=hexc d
 |0,u,hk,c,hc=>by
  obtain rfl:u=0:=by omega
  rw[Q8,dif_pos (by omega)] at hc
  exact⟨0,by omega,by simpa using hc⟩
 |k+1,u,hk,c,hc=>by
  rw[Q8] at hc
  by_cases h:u<b
  ·rw[dif_pos (.inl h)] at hc
   exact⟨u,by omega,by simpa using hc⟩
  ·rw[dif_neg (by omega),List.mem_append] at hc
   have hlt:u/b<u:=Nat.div_lt_self (by omega) (by omega)
   rcases hc with hc|hc
   ·exact Jbf b hb hb2 k (u/b) (by omega) c hc
   ·exact⟨u%b,by have:=Nat.mod_lt u (show 0<b by omega);omega,by simpa using hc⟩
theorem JgQ (b most:Nat)(hb:b≤16)(hb2:2≤b):∀(k u:Nat),u≤k→u<most→Jcv b most 0 (Q8 b u)=some u
 |0,u,hk,hm=>by
  obtain rfl:u=0:=by omega
  rw[Q8,dif_pos (by omega),Jcv,(ZS 0 (by omega)).1,if_neg (by omega)];simp[Jcv]
 |k+1,u,hk,hm=>by
  rw[Q8]
  by_cases h:u<b
  ·rw[dif_pos (.inl h),Jcv,(ZS u (by omega)).1,if_neg (by omega)];simp[Jcv]
  ·have hlt:u/b<u:=Nat.div_lt_self (by omega) (by omega)
   have hmod:u%b<b:=Nat.mod_lt u (by omega)
   have he:u/b*b+u%b=u:=by rw[Nat.mul_comm];exact Nat.div_add_mod u b
   rw[dif_neg (by omega),JbD,JgQ b most hb hb2 k (u/b) (by omega) (by omega)]
   simp only[Option.bind]
   rw[Jcv,(ZS _ (by omega)).1,he,if_neg (by omega),Jcv]
theorem JcB (u:Nat)(h:u<65536):(Q8 16 u).length≤4:=by
 rw[Q8];split
 ·simp
 rw[Q8];split
 ·simp
 rw[Q8];split
 ·simp
 rw[Q8,dif_pos (.inl (by omega))]
 simp
theorem Jkx (u:Nat)(h:u<65536):Jgu (Q8 16 u)=some u:=by
 rw[Jgu,if_pos (JcB u h),Xa,if_neg (Jh0 16 u),JgQ 16 65536 (by omega) (by omega) u u (JoQ _) h]
theorem Je0 (u:Nat):(58:UInt8)∉Q8 16 u:=fun h=>by
 obtain⟨d,hd,e⟩:=Jbf 16 (by omega) (by omega) u u (JoQ _) 58 h
 exact(ZS d hd).2.1 e.symm
theorem JiM (g:Nat→Nat)(hg:∀i,g i<65536):∀l:List Nat,(l.map fun i=>Q8 16 (g i)).mapM Jgu=some (l.map g)
 |[]=>rfl
 |i::l=>by
  rw[List.map_cons,List.mapM_cons,Jkx _ (hg i),JiM g hg l];rfl
theorem JlU (c:UInt8):∀l:List (List UInt8),l≠[]→(∀p∈l,p≠[])→Qz c l≠[]
 |[],h,_=>absurd rfl h
 |[p],_,h=>h p (by simp)
 |p::q::l,_,h=>by rw[QA];simp
theorem JaM (g:Nat→Nat)(hg:∀i,g i<65536)(l:List Nat):J9 (Qz 58 (l.map fun i=>Q8 16 (g i)))=some (l.map g):=by
 by_cases h:l=[]
 ·subst h;rfl
 ·rw[J9,if_neg (JlU 58 _ (by simpa using h) (fun p hp=>by obtain⟨i,-,rfl⟩:=List.mem_map.1 hp;exact Jh0 _ _)),Jbc 58 _ (by simpa using h) (fun p hp=>by obtain⟨i,-,rfl⟩:=List.mem_map.1 hp;exact Je0 _),JiM g hg]
theorem Jbg (x:UInt8)(r:List UInt8)(h:¬∃t,x::r=58::58::t):index (x::r) [58,58]=if index r [58,58]=-1 then-1 else index r [58,58]+1:=by
 rw[index]
 have:([58,58].isPrefixOf (x::r))=false:=by
  rw[Bool.eq_false_iff]
  intro hp
  obtain⟨t,ht⟩:=List.isPrefixOf_iff_prefix.1 hp
  exact h ⟨t,by simpa using ht.symm⟩
 rw[this];simp
theorem ZT:∀(p r:List UInt8),p≠[]→(58:UInt8)∉p→index (p++r) [58,58]=if index r [58,58]=-1 then-1 else index r [58,58]+p.length
 |[],r,h,_=>absurd rfl h
 |[x],r,_,h=>by
  rw[List.singleton_append,Jbg x r (fun⟨t,ht⟩=>h (by simp only[List.cons.injEq] at ht;simp[ht.1]))]
  simp
 |x::y::p,r,_,h=>by
  rw[List.cons_append,Jbg x _ (fun⟨t,ht⟩=>h (by simp only[List.cons.injEq] at ht;simp[ht.1])),ZT (y::p) r (by simp) (fun hm=>h (by simp[hm]))]
  have:=index_ge r [58,58]
  by_cases e:index r [58,58]=-1
  ·simp[e]
  ·rw[if_neg e,if_neg (by omega)]
   simp only[List.length_cons];omega
theorem Je1:index [] [58,58]=-1:=by decide
theorem Je2:∀(l:List (List UInt8)),(∀p∈l,p≠[]∧(58:UInt8)∉p)→index (Qz 58 l) [58,58]=-1
 |[],_=>Je1
 |[p],h=>by
  have:=ZT p [] (h p (by simp)).1 (h p (by simp)).2
  rw[List.append_nil,Je1,if_pos rfl] at this
  exact this
 |p::q::l,h=>by
  have ih:=Je2 (q::l) (fun p' hp=>h p' (by simp[hp]))
  have hq:∃x t,Qz 58 (q::l)=x::t∧x≠58:=by
   obtain⟨h1,h2⟩:=h q (by simp)
   cases q with
   |nil=>exact absurd rfl h1
   |cons x t=>
    refine⟨x,?_⟩
    have hx:x≠58:=fun e=>h2 (by simp[e])
    cases l with
    |nil=>exact⟨t,rfl,hx⟩
    |cons a b=>exact⟨_,rfl,hx⟩
  obtain⟨x,t,e,hx⟩:=hq
  rw[QA,ZT p _ (h p (by simp)).1 (h p (by simp)).2,e,Jbg 58 _ (fun⟨u,hu⟩=>hx (by simp only[List.cons.injEq] at hu;exact hu.2.1)),←e,ih]
  rfl
theorem Je3 (r:List UInt8):index (58::58::r) [58,58]=0:=by
 rw[index];simp
theorem JdQ (r:List UInt8):∀(l:List (List UInt8)),(∀p∈l,p≠[]∧(58:UInt8)∉p)→index (Qz 58 l++58::58::r) [58,58]=((Qz 58 l).length:Int)
 |[],_=>by rw[Qz,List.nil_append,Je3];rfl
 |[p],h=>by
  rw[Qz,ZT p _ (h p (by simp)).1 (h p (by simp)).2,Je3];simp
 |p::q::l,h=>by
  have ih:=JdQ r (q::l) (fun p' hp=>h p' (by simp[hp]))
  have hq:∃x t,Qz 58 (q::l)++58::58::r=x::t∧x≠58:=by
   obtain⟨h1,h2⟩:=h q (by simp)
   cases q with
   |nil=>exact absurd rfl h1
   |cons x t=>
    refine⟨x,?_⟩
    have hx:x≠58:=fun e=>h2 (by simp[e])
    cases l with
    |nil=>exact⟨_,rfl,hx⟩
    |cons a b=>exact⟨_,rfl,hx⟩
  obtain⟨x,t,e,hx⟩:=hq
  rw[QA,List.append_assoc,List.cons_append,ZT p _ (h p (by simp)).1 (h p (by simp)).2,e,Jbg 58 _ (fun⟨u,hu⟩=>hx (by simp only[List.cons.injEq] at hu;exact hu.2.1)),←e,ih]
  rw[if_neg (by omega),if_neg (by omega)]
  simp only[List.length_append,List.length_cons];omega
theorem JgR:∀a b c d e f g h:Bool,(List.range 8).all (fun i=>!(decide ((JF (zof [a,b,c,d,e,f,g,h])).1≤i∧i<(JF (zof [a,b,c,d,e,f,g,h])).2))||zof [a,b,c,d,e,f,g,h] i)=true:=by decide
def zg (g:Nat→Nat):Nat→Bool:=zof [g 0==0,g 1==0,g 2==0,g 3==0,g 4==0,g 5==0,g 6==0,g 7==0]
theorem Jnw (g:Nat→Nat)(i:Nat)(h:i<8):zg g i=(g i==0):=by
 rcases i with _|_|_|_|_|_|_|_|i
 all_goals first|rfl|omega
def JfF (g:Nat→Nat):List UInt8:=JbX (fun i=>Q8 16 (g i)) (JhR (zg g))
theorem Jjo (g:Nat→Nat)(hg:∀i,g i<65536):Jft (JfF g)=some ((List.range 8).map g):=by
 have hbd:=JdK (g 0==0) (g 1==0) (g 2==0) (g 3==0) (g 4==0) (g 5==0) (g 6==0) (g 7==0)
 have hz:=JgR (g 0==0) (g 1==0) (g 2==0) (g 3==0) (g 4==0) (g 5==0) (g 6==0) (g 7==0)
 have hzg:∀i,i<8→(JF (zg g)).1≤i→i<(JF (zg g)).2→g i=0:=fun i hi h1 h2=>by
  have:=(List.all_eq_true.1 hz) i (List.mem_range.2 hi)
  rw[show zof [g 0==0,g 1==0,g 2==0,g 3==0,g 4==0,g 5==0,g 6==0,g 7==0]=zg g from rfl] at this
  rw[decide_eq_true (⟨h1,h2⟩:_∧_),Jnw g i hi] at this
  simpa using this
 change (JF (zg g)).1≤(JF (zg g)).2∧(JF (zg g)).2≤8 at hbd
 have hp:∀(l:List Nat),∀p∈l.map (fun i=>Q8 16 (g i)),p≠[]∧(58:UInt8)∉p:=fun l p hp=>by
  obtain⟨i,-,rfl⟩:=List.mem_map.1 hp;exact⟨Jh0 _ _,Je0 _⟩
 unfold JfF JhR
 generalize (JF (zg g)).1=f at*
 generalize (JF (zg g)).2=t at*
 split
 ·rw[Zk,Jft,if_pos (Je2 _ (hp _)),JaM g hg]
  simp
 ·rw[Xv,Xv,Zk,Zk]
  have e2:JbX (fun i=>Q8 16 (g i)) [none,none]=[58,58]:=rfl
  rw[e2,List.append_assoc]
  have hix:=JdQ (Qz 58 (((List.range 8).drop t).map fun i=>Q8 16 (g i))) _ (hp ((List.range 8).take f))
  rw[Jft]
  simp only[List.cons_append,List.nil_append]
  rw[hix,if_neg (by omega)]
  simp only[Int.toNat_natCast]
  rw[List.take_left,←List.drop_drop,List.drop_left]
  simp only[List.drop_succ_cons,List.drop_zero]
  rw[JaM g hg,JaM g hg]
  simp only[Option.bind,List.length_map,List.length_take,List.length_drop,List.length_range]
  rw[if_pos (by omega)]
  congr 1
  apply List.ext_getElem?
  intro i
  by_cases hi:i<8
  ·rw[List.getElem?_map,List.getElem?_range hi]
   by_cases h1:i<f
   ·rw[List.append_assoc,List.getElem?_append_left (by simp;omega),List.getElem?_map,List.getElem?_take,if_pos h1,List.getElem?_range hi]
   ·by_cases h2:i<t
    ·rw[List.getElem?_append_left (by simp;omega),List.getElem?_append_right (by simp;omega),List.getElem?_replicate,if_pos (by simp;omega),Option.map_some,hzg i hi (by omega) h2]
    ·rw[List.getElem?_append_right (by simp;omega),List.getElem?_map,List.getElem?_drop]
     simp only[List.length_append,List.length_map,List.length_take,List.length_range,List.length_replicate]
     rw[show t+(i-(min f 8+(8-min f 8-(8-t))))=i by omega,List.getElem?_range hi]
  ·rw[List.getElem?_eq_none (by simp;omega),List.getElem?_eq_none (by simp;omega)]
def Jh1 (b:Nat→Nat):List UInt8:=Qz 46 ((List.range 4).map fun i=>decDigits (b i))
theorem JaN (u:Nat):∀c∈decDigits u,∃d,d<16∧c=hexc d:=by
 rw[←Jdi u u (JoQ _)];exact Jbf 10 (by omega) (by omega) u u (JoQ _)
theorem Jjp (b:Nat→Nat)(hb:∀i,b i<256):JdJ (Jh1 b)=some ((List.range 4).map b):=by
 have hc:J7 46 (Jh1 b)=(List.range 4).map fun i=>decDigits (b i):=Jbc 46 _ (by simp) (fun p hp h=>by
  obtain⟨i,-,rfl⟩:=List.mem_map.1 hp
  obtain⟨d,hd,e⟩:=JaN _ _ h
  exact(ZS d hd).2.2.1 e.symm)
 unfold JdJ
 rw[hc,if_pos (by simp)]
 have hd:∀i,Jdc 256 (decDigits (b i))=some (b i):=fun i=>QG.2 ⟨hb i,rfl⟩
 show List.mapM (Jdc 256) [decDigits (b 0),decDigits (b 1),decDigits (b 2),decDigits (b 3)]=some [b 0,b 1,b 2,b 3]
 simp[List.mapM_cons,hd]
open Go.Lib
def Xg (s:List UInt8):Option (Bool×(Nat→Int)):=match JdJ s with
 |some l=>some (false,Jax l)
 |none=>match Jft s with
  |some l=>some (true,JeZ l)
  |none=>none
def Je4 (o:Option (Bool×(Nat→Int))):Value:=match o with
 |some p=>.tuple #[adV p.1 p.2,.int .i64 0]
 |none=>.tuple #[adV false fun _=>0,.int .i64 40]
theorem Jm2 {most:Nat}{l:List UInt8}{n:Nat}(h:Jdc most l=some n):n<most:=(QG.1 h).1
theorem JfG {α β:Type}(f:α→Option β)(p:β→Prop)(hf:∀x b,f x=some b→p b):∀(l:List α) (a:List β),l.mapM f=some a→∀b∈a,p b
 |[],a,h,b,hb=>by
  simp only[List.mapM_nil] at h
  cases h;cases hb
 |y::l,a,h,b,hb=>by
  rw[List.mapM_cons] at h
  cases hy:f y with
  |none=>rw[hy] at h;cases h
  |some c=>
   rw[hy] at h
   cases hl:l.mapM f with
   |none=>rw[hl] at h;cases h
   |some m=>
    rw[hl] at h
    cases h
    rcases List.mem_cons.1 hb with rfl|hb
    ·exact hf _ _ hy
    ·exact JfG f p hf l m hl b hb
theorem JiN {s:List UInt8}{l:List Nat}(h:JdJ s=some l):l.length=4∧∀n∈l,n<256:=by
 unfold JdJ at h
 split at h
 ·rename_i h4
  exact⟨by rw[JfD _ _ _ h,h4],JfG _ (·<256) (fun x b e=>Jm2 e) _ _ h⟩
 ·cases h
theorem Jm3 {p:List UInt8}{n:Nat}(h:Jgu p=some n):n<65536:=by
 unfold Jgu at h
 split at h
 ·unfold Xa at h
  split at h
  ·cases h
  ·exact JhP 16 65536 p 0 n (by omega) h
 ·cases h
theorem JcC {s:List UInt8}{l:List Nat}(h:J9 s=some l):∀n∈l,n<65536:=by
 unfold J9 at h
 split at h
 ·cases h;intro n hn;cases hn
 ·exact JfG _ (·<65536) (fun x b e=>Jm3 e) _ _ h
theorem Jky {s:List UInt8}{l:List Nat}(h:Jft s=some l):l.length=8∧∀n∈l,n<65536:=by
 unfold Jft at h
 split at h
 ·cases hg:J9 s with
  |none=>rw[hg] at h;cases h
  |some a=>
   rw[hg] at h
   simp only[Option.bind] at h
   split at h
   ·cases h;rename_i h8;exact⟨h8,JcC hg⟩
   ·cases h
 ·cases hg:J9 (s.take (index s [58,58]).toNat) with
  |none=>rw[hg] at h;cases h
  |some a=>
   rw[hg] at h
   simp only[Option.bind] at h
   cases hg2:J9 (s.drop ((index s [58,58]).toNat+2)) with
   |none=>rw[hg2] at h;cases h
   |some b=>
    rw[hg2] at h
    simp only at h
    split at h
    ·cases h
     refine⟨by simp;omega,fun n hn=>?_⟩
     simp only[List.mem_append,List.mem_replicate] at hn
     rcases hn with (hn|⟨-,rfl⟩)|hn
     ·exact JcC hg n hn
     ·omega
     ·exact JcC hg2 n hn
    ·cases h
theorem Jkz {l:List Nat}{m:Nat}(hm:0<m)(h:∀n∈l,n<m)(i:Nat):l.getD i 0<m:=by
 rw[List.getD_eq_getElem?_getD]
 cases hi:l[i]? with
 |none=>simpa using hm
 |some n=>exact h n (List.mem_of_getElem? hi)
theorem JlV {l:List Nat}(h:∀n∈l,n<256):U8 (Jax l):=fun i=>by
 have:=Jkz (by omega) h i
 unfold Jax
 omega
theorem Jm4 {l:List Nat}(h:∀n∈l,n<65536):U8 (JeZ l):=fun i=>by
 have:=Jkz (by omega) h (i/2)
 unfold JeZ
 split<;>omega
theorem Jh2 {l:List Nat}(h:l.length=4):JW false (Jax l)=true:=by
 rw[XS]
 intro i h4 _
 unfold Jax
 rw[List.getD_eq_getElem?_getD,List.getElem?_eq_none (by omega)];rfl
theorem JgS {s:List UInt8}{p:Bool×(Nat→Int)}(h:Xg s=some p):JW p.1 p.2=true∧U8 p.2:=by
 unfold Xg at h
 split at h
 ·rename_i l hl
  cases h
  exact⟨Jh2 (JiN hl).1,JlV (JiN hl).2⟩
 ·split at h
  ·rename_i l hl
   cases h
   exact⟨rfl,Jm4 (Jky hl).2⟩
  ·cases h
end
end Go.Proofs.YtkgjbipfhhjlpaaGreatDoor
