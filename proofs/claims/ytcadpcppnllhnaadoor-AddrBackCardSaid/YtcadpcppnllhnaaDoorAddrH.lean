/- Walks over texts: row's closure. -/
import Derived.Test.YtcadpcppnllhnaaDoorAddrG
set_option linter.unusedSimpArgs false
set_option linter.unusedVariables false
namespace Go.Proofs.YtcadpcppnllhnaaDoor
open Go.RowKit

/-- row's memory between two calls of its closure: the list and 'ok' in blocks of their own, the parts (a row of strings), the list's row. -/
structure RowSt (w W : World) (hi : Nat) (op : Option Addr) (nP capp : Nat) (P : List (List UInt8)) (oa : Option Addr) (n cap : Nat) (G : List Nat) (ok : Bool) : Prop where
  below : Below w.heap.size w W
  list : W.cell? ⟨w.heap.size, 0, none⟩ = some (.slice oa n cap)
  okc : W.cell? ⟨w.heap.size + 1, 0, none⟩ = some (.bool ok)
  listF : W.frozen? ⟨w.heap.size, 0, none⟩ = false
  okF : W.frozen? ⟨w.heap.size + 1, 0, none⟩ = false
  parts : Owns W (w.heap.size + 2) 1 op nP capp (P.map strV)
  plt : ∀ a, op = some a → a.block < hi
  hiW : hi ≤ W.heap.size
  lo : w.heap.size + 2 ≤ hi
  row : Owns W hi 1 oa n cap (G.map fun (m : Nat) => Value.int .u64 (m : Int))
theorem RowSt.go {w W W' : World} {hi : Nat} {op : Option Addr} {nP capp : Nat} {P : List (List UInt8)} {oa : Option Addr} {n cap : Nat} {G : List Nat} {ok : Bool} (h : RowSt w W hi op nP capp P oa n cap G ok) (hb : Below W.heap.size W W') : RowSt w W' hi op nP capp P oa n cap G ok where
  below := Below.via h.below hb
  list := (hb.cell (p := ⟨_, _, none⟩) (World.block_lt_of_cell? W _ h.list)).trans h.list
  okc := (hb.cell (p := ⟨_, _, none⟩) (World.block_lt_of_cell? W _ h.okc)).trans h.okc
  listF := (hb.frozen (p := ⟨_, _, none⟩) (World.block_lt_of_cell? W _ h.list)).trans h.listF
  okF := (hb.frozen (p := ⟨_, _, none⟩) (World.block_lt_of_cell? W _ h.okc)).trans h.okF
  parts := h.parts.below hb
  plt := h.plt
  hiW := Nat.le_trans h.hiW hb.size
  lo := h.lo
  row := h.row.below hb
theorem info_u64 : (Tryd.prog.info? 79).map (fun i => (i.zero, i.size, i.bytes)) = some (some (.int .u64 0), 1, 8) := by kernel_rfl

/-- 'ok' written. -/
theorem RowSt.put {w W : World} {hi : Nat} {op : Option Addr} {nP capp : Nat} {P : List (List UInt8)} {oa : Option Addr} {n cap : Nat} {G : List Nat} {ok : Bool} (h : RowSt w W hi op nP capp P oa n cap G ok) (b : Bool) : RowSt w (W.setCell ⟨w.heap.size + 1, 0, none⟩ (.bool b)) hi op nP capp P oa n cap G b where
  below := h.below.setCell (by simp only; omega) _
  list := (by rw [World.cell?_setCell_other]; exact h.list; intro e; injection e; omega)
  okc := by first | exact World.cell?_setCell_same _ h.okc | exact World.cell?_setCell_same _ _ h.okc | exact World.cell?_setCell_same _ _ _ h.okc
  listF := by simpa using h.listF
  okF := by simpa using h.okF
  parts := h.parts.other (fun a ha => by have := (h.parts.lt ha).1; simp only; omega) _
  plt := h.plt
  hiW := by simpa using h.hiW
  lo := h.lo
  row := h.row.other (fun a ha => by have := (h.row.lt ha).1; have := h.lo; simp only; omega) _

/-- The list's row grown, the list not yet written. -/
structure RowGrown (w W : World) (hi : Nat) (op : Option Addr) (nP capp : Nat) (P : List (List UInt8)) (oa : Option Addr) (n cap : Nat) (G : List Nat) (ok : Bool) : Prop where
  list : ∃ v, W.cell? ⟨w.heap.size, 0, none⟩ = some v
  listF : W.frozen? ⟨w.heap.size, 0, none⟩ = false
  put : RowSt w (W.setCell ⟨w.heap.size, 0, none⟩ (.slice oa n cap)) hi op nP capp P oa n cap G ok
theorem RowSt.grown {w W w' : World} {hi : Nat} {op : Option Addr} {nP capp : Nat} {P : List (List UInt8)} {oa : Option Addr} {n cap : Nat} {G : List Nat} {ok : Bool} (h : RowSt w W hi op nP capp P oa n cap G ok)
    (hg : W.grownBy w' (oa.map Addr.block)) {oa' : Option Addr} {n' cap' : Nat} {G' : List Nat} (ho : Owns w' hi 1 oa' n' cap' (G'.map fun (m : Nat) => Value.int .u64 (m : Int))) : RowGrown w w' hi op nP capp P oa' n' cap' G' ok := by
  have hlo := h.lo
  have hhi := h.hiW
  have hne : ∀ k, k < hi → some k ≠ oa.map Addr.block := by
    intro k hk e
    obtain ⟨a, e1, e2⟩ := Option.map_eq_some_iff.1 e.symm
    have := (h.row.lt e1).1
    omega
  have e0 : w'.heap[w.heap.size]? = W.heap[w.heap.size]? := hg.block _ (by omega) (hne _ (by omega))
  have e1 : w'.heap[w.heap.size + 1]? = W.heap[w.heap.size + 1]? := hg.block _ (by omega) (hne _ (by omega))
  have hl : w'.cell? ⟨w.heap.size, 0, none⟩ = some (.slice oa n cap) := by rw [World.cell?_of_block (w := W) (a := ⟨w.heap.size, 0, none⟩) e0]; exact h.list
  have hok : w'.cell? ⟨w.heap.size + 1, 0, none⟩ = some (.bool ok) := by rw [World.cell?_of_block (w := W) (a := ⟨w.heap.size + 1, 0, none⟩) e1]; exact h.okc
  have hlF : w'.frozen? ⟨w.heap.size, 0, none⟩ = false := by rw [World.frozen?_of_block (w := W) (a := ⟨w.heap.size, 0, none⟩) e0]; exact h.listF
  have hokF : w'.frozen? ⟨w.heap.size + 1, 0, none⟩ = false := by rw [World.frozen?_of_block (w := W) (a := ⟨w.heap.size + 1, 0, none⟩) e1]; exact h.okF
  have hP : Owns w' (w.heap.size + 2) 1 op nP capp (P.map strV) := h.parts.grown hg fun a ha => hne _ (h.plt a ha)
  have hB : Below w.heap.size w w' := Below.appended h.below h.row (by omega) hg (by omega)
  refine ⟨⟨_, hl⟩, hlF, ?_⟩
  refine ⟨hB.setCell (by simp only; omega) _, ?_, ?_, by simpa using hlF, by simpa using hokF, hP.other (fun a ha => by have := (hP.lt ha).1; simp only; omega) _, h.plt, ?_, hlo, ho.other (fun a ha => by have := (ho.lt ha).1; simp only; omega) _⟩
  · first | exact World.cell?_setCell_same _ hl | exact World.cell?_setCell_same _ _ hl | exact World.cell?_setCell_same _ _ _ hl
  · rw [World.cell?_setCell_other]; exact hok; intro e; injection e; omega
  · have := hg.size; simp; omega

set_option maxHeartbeats 8000000 in
theorem closure_no (p : ByteArray) (hp : p.size ≤ 1000) (w W : World) (hi : Nat) (op : Option Addr) (nP capp : Nat) (P : List (List UInt8)) (oa : Option Addr) (n cap : Nat) (G : List Nat) (HE : Hid (Env W))
    (hn : n ≤ 1000) (h : Hid (RowSt w W hi op nP capp P oa n cap G false)) :
    Calls Tryd.prog 64 #[.string p, .pointer (some ⟨w.heap.size + 1, 0, none⟩), .pointer (some ⟨w.heap.size, 0, none⟩)] W
      (fun e w' => ∃ oa' cap' u, e = .returned (.tuple #[]) ∧ RowSt w w' hi op nP capp P oa' (n + 1) cap' (G ++ [u]) false) := by
  go_enter Tryd.func64, Tryd.ntmps64
  go_wp2_with fail
  refine Calls.mono (ParseUint_any p hp W HE.out) ?_
  rintro e w1 ⟨u, er, rfl, hu0, hu1, -, hb⟩
  obtain ⟨v, rfl⟩ : ∃ v : Nat, u = (v : Int) := ⟨u.toNat, by omega⟩
  have H1 := Lib.hid (h.out.go hb)
  have hl := H1.out.list
  have ho := H1.out.okc
  have hlF := H1.out.listF
  have hoF := H1.out.okF
  clear hb HE h
  go_wp2_with (at_builtin; refine Stopped.of ?_)
  refine Stopped.mk ?_
  have H2 := Lib.hid (H1.out.put false)
  refine wpList_append_owns _ rfl _ _ 87 rfl 79 (.int .u64 0) 1 8 hi Tryd.underlying87 info_u64 rfl (by decide) oa n cap _ rfl (H2.out.row.alloc _) ⟨w1.heap.size, 0, none⟩ 1 1 [.int .u64 v] rfl rfl ?_ ?_ (by decide) ?_ ?_ ?_ ?_
  · have h := news_new (w1.setCell ⟨w.heap.size + 1, 0, none⟩ (.bool false)) #[.int .u64 v] 79
    simpa using h
  · simp [Value.oneCell']
  · unfold maxLen; omega
  · omega
  · have := H2.out.hiW; simp only [World.size_alloc]; omega
  intro oa' cap' w' ho' hg2 hd
  have HG := Lib.hid ((H2.out.go ((Below.refl _ _).alloc (Nat.le_refl _) _)).grown hg2 (G' := G ++ [v]) (by rw [List.map_append]; exact ho'))
  obtain ⟨vl, hvl⟩ := HG.out.list
  have hvF := HG.out.listF
  clear hg2 hd ho' H1 H2 hl ho hlF hoF
  go_wp2_with fail
  go_end0
  exact ⟨oa', cap', v, rfl, HG.out.put⟩
set_option maxHeartbeats 8000000 in
theorem closure_err (p : ByteArray) (hp : p.size ≤ 1000) (w W : World) (hi : Nat) (op : Option Addr) (nP capp : Nat) (P : List (List UInt8)) (oa : Option Addr) (n cap : Nat) (G : List Nat) (HE : Hid (Env W))
    (hn : n ≤ 1000) (h : Hid (RowSt w W hi op nP capp P oa n cap G true)) (hx : numberL 16 65536 p.data.toList = none) :
    Calls Tryd.prog 64 #[.string p, .pointer (some ⟨w.heap.size + 1, 0, none⟩), .pointer (some ⟨w.heap.size, 0, none⟩)] W
      (fun e w' => ∃ oa' cap' u, e = .returned (.tuple #[]) ∧ RowSt w w' hi op nP capp P oa' (n + 1) cap' (G ++ [u]) false) := by
  go_enter Tryd.func64, Tryd.ntmps64
  go_wp2_with fail
  refine Calls.mono (ParseUint_any p hp W HE.out) ?_
  rintro e w1 ⟨u, er, rfl, hu0, hu1, hcase, hb⟩
  obtain ⟨te, pe, rfl⟩ : ∃ te pe, er = .iface te pe := by
    rcases hcase with ⟨m, h1, -⟩ | ⟨-, h2⟩
    · rw [hx] at h1; cases h1
    · exact h2
  clear hcase hx
  obtain ⟨v, rfl⟩ : ∃ v : Nat, u = (v : Int) := ⟨u.toNat, by omega⟩
  have H1 := Lib.hid (h.out.go hb)
  have hl := H1.out.list
  have ho := H1.out.okc
  have hlF := H1.out.listF
  have hoF := H1.out.okF
  clear hb HE h
  go_wp2_with (at_builtin; refine Stopped.of ?_)
  refine Stopped.mk ?_
  have H2 := Lib.hid (H1.out.put false)
  refine wpList_append_owns _ rfl _ _ 87 rfl 79 (.int .u64 0) 1 8 hi Tryd.underlying87 info_u64 rfl (by decide) oa n cap _ rfl (H2.out.row.alloc _) ⟨w1.heap.size, 0, none⟩ 1 1 [.int .u64 v] rfl rfl ?_ ?_ (by decide) ?_ ?_ ?_ ?_
  · have h := news_new (w1.setCell ⟨w.heap.size + 1, 0, none⟩ (.bool false)) #[.int .u64 v] 79
    simpa using h
  · simp [Value.oneCell']
  · unfold maxLen; omega
  · omega
  · have := H2.out.hiW; simp only [World.size_alloc]; omega
  intro oa' cap' w' ho' hg2 hd
  have HG := Lib.hid ((H2.out.go ((Below.refl _ _).alloc (Nat.le_refl _) _)).grown hg2 (G' := G ++ [v]) (by rw [List.map_append]; exact ho'))
  obtain ⟨vl, hvl⟩ := HG.out.list
  have hvF := HG.out.listF
  clear hg2 hd ho' H1 H2 hl ho hlF hoF
  go_wp2_with fail
  go_end0
  exact ⟨oa', cap', v, rfl, HG.out.put⟩
set_option maxHeartbeats 8000000 in
theorem closure_long (p : ByteArray) (hp : p.size ≤ 1000) (w W : World) (hi : Nat) (op : Option Addr) (nP capp : Nat) (P : List (List UInt8)) (oa : Option Addr) (n cap : Nat) (G : List Nat) (HE : Hid (Env W))
    (hn : n ≤ 1000) (h : Hid (RowSt w W hi op nP capp P oa n cap G true)) (m : Nat) (hx : numberL 16 65536 p.data.toList = some m) (h4 : 4 < p.size) :
    Calls Tryd.prog 64 #[.string p, .pointer (some ⟨w.heap.size + 1, 0, none⟩), .pointer (some ⟨w.heap.size, 0, none⟩)] W
      (fun e w' => ∃ oa' cap' u, e = .returned (.tuple #[]) ∧ RowSt w w' hi op nP capp P oa' (n + 1) cap' (G ++ [u]) false) := by
  go_enter Tryd.func64, Tryd.ntmps64
  go_wp2_with fail
  refine Calls.mono (ParseUint_any p hp W HE.out) ?_
  rintro e w1 ⟨u, er, rfl, hu0, hu1, hcase, hb⟩
  obtain rfl : er = .nilIface := by
    rcases hcase with ⟨m, h1, -, h2⟩ | ⟨h1, -⟩
    · exact h2
    · rw [hx] at h1; cases h1
  clear hcase hx
  obtain ⟨v, rfl⟩ : ∃ v : Nat, u = (v : Int) := ⟨u.toNat, by omega⟩
  have H1 := Lib.hid (h.out.go hb)
  have hl := H1.out.list
  have ho := H1.out.okc
  have hlF := H1.out.listF
  have hoF := H1.out.okF
  clear hb HE h
  go_wp2_with (at_builtin; refine Stopped.of ?_)
  refine Stopped.mk ?_
  have H2 := Lib.hid (H1.out.put false)
  refine wpList_append_owns _ rfl _ _ 87 rfl 79 (.int .u64 0) 1 8 hi Tryd.underlying87 info_u64 rfl (by decide) oa n cap _ rfl (H2.out.row.alloc _) ⟨w1.heap.size, 0, none⟩ 1 1 [.int .u64 v] rfl rfl ?_ ?_ (by decide) ?_ ?_ ?_ ?_
  · have h := news_new (w1.setCell ⟨w.heap.size + 1, 0, none⟩ (.bool false)) #[.int .u64 v] 79
    simpa using h
  · simp [Value.oneCell']
  · unfold maxLen; omega
  · omega
  · have := H2.out.hiW; simp only [World.size_alloc]; omega
  intro oa' cap' w' ho' hg2 hd
  have HG := Lib.hid ((H2.out.go ((Below.refl _ _).alloc (Nat.le_refl _) _)).grown hg2 (G' := G ++ [v]) (by rw [List.map_append]; exact ho'))
  obtain ⟨vl, hvl⟩ := HG.out.list
  have hvF := HG.out.listF
  clear hg2 hd ho' H1 H2 hl ho hlF hoF
  go_wp2_with fail
  go_end0
  exact ⟨oa', cap', v, rfl, HG.out.put⟩
end Go.Proofs.YtcadpcppnllhnaaDoor
