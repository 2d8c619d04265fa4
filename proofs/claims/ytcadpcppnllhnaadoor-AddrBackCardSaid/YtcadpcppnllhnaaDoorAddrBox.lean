/- Boxes: blocks that hold an address, or a prefix, whole. -/
import Derived.Test.YtcadpcppnllhnaaDoorAddrV
set_option linter.unusedSimpArgs false
set_option linter.unusedVariables false
namespace Go.Proofs.YtcadpcppnllhnaaDoor
open Go.RowKit

/-- Block b holds an address. -/
structure AdBox (w : World) (b : Nat) (t : TypeId) (six : Bool) (B : Nat → Int) : Prop where
  heap : w.heap[b]? = some (.cells #[.bool six, .int .u8 (B 0), .int .u8 (B 1), .int .u8 (B 2), .int .u8 (B 3), .int .u8 (B 4), .int .u8 (B 5), .int .u8 (B 6), .int .u8 (B 7), .int .u8 (B 8), .int .u8 (B 9), .int .u8 (B 10), .int .u8 (B 11), .int .u8 (B 12), .int .u8 (B 13), .int .u8 (B 14), .int .u8 (B 15)] t (0, 0))
theorem AdBox.lt {w : World} {b : Nat} {t : TypeId} {six : Bool} {B : Nat → Int} (h : AdBox w b t six B) : b < w.heap.size := (Array.getElem?_eq_some_iff.1 h.heap).1
theorem AdBox.part {w : World} {b : Nat} {t : TypeId} {six : Bool} {B : Nat → Int} (h : AdBox w b t six B) : partOf w b 0 17 = #[.bool six, .int .u8 (B 0), .int .u8 (B 1), .int .u8 (B 2), .int .u8 (B 3), .int .u8 (B 4), .int .u8 (B 5), .int .u8 (B 6), .int .u8 (B 7), .int .u8 (B 8), .int .u8 (B 9), .int .u8 (B 10), .int .u8 (B 11), .int .u8 (B 12), .int .u8 (B 13), .int .u8 (B 14), .int .u8 (B 15)] := by rw [partOf_row _ _ _ _ _ _ _ h.heap]; simp
theorem AdBox.arr {w : World} {b : Nat} {t : TypeId} {six : Bool} {B : Nat → Int} (h : AdBox w b t six B) : partOf w b 1 16 = #[.int .u8 (B 0), .int .u8 (B 1), .int .u8 (B 2), .int .u8 (B 3), .int .u8 (B 4), .int .u8 (B 5), .int .u8 (B 6), .int .u8 (B 7), .int .u8 (B 8), .int .u8 (B 9), .int .u8 (B 10), .int .u8 (B 11), .int .u8 (B 12), .int .u8 (B 13), .int .u8 (B 14), .int .u8 (B 15)] := by rw [partOf_row _ _ _ _ _ _ _ h.heap]; simp
theorem AdBox.six {w : World} {b : Nat} {t : TypeId} {six : Bool} {B : Nat → Int} (h : AdBox w b t six B) : w.cell? ⟨b, 0, none⟩ = some (.bool six) := by rw [cell_of_row _ _ _ _ _ _ h.heap]; rfl
theorem AdBox.cell {w : World} {b : Nat} {t : TypeId} {six : Bool} {B : Nat → Int} (h : AdBox w b t six B) (j : Nat) (hj : j < 16) : w.cell? ⟨b, 1 + j, none⟩ = some (.int .u8 (B j)) :=
  ad_cell (fun j => cell_of_row _ _ j _ _ (0, 0) h.heap) j hj
theorem AdBox.free {w : World} {b : Nat} {t : TypeId} {six : Bool} {B : Nat → Int} (h : AdBox w b t six B) (j : Nat) : w.frozen? ⟨b, j, none⟩ = false := frozen_of_row _ _ _ _ _ h.heap
theorem AdBox.row {w : World} {b : Nat} {t : TypeId} {six : Bool} {B : Nat → Int} (h : AdBox w b t six B) : rowFree w b 17 = true := by rw [rowFree_row _ _ _ _ _ h.heap]; rfl
theorem AdBox.keep {w w' : World} {b : Nat} {t : TypeId} {six : Bool} {B : Nat → Int} (h : AdBox w b t six B) (e : w'.heap[b]? = w.heap[b]?) : AdBox w' b t six B := ⟨e.trans h.heap⟩
theorem AdBox.below {w w' : World} {b : Nat} {t : TypeId} {six : Bool} {B : Nat → Int} (h : AdBox w b t six B) (hb : Below w.heap.size w w') : AdBox w' b t six B := h.keep (hb.block _ h.lt)
theorem AdBox.other {w : World} {b : Nat} {t : TypeId} {six : Bool} {B : Nat → Int} (h : AdBox w b t six B) (a : Addr) (v : Value) (hne : b ≠ a.block) : AdBox (w.setCell a v) b t six B := h.keep (heap_setCell_other _ _ _ _ hne)
theorem AdBox.made (w : World) (t : TypeId) (six : Bool) (B : Nat → Int) : AdBox (w.alloc (.cells #[.bool six, .int .u8 (B 0), .int .u8 (B 1), .int .u8 (B 2), .int .u8 (B 3), .int .u8 (B 4), .int .u8 (B 5), .int .u8 (B 6), .int .u8 (B 7), .int .u8 (B 8), .int .u8 (B 9), .int .u8 (B 10), .int .u8 (B 11), .int .u8 (B 12), .int .u8 (B 13), .int .u8 (B 14), .int .u8 (B 15)] t)) w.heap.size t six B := ⟨heap_alloc_new w _⟩
theorem AdBox.made0 (w : World) (t : TypeId) (six : Bool) : AdBox (w.alloc (.cells #[.bool six, .int .u8 0, .int .u8 0, .int .u8 0, .int .u8 0, .int .u8 0, .int .u8 0, .int .u8 0, .int .u8 0, .int .u8 0, .int .u8 0, .int .u8 0, .int .u8 0, .int .u8 0, .int .u8 0, .int .u8 0, .int .u8 0] t)) w.heap.size t six (fun _ => 0) := AdBox.made w t six fun _ => 0
theorem AdBox.congr {w : World} {b : Nat} {t : TypeId} {six : Bool} {B C : Nat → Int} (h : AdBox w b t six B) (e : ∀ i, i < 16 → B i = C i) : AdBox w b t six C := by
  refine ⟨h.heap.trans ?_⟩
  rw [e 0 (by omega), e 1 (by omega), e 2 (by omega), e 3 (by omega), e 4 (by omega), e 5 (by omega), e 6 (by omega), e 7 (by omega), e 8 (by omega), e 9 (by omega), e 10 (by omega), e 11 (by omega), e 12 (by omega), e 13 (by omega), e 14 (by omega), e 15 (by omega)]
theorem AdBox.set {w : World} {b : Nat} {t : TypeId} {six : Bool} {B : Nat → Int} (h : AdBox w b t six B) (j : Nat) (hj : j < 16) (v : Int) : AdBox (w.setCell ⟨b, 1 + j, none⟩ (.int .u8 v)) b t six (fun i => if i = j then v else B i) := by
  refine ⟨(heap_setCell_same _ _ _ _ _ _ h.heap).trans ?_⟩
  rcases j with _ | _ | _ | _ | _ | _ | _ | _ | _ | _ | _ | _ | _ | _ | _ | _ | j
  all_goals first | rfl | omega
theorem AdBox.alloc {w : World} {b : Nat} {t : TypeId} {six : Bool} {B : Nat → Int} (h : AdBox w b t six B) (o : Obj) : AdBox (w.alloc o) b t six B := h.below (Below.all (Below.refl _ _) _)
theorem ad_congr {six : Bool} {B C : Nat → Int} (e : ∀ i, i < 16 → B i = C i) : adV six B = adV six C := by
  unfold adV
  rw [e 0 (by omega), e 1 (by omega), e 2 (by omega), e 3 (by omega), e 4 (by omega), e 5 (by omega), e 6 (by omega), e 7 (by omega), e 8 (by omega), e 9 (by omega), e 10 (by omega), e 11 (by omega), e 12 (by omega), e 13 (by omega), e 14 (by omega), e 15 (by omega)]

/-- Block b holds a prefix. -/
structure PfBox (w : World) (b : Nat) (t : TypeId) (six : Bool) (B : Nat → Int) (n : Int) : Prop where
  heap : w.heap[b]? = some (.cells #[.bool six, .int .u8 (B 0), .int .u8 (B 1), .int .u8 (B 2), .int .u8 (B 3), .int .u8 (B 4), .int .u8 (B 5), .int .u8 (B 6), .int .u8 (B 7), .int .u8 (B 8), .int .u8 (B 9), .int .u8 (B 10), .int .u8 (B 11), .int .u8 (B 12), .int .u8 (B 13), .int .u8 (B 14), .int .u8 (B 15), .int .i64 n] t (0, 0))
theorem PfBox.lt {w : World} {b : Nat} {t : TypeId} {six : Bool} {B : Nat → Int} {n : Int} (h : PfBox w b t six B n) : b < w.heap.size := (Array.getElem?_eq_some_iff.1 h.heap).1
theorem PfBox.part {w : World} {b : Nat} {t : TypeId} {six : Bool} {B : Nat → Int} {n : Int} (h : PfBox w b t six B n) : partOf w b 0 18 = #[.bool six, .int .u8 (B 0), .int .u8 (B 1), .int .u8 (B 2), .int .u8 (B 3), .int .u8 (B 4), .int .u8 (B 5), .int .u8 (B 6), .int .u8 (B 7), .int .u8 (B 8), .int .u8 (B 9), .int .u8 (B 10), .int .u8 (B 11), .int .u8 (B 12), .int .u8 (B 13), .int .u8 (B 14), .int .u8 (B 15), .int .i64 n] := by rw [partOf_row _ _ _ _ _ _ _ h.heap]; simp
theorem PfBox.ad {w : World} {b : Nat} {t : TypeId} {six : Bool} {B : Nat → Int} {n : Int} (h : PfBox w b t six B n) : partOf w b 0 17 = #[.bool six, .int .u8 (B 0), .int .u8 (B 1), .int .u8 (B 2), .int .u8 (B 3), .int .u8 (B 4), .int .u8 (B 5), .int .u8 (B 6), .int .u8 (B 7), .int .u8 (B 8), .int .u8 (B 9), .int .u8 (B 10), .int .u8 (B 11), .int .u8 (B 12), .int .u8 (B 13), .int .u8 (B 14), .int .u8 (B 15)] := by rw [partOf_row _ _ _ _ _ _ _ h.heap]; simp
theorem PfBox.arr {w : World} {b : Nat} {t : TypeId} {six : Bool} {B : Nat → Int} {n : Int} (h : PfBox w b t six B n) : partOf w b 1 16 = #[.int .u8 (B 0), .int .u8 (B 1), .int .u8 (B 2), .int .u8 (B 3), .int .u8 (B 4), .int .u8 (B 5), .int .u8 (B 6), .int .u8 (B 7), .int .u8 (B 8), .int .u8 (B 9), .int .u8 (B 10), .int .u8 (B 11), .int .u8 (B 12), .int .u8 (B 13), .int .u8 (B 14), .int .u8 (B 15)] := by rw [partOf_row _ _ _ _ _ _ _ h.heap]; simp
theorem PfBox.len {w : World} {b : Nat} {t : TypeId} {six : Bool} {B : Nat → Int} {n : Int} (h : PfBox w b t six B n) : w.cell? ⟨b, 17, none⟩ = some (.int .i64 n) := by rw [cell_of_row _ _ _ _ _ _ h.heap]; rfl
theorem PfBox.six {w : World} {b : Nat} {t : TypeId} {six : Bool} {B : Nat → Int} {n : Int} (h : PfBox w b t six B n) : w.cell? ⟨b, 0, none⟩ = some (.bool six) := by rw [cell_of_row _ _ _ _ _ _ h.heap]; rfl
theorem PfBox.cell {w : World} {b : Nat} {t : TypeId} {six : Bool} {B : Nat → Int} {n : Int} (h : PfBox w b t six B n) (j : Nat) (hj : j < 16) : w.cell? ⟨b, 1 + j, none⟩ = some (.int .u8 (B j)) := by
  rw [cell_of_row _ _ _ _ _ _ h.heap]
  rcases j with _ | _ | _ | _ | _ | _ | _ | _ | _ | _ | _ | _ | _ | _ | _ | _ | j
  all_goals first | rfl | omega
theorem PfBox.free {w : World} {b : Nat} {t : TypeId} {six : Bool} {B : Nat → Int} {n : Int} (h : PfBox w b t six B n) (j : Nat) : w.frozen? ⟨b, j, none⟩ = false := frozen_of_row _ _ _ _ _ h.heap
theorem PfBox.row {w : World} {b : Nat} {t : TypeId} {six : Bool} {B : Nat → Int} {n : Int} (h : PfBox w b t six B n) : rowFree w b 18 = true := by rw [rowFree_row _ _ _ _ _ h.heap]; rfl
theorem PfBox.keep {w w' : World} {b : Nat} {t : TypeId} {six : Bool} {B : Nat → Int} {n : Int} (h : PfBox w b t six B n) (e : w'.heap[b]? = w.heap[b]?) : PfBox w' b t six B n := ⟨e.trans h.heap⟩
theorem PfBox.below {w w' : World} {b : Nat} {t : TypeId} {six : Bool} {B : Nat → Int} {n : Int} (h : PfBox w b t six B n) (hb : Below w.heap.size w w') : PfBox w' b t six B n := h.keep (hb.block _ h.lt)
theorem PfBox.other {w : World} {b : Nat} {t : TypeId} {six : Bool} {B : Nat → Int} {n : Int} (h : PfBox w b t six B n) (a : Addr) (v : Value) (hne : b ≠ a.block) : PfBox (w.setCell a v) b t six B n := h.keep (heap_setCell_other _ _ _ _ hne)
theorem PfBox.made (w : World) (t : TypeId) (six : Bool) (B : Nat → Int) (n : Int) : PfBox (w.alloc (.cells #[.bool six, .int .u8 (B 0), .int .u8 (B 1), .int .u8 (B 2), .int .u8 (B 3), .int .u8 (B 4), .int .u8 (B 5), .int .u8 (B 6), .int .u8 (B 7), .int .u8 (B 8), .int .u8 (B 9), .int .u8 (B 10), .int .u8 (B 11), .int .u8 (B 12), .int .u8 (B 13), .int .u8 (B 14), .int .u8 (B 15), .int .i64 n] t)) w.heap.size t six B n := ⟨heap_alloc_new w _⟩
theorem PfBox.alloc {w : World} {b : Nat} {t : TypeId} {six : Bool} {B : Nat → Int} {n : Int} (h : PfBox w b t six B n) (o : Obj) : PfBox (w.alloc o) b t six B n := h.below (Below.all (Below.refl _ _) _)
theorem PfBox.congr {w : World} {b : Nat} {t : TypeId} {six : Bool} {B C : Nat → Int} {n : Int} (h : PfBox w b t six B n) (e : ∀ i, i < 16 → B i = C i) : PfBox w b t six C n := by
  refine ⟨h.heap.trans ?_⟩
  rw [e 0 (by omega), e 1 (by omega), e 2 (by omega), e 3 (by omega), e 4 (by omega), e 5 (by omega), e 6 (by omega), e 7 (by omega), e 8 (by omega), e 9 (by omega), e 10 (by omega), e 11 (by omega), e 12 (by omega), e 13 (by omega), e 14 (by omega), e 15 (by omega)]
theorem PfBox.set {w : World} {b : Nat} {t : TypeId} {six : Bool} {B : Nat → Int} {n : Int} (h : PfBox w b t six B n) (j : Nat) (hj : j < 16) (v : Int) : PfBox (w.setCell ⟨b, 1 + j, none⟩ (.int .u8 v)) b t six (fun i => if i = j then v else B i) n := by
  refine ⟨(heap_setCell_same _ _ _ _ _ _ h.heap).trans ?_⟩
  rcases j with _ | _ | _ | _ | _ | _ | _ | _ | _ | _ | _ | _ | _ | _ | _ | _ | j
  all_goals first | rfl | omega
theorem pf_congr {six : Bool} {B C : Nat → Int} {n : Int} (e : ∀ i, i < 16 → B i = C i) : pfV six B n = pfV six C n := by
  unfold pfV
  rw [e 0 (by omega), e 1 (by omega), e 2 (by omega), e 3 (by omega), e 4 (by omega), e 5 (by omega), e 6 (by omega), e 7 (by omega), e 8 (by omega), e 9 (by omega), e 10 (by omega), e 11 (by omega), e 12 (by omega), e 13 (by omega), e 14 (by omega), e 15 (by omega)]

/-! What functions hand back: an address (a prefix) that lies in memory, and a slot. -/
section
variable {fn : Func} {p q : Tmp}
theorem results_ad2 (t : TypeId) (fs : Array Field) (hu : Tryd.prog.underlying t = some (.struct fs)) (hi : (Tryd.prog.info? t).map (·.size) = some 17)
    (h : fn.results = #[.cell p t, .tmp q]) (tmps : Array Value) (w : World) (b : Nat) (v : Value) {six : Bool} {B : Nat → Int}
    (hp : tmps.getD p undef = .pointer (some ⟨b, 0, none⟩)) (hq : tmps.getD q undef = v) (hc : partOf w b 0 17 = #[.bool six, .int .u8 (B 0), .int .u8 (B 1), .int .u8 (B 2), .int .u8 (B 3), .int .u8 (B 4), .int .u8 (B 5), .int .u8 (B 6), .int .u8 (B 7), .int .u8 (B 8), .int .u8 (B 9), .int .u8 (B 10), .int .u8 (B 11), .int .u8 (B 12), .int .u8 (B 13), .int .u8 (B 14), .int .u8 (B 15)]) : (results fn tmps).run Tryd.prog w = .ok (.tuple #[adV six B, v]) w :=
  results_part2 h tmps w b 17 _ v hu rfl hi hp hq _ hc rfl
theorem results_pf2 (t : TypeId) (fs : Array Field) (hu : Tryd.prog.underlying t = some (.struct fs)) (hi : (Tryd.prog.info? t).map (·.size) = some 18)
    (h : fn.results = #[.cell p t, .tmp q]) (tmps : Array Value) (w : World) (b : Nat) (v : Value) {six : Bool} {B : Nat → Int} {n : Int}
    (hp : tmps.getD p undef = .pointer (some ⟨b, 0, none⟩)) (hq : tmps.getD q undef = v) (hc : partOf w b 0 18 = #[.bool six, .int .u8 (B 0), .int .u8 (B 1), .int .u8 (B 2), .int .u8 (B 3), .int .u8 (B 4), .int .u8 (B 5), .int .u8 (B 6), .int .u8 (B 7), .int .u8 (B 8), .int .u8 (B 9), .int .u8 (B 10), .int .u8 (B 11), .int .u8 (B 12), .int .u8 (B 13), .int .u8 (B 14), .int .u8 (B 15), .int .i64 n]) : (results fn tmps).run Tryd.prog w = .ok (.tuple #[pfV six B n, v]) w :=
  results_part2 h tmps w b 18 _ v hu rfl hi hp hq _ hc rfl
end
end Go.Proofs.YtcadpcppnllhnaaDoor
