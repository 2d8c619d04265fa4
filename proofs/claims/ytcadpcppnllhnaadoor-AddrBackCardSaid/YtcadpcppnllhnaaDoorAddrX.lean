/- The walk over the chapter's examples (works). -/
import Derived.Test.YtcadpcppnllhnaaDoorAddrR
import Derived.Test.YtcadpcppnllhnaaDoorAddrW
set_option linter.unusedSimpArgs false
set_option linter.unusedVariables false
namespace Go.Proofs.YtcadpcppnllhnaaDoor
open Go.RowKit

theorem ex1 : fourL [49, 48, 46, 48, 46, 48, 46, 50, 53, 53] = some [10, 0, 0, 255] := by decide +kernel
theorem ex2a : fourL [50, 48, 48, 49, 58, 68, 66, 56, 58, 48, 58, 48, 58, 49, 58, 48, 58, 48, 58, 49] = none := by decide +kernel
theorem ex2b : sixL [50, 48, 48, 49, 58, 68, 66, 56, 58, 48, 58, 48, 58, 49, 58, 48, 58, 48, 58, 49] = some [8193, 3512, 0, 0, 1, 0, 0, 1] := by decide +kernel
theorem ex3a : fourL [49, 58, 58] = none := by decide +kernel
theorem ex3b : sixL [49, 58, 58] = some [1, 0, 0, 0, 0, 0, 0, 0] := by decide +kernel
theorem ex4a : fourL [48, 49, 46, 50, 46, 51, 46, 52] = none := by decide +kernel
theorem ex4b : sixL [48, 49, 46, 50, 46, 51, 46, 52] = none := by decide +kernel
theorem ex5a : fourL [49, 58, 58, 50, 58, 58, 51] = none := by decide +kernel
theorem ex5b : sixL [49, 58, 58, 50, 58, 58, 51] = none := by decide +kernel
theorem ex6a : fourL [49, 48, 46, 48, 46, 48, 46, 49] = some [10, 0, 0, 1] := by decide +kernel
theorem ex6b : decL 129 [56] = some 8 := by decide +kernel
theorem ex6c : Lib.cut [49, 48, 46, 48, 46, 48, 46, 49, 47, 56] [47] = ([49, 48, 46, 48, 46, 48, 46, 49], [56], true) := by decide +kernel
theorem ex6d : rightPB false (fourB [10, 0, 0, 1]) 8 = false := by decide +kernel
theorem ex6 : ppL [49, 48, 46, 48, 46, 48, 46, 49, 47, 56] = none := by
  unfold ppL
  rw [ex6c, parseL_of, ex6a, ex6b]
  show (if rightPB false (fourB [10, 0, 0, 1]) 8 = true then some (false, fourB [10, 0, 0, 1], 8) else none) = none
  rw [ex6d]; rfl
theorem ex2t : adText true (sixB [8193, 3512, 0, 0, 1, 0, 0, 1]) = [50, 48, 48, 49, 58, 100, 98, 56, 58, 58, 49, 58, 48, 58, 48, 58, 49] := by decide +kernel
theorem exc1 (w : World) (h : Env w) : Calls Tryd.prog 7 #[.string ⟨#[49, 48, 46, 48, 46, 48, 46, 50, 53, 53]⟩] w (RetAt w (.tuple #[.agg #[.bool false, .int .u8 10, .int .u8 0, .int .u8 0, .int .u8 255, .int .u8 0, .int .u8 0, .int .u8 0, .int .u8 0, .int .u8 0, .int .u8 0, .int .u8 0, .int .u8 0, .int .u8 0, .int .u8 0, .int .u8 0, .int .u8 0], .int .i64 0])) := by
  have h1 := parse_any ⟨#[49, 48, 46, 48, 46, 48, 46, 50, 53, 53]⟩ w (by decide) h
  rw [show (⟨#[49, 48, 46, 48, 46, 48, 46, 50, 53, 53]⟩ : ByteArray).data.toList = [49, 48, 46, 48, 46, 48, 46, 50, 53, 53] from rfl, parseL_of, ex1] at h1
  exact h1
theorem exc2 (w : World) (h : Env w) : Calls Tryd.prog 7 #[.string ⟨#[50, 48, 48, 49, 58, 68, 66, 56, 58, 48, 58, 48, 58, 49, 58, 48, 58, 48, 58, 49]⟩] w (RetAt w (.tuple #[.agg #[.bool true, .int .u8 32, .int .u8 1, .int .u8 13, .int .u8 184, .int .u8 0, .int .u8 0, .int .u8 0, .int .u8 0, .int .u8 0, .int .u8 1, .int .u8 0, .int .u8 0, .int .u8 0, .int .u8 0, .int .u8 0, .int .u8 1], .int .i64 0])) := by
  have h1 := parse_any ⟨#[50, 48, 48, 49, 58, 68, 66, 56, 58, 48, 58, 48, 58, 49, 58, 48, 58, 48, 58, 49]⟩ w (by decide) h
  rw [show (⟨#[50, 48, 48, 49, 58, 68, 66, 56, 58, 48, 58, 48, 58, 49, 58, 48, 58, 48, 58, 49]⟩ : ByteArray).data.toList = [50, 48, 48, 49, 58, 68, 66, 56, 58, 48, 58, 48, 58, 49, 58, 48, 58, 48, 58, 49] from rfl, parseL_of, ex2a, ex2b] at h1
  exact h1
theorem exc3 (w : World) (h : Env w) : Calls Tryd.prog 7 #[.string ⟨#[49, 58, 58]⟩] w (RetAt w (.tuple #[.agg #[.bool true, .int .u8 0, .int .u8 1, .int .u8 0, .int .u8 0, .int .u8 0, .int .u8 0, .int .u8 0, .int .u8 0, .int .u8 0, .int .u8 0, .int .u8 0, .int .u8 0, .int .u8 0, .int .u8 0, .int .u8 0, .int .u8 0], .int .i64 0])) := by
  have h1 := parse_any ⟨#[49, 58, 58]⟩ w (by decide) h
  rw [show (⟨#[49, 58, 58]⟩ : ByteArray).data.toList = [49, 58, 58] from rfl, parseL_of, ex3a, ex3b] at h1
  exact h1
theorem exc4 (w : World) (h : Env w) : Calls Tryd.prog 7 #[.string ⟨#[48, 49, 46, 50, 46, 51, 46, 52]⟩] w (RetAt w (.tuple #[.agg #[.bool false, .int .u8 0, .int .u8 0, .int .u8 0, .int .u8 0, .int .u8 0, .int .u8 0, .int .u8 0, .int .u8 0, .int .u8 0, .int .u8 0, .int .u8 0, .int .u8 0, .int .u8 0, .int .u8 0, .int .u8 0, .int .u8 0], .int .i64 40])) := by
  have h1 := parse_any ⟨#[48, 49, 46, 50, 46, 51, 46, 52]⟩ w (by decide) h
  rw [show (⟨#[48, 49, 46, 50, 46, 51, 46, 52]⟩ : ByteArray).data.toList = [48, 49, 46, 50, 46, 51, 46, 52] from rfl, parseL_of, ex4a, ex4b] at h1
  exact h1
theorem exc5 (w : World) (h : Env w) : Calls Tryd.prog 7 #[.string ⟨#[49, 58, 58, 50, 58, 58, 51]⟩] w (RetAt w (.tuple #[.agg #[.bool false, .int .u8 0, .int .u8 0, .int .u8 0, .int .u8 0, .int .u8 0, .int .u8 0, .int .u8 0, .int .u8 0, .int .u8 0, .int .u8 0, .int .u8 0, .int .u8 0, .int .u8 0, .int .u8 0, .int .u8 0, .int .u8 0], .int .i64 40])) := by
  have h1 := parse_any ⟨#[49, 58, 58, 50, 58, 58, 51]⟩ w (by decide) h
  rw [show (⟨#[49, 58, 58, 50, 58, 58, 51]⟩ : ByteArray).data.toList = [49, 58, 58, 50, 58, 58, 51] from rfl, parseL_of, ex5a, ex5b] at h1
  exact h1
theorem exc6 (w : World) (h : Env w) : Calls Tryd.prog 9 #[.string ⟨#[49, 48, 46, 48, 46, 48, 46, 49, 47, 56]⟩] w (RetAt w (.tuple #[.agg #[.bool false, .int .u8 0, .int .u8 0, .int .u8 0, .int .u8 0, .int .u8 0, .int .u8 0, .int .u8 0, .int .u8 0, .int .u8 0, .int .u8 0, .int .u8 0, .int .u8 0, .int .u8 0, .int .u8 0, .int .u8 0, .int .u8 0, .int .i64 0], .int .i64 40])) := by
  have h1 := pparse_any ⟨#[49, 48, 46, 48, 46, 48, 46, 49, 47, 56]⟩ w (by decide) h
  rw [show (⟨#[49, 48, 46, 48, 46, 48, 46, 49, 47, 56]⟩ : ByteArray).data.toList = [49, 48, 46, 48, 46, 48, 46, 49, 47, 56] from rfl, ex6] at h1
  exact h1
theorem exc7 (w : World) (h : Env w) : Calls Tryd.prog 21 #[.agg #[.bool true, .int .u8 32, .int .u8 1, .int .u8 13, .int .u8 184, .int .u8 0, .int .u8 0, .int .u8 0, .int .u8 0, .int .u8 0, .int .u8 1, .int .u8 0, .int .u8 0, .int .u8 0, .int .u8 0, .int .u8 0, .int .u8 1]] w (RetAt w (.string ⟨#[50, 48, 48, 49, 58, 100, 98, 56, 58, 58, 49, 58, 48, 58, 48, 58, 49]⟩)) := by
  have h1 := text_any true (sixB [8193, 3512, 0, 0, 1, 0, 0, 1]) (sixB_u8 (by decide)) w h
  rw [ex2t] at h1
  exact h1

theorem cell_up {w w' : World} (h : Below w.heap.size w w') {b : Nat} {cs : Array Value} {t : TypeId} (hc : w.heap[b]? = some (.cells cs t (0, 0))) : w'.heap[b]? = some (.cells cs t (0, 0)) := (h.block _ (Array.getElem?_eq_some_iff.1 hc).1).trans hc

set_option maxRecDepth 20000 in
set_option maxHeartbeats 16000000 in
theorem works_any (w : World) (henv : Env w) : Calls Tryd.prog 6 #[] w (RetAt w (.bool true)) := by
  have HE := Lib.hid henv
  clear henv
  have he1 : eqL [10, 0, 0, 255, 0, 0, 0, 0, 0, 0, 0, 0, 0, 0, 0, 0] [10, 0, 0, 255, 0, 0, 0, 0, 0, 0, 0, 0, 0, 0, 0, 0] = true := by decide
  have he3 : eqL [0, 1, 0, 0, 0, 0, 0, 0, 0, 0, 0, 0, 0, 0, 0, 0] [0, 1, 0, 0, 0, 0, 0, 0, 0, 0, 0, 0, 0, 0, 0, 0] = true := by decide
  go_enter Tryd.func6, Tryd.ntmps6
  go_wp2_with fail
  refine Calls.mono (exc1 _ (HE.out)) ?_
  rintro e w1 ⟨rfl, hb⟩
  have HB1 : Hid (Below w.heap.size w (w1.alloc (.cells #[.bool false, .int .u8 10, .int .u8 0, .int .u8 0, .int .u8 255, .int .u8 0, .int .u8 0, .int .u8 0, .int .u8 0, .int .u8 0, .int .u8 0, .int .u8 0, .int .u8 0, .int .u8 0, .int .u8 0, .int .u8 0, .int .u8 0] 25))) := Lib.hid (Below.all (Below.via (Below.refl _ _) hb) _)
  have hz1 : w1.heap.size < (w1.alloc (.cells #[.bool false, .int .u8 10, .int .u8 0, .int .u8 0, .int .u8 255, .int .u8 0, .int .u8 0, .int .u8 0, .int .u8 0, .int .u8 0, .int .u8 0, .int .u8 0, .int .u8 0, .int .u8 0, .int .u8 0, .int .u8 0, .int .u8 0] 25)).heap.size := by simp
  have HC1 : Hid ((w1.alloc (.cells #[.bool false, .int .u8 10, .int .u8 0, .int .u8 0, .int .u8 255, .int .u8 0, .int .u8 0, .int .u8 0, .int .u8 0, .int .u8 0, .int .u8 0, .int .u8 0, .int .u8 0, .int .u8 0, .int .u8 0, .int .u8 0, .int .u8 0] 25)).heap[w1.heap.size]? = some (.cells #[.bool false, .int .u8 10, .int .u8 0, .int .u8 0, .int .u8 255, .int .u8 0, .int .u8 0, .int .u8 0, .int .u8 0, .int .u8 0, .int .u8 0, .int .u8 0, .int .u8 0, .int .u8 0, .int .u8 0, .int .u8 0, .int .u8 0] 25 (0, 0))) := Lib.hid (heap_alloc_new w1 _)
  clear hb
  go_wp2_with fail
  generalize w1.alloc (.cells #[.bool false, .int .u8 10, .int .u8 0, .int .u8 0, .int .u8 255, .int .u8 0, .int .u8 0, .int .u8 0, .int .u8 0, .int .u8 0, .int .u8 0, .int .u8 0, .int .u8 0, .int .u8 0, .int .u8 0, .int .u8 0, .int .u8 0] 25) = v1 at *
  refine Calls.mono (exc2 _ (HE.out.below HB1.out)) ?_
  rintro e w2 ⟨rfl, hb⟩
  have HB2 : Hid (Below w.heap.size w (w2.alloc (.cells #[.bool true, .int .u8 32, .int .u8 1, .int .u8 13, .int .u8 184, .int .u8 0, .int .u8 0, .int .u8 0, .int .u8 0, .int .u8 0, .int .u8 1, .int .u8 0, .int .u8 0, .int .u8 0, .int .u8 0, .int .u8 0, .int .u8 1] 25))) := Lib.hid (Below.all (Below.via (HB1.out) hb) _)
  have hz2 : w2.heap.size < (w2.alloc (.cells #[.bool true, .int .u8 32, .int .u8 1, .int .u8 13, .int .u8 184, .int .u8 0, .int .u8 0, .int .u8 0, .int .u8 0, .int .u8 0, .int .u8 1, .int .u8 0, .int .u8 0, .int .u8 0, .int .u8 0, .int .u8 0, .int .u8 1] 25)).heap.size := by simp
  have HC1 := Lib.hid (cell_up (Below.all hb (.cells #[.bool true, .int .u8 32, .int .u8 1, .int .u8 13, .int .u8 184, .int .u8 0, .int .u8 0, .int .u8 0, .int .u8 0, .int .u8 0, .int .u8 1, .int .u8 0, .int .u8 0, .int .u8 0, .int .u8 0, .int .u8 0, .int .u8 1] 25)) HC1.out)
  have HC2 : Hid ((w2.alloc (.cells #[.bool true, .int .u8 32, .int .u8 1, .int .u8 13, .int .u8 184, .int .u8 0, .int .u8 0, .int .u8 0, .int .u8 0, .int .u8 0, .int .u8 1, .int .u8 0, .int .u8 0, .int .u8 0, .int .u8 0, .int .u8 0, .int .u8 1] 25)).heap[w2.heap.size]? = some (.cells #[.bool true, .int .u8 32, .int .u8 1, .int .u8 13, .int .u8 184, .int .u8 0, .int .u8 0, .int .u8 0, .int .u8 0, .int .u8 0, .int .u8 1, .int .u8 0, .int .u8 0, .int .u8 0, .int .u8 0, .int .u8 0, .int .u8 1] 25 (0, 0))) := Lib.hid (heap_alloc_new w2 _)
  clear hb
  go_wp2_with fail
  generalize w2.alloc (.cells #[.bool true, .int .u8 32, .int .u8 1, .int .u8 13, .int .u8 184, .int .u8 0, .int .u8 0, .int .u8 0, .int .u8 0, .int .u8 0, .int .u8 1, .int .u8 0, .int .u8 0, .int .u8 0, .int .u8 0, .int .u8 0, .int .u8 1] 25) = v2 at *
  refine Calls.mono (exc3 _ (HE.out.below HB2.out)) ?_
  rintro e w3 ⟨rfl, hb⟩
  have HB3 : Hid (Below w.heap.size w (w3.alloc (.cells #[.bool true, .int .u8 0, .int .u8 1, .int .u8 0, .int .u8 0, .int .u8 0, .int .u8 0, .int .u8 0, .int .u8 0, .int .u8 0, .int .u8 0, .int .u8 0, .int .u8 0, .int .u8 0, .int .u8 0, .int .u8 0, .int .u8 0] 25))) := Lib.hid (Below.all (Below.via (HB2.out) hb) _)
  have hz3 : w3.heap.size < (w3.alloc (.cells #[.bool true, .int .u8 0, .int .u8 1, .int .u8 0, .int .u8 0, .int .u8 0, .int .u8 0, .int .u8 0, .int .u8 0, .int .u8 0, .int .u8 0, .int .u8 0, .int .u8 0, .int .u8 0, .int .u8 0, .int .u8 0, .int .u8 0] 25)).heap.size := by simp
  have HC1 := Lib.hid (cell_up (Below.all hb (.cells #[.bool true, .int .u8 0, .int .u8 1, .int .u8 0, .int .u8 0, .int .u8 0, .int .u8 0, .int .u8 0, .int .u8 0, .int .u8 0, .int .u8 0, .int .u8 0, .int .u8 0, .int .u8 0, .int .u8 0, .int .u8 0, .int .u8 0] 25)) HC1.out)
  have HC2 := Lib.hid (cell_up (Below.all hb (.cells #[.bool true, .int .u8 0, .int .u8 1, .int .u8 0, .int .u8 0, .int .u8 0, .int .u8 0, .int .u8 0, .int .u8 0, .int .u8 0, .int .u8 0, .int .u8 0, .int .u8 0, .int .u8 0, .int .u8 0, .int .u8 0, .int .u8 0] 25)) HC2.out)
  have HC3 : Hid ((w3.alloc (.cells #[.bool true, .int .u8 0, .int .u8 1, .int .u8 0, .int .u8 0, .int .u8 0, .int .u8 0, .int .u8 0, .int .u8 0, .int .u8 0, .int .u8 0, .int .u8 0, .int .u8 0, .int .u8 0, .int .u8 0, .int .u8 0, .int .u8 0] 25)).heap[w3.heap.size]? = some (.cells #[.bool true, .int .u8 0, .int .u8 1, .int .u8 0, .int .u8 0, .int .u8 0, .int .u8 0, .int .u8 0, .int .u8 0, .int .u8 0, .int .u8 0, .int .u8 0, .int .u8 0, .int .u8 0, .int .u8 0, .int .u8 0, .int .u8 0] 25 (0, 0))) := Lib.hid (heap_alloc_new w3 _)
  clear hb
  go_wp2_with fail
  generalize w3.alloc (.cells #[.bool true, .int .u8 0, .int .u8 1, .int .u8 0, .int .u8 0, .int .u8 0, .int .u8 0, .int .u8 0, .int .u8 0, .int .u8 0, .int .u8 0, .int .u8 0, .int .u8 0, .int .u8 0, .int .u8 0, .int .u8 0, .int .u8 0] 25) = v3 at *
  refine Calls.mono (exc4 _ (HE.out.below HB3.out)) ?_
  rintro e w4 ⟨rfl, hb⟩
  have HB4 : Hid (Below w.heap.size w (w4.alloc (.cells #[.bool false, .int .u8 0, .int .u8 0, .int .u8 0, .int .u8 0, .int .u8 0, .int .u8 0, .int .u8 0, .int .u8 0, .int .u8 0, .int .u8 0, .int .u8 0, .int .u8 0, .int .u8 0, .int .u8 0, .int .u8 0, .int .u8 0] 25))) := Lib.hid (Below.all (Below.via (HB3.out) hb) _)
  have hz4 : w4.heap.size < (w4.alloc (.cells #[.bool false, .int .u8 0, .int .u8 0, .int .u8 0, .int .u8 0, .int .u8 0, .int .u8 0, .int .u8 0, .int .u8 0, .int .u8 0, .int .u8 0, .int .u8 0, .int .u8 0, .int .u8 0, .int .u8 0, .int .u8 0, .int .u8 0] 25)).heap.size := by simp
  have HC1 := Lib.hid (cell_up (Below.all hb (.cells #[.bool false, .int .u8 0, .int .u8 0, .int .u8 0, .int .u8 0, .int .u8 0, .int .u8 0, .int .u8 0, .int .u8 0, .int .u8 0, .int .u8 0, .int .u8 0, .int .u8 0, .int .u8 0, .int .u8 0, .int .u8 0, .int .u8 0] 25)) HC1.out)
  have HC2 := Lib.hid (cell_up (Below.all hb (.cells #[.bool false, .int .u8 0, .int .u8 0, .int .u8 0, .int .u8 0, .int .u8 0, .int .u8 0, .int .u8 0, .int .u8 0, .int .u8 0, .int .u8 0, .int .u8 0, .int .u8 0, .int .u8 0, .int .u8 0, .int .u8 0, .int .u8 0] 25)) HC2.out)
  have HC3 := Lib.hid (cell_up (Below.all hb (.cells #[.bool false, .int .u8 0, .int .u8 0, .int .u8 0, .int .u8 0, .int .u8 0, .int .u8 0, .int .u8 0, .int .u8 0, .int .u8 0, .int .u8 0, .int .u8 0, .int .u8 0, .int .u8 0, .int .u8 0, .int .u8 0, .int .u8 0] 25)) HC3.out)
  clear hb
  go_wp2_with fail
  generalize w4.alloc (.cells #[.bool false, .int .u8 0, .int .u8 0, .int .u8 0, .int .u8 0, .int .u8 0, .int .u8 0, .int .u8 0, .int .u8 0, .int .u8 0, .int .u8 0, .int .u8 0, .int .u8 0, .int .u8 0, .int .u8 0, .int .u8 0, .int .u8 0] 25) = v4 at *
  refine Calls.mono (exc5 _ (HE.out.below HB4.out)) ?_
  rintro e w5 ⟨rfl, hb⟩
  have HB5 : Hid (Below w.heap.size w (w5.alloc (.cells #[.bool false, .int .u8 0, .int .u8 0, .int .u8 0, .int .u8 0, .int .u8 0, .int .u8 0, .int .u8 0, .int .u8 0, .int .u8 0, .int .u8 0, .int .u8 0, .int .u8 0, .int .u8 0, .int .u8 0, .int .u8 0, .int .u8 0] 25))) := Lib.hid (Below.all (Below.via (HB4.out) hb) _)
  have hz5 : w5.heap.size < (w5.alloc (.cells #[.bool false, .int .u8 0, .int .u8 0, .int .u8 0, .int .u8 0, .int .u8 0, .int .u8 0, .int .u8 0, .int .u8 0, .int .u8 0, .int .u8 0, .int .u8 0, .int .u8 0, .int .u8 0, .int .u8 0, .int .u8 0, .int .u8 0] 25)).heap.size := by simp
  have HC1 := Lib.hid (cell_up (Below.all hb (.cells #[.bool false, .int .u8 0, .int .u8 0, .int .u8 0, .int .u8 0, .int .u8 0, .int .u8 0, .int .u8 0, .int .u8 0, .int .u8 0, .int .u8 0, .int .u8 0, .int .u8 0, .int .u8 0, .int .u8 0, .int .u8 0, .int .u8 0] 25)) HC1.out)
  have HC2 := Lib.hid (cell_up (Below.all hb (.cells #[.bool false, .int .u8 0, .int .u8 0, .int .u8 0, .int .u8 0, .int .u8 0, .int .u8 0, .int .u8 0, .int .u8 0, .int .u8 0, .int .u8 0, .int .u8 0, .int .u8 0, .int .u8 0, .int .u8 0, .int .u8 0, .int .u8 0] 25)) HC2.out)
  have HC3 := Lib.hid (cell_up (Below.all hb (.cells #[.bool false, .int .u8 0, .int .u8 0, .int .u8 0, .int .u8 0, .int .u8 0, .int .u8 0, .int .u8 0, .int .u8 0, .int .u8 0, .int .u8 0, .int .u8 0, .int .u8 0, .int .u8 0, .int .u8 0, .int .u8 0, .int .u8 0] 25)) HC3.out)
  clear hb
  go_wp2_with fail
  generalize w5.alloc (.cells #[.bool false, .int .u8 0, .int .u8 0, .int .u8 0, .int .u8 0, .int .u8 0, .int .u8 0, .int .u8 0, .int .u8 0, .int .u8 0, .int .u8 0, .int .u8 0, .int .u8 0, .int .u8 0, .int .u8 0, .int .u8 0, .int .u8 0] 25) = v5 at *
  refine Calls.mono (exc6 _ (HE.out.below HB5.out)) ?_
  rintro e w6 ⟨rfl, hb⟩
  have HB6 : Hid (Below w.heap.size w (w6.alloc (.cells #[.bool false, .int .u8 0, .int .u8 0, .int .u8 0, .int .u8 0, .int .u8 0, .int .u8 0, .int .u8 0, .int .u8 0, .int .u8 0, .int .u8 0, .int .u8 0, .int .u8 0, .int .u8 0, .int .u8 0, .int .u8 0, .int .u8 0, .int .i64 0] 33))) := Lib.hid (Below.all (Below.via (HB5.out) hb) _)
  have hz6 : w6.heap.size < (w6.alloc (.cells #[.bool false, .int .u8 0, .int .u8 0, .int .u8 0, .int .u8 0, .int .u8 0, .int .u8 0, .int .u8 0, .int .u8 0, .int .u8 0, .int .u8 0, .int .u8 0, .int .u8 0, .int .u8 0, .int .u8 0, .int .u8 0, .int .u8 0, .int .i64 0] 33)).heap.size := by simp
  have HC1 := Lib.hid (cell_up (Below.all hb (.cells #[.bool false, .int .u8 0, .int .u8 0, .int .u8 0, .int .u8 0, .int .u8 0, .int .u8 0, .int .u8 0, .int .u8 0, .int .u8 0, .int .u8 0, .int .u8 0, .int .u8 0, .int .u8 0, .int .u8 0, .int .u8 0, .int .u8 0, .int .i64 0] 33)) HC1.out)
  have HC2 := Lib.hid (cell_up (Below.all hb (.cells #[.bool false, .int .u8 0, .int .u8 0, .int .u8 0, .int .u8 0, .int .u8 0, .int .u8 0, .int .u8 0, .int .u8 0, .int .u8 0, .int .u8 0, .int .u8 0, .int .u8 0, .int .u8 0, .int .u8 0, .int .u8 0, .int .u8 0, .int .i64 0] 33)) HC2.out)
  have HC3 := Lib.hid (cell_up (Below.all hb (.cells #[.bool false, .int .u8 0, .int .u8 0, .int .u8 0, .int .u8 0, .int .u8 0, .int .u8 0, .int .u8 0, .int .u8 0, .int .u8 0, .int .u8 0, .int .u8 0, .int .u8 0, .int .u8 0, .int .u8 0, .int .u8 0, .int .u8 0, .int .i64 0] 33)) HC3.out)
  clear hb
  have hp1 : partOf (w6.alloc (.cells #[.bool false, .int .u8 0, .int .u8 0, .int .u8 0, .int .u8 0, .int .u8 0, .int .u8 0, .int .u8 0, .int .u8 0, .int .u8 0, .int .u8 0, .int .u8 0, .int .u8 0, .int .u8 0, .int .u8 0, .int .u8 0, .int .u8 0, .int .i64 0] 33)) w1.heap.size 1 16 = #[.int .u8 10, .int .u8 0, .int .u8 0, .int .u8 255, .int .u8 0, .int .u8 0, .int .u8 0, .int .u8 0, .int .u8 0, .int .u8 0, .int .u8 0, .int .u8 0, .int .u8 0, .int .u8 0, .int .u8 0, .int .u8 0] := by rw [partOf_row _ _ _ _ _ _ _ HC1.out]; rfl
  have hp2 : partOf (w6.alloc (.cells #[.bool false, .int .u8 0, .int .u8 0, .int .u8 0, .int .u8 0, .int .u8 0, .int .u8 0, .int .u8 0, .int .u8 0, .int .u8 0, .int .u8 0, .int .u8 0, .int .u8 0, .int .u8 0, .int .u8 0, .int .u8 0, .int .u8 0, .int .i64 0] 33)) w2.heap.size 0 17 = #[.bool true, .int .u8 32, .int .u8 1, .int .u8 13, .int .u8 184, .int .u8 0, .int .u8 0, .int .u8 0, .int .u8 0, .int .u8 0, .int .u8 1, .int .u8 0, .int .u8 0, .int .u8 0, .int .u8 0, .int .u8 0, .int .u8 1] := by rw [partOf_row _ _ _ _ _ _ _ HC2.out]; rfl
  have hp3 : partOf (w6.alloc (.cells #[.bool false, .int .u8 0, .int .u8 0, .int .u8 0, .int .u8 0, .int .u8 0, .int .u8 0, .int .u8 0, .int .u8 0, .int .u8 0, .int .u8 0, .int .u8 0, .int .u8 0, .int .u8 0, .int .u8 0, .int .u8 0, .int .u8 0, .int .i64 0] 33)) w3.heap.size 0 17 = #[.bool true, .int .u8 0, .int .u8 1, .int .u8 0, .int .u8 0, .int .u8 0, .int .u8 0, .int .u8 0, .int .u8 0, .int .u8 0, .int .u8 0, .int .u8 0, .int .u8 0, .int .u8 0, .int .u8 0, .int .u8 0, .int .u8 0] := by rw [partOf_row _ _ _ _ _ _ _ HC3.out]; rfl
  have hq3 := (Array.getElem?_eq_some_iff.1 HC3.out).1
  go_wp2_with fail
  generalize w6.alloc (.cells #[.bool false, .int .u8 0, .int .u8 0, .int .u8 0, .int .u8 0, .int .u8 0, .int .u8 0, .int .u8 0, .int .u8 0, .int .u8 0, .int .u8 0, .int .u8 0, .int .u8 0, .int .u8 0, .int .u8 0, .int .u8 0, .int .u8 0, .int .i64 0] 33) = v6 at *
  refine Calls.later (exc7 _ (HE.out.below HB6.out)) ?_
  intro x
  go_wp2_with fail
  go_ret
  exact .mk rfl (HB6.out.trans (x.below.mono HB6.out.size))
end Go.Proofs.YtcadpcppnllhnaaDoor
