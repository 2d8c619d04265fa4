/- Walk over works: the chapter's examples. -/
import Derived.Test.YtnalnepjapelkaaGreatDoorA
import Derived.StillTailTactics
import Derived.Deep.RegionHeld3
set_option linter.unusedSimpArgs false
set_option linter.unusedVariables false
namespace Go.Proofs.YtnalnepjapelkaaGreatDoor
open Go.RowKit

def ex : Nat → Nat → Int
  | 0, 0 => 0
  | 0, 1 => 0
  | 0, 2 => 1
  | 0, 3 => 0
  | 0, 4 => 0
  | 0, 5 => 1
  | 1, 0 => 0
  | 1, 1 => 0
  | 1, 2 => 1
  | 1, 3 => 1
  | 1, 4 => 0
  | 1, 5 => 3
  | 2, 0 => 0
  | 2, 1 => 0
  | 2, 2 => 2
  | 2, 3 => 0
  | 2, 4 => 0
  | 2, 5 => 1
  | 3, 0 => 2
  | 3, 1 => 5
  | 3, 2 => 2
  | 3, 3 => 5
  | 3, 4 => 2
  | 3, 5 => 1
  | 4, 0 => 2
  | 4, 1 => 5
  | 4, 2 => 2
  | 4, 3 => 4
  | 4, 4 => 1
  | 4, 5 => 2
  | 5, 0 => 2
  | 5, 1 => 5
  | 5, 2 => 1
  | 5, 3 => 9
  | 5, 4 => 1
  | 5, 5 => 2
  | 6, 0 => 2
  | 6, 1 => 5
  | 6, 2 => 2
  | 6, 3 => 6
  | 6, 4 => 2
  | 6, 5 => 3
  | 7, 0 => 2
  | 7, 1 => 5
  | 7, 2 => 3
  | 7, 3 => 5
  | 7, 4 => 2
  | 7, 5 => 1
  | 8, 0 => 2
  | 8, 1 => 5
  | 8, 2 => 3
  | 8, 3 => 4
  | 8, 4 => 2
  | 8, 5 => 1
  | 9, 0 => 2
  | 9, 1 => 5
  | 9, 2 => 3
  | 9, 3 => 6
  | 9, 4 => 2
  | 9, 5 => 3
  | 10, 0 => 2
  | 10, 1 => 5
  | 10, 2 => 4
  | 10, 3 => 9
  | 10, 4 => 1
  | 10, 5 => 1
  | 11, 0 => 2
  | 11, 1 => 5
  | 11, 2 => 4
  | 11, 3 => 9
  | 11, 4 => 3
  | 11, 5 => 3
  | _, _ => 0
theorem ex_ok : ∀ i, i < 12 → verdictN (ex i 2) (ex i 3) (ex i 4) (ex i 0) (ex i 1) = ex i 5 ∧ (∀ j, j < 6 → 0 ≤ ex i j ∧ ex i j ≤ 9) := by decide +kernel

set_option maxRecDepth 100000 in
set_option maxHeartbeats 1000000 in
theorem works_any (w : World) : Calls Tryz.prog 4 #[] w (RetAt w (.bool true)) := by
  go_enter Tryz.func4, Tryz.ntmps4
  go_wp2_with fail
  refine Code.fresh (fun w1 => Below w.heap.size w w1 ∧ (∀ i, i < 12 → w1.cell? ⟨w.heap.size + 12, i, none⟩ = some (.slice (some ⟨w.heap.size + i, 0, none⟩) 6 6)) ∧
    (∀ i, i < 12 → ∀ j, j < 6 → w1.cell? ⟨w.heap.size + i, j, none⟩ = some (.int .u64 (ex i j))) ∧ w.heap.size + 12 < w1.heap.size) ?_ ?_
  · refine ⟨?_, ?_, ?_, ?_⟩
    · go_grown
    · intro i hi
      rcases (show i = 0 ∨ i = 1 ∨ i = 2 ∨ i = 3 ∨ i = 4 ∨ i = 5 ∨ i = 6 ∨ i = 7 ∨ i = 8 ∨ i = 9 ∨ i = 10 ∨ i = 11 by omega) with rfl | rfl | rfl | rfl | rfl | rfl | rfl | rfl | rfl | rfl | rfl | rfl <;> go_cell
    · intro i hi j hj
      rcases (show i = 0 ∨ i = 1 ∨ i = 2 ∨ i = 3 ∨ i = 4 ∨ i = 5 ∨ i = 6 ∨ i = 7 ∨ i = 8 ∨ i = 9 ∨ i = 10 ∨ i = 11 by omega) with rfl | rfl | rfl | rfl | rfl | rfl | rfl | rfl | rfl | rfl | rfl | rfl <;>
        rcases (show j = 0 ∨ j = 1 ∨ j = 2 ∨ j = 3 ∨ j = 4 ∨ j = 5 by omega) with rfl | rfl | rfl | rfl | rfl | rfl <;> (simp only [ex]; go_cell)
    · simp
  generalize hB : w.heap.size + 1 + 1 + 1 + 1 + 1 + 1 + 1 + 1 + 1 + 1 + 1 + 1 = B
  rintro w1 ⟨hb, h1, h2, hz⟩
  have hB' : w.heap.size + 12 = B := hB
  have HB := Lib.hid hB'
  clear hB hB'
  have H1 := Lib.hid h1; clear h1
  have H2 := Lib.hid h2; clear h2
  go_loopw [2] (fun t wr => ∃ k : Nat, k ≤ 12 ∧ t = .int .i64 k ∧ ∃ u : Later w1, wr = u.world) (fun t _ => 12 - (intOf t).toNat)
  case atStart => exact ⟨0, by omega, rfl, ⟨w1, Below.refl _ _⟩, rfl⟩
  case round =>
    obtain ⟨k, hk, rfl, u, rfl⟩ := hrel
    by_cases hlt : k < 12
    · have ho : u.world.cell? ⟨B, k, none⟩ = some (.slice (some ⟨w.heap.size + k, 0, none⟩) 6 6) := (u.cell _ _ hz).trans (H1.out k hlt)
      have hbk : w.heap.size + k < w1.heap.size := by have := HB.out; omega
      have r0 : u.world.cell? ⟨w.heap.size + k, 0, none⟩ = some (.int .u64 (ex k 0)) := (u.cell _ _ hbk).trans (H2.out k hlt 0 (by omega))
      have r1 : u.world.cell? ⟨w.heap.size + k, 1, none⟩ = some (.int .u64 (ex k 1)) := (u.cell _ _ hbk).trans (H2.out k hlt 1 (by omega))
      have r2 : u.world.cell? ⟨w.heap.size + k, 2, none⟩ = some (.int .u64 (ex k 2)) := (u.cell _ _ hbk).trans (H2.out k hlt 2 (by omega))
      have r3 : u.world.cell? ⟨w.heap.size + k, 3, none⟩ = some (.int .u64 (ex k 3)) := (u.cell _ _ hbk).trans (H2.out k hlt 3 (by omega))
      have r4 : u.world.cell? ⟨w.heap.size + k, 4, none⟩ = some (.int .u64 (ex k 4)) := (u.cell _ _ hbk).trans (H2.out k hlt 4 (by omega))
      have r5 : u.world.cell? ⟨w.heap.size + k, 5, none⟩ = some (.int .u64 (ex k 5)) := (u.cell _ _ hbk).trans (H2.out k hlt 5 (by omega))
      have hu : w.heap.size + k < u.world.heap.size := by have := u.below.size; omega
      obtain ⟨hv, hbd⟩ := ex_ok k hlt
      have b0 := hbd 0 (by omega)
      have b1 := hbd 1 (by omega)
      have b2 := hbd 2 (by omega)
      have b3 := hbd 3 (by omega)
      have b4 := hbd 4 (by omega)
      have b5 := hbd 5 (by omega)
      clear hbd
      generalize ex k 0 = x0 at *
      generalize ex k 1 = x1 at *
      generalize ex k 2 = x2 at *
      generalize ex k 3 = x3 at *
      generalize ex k 4 = x4 at *
      generalize ex k 5 = x5 at *
      generalize w.heap.size + k = R at *
      go_wp2_with fail
      go_region_held3 (fun w' => w'.cell? ⟨R, 2, none⟩ = some (.int .u64 x2) ∧ w'.cell? ⟨R, 3, none⟩ = some (.int .u64 x3) ∧ w'.cell? ⟨R, 4, none⟩ = some (.int .u64 x4)) (go_keep) (fail)
      go_wp2_with fail
      refine wp_region_later (by kernel_rfl) (by kernel_rfl) ?_
      repeat go_big_quiet_step ((go_at_call 10; exact later_call (verdict_any _ _ _ _ _ _ _ _ _)))
      refine wpQuiet_nil ?_
      intro x
      go_wp2_with fail
      go_roundw
      case rel =>
        refine ⟨k + 1, by omega, by go_num, ⟨_, ?_⟩, rfl⟩
        repeat' (first | (with_reducible assumption) | (with_reducible exact Below.refl _ _) | (with_reducible exact Later.below _) | (with_reducible refine Below.lat ?_) | (with_reducible refine Below.all ?_ _) | (with_reducible refine Below.drew ?_))
      case measure => simp [intOf]; omega
    · go_wp2_with fail
      go_ret
      exact .mk rfl (hb.trans (u.below.mono hb.size))
end Go.Proofs.YtnalnepjapelkaaGreatDoor
