/- Walk over the law that tells. -/
import Derived.Test.YtoehbcbdkahjpaaG
namespace Go.Proofs.Ytoehbcbdkahjpaa
open Go.RowKit

set_option maxRecDepth 100000 in
set_option maxHeartbeats 1000000 in
theorem lawTells_any (f s z p b : Int) (w : World) (h0 : 0 ≤ p) :
    Calls Try.prog 3 #[.agg #[.int .i64 f, .int .i64 s, .int .i64 z], .int .u64 p, .int .i64 b] w (RetAt w (.bool true)) := by
  go_enter Try.func3, Try.ntmps3
  go_wp2_with fail
  refine Calls.later (ref_any _ _ _ _) ?_
  intro x
  have hz : w.heap.size < x.world.heap.size := by simp [go_sem]
  go_wp2_with fail
  refine Calls.fresh (fun w1 => Below w.heap.size w w1 ∧ w.heap.size < w1.heap.size ∧ x.world.heap.size < w1.heap.size ∧
    w1.cell? ⟨w.heap.size, 0, none⟩ = some (.int .i64 f) ∧ w1.cell? ⟨w.heap.size, 1, none⟩ = some (.int .i64 s) ∧ w1.cell? ⟨w.heap.size, 2, none⟩ = some (.int .i64 z) ∧
    w1.cell? ⟨x.world.heap.size, 0, none⟩ = some (.int .i64 f) ∧ w1.cell? ⟨x.world.heap.size, 1, none⟩ = some (.int .i64 s) ∧ w1.cell? ⟨x.world.heap.size, 2, none⟩ = some (.int .i64 z)) ?_ ?_
  · refine ⟨?_, ?_, ?_, ?_, ?_, ?_, ?_, ?_, ?_⟩
    case refine_1 => repeat' (first | (refine Later.to _ ?_ ?_) | go_grown | (simp [go_sem]; done))
    all_goals first | go_cell | (simp [go_sem]; done) | (simp; omega)
  generalize x.world.heap.size = B1
  rintro w1 ⟨hb, z0, z1, c0, c1, c2, e0, e1, e2⟩
  refine Calls.later (segment_any _ _ _ _ _ h0) ?_
  intro x
  go_wp2_with fail
  refine Calls.later1 (refSegment_any _ _ _ _ _ h0) ?_
  intro x
  go_wp2_with fail
  refine Calls.later1 (start_any _ _ _ _ _ _ h0) ?_
  intro x
  go_wp2_with fail
  refine Calls.later1 (refStart_any _ _ _ _ _ _ h0) ?_
  intro x
  go_wp2_with fail
  go_loopw [16] (fun i wr => ∃ k : Nat, k ≤ 2 ∧ i = .int .i64 k ∧ ∃ u : Later w1, wr = u.world) (fun i _ => 2 - (intOf i).toNat)
  case atStart => exact ⟨0, by omega, rfl, x, rfl⟩
  case round =>
    obtain ⟨k, hk, rfl, u, rfl⟩ := hrel
    by_cases hlt : k < 2
    · by_cases hm : mayB f s z p = true
      · obtain ⟨a1, a2⟩ := at_bd f s z p h0 hm
        by_cases ha : atN f s z p = 0
        · have HA := Lib.hid ha
          clear ha
          go_wp2_with fail
          refine Calls.row1a (starts_one f s z p _ h0 hm HA.out) ?_
          intro y
          have hy : w.heap.size < y.world.heap.size := by simp [go_sem, z0]
          have hy1 : B1 < y.world.heap.size := by simp [go_sem, z1]
          go_wp2_with fail
          refine Calls.row2a (refStarts_one f s z p _ h0 hm HA.out) ?_
          intro v
          go_wp2_with fail
          refine Calls.later2 (same_one p _ _ _ (by go_cell) (by go_cell) (by simp [go_sem]; done) (by simp; done)) ?_
          intro v
          go_wp2_with fail
          refine wp_loop_rounds 2 ?_
          rw [rounds_succ]
          go_wp2_with fail
          rw [rounds_succ]
          go_wp2_with fail
          go_roundw
          case rel => exact ⟨k + 1, by omega, by go_num, ⟨_, Below.setCell ((y.below.alloc y.below.size _).trans (v.below.mono (by have := y.below.size; simp; omega))) y.below.size _⟩, rfl⟩
          case measure => simp [intOf]; omega
        · have ha : 0 < atN f s z p := by omega
          go_wp2_with fail
          refine Calls.row1b (starts_two f s z p _ h0 hm ha) ?_
          intro y
          have hy : w.heap.size < y.world.heap.size := by simp [go_sem, z0]
          have hy1 : B1 < y.world.heap.size := by simp [go_sem, z1]
          go_wp2_with fail
          refine Calls.row2b (refStarts_two f s z p _ h0 hm ha) ?_
          intro v
          go_wp2_with fail
          refine Calls.later2 (same_two p (nextN f s z p) _ _ _ (by go_cell) (by go_cell) (by go_cell) (by go_cell) (by simp [go_sem]; done) (by simp; done)) ?_
          intro v
          go_wp2_with fail
          refine wp_loop_rounds 3 ?_
          rw [rounds_succ]
          go_wp2_with fail
          rw [rounds_succ]
          go_wp2_with fail
          rw [rounds_succ]
          go_wp2_with fail
          go_roundw
          case rel => exact ⟨k + 1, by omega, by go_num, ⟨_, Below.setCell (Below.setCell ((y.below.alloc y.below.size _).trans (v.below.mono (by have := y.below.size; simp; omega))) y.below.size _) y.below.size _⟩, rfl⟩
          case measure => simp [intOf]; omega
      · go_wp2_with fail
        refine Calls.later1 (starts_none f s z p _ h0 hm) ?_
        intro y
        go_wp2_with fail
        refine Calls.later1 (refStarts_none f s z p _ h0 hm) ?_
        intro y
        go_wp2_with fail
        refine Calls.later1 (same_nil _) ?_
        intro y
        go_wp2_with fail
        refine wp_loop_rounds 1 ?_
        rw [rounds_succ]
        go_wp2_with fail
        go_roundw
        case rel => exact ⟨k + 1, by omega, by go_num, ⟨_, y.below⟩, rfl⟩
        case measure => simp [intOf]; omega
    · go_wp2_with fail
      refine wp_region_later1 (by kernel_rfl) (by kernel_rfl) ?_
      repeat go_big_quiet_step (first
        | (go_at_call 15; exact later_call (right_any _ _ _ _)) | (go_at_call 16; exact later_call (refRight_any _ _ _ _))
        | (go_at_call 17; exact later_call (blocks_any _ _ _ _)) | (go_at_call 18; exact later_call (refBlocks_any _ _ _ _))
        | (go_at_call 19; exact later_call (place_any _ _ _ _ _ h0)) | (go_at_call 20; exact later_call (refPlace_any _ _ _ _ _ h0))
        | (go_at_call 21; exact later_call (works_any _)))
      refine wpQuiet_nil ?_
      intro v
      go_wp2_with fail
      go_ret
      exact .mk rfl (hb.trans (v.below.mono hb.size))
end Go.Proofs.Ytoehbcbdkahjpaa
