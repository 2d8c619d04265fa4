/- Walks over the ring's small functions. -/
import Derived.Test.YtoehbcbdkahjpaaLater
namespace Go.Proofs.Ytoehbcbdkahjpaa
open Go.RowKit

def rightB (f s z : Int) : Bool := decide (0 ≤ f ∧ f ≤ 1024 ∧ 2 ≤ s ∧ s ≤ 64 ∧ 1 ≤ z ∧ z ≤ 1024 ∧ f + s * z ≤ 1024)

theorem rightB_eq (f s z : Int) (b : Bool) (h : b = true ↔ (0 ≤ f ∧ f ≤ 1024 ∧ 2 ≤ s ∧ s ≤ 64 ∧ 1 ≤ z ∧ z ≤ 1024 ∧ f + s * z ≤ 1024)) : b = rightB f s z := by
  rw [Bool.eq_iff_iff, h]; simp [rightB]

set_option maxHeartbeats 400000 in
theorem right_any (f s z : Int) (w : World) :
    Calls Try.prog 15 #[.agg #[.int .i64 f, .int .i64 s, .int .i64 z]] w (RetAt w (.bool (rightB f s z))) := by
  by_cases hr : 0 ≤ f ∧ f ≤ 1024 ∧ 2 ≤ s ∧ s ≤ 64 ∧ 1 ≤ z ∧ z ≤ 1024
  · obtain ⟨h1, h2, h3, h4, h5, h6⟩ := hr
    have b1 : s * z ≤ 64 * 1024 := Int.mul_le_mul h4 h6 (by omega) (by omega)
    have b2 : 0 ≤ s * z := Int.mul_nonneg (by omega) (by omega)
    go_enter Try.func15, Try.ntmps15
    go_wp2
    all_goals go_ret
    all_goals refine .mk (val_bool (rightB_eq _ _ _ _ ?_)) (by go_grown)
    all_goals (simp only [decide_eq_true_eq, Bool.false_eq_true, false_iff]; omega)
  · go_enter Try.func15, Try.ntmps15
    go_wp2
    all_goals go_ret
    all_goals refine .mk (val_bool (rightB_eq _ _ _ _ ?_)) (by go_grown)
    all_goals (simp only [decide_eq_true_eq, Bool.false_eq_true, false_iff]; omega)

set_option maxHeartbeats 400000 in
theorem refRight_any (f s z : Int) (w : World) :
    Calls Try.prog 16 #[.agg #[.int .i64 f, .int .i64 s, .int .i64 z]] w (RetAt w (.bool (rightB f s z))) := by
  by_cases hr : 0 ≤ f ∧ f ≤ 1024 ∧ 2 ≤ s ∧ s ≤ 64 ∧ 1 ≤ z ∧ z ≤ 1024
  · obtain ⟨h1, h2, h3, h4, h5, h6⟩ := hr
    have b1 : s * z ≤ 64 * 1024 := Int.mul_le_mul h4 h6 (by omega) (by omega)
    have b2 : 0 ≤ s * z := Int.mul_nonneg (by omega) (by omega)
    go_enter Try.func16, Try.ntmps16
    go_wp2
    all_goals go_ret
    all_goals refine .mk (val_bool (rightB_eq _ _ _ _ ?_)) (by go_grown)
    all_goals (simp only [decide_eq_true_eq, Bool.false_eq_true, false_iff]; omega)
  · go_enter Try.func16, Try.ntmps16
    go_wp2
    all_goals go_ret
    all_goals refine .mk (val_bool (rightB_eq _ _ _ _ ?_)) (by go_grown)
    all_goals (simp only [decide_eq_true_eq, Bool.false_eq_true, false_iff]; omega)
end Go.Proofs.Ytoehbcbdkahjpaa
