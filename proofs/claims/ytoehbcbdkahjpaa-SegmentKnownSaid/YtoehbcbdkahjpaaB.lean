/- Walks over the ring's may. -/
import Derived.Test.YtoehbcbdkahjpaaA
namespace Go.Proofs.Ytoehbcbdkahjpaa
open Go.RowKit

def mayB (f s z p : Int) : Bool := rightB f s z && decide (p < 4611686018427387904)

set_option maxHeartbeats 400000 in
theorem may_nil (f s z : Int) (w : World) :
    Calls Try.prog 27 #[.agg #[.int .i64 f, .int .i64 s, .int .i64 z], .slice none 0 0] w (RetAt w (.bool (rightB f s z))) := by
  go_enter Try.func27, Try.ntmps27
  go_wp2_with fail
  refine wp_loop_rounds 1 ?_
  rw [rounds_succ]
  go_wp2_with (go_at_call 15; refine Calls.later (right_any _ _ _ _) ?_; intro x)
  go_ret
  refine .mk rfl ?_
  repeat' (first | (refine Later.to _ ?_ ?_) | go_grown | (simp [go_sem]; done))

set_option maxHeartbeats 400000 in
theorem may_one (f s z p : Int) (b : Nat) (w : World) (hp : w.cell? ⟨b, 0, none⟩ = some (.int .u64 p)) (hb : b < w.heap.size) :
    Calls Try.prog 27 #[.agg #[.int .i64 f, .int .i64 s, .int .i64 z], .slice (some ⟨b, 0, none⟩) 1 1] w (RetAt w (.bool (mayB f s z p))) := by
  by_cases h : p < 4611686018427387904
  all_goals
    go_enter Try.func27, Try.ntmps27
    go_wp2_with fail
    refine wp_loop_rounds 2 ?_
    rw [rounds_succ]
    go_wp2_with fail
    try rw [rounds_succ]
    go_wp2_with (go_at_call 15; refine Calls.later (right_any _ _ _ _) ?_; intro x)
    go_ret
    refine .mk (val_bool (by simp [mayB, h])) ?_
    repeat' (first | (refine Later.to _ ?_ ?_) | go_grown | (simp [go_sem]; done))

set_option maxHeartbeats 400000 in
theorem may_two (f s z p q : Int) (b : Nat) (w : World) (hp : w.cell? ⟨b, 0, none⟩ = some (.int .u64 p)) (hq : w.cell? ⟨b, 1, none⟩ = some (.int .u64 q)) (hb : b < w.heap.size) :
    Calls Try.prog 27 #[.agg #[.int .i64 f, .int .i64 s, .int .i64 z], .slice (some ⟨b, 0, none⟩) 2 2] w (RetAt w (.bool (mayB f s z p && mayB f s z q))) := by
  by_cases h : p < 4611686018427387904
  all_goals by_cases h' : q < 4611686018427387904
  all_goals
    go_enter Try.func27, Try.ntmps27
    go_wp2_with fail
    refine wp_loop_rounds 3 ?_
    rw [rounds_succ]
    go_wp2_with fail
    try rw [rounds_succ]
    go_wp2_with fail
    try rw [rounds_succ]
    go_wp2_with (go_at_call 15; refine Calls.later (right_any _ _ _ _) ?_; intro x)
    go_ret
    refine .mk (val_bool (by simp [mayB, h, h']; try (intros; omega))) ?_
    repeat' (first | (refine Later.to _ ?_ ?_) | go_grown | (simp [go_sem]; done))

def blocksN (f s z : Int) : Int := if rightB f s z = true then s * z else 0

theorem right_bd {f s z : Int} (h : rightB f s z = true) : 0 ≤ f ∧ f ≤ 1024 ∧ 2 ≤ s ∧ s ≤ 64 ∧ 1 ≤ z ∧ z ≤ 1024 ∧ f + s * z ≤ 1024 := by
  simpa [rightB] using h
theorem blocks_bd (f s z : Int) : 0 ≤ blocksN f s z ∧ blocksN f s z ≤ 1024 := by
  unfold blocksN
  split
  · rename_i h
    have h := right_bd h
    have b2 : 0 ≤ s * z := Int.mul_nonneg (by omega) (by omega)
    omega
  · omega

theorem may_bd {f s z p : Int} (h : mayB f s z p = true) : rightB f s z = true ∧ p < 4611686018427387904 := by
  simpa [mayB] using h
theorem mul_bd {f s z : Int} (h : rightB f s z = true) : 1 ≤ s * z ∧ s * z ≤ 1024 := by
  have h' := right_bd h
  have b2 : 1 * 1 ≤ s * z := Int.mul_le_mul (by omega) (by omega) (by omega) (by omega)
  omega
theorem pct (p m : Int) (h : 0 ≤ p) (hm : 1 ≤ m) : 0 ≤ p % m ∧ p % m < m := ⟨Int.emod_nonneg _ (by omega), Int.emod_lt_of_pos _ (by omega)⟩

set_option maxHeartbeats 400000 in
theorem blocks_any (f s z : Int) (w : World) :
    Calls Try.prog 17 #[.agg #[.int .i64 f, .int .i64 s, .int .i64 z]] w (RetAt w (.int .u64 (blocksN f s z))) := by
  by_cases h : rightB f s z = true
  · obtain ⟨m1, m2⟩ := mul_bd h
    obtain ⟨h1, h2, h3, h4, h5, h6, -⟩ := right_bd h
    go_enter Try.func17, Try.ntmps17
    go_wp2_with (go_at_call 27; refine Calls.later (may_nil _ _ _ _) ?_; intro x)
    go_ret
    refine .mk (val_int (by simp [blocksN, h])) ?_
    repeat' (first | (refine Later.to _ ?_ ?_) | go_grown | (simp [go_sem]; done))
  · go_enter Try.func17, Try.ntmps17
    go_wp2_with (go_at_call 27; refine Calls.later (may_nil _ _ _ _) ?_; intro x)
    go_ret
    refine .mk (val_int (by simp [blocksN, h])) ?_
    repeat' (first | (refine Later.to _ ?_ ?_) | go_grown | (simp [go_sem]; done))

set_option maxHeartbeats 400000 in
theorem refBlocks_any (f s z : Int) (w : World) :
    Calls Try.prog 18 #[.agg #[.int .i64 f, .int .i64 s, .int .i64 z]] w (RetAt w (.int .u64 (blocksN f s z))) := by
  by_cases h : rightB f s z = true
  · obtain ⟨m1, m2⟩ := mul_bd h
    obtain ⟨h1, h2, h3, h4, h5, h6, -⟩ := right_bd h
    go_enter Try.func18, Try.ntmps18
    go_wp2_with (go_at_call 16; refine Calls.later (refRight_any _ _ _ _) ?_; intro x)
    go_ret
    refine .mk (val_int (by simp [blocksN, h])) ?_
    repeat' (first | (refine Later.to _ ?_ ?_) | go_grown | (simp [go_sem]; done))
  · go_enter Try.func18, Try.ntmps18
    go_wp2_with (go_at_call 16; refine Calls.later (refRight_any _ _ _ _) ?_; intro x)
    go_ret
    refine .mk (val_int (by simp [blocksN, h])) ?_
    repeat' (first | (refine Later.to _ ?_ ?_) | go_grown | (simp [go_sem]; done))

set_option maxHeartbeats 400000 in
theorem refMay_any (f s z p : Int) (w : World) :
    Calls Try.prog 28 #[.agg #[.int .i64 f, .int .i64 s, .int .i64 z], .int .u64 p] w (RetAt w (.bool (mayB f s z p))) := by
  by_cases h : rightB f s z = true
  all_goals
    go_enter Try.func28, Try.ntmps28
    go_wp2_with (go_at_call 16; refine Calls.later (refRight_any _ _ _ _) ?_; intro x)
    go_ret
    refine .mk (val_bool (by simp [mayB, h])) ?_
    repeat' (first | (refine Later.to _ ?_ ?_) | go_grown | (simp [go_sem]; done))
end Go.Proofs.Ytoehbcbdkahjpaa
