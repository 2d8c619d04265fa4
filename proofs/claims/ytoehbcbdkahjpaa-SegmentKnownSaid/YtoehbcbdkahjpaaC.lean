/- Walks over the ring's Segment, next, Start, Place. -/
import Derived.Test.YtoehbcbdkahjpaaB
namespace Go.Proofs.Ytoehbcbdkahjpaa
open Go.RowKit

def segN (f s z p : Int) : Int := if mayB f s z p = true then p % (s * z) / z else 0
def atN (f s z p : Int) : Int := if mayB f s z p = true then p % (s * z) % z else 0
def placeN (f s z p : Int) : Int := if mayB f s z p = true then f + p % (s * z) else 0

set_option maxHeartbeats 400000 in
theorem segment_any (f s z p : Int) (w : World) (h0 : 0 ≤ p) :
    Calls Try.prog 8 #[.agg #[.int .i64 f, .int .i64 s, .int .i64 z], .int .u64 p] w (RetAt w (.tuple #[.int .i64 (segN f s z p), .int .i64 (atN f s z p)])) := by
  by_cases h : mayB f s z p = true
  · obtain ⟨hr, hp⟩ := may_bd h
    obtain ⟨m1, m2⟩ := mul_bd hr
    obtain ⟨h1, h2, h3, h4, h5, h6, h7⟩ := right_bd hr
    obtain ⟨q1, q2⟩ := pct p (s * z) h0 m1
    have eb : blocksN f s z = s * z := by simp [blocksN, hr]
    go_enter Try.func8, Try.ntmps8
    go_wp2_with (first
      | (go_at_call 27; refine Calls.later (may_one _ _ _ p _ _ (by go_cell) (by simp)) ?_; intro x)
      | (go_at_call 17; refine Calls.later1 (blocks_any _ _ _ _) ?_; intro x; rw [eb]))
    refine wp_region_later1 (by kernel_rfl) (by kernel_rfl) ?_
    repeat go_big_quiet_step (fail)
    refine wpQuiet_nil ?_
    intro x
    go_wp2
    go_ret2
    refine .mk (val_pair (val_int (by simp [segN, h])) (val_int (by simp [atN, h]))) ?_
    repeat' (first | (refine Later.to _ ?_ ?_) | go_grown | (simp [go_sem]; done))
  · go_enter Try.func8, Try.ntmps8
    go_wp2_with (first
      | (go_at_call 27; refine Calls.later (may_one _ _ _ p _ _ (by go_cell) (by simp)) ?_; intro x))
    go_ret2
    refine .mk (val_pair (val_int (by simp [segN, h])) (val_int (by simp [atN, h]))) ?_
    repeat' (first | (refine Later.to _ ?_ ?_) | go_grown | (simp [go_sem]; done))

set_option maxHeartbeats 400000 in
theorem refSegment_any (f s z p : Int) (w : World) (h0 : 0 ≤ p) :
    Calls Try.prog 9 #[.agg #[.int .i64 f, .int .i64 s, .int .i64 z], .int .u64 p] w (RetAt w (.tuple #[.int .i64 (segN f s z p), .int .i64 (atN f s z p)])) := by
  by_cases h : mayB f s z p = true
  · obtain ⟨hr, hp⟩ := may_bd h
    obtain ⟨m1, m2⟩ := mul_bd hr
    obtain ⟨h1, h2, h3, h4, h5, h6, h7⟩ := right_bd hr
    obtain ⟨q1, q2⟩ := pct p (s * z) h0 m1
    have eb : blocksN f s z = s * z := by simp [blocksN, hr]
    go_enter Try.func9, Try.ntmps9
    go_wp2_with (first
      | (go_at_call 28; refine Calls.later (refMay_any _ _ _ _ _) ?_; intro x)
      | (go_at_call 18; refine Calls.later1 (refBlocks_any _ _ _ _) ?_; intro x; rw [eb]))
    refine wp_region_later1 (by kernel_rfl) (by kernel_rfl) ?_
    repeat go_big_quiet_step (fail)
    refine wpQuiet_nil ?_
    intro x
    go_wp2
    go_ret2
    refine .mk (val_pair (val_int (by simp [segN, h])) (val_int (by simp [atN, h]))) ?_
    repeat' (first | (refine Later.to _ ?_ ?_) | go_grown | (simp [go_sem]; done))
  · go_enter Try.func9, Try.ntmps9
    go_wp2_with (first
      | (go_at_call 28; refine Calls.later (refMay_any _ _ _ _ _) ?_; intro x))
    go_ret2
    refine .mk (val_pair (val_int (by simp [segN, h])) (val_int (by simp [atN, h]))) ?_
    repeat' (first | (refine Later.to _ ?_ ?_) | go_grown | (simp [go_sem]; done))

set_option maxHeartbeats 400000 in
theorem place_any (f s z p : Int) (w : World) (h0 : 0 ≤ p) :
    Calls Try.prog 19 #[.agg #[.int .i64 f, .int .i64 s, .int .i64 z], .int .u64 p] w (RetAt w (.int .i64 (placeN f s z p))) := by
  by_cases h : mayB f s z p = true
  · obtain ⟨hr, hp⟩ := may_bd h
    obtain ⟨m1, m2⟩ := mul_bd hr
    obtain ⟨h1, h2, h3, h4, h5, h6, h7⟩ := right_bd hr
    obtain ⟨q1, q2⟩ := pct p (s * z) h0 m1
    have eb : blocksN f s z = s * z := by simp [blocksN, hr]
    go_enter Try.func19, Try.ntmps19
    go_wp2_with (first
      | (go_at_call 27; refine Calls.later (may_one _ _ _ p _ _ (by go_cell) (by simp)) ?_; intro x))
    refine wp_region_later1 (by kernel_rfl) (by kernel_rfl) ?_
    repeat go_big_quiet_step (exact later_call (eb ▸ blocks_any f s z _))
    refine wpQuiet_nil ?_
    intro x
    go_wp2
    go_ret
    refine .mk (val_int (by simp [placeN, h])) ?_
    repeat' (first | (refine Later.to _ ?_ ?_) | go_grown | (simp [go_sem]; done))
  · go_enter Try.func19, Try.ntmps19
    go_wp2_with (first
      | (go_at_call 27; refine Calls.later (may_one _ _ _ p _ _ (by go_cell) (by simp)) ?_; intro x))
    go_ret
    refine .mk (val_int (by simp [placeN, h])) ?_
    repeat' (first | (refine Later.to _ ?_ ?_) | go_grown | (simp [go_sem]; done))

set_option maxHeartbeats 400000 in
theorem refPlace_any (f s z p : Int) (w : World) (h0 : 0 ≤ p) :
    Calls Try.prog 20 #[.agg #[.int .i64 f, .int .i64 s, .int .i64 z], .int .u64 p] w (RetAt w (.int .i64 (placeN f s z p))) := by
  by_cases h : mayB f s z p = true
  · obtain ⟨hr, hp⟩ := may_bd h
    obtain ⟨m1, m2⟩ := mul_bd hr
    obtain ⟨h1, h2, h3, h4, h5, h6, h7⟩ := right_bd hr
    obtain ⟨q1, q2⟩ := pct p (s * z) h0 m1
    have eb : blocksN f s z = s * z := by simp [blocksN, hr]
    go_enter Try.func20, Try.ntmps20
    go_wp2_with (first
      | (go_at_call 28; refine Calls.later (refMay_any _ _ _ _ _) ?_; intro x))
    refine wp_region_later1 (by kernel_rfl) (by kernel_rfl) ?_
    repeat go_big_quiet_step (exact later_call (eb ▸ refBlocks_any f s z _))
    refine wpQuiet_nil ?_
    intro x
    go_wp2
    go_ret
    refine .mk (val_int (by simp [placeN, h])) ?_
    repeat' (first | (refine Later.to _ ?_ ?_) | go_grown | (simp [go_sem]; done))
  · go_enter Try.func20, Try.ntmps20
    go_wp2_with (first
      | (go_at_call 28; refine Calls.later (refMay_any _ _ _ _ _) ?_; intro x))
    go_ret
    refine .mk (val_int (by simp [placeN, h])) ?_
    repeat' (first | (refine Later.to _ ?_ ?_) | go_grown | (simp [go_sem]; done))
end Go.Proofs.Ytoehbcbdkahjpaa
