/- Walks over the ring's next, Start, Room, Fits. -/
import Derived.Test.YtoehbcbdkahjpaaC
import Derived.Lib.Hide
namespace Go.Proofs.Ytoehbcbdkahjpaa
open Go.RowKit

def nextN (f s z p : Int) : Int := if 0 < atN f s z p then p + (z - atN f s z p) else p
def startB (f s z p b : Int) : Bool := mayB f s z p && decide (1 ≤ b) && decide (b ≤ z)
def startV (f s z p b : Int) : Int := if startB f s z p b = true then (if z < atN f s z p + b then nextN f s z p else p) else 0

theorem at_bd (f s z p : Int) (h0 : 0 ≤ p) (h : mayB f s z p = true) : 0 ≤ atN f s z p ∧ atN f s z p < z := by
  obtain ⟨hr, hp⟩ := may_bd h
  have hz := right_bd hr
  simp only [atN, h, if_true]
  exact ⟨Int.emod_nonneg _ (by omega), Int.emod_lt_of_pos _ (by omega)⟩
theorem at_no (f s z p : Int) (h : ¬ mayB f s z p = true) : atN f s z p = 0 := by simp [atN, h]

set_option maxHeartbeats 400000 in
theorem next_any (f s z p : Int) (w : World) (h0 : 0 ≤ p) :
    Calls Try.prog 29 #[.agg #[.int .i64 f, .int .i64 s, .int .i64 z], .int .u64 p] w (RetAt w (.int .u64 (nextN f s z p))) := by
  by_cases h : mayB f s z p = true
  · obtain ⟨hr, hp⟩ := may_bd h
    obtain ⟨a1, a2⟩ := at_bd f s z p h0 h
    obtain ⟨h1, h2, h3, h4, h5, h6, h7⟩ := right_bd hr
    by_cases hat : 0 < atN f s z p
    all_goals
      go_enter Try.func29, Try.ntmps29
      go_wp2_with (first | (go_at_call 8; refine Calls.later (segment_any _ _ _ _ _ h0) ?_; intro x))
      go_ret
      refine .mk (val_int (by simp [nextN, hat]; try (intros; omega))) ?_
      repeat' (first | (refine Later.to _ ?_ ?_) | go_grown | (simp [go_sem]; done))
  · have ha := at_no f s z p h
    go_enter Try.func29, Try.ntmps29
    go_wp2_with (first | (go_at_call 8; refine Calls.later (segment_any _ _ _ _ _ h0) ?_; intro x))
    go_ret
    refine .mk (val_int (by simp [nextN, ha])) ?_
    repeat' (first | (refine Later.to _ ?_ ?_) | go_grown | (simp [go_sem]; done))

set_option maxHeartbeats 400000 in
theorem start_any (f s z p b : Int) (w : World) (h0 : 0 ≤ p) :
    Calls Try.prog 10 #[.agg #[.int .i64 f, .int .i64 s, .int .i64 z], .int .u64 p, .int .i64 b] w (RetAt w (.tuple #[.int .u64 (startV f s z p b), .bool (startB f s z p b)])) := by
  by_cases h : mayB f s z p = true
  · obtain ⟨hr, hp⟩ := may_bd h
    obtain ⟨a1, a2⟩ := at_bd f s z p h0 h
    obtain ⟨h1, h2, h3, h4, h5, h6, h7⟩ := right_bd hr
    by_cases hb1 : 1 ≤ b
    · by_cases hb2 : b ≤ z
      · have hs : startB f s z p b = true := by simp [startB, h, hb1, hb2]
        by_cases hat : z < atN f s z p + b
        · have fin : startV f s z p b = nextN f s z p := by simp [startV, hs, hat]
          have FIN := Lib.hid fin; clear fin
          have HS := Lib.hid hs; clear hs
          go_enter Try.func10, Try.ntmps10
          go_wp2_with (first | (go_at_call 27; refine Calls.later (may_one _ _ _ p _ _ (by go_cell) (by simp)) ?_; intro x) | (go_at_call 8; refine Calls.later1 (segment_any _ _ _ _ _ h0) ?_; intro x) | (go_at_call 29; refine Calls.later1 (next_any _ _ _ _ _ h0) ?_; intro x))
          go_ret2
          refine .mk (val_pair (val_int FIN.out.symm) (val_bool HS.out.symm)) ?_
          repeat' (first | (refine Later.to _ ?_ ?_) | go_grown | (simp [go_sem]; done))

        · have fin : startV f s z p b = p := by simp [startV, hs, hat]
          have FIN := Lib.hid fin; clear fin
          have HS := Lib.hid hs; clear hs
          go_enter Try.func10, Try.ntmps10
          go_wp2_with (first | (go_at_call 27; refine Calls.later (may_one _ _ _ p _ _ (by go_cell) (by simp)) ?_; intro x) | (go_at_call 8; refine Calls.later1 (segment_any _ _ _ _ _ h0) ?_; intro x) | (go_at_call 29; refine Calls.later1 (next_any _ _ _ _ _ h0) ?_; intro x))
          go_ret2
          refine .mk (val_pair (val_int FIN.out.symm) (val_bool HS.out.symm)) ?_
          repeat' (first | (refine Later.to _ ?_ ?_) | go_grown | (simp [go_sem]; done))

      · have hs : startB f s z p b = false := by simp [startB, hb2]
        have fin : startV f s z p b = 0 := by simp [startV, hs]
        have FIN := Lib.hid fin; clear fin
        have HS := Lib.hid hs; clear hs
        go_enter Try.func10, Try.ntmps10
        go_wp2_with (first | (go_at_call 27; refine Calls.later (may_one _ _ _ p _ _ (by go_cell) (by simp)) ?_; intro x) | (go_at_call 8; refine Calls.later1 (segment_any _ _ _ _ _ h0) ?_; intro x) | (go_at_call 29; refine Calls.later1 (next_any _ _ _ _ _ h0) ?_; intro x))
        go_ret2
        refine .mk (val_pair (val_int FIN.out.symm) (val_bool HS.out.symm)) ?_
        repeat' (first | (refine Later.to _ ?_ ?_) | go_grown | (simp [go_sem]; done))

    · have hs : startB f s z p b = false := by simp [startB, hb1]
      have fin : startV f s z p b = 0 := by simp [startV, hs]
      have FIN := Lib.hid fin; clear fin
      have HS := Lib.hid hs; clear hs
      go_enter Try.func10, Try.ntmps10
      go_wp2_with (first | (go_at_call 27; refine Calls.later (may_one _ _ _ p _ _ (by go_cell) (by simp)) ?_; intro x) | (go_at_call 8; refine Calls.later1 (segment_any _ _ _ _ _ h0) ?_; intro x) | (go_at_call 29; refine Calls.later1 (next_any _ _ _ _ _ h0) ?_; intro x))
      go_ret2
      refine .mk (val_pair (val_int FIN.out.symm) (val_bool HS.out.symm)) ?_
      repeat' (first | (refine Later.to _ ?_ ?_) | go_grown | (simp [go_sem]; done))

  · have hs : startB f s z p b = false := by simp [startB, h]
    have fin : startV f s z p b = 0 := by simp [startV, hs]
    have FIN := Lib.hid fin; clear fin
    have HS := Lib.hid hs; clear hs
    go_enter Try.func10, Try.ntmps10
    go_wp2_with (first | (go_at_call 27; refine Calls.later (may_one _ _ _ p _ _ (by go_cell) (by simp)) ?_; intro x) | (go_at_call 8; refine Calls.later1 (segment_any _ _ _ _ _ h0) ?_; intro x) | (go_at_call 29; refine Calls.later1 (next_any _ _ _ _ _ h0) ?_; intro x))
    go_ret2
    refine .mk (val_pair (val_int FIN.out.symm) (val_bool HS.out.symm)) ?_
    repeat' (first | (refine Later.to _ ?_ ?_) | go_grown | (simp [go_sem]; done))

set_option maxHeartbeats 400000 in
theorem refStart_any (f s z p b : Int) (w : World) (h0 : 0 ≤ p) :
    Calls Try.prog 11 #[.agg #[.int .i64 f, .int .i64 s, .int .i64 z], .int .u64 p, .int .i64 b] w (RetAt w (.tuple #[.int .u64 (startV f s z p b), .bool (startB f s z p b)])) := by
  by_cases h : mayB f s z p = true
  · obtain ⟨hr, hp⟩ := may_bd h
    obtain ⟨a1, a2⟩ := at_bd f s z p h0 h
    obtain ⟨h1, h2, h3, h4, h5, h6, h7⟩ := right_bd hr
    by_cases hb1 : 1 ≤ b
    · by_cases hb2 : b ≤ z
      · have hs : startB f s z p b = true := by simp [startB, h, hb1, hb2]
        by_cases hat : z < atN f s z p + b
        · have fin : startV f s z p b = p + (z - atN f s z p) := by simp [startV, nextN, hs, hat]; omega
          have FIN := Lib.hid fin; clear fin
          have HS := Lib.hid hs; clear hs
          go_enter Try.func11, Try.ntmps11
          go_wp2_with (first | (go_at_call 28; refine Calls.later (refMay_any _ _ _ _ _) ?_; intro x) | (go_at_call 9; refine Calls.later1 (refSegment_any _ _ _ _ _ h0) ?_; intro x))
          go_ret2
          refine .mk (val_pair (val_int FIN.out.symm) (val_bool HS.out.symm)) ?_
          repeat' (first | (refine Later.to _ ?_ ?_) | go_grown | (simp [go_sem]; done))

        · have fin : startV f s z p b = p := by simp [startV, hs, hat]
          have FIN := Lib.hid fin; clear fin
          have HS := Lib.hid hs; clear hs
          go_enter Try.func11, Try.ntmps11
          go_wp2_with (first | (go_at_call 28; refine Calls.later (refMay_any _ _ _ _ _) ?_; intro x) | (go_at_call 9; refine Calls.later1 (refSegment_any _ _ _ _ _ h0) ?_; intro x))
          go_ret2
          refine .mk (val_pair (val_int FIN.out.symm) (val_bool HS.out.symm)) ?_
          repeat' (first | (refine Later.to _ ?_ ?_) | go_grown | (simp [go_sem]; done))

      · have hs : startB f s z p b = false := by simp [startB, hb2]
        have fin : startV f s z p b = 0 := by simp [startV, hs]
        have FIN := Lib.hid fin; clear fin
        have HS := Lib.hid hs; clear hs
        go_enter Try.func11, Try.ntmps11
        go_wp2_with (first | (go_at_call 28; refine Calls.later (refMay_any _ _ _ _ _) ?_; intro x) | (go_at_call 9; refine Calls.later1 (refSegment_any _ _ _ _ _ h0) ?_; intro x))
        go_ret2
        refine .mk (val_pair (val_int FIN.out.symm) (val_bool HS.out.symm)) ?_
        repeat' (first | (refine Later.to _ ?_ ?_) | go_grown | (simp [go_sem]; done))

    · have hs : startB f s z p b = false := by simp [startB, hb1]
      have fin : startV f s z p b = 0 := by simp [startV, hs]
      have FIN := Lib.hid fin; clear fin
      have HS := Lib.hid hs; clear hs
      go_enter Try.func11, Try.ntmps11
      go_wp2_with (first | (go_at_call 28; refine Calls.later (refMay_any _ _ _ _ _) ?_; intro x) | (go_at_call 9; refine Calls.later1 (refSegment_any _ _ _ _ _ h0) ?_; intro x))
      go_ret2
      refine .mk (val_pair (val_int FIN.out.symm) (val_bool HS.out.symm)) ?_
      repeat' (first | (refine Later.to _ ?_ ?_) | go_grown | (simp [go_sem]; done))

  · have hs : startB f s z p b = false := by simp [startB, h]
    have fin : startV f s z p b = 0 := by simp [startV, hs]
    have FIN := Lib.hid fin; clear fin
    have HS := Lib.hid hs; clear hs
    go_enter Try.func11, Try.ntmps11
    go_wp2_with (first | (go_at_call 28; refine Calls.later (refMay_any _ _ _ _ _) ?_; intro x) | (go_at_call 9; refine Calls.later1 (refSegment_any _ _ _ _ _ h0) ?_; intro x))
    go_ret2
    refine .mk (val_pair (val_int FIN.out.symm) (val_bool HS.out.symm)) ?_
    repeat' (first | (refine Later.to _ ?_ ?_) | go_grown | (simp [go_sem]; done))

end Go.Proofs.Ytoehbcbdkahjpaa
