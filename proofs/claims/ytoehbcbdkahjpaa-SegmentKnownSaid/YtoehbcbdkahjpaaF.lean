/- Walks over the ring's Fits, Starts, and the law's own small functions. -/
import Derived.Test.YtoehbcbdkahjpaaE
namespace Go.Proofs.Ytoehbcbdkahjpaa
open Go.RowKit

theorem startV_bd (f s z p b : Int) (h0 : 0 ≤ p) (h : startB f s z p b = true) : p ≤ startV f s z p b ∧ startV f s z p b ≤ p + 1024 ∧ mayB f s z p = true ∧ 1 ≤ b ∧ b ≤ z ∧ z ≤ 1024 ∧ p < 4611686018427387904 := by
  have h' := h
  simp only [startB, Bool.and_eq_true, decide_eq_true_eq] at h'
  obtain ⟨⟨hm, hb⟩, hz⟩ := h'
  obtain ⟨a1, a2⟩ := at_bd f s z p h0 hm
  obtain ⟨hr, hp⟩ := may_bd hm
  have hz' := right_bd hr
  refine ⟨?_, ?_, hm, hb, hz, by omega, hp⟩
  all_goals simp only [startV, h, if_true, nextN]
  all_goals split
  all_goals try split
  all_goals omega

set_option maxHeartbeats 1000000 in
theorem fits_any (f s z h t b : Int) (w : World) (h0 : 0 ≤ h) (t0 : 0 ≤ t) :
    Calls Try.prog 22 #[.agg #[.int .i64 f, .int .i64 s, .int .i64 z], .int .u64 h, .int .u64 t, .int .i64 b] w (RetAt w (.tuple #[.int .u64 (fitsV f s z h t b), .bool (fitsB f s z h t b)])) := by
  obtain ⟨r1, r2⟩ := room_bd f s z h t
  by_cases hs : startB f s z t b = true
  · obtain ⟨s1, s2, s3, s4, s5, s6, s7⟩ := startV_bd f s z t b t0 hs
    by_cases hf : startV f s z t b - t + b ≤ roomN f s z h t
    · have hb : fitsB f s z h t b = true := by simp [fitsB, hs, hf]
      have hv : fitsV f s z h t b = startV f s z t b := by simp [fitsV, hb]
      have HB := Lib.hid hb; clear hb
      have HV := Lib.hid hv; clear hv
      skip
      go_enter Try.func22, Try.ntmps22
      go_wp2_with (first | (go_at_call 10; refine Calls.later (start_any _ _ _ _ _ _ t0) ?_; intro x) | (go_at_call 24; refine Calls.later1 (room_any _ _ _ _ _ _ h0 t0) ?_; intro x))
      go_ret2
      refine .mk (val_pair (val_int HV.out.symm) (val_bool HB.out.symm)) ?_
      repeat' (first | (refine Later.to _ ?_ ?_) | go_grown | (simp [go_sem]; done))
    · have hb : fitsB f s z h t b = false := by simp [fitsB, hf]
      have hv : fitsV f s z h t b = 0 := by simp [fitsV, hb]
      have HB := Lib.hid hb; clear hb
      have HV := Lib.hid hv; clear hv
      skip
      go_enter Try.func22, Try.ntmps22
      go_wp2_with (first | (go_at_call 10; refine Calls.later (start_any _ _ _ _ _ _ t0) ?_; intro x) | (go_at_call 24; refine Calls.later1 (room_any _ _ _ _ _ _ h0 t0) ?_; intro x))
      go_ret2
      refine .mk (val_pair (val_int HV.out.symm) (val_bool HB.out.symm)) ?_
      repeat' (first | (refine Later.to _ ?_ ?_) | go_grown | (simp [go_sem]; done))
  · have hb : fitsB f s z h t b = false := by simp [fitsB, hs]
    have hv : fitsV f s z h t b = 0 := by simp [fitsV, hb]
    have HB := Lib.hid hb; clear hb
    have HV := Lib.hid hv; clear hv
    go_enter Try.func22, Try.ntmps22
    go_wp2_with (first | (go_at_call 10; refine Calls.later (start_any _ _ _ _ _ _ t0) ?_; intro x) | (go_at_call 24; refine Calls.later1 (room_any _ _ _ _ _ _ h0 t0) ?_; intro x))
    go_ret2
    refine .mk (val_pair (val_int HV.out.symm) (val_bool HB.out.symm)) ?_
    repeat' (first | (refine Later.to _ ?_ ?_) | go_grown | (simp [go_sem]; done))

set_option maxHeartbeats 1000000 in
theorem refFits_any (f s z h t b : Int) (w : World) (h0 : 0 ≤ h) (t0 : 0 ≤ t) :
    Calls Try.prog 23 #[.agg #[.int .i64 f, .int .i64 s, .int .i64 z], .int .u64 h, .int .u64 t, .int .i64 b] w (RetAt w (.tuple #[.int .u64 (fitsV f s z h t b), .bool (fitsB f s z h t b)])) := by
  obtain ⟨r1, r2⟩ := room_bd f s z h t
  by_cases hs : startB f s z t b = true
  · obtain ⟨s1, s2, s3, s4, s5, s6, s7⟩ := startV_bd f s z t b t0 hs
    by_cases hf : startV f s z t b - t + b ≤ roomN f s z h t
    · have hb : fitsB f s z h t b = true := by simp [fitsB, hs, hf]
      have hv : fitsV f s z h t b = startV f s z t b := by simp [fitsV, hb]
      have HB := Lib.hid hb; clear hb
      have HV := Lib.hid hv; clear hv
      skip
      go_enter Try.func23, Try.ntmps23
      go_wp2_with (first | (go_at_call 11; refine Calls.later (refStart_any _ _ _ _ _ _ t0) ?_; intro x) | (go_at_call 25; refine Calls.later1 (refRoom_any _ _ _ _ _ _ h0 t0) ?_; intro x))
      go_ret2
      refine .mk (val_pair (val_int HV.out.symm) (val_bool HB.out.symm)) ?_
      repeat' (first | (refine Later.to _ ?_ ?_) | go_grown | (simp [go_sem]; done))
    · have hb : fitsB f s z h t b = false := by simp [fitsB, hf]
      have hv : fitsV f s z h t b = 0 := by simp [fitsV, hb]
      have HB := Lib.hid hb; clear hb
      have HV := Lib.hid hv; clear hv
      skip
      go_enter Try.func23, Try.ntmps23
      go_wp2_with (first | (go_at_call 11; refine Calls.later (refStart_any _ _ _ _ _ _ t0) ?_; intro x) | (go_at_call 25; refine Calls.later1 (refRoom_any _ _ _ _ _ _ h0 t0) ?_; intro x))
      go_ret2
      refine .mk (val_pair (val_int HV.out.symm) (val_bool HB.out.symm)) ?_
      repeat' (first | (refine Later.to _ ?_ ?_) | go_grown | (simp [go_sem]; done))
  · have hb : fitsB f s z h t b = false := by simp [fitsB, hs]
    have hv : fitsV f s z h t b = 0 := by simp [fitsV, hb]
    have HB := Lib.hid hb; clear hb
    have HV := Lib.hid hv; clear hv
    go_enter Try.func23, Try.ntmps23
    go_wp2_with (first | (go_at_call 11; refine Calls.later (refStart_any _ _ _ _ _ _ t0) ?_; intro x) | (go_at_call 25; refine Calls.later1 (refRoom_any _ _ _ _ _ _ h0 t0) ?_; intro x))
    go_ret2
    refine .mk (val_pair (val_int HV.out.symm) (val_bool HB.out.symm)) ?_
    repeat' (first | (refine Later.to _ ?_ ?_) | go_grown | (simp [go_sem]; done))


/-- A new row of one or two numbers, and nothing else that anybody can see. -/
def NewRow (w : World) (l : List Int) : Ending → World → Prop := fun e w' =>
  ∃ x : Later w, e = .returned (.slice (some ⟨x.world.heap.size, 0, none⟩) l.length l.length) ∧ w' = x.world.alloc (.cells (l.map (Value.int .u64)).toArray 24)
theorem NewRow.mk1 {w w' : World} {a : Int} (h : Below w.heap.size w w') : NewRow w [a] (.returned (.slice (some ⟨w'.heap.size, 0, none⟩) 1 1)) (w'.alloc (.cells #[.int .u64 a] 24)) :=
  ⟨⟨w', h⟩, rfl, rfl⟩
theorem NewRow.mk2 {w w' : World} {a b : Int} (h : Below w.heap.size w w') : NewRow w [a, b] (.returned (.slice (some ⟨w'.heap.size, 0, none⟩) 2 2)) (w'.alloc (.cells #[.int .u64 a, .int .u64 b] 24)) :=
  ⟨⟨w', h⟩, rfl, rfl⟩

set_option maxHeartbeats 1000000 in
theorem starts_none (f s z p : Int) (w : World) (h0 : 0 ≤ p) (h : ¬ mayB f s z p = true) :
    Calls Try.prog 12 #[.agg #[.int .i64 f, .int .i64 s, .int .i64 z], .int .u64 p] w (RetAt w (.slice none 0 0)) := by
  go_enter Try.func12, Try.ntmps12
  go_wp2_with (first | (go_at_call 27; refine Calls.later (may_one _ _ _ p _ _ (by go_cell) (by simp)) ?_; intro x) | (go_at_call 29; refine Calls.later1 (next_any _ _ _ _ _ h0) ?_; intro x))
  go_ret
  refine .mk rfl ?_
  repeat' (first | (refine Later.to _ ?_ ?_) | go_grown | (simp [go_sem]; done))

set_option maxHeartbeats 1000000 in
theorem starts_one (f s z p : Int) (w : World) (h0 : 0 ≤ p) (h : mayB f s z p = true) (ha : atN f s z p = 0) :
    Calls Try.prog 12 #[.agg #[.int .i64 f, .int .i64 s, .int .i64 z], .int .u64 p] w (NewRow w [p]) := by
  have hn : nextN f s z p = p := by simp [nextN, ha]
  go_enter Try.func12, Try.ntmps12
  go_wp2_with (first | (go_at_call 27; refine Calls.later (may_one _ _ _ p _ _ (by go_cell) (by simp)) ?_; intro x) | (go_at_call 29; refine Calls.later1 (next_any _ _ _ _ _ h0) ?_; intro x))
  go_ret
  refine NewRow.mk1 ?_
  repeat' (first | (refine Later.to _ ?_ ?_) | go_grown | (simp [go_sem]; done))

set_option maxHeartbeats 1000000 in
theorem starts_two (f s z p : Int) (w : World) (h0 : 0 ≤ p) (h : mayB f s z p = true) (ha : 0 < atN f s z p) :
    Calls Try.prog 12 #[.agg #[.int .i64 f, .int .i64 s, .int .i64 z], .int .u64 p] w (NewRow w [p, nextN f s z p]) := by
  obtain ⟨a1, a2⟩ := at_bd f s z p h0 h
  obtain ⟨hr, hp⟩ := may_bd h
  obtain ⟨h1, h2, h3, h4, h5, h6, h7⟩ := right_bd hr
  have hn : p < nextN f s z p := by simp only [nextN, ha, if_true]; omega
  have he : (nextN f s z p == p) = false := by simp; omega
  have he' : (atN f s z p == 0) = false := by simp; omega
  have hv : nextN f s z p = p + (z - atN f s z p) := by simp [nextN, ha]
  have HV := Lib.hid hv; clear hv
  go_enter Try.func12, Try.ntmps12
  go_wp2_with (first | (go_at_call 27; refine Calls.later (may_one _ _ _ p _ _ (by go_cell) (by simp)) ?_; intro x) | (go_at_call 29; refine Calls.later1 (next_any _ _ _ _ _ h0) ?_; intro x))
  go_ret
  
  refine NewRow.mk2 ?_
  repeat' (first | (refine Later.to _ ?_ ?_) | go_grown | (simp [go_sem]; done))

set_option maxHeartbeats 1000000 in
theorem refStarts_none (f s z p : Int) (w : World) (h0 : 0 ≤ p) (h : ¬ mayB f s z p = true) :
    Calls Try.prog 14 #[.agg #[.int .i64 f, .int .i64 s, .int .i64 z], .int .u64 p] w (RetAt w (.slice none 0 0)) := by
  go_enter Try.func14, Try.ntmps14
  go_wp2_with (first | (go_at_call 28; refine Calls.later (refMay_any _ _ _ _ _) ?_; intro x) | (go_at_call 9; refine Calls.later1 (refSegment_any _ _ _ _ _ h0) ?_; intro x))
  go_ret
  refine .mk rfl ?_
  repeat' (first | (refine Later.to _ ?_ ?_) | go_grown | (simp [go_sem]; done))

set_option maxHeartbeats 1000000 in
theorem refStarts_one (f s z p : Int) (w : World) (h0 : 0 ≤ p) (h : mayB f s z p = true) (ha : atN f s z p = 0) :
    Calls Try.prog 14 #[.agg #[.int .i64 f, .int .i64 s, .int .i64 z], .int .u64 p] w (NewRow w [p]) := by
  have hn : nextN f s z p = p := by simp [nextN, ha]
  go_enter Try.func14, Try.ntmps14
  go_wp2_with (first | (go_at_call 28; refine Calls.later (refMay_any _ _ _ _ _) ?_; intro x) | (go_at_call 9; refine Calls.later1 (refSegment_any _ _ _ _ _ h0) ?_; intro x))
  go_ret
  refine NewRow.mk1 ?_
  repeat' (first | (refine Later.to _ ?_ ?_) | go_grown | (simp [go_sem]; done))

set_option maxHeartbeats 1000000 in
theorem refStarts_two (f s z p : Int) (w : World) (h0 : 0 ≤ p) (h : mayB f s z p = true) (ha : 0 < atN f s z p) :
    Calls Try.prog 14 #[.agg #[.int .i64 f, .int .i64 s, .int .i64 z], .int .u64 p] w (NewRow w [p, nextN f s z p]) := by
  obtain ⟨a1, a2⟩ := at_bd f s z p h0 h
  obtain ⟨hr, hp⟩ := may_bd h
  obtain ⟨h1, h2, h3, h4, h5, h6, h7⟩ := right_bd hr
  have hn : p < nextN f s z p := by simp only [nextN, ha, if_true]; omega
  have he : (nextN f s z p == p) = false := by simp; omega
  have he' : (atN f s z p == 0) = false := by simp; omega
  have hv : nextN f s z p = p + (z - atN f s z p) := by simp [nextN, ha]
  have HV := Lib.hid hv; clear hv
  go_enter Try.func14, Try.ntmps14
  go_wp2_with (first | (go_at_call 28; refine Calls.later (refMay_any _ _ _ _ _) ?_; intro x) | (go_at_call 9; refine Calls.later1 (refSegment_any _ _ _ _ _ h0) ?_; intro x))
  go_ret
  rw [HV.out]
  refine NewRow.mk2 ?_
  repeat' (first | (refine Later.to _ ?_ ?_) | go_grown | (simp [go_sem]; done))

set_option maxHeartbeats 1000000 in
theorem same_nil (w : World) : Calls Try.prog 13 #[.slice none 0 0, .slice none 0 0] w (RetAt w (.bool true)) := by
  go_enter Try.func13, Try.ntmps13
  go_wp2_with fail
  refine wp_loop_rounds 1 ?_
  rw [rounds_succ]
  go_wp2_with fail
  go_ret
  exact .mk rfl (Below.refl _ _)

set_option maxHeartbeats 1000000 in
theorem same_one (p : Int) (b c : Nat) (w : World) (hb : w.cell? ⟨b, 0, none⟩ = some (.int .u64 p)) (hc : w.cell? ⟨c, 0, none⟩ = some (.int .u64 p)) (kb : b < w.heap.size) (kc : c < w.heap.size) :
    Calls Try.prog 13 #[.slice (some ⟨b, 0, none⟩) 1 1, .slice (some ⟨c, 0, none⟩) 1 1] w (RetAt w (.bool true)) := by
  go_enter Try.func13, Try.ntmps13
  go_wp2_with fail
  refine wp_loop_rounds 2 ?_
  rw [rounds_succ]
  go_wp2_with fail
  refine wp_region_later (by kernel_rfl) (by kernel_rfl) ?_
  repeat go_big_quiet_step (fail)
  refine wpQuiet_nil ?_
  intro x
  go_wp2_with fail
  rw [rounds_succ]
  go_wp2_with fail
  go_ret
  exact .mk rfl x.below

set_option maxHeartbeats 1000000 in
theorem same_two (p q : Int) (b c : Nat) (w : World) (hb : w.cell? ⟨b, 0, none⟩ = some (.int .u64 p)) (hc : w.cell? ⟨c, 0, none⟩ = some (.int .u64 p)) (hb1 : w.cell? ⟨b, 1, none⟩ = some (.int .u64 q)) (hc1 : w.cell? ⟨c, 1, none⟩ = some (.int .u64 q)) (kb : b < w.heap.size) (kc : c < w.heap.size) :
    Calls Try.prog 13 #[.slice (some ⟨b, 0, none⟩) 2 2, .slice (some ⟨c, 0, none⟩) 2 2] w (RetAt w (.bool true)) := by
  go_enter Try.func13, Try.ntmps13
  go_wp2_with fail
  refine wp_loop_rounds 3 ?_
  rw [rounds_succ]
  go_wp2_with fail
  refine wp_region_later (by kernel_rfl) (by kernel_rfl) ?_
  repeat go_big_quiet_step (fail)
  refine wpQuiet_nil ?_
  intro x
  go_wp2_with fail
  rw [rounds_succ]
  go_wp2_with fail
  refine wp_region_later1 (by kernel_rfl) (by kernel_rfl) ?_
  repeat go_big_quiet_step (fail)
  refine wpQuiet_nil ?_
  intro x
  go_wp2_with fail
  rw [rounds_succ]
  go_wp2_with fail
  go_ret
  exact .mk rfl x.below

set_option maxHeartbeats 1000000 in
theorem ref_any (f s z : Int) (w : World) : Calls Try.prog 7 #[.agg #[.int .i64 f, .int .i64 s, .int .i64 z]] w (RetAt w (.agg #[.int .i64 f, .int .i64 s, .int .i64 z])) := by
  go_enter Try.func7, Try.ntmps7
  go_wp2
  go_returns
  exact .mk rfl (by go_grown)
end Go.Proofs.Ytoehbcbdkahjpaa
