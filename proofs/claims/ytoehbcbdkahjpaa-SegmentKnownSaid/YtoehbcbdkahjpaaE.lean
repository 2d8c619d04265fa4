/- Walks over the ring's Room, Fits. -/
import Derived.Test.YtoehbcbdkahjpaaD
namespace Go.Proofs.Ytoehbcbdkahjpaa
open Go.RowKit

def freeN (f s z h t : Int) : Int := if h ≤ t ∧ t - h ≤ blocksN f s z then blocksN f s z - (t - h) else 0
def roomN (f s z h t : Int) : Int := if mayB f s z h = true ∧ mayB f s z t = true then freeN f s z h t else 0
def fitsB (f s z h t b : Int) : Bool := startB f s z t b && decide (startV f s z t b - t + b ≤ roomN f s z h t)
def fitsV (f s z h t b : Int) : Int := if fitsB f s z h t b = true then startV f s z t b else 0

theorem free_bd (f s z h t : Int) : 0 ≤ freeN f s z h t ∧ freeN f s z h t ≤ 1024 := by
  have := blocks_bd f s z
  unfold freeN; split <;> omega
theorem room_bd (f s z h t : Int) : 0 ≤ roomN f s z h t ∧ roomN f s z h t ≤ 1024 := by
  have := free_bd f s z h t
  unfold roomN; split <;> omega

set_option maxHeartbeats 400000 in
theorem free_any (f s z h t : Int) (bt bh br : Nat) (w : World) (h0 : 0 ≤ h) (h1 : h < 4611686018427387904) (t0 : 0 ≤ t) (t1 : t < 4611686018427387904)
    (ct : w.cell? ⟨bt, 0, none⟩ = some (.int .u64 t)) (ch : w.cell? ⟨bh, 0, none⟩ = some (.int .u64 h))
    (c0 : w.cell? ⟨br, 0, none⟩ = some (.int .i64 f)) (c1 : w.cell? ⟨br, 1, none⟩ = some (.int .i64 s)) (c2 : w.cell? ⟨br, 2, none⟩ = some (.int .i64 z))
    (kt : bt < w.heap.size) (kh : bh < w.heap.size) (kr : br < w.heap.size) :
    Calls Try.prog 30 #[.pointer (some ⟨bt, 0, none⟩), .pointer (some ⟨bh, 0, none⟩), .pointer (some ⟨br, 0, none⟩)] w (RetAt w (.int .u64 (freeN f s z h t))) := by
  obtain ⟨b1, b2⟩ := blocks_bd f s z
  by_cases hle : h ≤ t
  · by_cases hus : t - h ≤ blocksN f s z
    all_goals
      go_enter Try.func30, Try.ntmps30
      go_wp2_with (first | (go_at_call 17; first | (refine Calls.later1 (blocks_any _ _ _ _) ?_; intro x) | (refine Calls.later (blocks_any _ _ _ _) ?_; intro x)))
      go_ret
      refine .mk (val_int (by simp [freeN, hle, hus]; try (intros; omega))) ?_
      repeat' (first | (refine Later.to _ ?_ ?_) | go_grown | (simp [go_sem]; done))
  · go_enter Try.func30, Try.ntmps30
    go_wp2
    go_ret
    refine .mk (val_int (by simp [freeN, hle]; try (intros; omega))) ?_
    repeat' (first | (refine Later.to _ ?_ ?_) | go_grown | (simp [go_sem]; done))

set_option maxHeartbeats 400000 in
theorem room_any (f s z h t : Int) (w : World) (h0 : 0 ≤ h) (t0 : 0 ≤ t) :
    Calls Try.prog 24 #[.agg #[.int .i64 f, .int .i64 s, .int .i64 z], .int .u64 h, .int .u64 t] w (RetAt w (.int .u64 (roomN f s z h t))) := by
  by_cases hm : (mayB f s z h && mayB f s z t) = true
  · obtain ⟨m1, m2⟩ := Bool.and_eq_true_iff.1 hm
    obtain ⟨hr, hp⟩ := may_bd m1
    obtain ⟨-, tp⟩ := may_bd m2
    go_enter Try.func24, Try.ntmps24
    go_wp2_with (first
      | (go_at_call 27; refine Calls.later (may_two _ _ _ h t _ _ (by go_cell) (by go_cell) (by simp)) ?_; intro x)
      | (go_at_call 30; refine Calls.later1 (free_any f s z h t _ _ _ _ h0 hp t0 tp (by simp [go_sem]; done) (by simp [go_sem]; done) (by simp [go_sem]; done) (by simp [go_sem]; done) (by simp [go_sem]; done) (by simp [go_sem]; done) (by simp [go_sem]; done) (by simp [go_sem]; done)) ?_; intro x))
    go_ret
    refine .mk (val_int (by simp [roomN, m1, m2])) ?_
    repeat' (first | (refine Later.to _ ?_ ?_) | go_grown | (simp [go_sem]; done))
  · have hn : roomN f s z h t = 0 := by
      unfold roomN; rw [if_neg]; rintro ⟨a, b⟩; exact hm (by simp [a, b])
    have HN := Lib.hid hn; clear hn
    go_enter Try.func24, Try.ntmps24
    go_wp2_with (first
      | (go_at_call 27; refine Calls.later (may_two _ _ _ h t _ _ (by go_cell) (by go_cell) (by simp)) ?_; intro x; simp only [hm]))
    go_ret
    refine .mk (val_int HN.out.symm) ?_
    repeat' (first | (refine Later.to _ ?_ ?_) | go_grown | (simp [go_sem]; done))

set_option maxHeartbeats 1000000 in
theorem refRoom_any (f s z h t : Int) (w : World) (h0 : 0 ≤ h) (t0 : 0 ≤ t) :
    Calls Try.prog 25 #[.agg #[.int .i64 f, .int .i64 s, .int .i64 z], .int .u64 h, .int .u64 t] w (RetAt w (.int .u64 (roomN f s z h t))) := by
  obtain ⟨b1, b2⟩ := blocks_bd f s z
  by_cases m1 : mayB f s z h = true
  · obtain ⟨hr, hp⟩ := may_bd m1
    by_cases m2 : mayB f s z t = true
    · obtain ⟨-, tp⟩ := may_bd m2
      by_cases hle : h ≤ t
      · by_cases hus : t - h ≤ blocksN f s z
        all_goals
          have hn : roomN f s z h t = freeN f s z h t := by simp [roomN, m1, m2]
          simp only [freeN, hle, hus, and_true, if_true, true_and, if_false] at hn
          have HN := Lib.hid hn; clear hn
          go_enter Try.func25, Try.ntmps25
          go_wp2_with (first
            | (go_at_call 28; first | (refine Calls.later1 (refMay_any _ _ _ _ _) ?_; intro x) | (refine Calls.later (refMay_any _ _ _ _ _) ?_; intro x))
            | (go_at_call 18; refine Calls.later1 (refBlocks_any _ _ _ _) ?_; intro x))
          go_ret
          refine .mk (val_int HN.out.symm) ?_
          repeat' (first | (refine Later.to _ ?_ ?_) | go_grown | (simp [go_sem]; done))
      · have hn : roomN f s z h t = 0 := by simp [roomN, freeN, hle]
        have HN := Lib.hid hn; clear hn
        go_enter Try.func25, Try.ntmps25
        go_wp2_with (first
            | (go_at_call 28; first | (refine Calls.later1 (refMay_any _ _ _ _ _) ?_; intro x) | (refine Calls.later (refMay_any _ _ _ _ _) ?_; intro x))
            | (go_at_call 18; refine Calls.later1 (refBlocks_any _ _ _ _) ?_; intro x))
        go_ret
        refine .mk (val_int HN.out.symm) ?_
        repeat' (first | (refine Later.to _ ?_ ?_) | go_grown | (simp [go_sem]; done))
    · have hn : roomN f s z h t = 0 := by simp [roomN, m2]
      have HN := Lib.hid hn; clear hn
      go_enter Try.func25, Try.ntmps25
      go_wp2_with (first
            | (go_at_call 28; first | (refine Calls.later1 (refMay_any _ _ _ _ _) ?_; intro x) | (refine Calls.later (refMay_any _ _ _ _ _) ?_; intro x)))
      go_ret
      refine .mk (val_int HN.out.symm) ?_
      repeat' (first | (refine Later.to _ ?_ ?_) | go_grown | (simp [go_sem]; done))
  · have hn : roomN f s z h t = 0 := by simp [roomN, m1]
    have HN := Lib.hid hn; clear hn
    go_enter Try.func25, Try.ntmps25
    go_wp2_with (first
            | (go_at_call 28; first | (refine Calls.later1 (refMay_any _ _ _ _ _) ?_; intro x) | (refine Calls.later (refMay_any _ _ _ _ _) ?_; intro x)))
    go_ret
    refine .mk (val_int HN.out.symm) ?_
    repeat' (first | (refine Later.to _ ?_ ?_) | go_grown | (simp [go_sem]; done))
end Go.Proofs.Ytoehbcbdkahjpaa
