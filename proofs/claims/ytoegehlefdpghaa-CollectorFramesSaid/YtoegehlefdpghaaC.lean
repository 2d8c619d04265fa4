/- Walks over bits: right, Least, fits; own rows of bytes. -/
import Derived.Test.YtoegehlefdpghaaLater
import Derived.Test.YtoegehlefdpghaaOwn
import Derived.Test.YtoegehlefdpghaaBytes
import Derived.Deep.OwnRows
set_option linter.unusedSimpArgs false
set_option linter.unusedVariables false
namespace Go.Proofs.Ytoegehlefdpghaa
open Go.RowKit

theorem dec_mk' {p : Prop} [Decidable p] {b : Bool} (h : b = true ↔ p) : b = decide p := by rw [Bool.eq_iff_iff, h]; simp
def rightB (n : Int) : Bool := decide (1 ≤ n ∧ n ≤ 8)

set_option maxHeartbeats 400000 in
theorem right_any (n : Int) (w : World) : Calls Try.prog 39 #[.int .i64 n] w (RetAt w (.bool (rightB n))) := by
  go_enter Try.func39, Try.ntmps39
  go_wp2
  all_goals go_ret
  all_goals refine .mk (val_bool (dec_mk' ?_)) (by go_grown)
  all_goals simp
  all_goals omega

theorem shr8 (x : Int) (h : 0 ≤ x) (h' : x < 18446744073709551616) : 0 ≤ x / 256 ∧ x / 256 < 18446744073709551616 := by omega

set_option maxHeartbeats 1000000 in
/-- A number below 256^n has at most n bytes. -/
theorem least_any (v : Int) (n : Nat) (h0 : 0 ≤ v) (h1 : v < 256 ^ n) (hn1 : 1 ≤ n) (hn : n ≤ 8) (w : World) :
    Calls Try.prog 40 #[.int .u64 v] w (fun e w' => ∃ k : Int, e = .returned (.int .i64 k) ∧ 1 ≤ k ∧ k ≤ n ∧ Below w.heap.size w w') := by
  go_enter Try.func40, Try.ntmps40
  go_wp2_with fail
  have hv : v / 256 < 256 ^ (n - 1) := by
    obtain ⟨m, rfl⟩ : ∃ m, n = m + 1 := ⟨n - 1, by omega⟩
    rw [Int.pow_succ] at h1
    simp only [Nat.add_sub_cancel]
    generalize (256 : Int) ^ m = p at *
    omega
  have HV := Lib.hid hv
  clear hv h1
  go_loopw [0, 3] (fun u0 u3 wr => ∃ (x k : Int) (m : Nat), u0 = .int .u64 x ∧ u3 = .int .i64 k ∧ 0 ≤ x ∧ Hid (x < 256 ^ m) ∧ 1 ≤ k ∧ k + m = n ∧ Below w.heap.size w wr) (fun u0 _ _ => (intOf u0).toNat)
  case atStart => exact ⟨v / 256, 1, n - 1, rfl, rfl, by omega, HV, by omega, by omega, Below.refl _ _⟩
  case round =>
    obtain ⟨x, k, m, rfl, rfl, hx, HX, hk, hkm, hb⟩ := hrel
    by_cases hx0 : 0 < x
    · obtain ⟨m, rfl⟩ : ∃ m', m = m' + 1 := by
        refine ⟨m - 1, ?_⟩
        have := HX.out
        rcases Nat.eq_zero_or_pos m with e | e
        · subst e; simp at this; omega
        · omega
      have hx2 : x / 256 < 256 ^ m := by
        have := HX.out
        rw [Int.pow_succ] at this
        generalize (256 : Int) ^ m = p at *
        omega
      have HX2 := Lib.hid hx2
      clear hx2
      go_wp2_with fail
      go_roundw
      case rel => exact ⟨x / 256, k + 1, m, by go_num, by go_num, by omega, HX2, by omega, by omega, hb⟩
      case measure => simp [intOf]; omega
    · go_wp2_with fail
      go_ret
      exact ⟨k, rfl, hk, by omega, hb⟩

set_option maxHeartbeats 1000000 in
theorem fits_any (v : Int) (n : Nat) (h0 : 0 ≤ v) (h1 : v < 256 ^ n) (hn1 : 1 ≤ n) (hn : n ≤ 8) (w : World) :
    Calls Try.prog 35 #[.int .u64 v, .int .i64 n] w (RetAt w (.bool true)) := by
  have hr : rightB n = true := by simp [rightB]; omega
  go_enter Try.func35, Try.ntmps35
  go_wp2_with (go_at_call 39; refine Calls.later (right_any _ _) ?_; intro x; rw [hr])
  refine Calls.mono (least_any v n h0 h1 hn1 hn _) ?_
  rintro e w' ⟨k, rfl, hk1, hk2, hb⟩
  go_wp2_with fail
  go_ret
  refine .mk (val_bool ?_) (x.below.trans (hb.mono x.below.size))
  first | (simp; done) | (simp; omega)

def be4 (v : Int) : List Int := [v / 16777216 % 256, v / 65536 % 256, v / 256 % 256, v % 256]
def be8 (v : Int) : List Int := be4 (v / 4294967296) ++ be4 v

theorem info5 : (Try.prog.info? 5).map (fun i => (i.zero, i.size, i.bytes)) = some (some (.int .u8 0), 1, 1) := by kernel_rfl
theorem make1 (w : World) : (Instr.makeSlice 24 (.int .i64 1) (.int .i64 1)).run Try.prog w = .ok (.slice (some ⟨w.heap.size, 0, none⟩) 1 1) (w.alloc (.cells #[.int .u8 0] 5)) :=
  (run_make_row' 24 5 (.int .u8 0) 1 Try.underlying24 info5 rfl .i64 .i64 1 (by decide) (by decide) w).trans (by rw [show madeCells #[Value.int .u8 0] 1 = #[.int .u8 0] from by kernel_rfl])
theorem make4 (w : World) : (Instr.makeSlice 24 (.int .i64 4) (.int .i64 4)).run Try.prog w = .ok (.slice (some ⟨w.heap.size, 0, none⟩) 4 4) (w.alloc (.cells #[.int .u8 0, .int .u8 0, .int .u8 0, .int .u8 0] 5)) :=
  (run_make_row' 24 5 (.int .u8 0) 1 Try.underlying24 info5 rfl .i64 .i64 4 (by decide) (by decide) w).trans (by rw [show madeCells #[Value.int .u8 0] 4 = #[.int .u8 0, .int .u8 0, .int .u8 0, .int .u8 0] from by kernel_rfl])
theorem make8 (w : World) : (Instr.makeSlice 24 (.int .i64 8) (.int .i64 8)).run Try.prog w = .ok (.slice (some ⟨w.heap.size, 0, none⟩) 8 8) (w.alloc (.cells #[.int .u8 0, .int .u8 0, .int .u8 0, .int .u8 0, .int .u8 0, .int .u8 0, .int .u8 0, .int .u8 0] 5)) :=
  (run_make_row' 24 5 (.int .u8 0) 1 Try.underlying24 info5 rfl .i64 .i64 8 (by decide) (by decide) w).trans (by rw [show madeCells #[Value.int .u8 0] 8 = #[.int .u8 0, .int .u8 0, .int .u8 0, .int .u8 0, .int .u8 0, .int .u8 0, .int .u8 0, .int .u8 0] from by kernel_rfl])

set_option maxHeartbeats 2000000 in
theorem of1_any (v : Int) (h0 : 0 ≤ v) (h1 : v < 256) (w : World) : Calls Try.prog 36 #[.int .u64 v, .int .i64 1] w (NewBytes w ([v])) := by
  have hm := make1
  go_enter Try.func36, Try.ntmps36
  go_wp2_with fail
  refine wp_loop_rounds 2 ?_
  rw [rounds_succ]
  go_wp2_with fail
  rw [rounds_succ]
  go_wp2_with fail
  go_ret
  refine ⟨_, _, rfl, ?_, ?_⟩
  · refine Owns.made _ 1 1 5 _ (Nat.le_refl _) (Nat.le_refl 1) (Nat.le_refl 1) (by decide) ?_
    simp [List.take]
    all_goals omega
  · exact (Below.refl _ _).alloc (Nat.le_refl _) _
set_option maxHeartbeats 2000000 in
theorem of4_any (v : Int) (h0 : 0 ≤ v) (h1 : v < 4294967296) (w : World) : Calls Try.prog 36 #[.int .u64 v, .int .i64 4] w (NewBytes w (be4 v)) := by
  have hm := make4
  go_enter Try.func36, Try.ntmps36
  go_wp2_with fail
  refine wp_loop_rounds 5 ?_
  rw [rounds_succ]
  go_wp2_with fail
  rw [rounds_succ]
  go_wp2_with fail
  rw [rounds_succ]
  go_wp2_with fail
  rw [rounds_succ]
  go_wp2_with fail
  rw [rounds_succ]
  go_wp2_with fail
  go_ret
  refine ⟨_, _, rfl, ?_, ?_⟩
  · refine Owns.made _ 4 4 5 _ (Nat.le_refl _) (Nat.le_refl 4) (Nat.le_refl 4) (by decide) ?_
    simp [be4]
    all_goals omega
  · exact (Below.refl _ _).alloc (Nat.le_refl _) _
set_option maxHeartbeats 2000000 in
theorem of8_any (v : Int) (h0 : 0 ≤ v) (h1 : v < 18446744073709551616) (w : World) : Calls Try.prog 36 #[.int .u64 v, .int .i64 8] w (NewBytes w (be8 v)) := by
  have hm := make8
  go_enter Try.func36, Try.ntmps36
  go_wp2_with fail
  refine wp_loop_rounds 9 ?_
  rw [rounds_succ]
  go_wp2_with fail
  rw [rounds_succ]
  go_wp2_with fail
  rw [rounds_succ]
  go_wp2_with fail
  rw [rounds_succ]
  go_wp2_with fail
  rw [rounds_succ]
  go_wp2_with fail
  rw [rounds_succ]
  go_wp2_with fail
  rw [rounds_succ]
  go_wp2_with fail
  rw [rounds_succ]
  go_wp2_with fail
  rw [rounds_succ]
  go_wp2_with fail
  go_ret
  refine ⟨_, _, rfl, ?_, ?_⟩
  · refine Owns.made _ 8 8 5 _ (Nat.le_refl _) (Nat.le_refl 8) (Nat.le_refl 8) (by decide) ?_
    simp [be8, be4]
    all_goals omega
  · exact (Below.refl _ _).alloc (Nat.le_refl _) _
end Go.Proofs.Ytoegehlefdpghaa
