/- Walks over prefixes: the reference's Right, Digit, Cut. -/
import Derived.Test.YtcadpcppnllhnaaGreatDoorJ2

section
set_option linter.unusedSimpArgs false
set_option linter.unusedVariables false
namespace Go.Proofs.YtcadpcppnllhnaaGreatDoor
open Go.RowKit

set_option maxRecDepth 20000 in
set_option maxHeartbeats 8000000 in
theorem rright_any (six : Bool) (B : Nat → Int) (w : World) : Calls Tryz.prog 19 #[adV six B] w (RetAt w (.bool (rightB six B))) := by
  have HX : AdBox (w.alloc (.cells #[.bool six, .int .u8 (B 0), .int .u8 (B 1), .int .u8 (B 2), .int .u8 (B 3), .int .u8 (B 4), .int .u8 (B 5), .int .u8 (B 6), .int .u8 (B 7), .int .u8 (B 8), .int .u8 (B 9), .int .u8 (B 10), .int .u8 (B 11), .int .u8 (B 12), .int .u8 (B 13), .int .u8 (B 14), .int .u8 (B 15)] 41)) w.heap.size 41 six B := AdBox.made w _ six B
  have HB := Lib.hid (Below.all (Below.refl w.heap.size w) (.cells #[.bool six, .int .u8 (B 0), .int .u8 (B 1), .int .u8 (B 2), .int .u8 (B 3), .int .u8 (B 4), .int .u8 (B 5), .int .u8 (B 6), .int .u8 (B 7), .int .u8 (B 8), .int .u8 (B 9), .int .u8 (B 10), .int .u8 (B 11), .int .u8 (B 12), .int .u8 (B 13), .int .u8 (B 14), .int .u8 (B 15)] 41))
  unfold adV
  go_enter Tryz.func19, Tryz.ntmps19
  go_wp2_with fail
  generalize w.alloc (.cells #[.bool six, .int .u8 (B 0), .int .u8 (B 1), .int .u8 (B 2), .int .u8 (B 3), .int .u8 (B 4), .int .u8 (B 5), .int .u8 (B 6), .int .u8 (B 7), .int .u8 (B 8), .int .u8 (B 9), .int .u8 (B 10), .int .u8 (B 11), .int .u8 (B 12), .int .u8 (B 13), .int .u8 (B 14), .int .u8 (B 15)] 41) = w1 at *
  have HS := Lib.hid HX.six
  have HX := Lib.hid HX
  go_loopw [3] (fun u3 wr => ∃ k : Nat, 4 ≤ k ∧ k ≤ 16 ∧ u3 = .int .i64 k ∧ wr = w1 ∧ Hid (six = true ∨ ∀ i, 4 ≤ i → i < k → B i = 0)) (fun u3 _ => (16 : Int) - intOf u3 |>.toNat)
  case atStart => exact ⟨4, by omega, by omega, rfl, rfl, Lib.hid (.inr fun i h1 h2 => by omega)⟩
  case round =>
    obtain ⟨k, hk4, hk, rfl, rfl, HI⟩ := hrel
    by_cases hlt : k < 16
    · have hcx := HX.out.cell k hlt
      have hs := HX.out.six
      cases six
      · by_cases hz : B k = 0
        · rw [hz] at hcx
          go_wp2_with fail
          go_roundw
          case rel => exact ⟨k + 1, by omega, by omega, by go_num, trivial, Lib.hid (.inr fun i h1 h2 => by
            by_cases e : i = k
            · rw [e]; exact hz
            · exact (HI.out.resolve_left (by simp)) i h1 (by omega))⟩
          case measure => simp [intOf]; omega
        · have HN : Hid (rightB false B = false) := Lib.hid (by rw [Bool.eq_false_iff]; intro h; exact hz (rightB_four.1 h k hk4 hlt))
          go_wp2_with fail
          go_ret
          exact .mk (val_bool HN.out.symm) HB.out
      · go_wp2_with fail
        go_roundw
        case rel => exact ⟨k + 1, by omega, by omega, by go_num, trivial, Lib.hid (.inl (by simp))⟩
        case measure => simp [intOf]; omega
    · obtain rfl : k = 16 := by omega
      go_wp2_with fail
      go_ret
      refine .mk (val_bool ?_) HB.out
      rcases HI.out with h | h
      · subst h; rfl
      · cases six
        · exact (rightB_four.2 h).symm
        · rfl

/-- A binary digit. -/
def digI (r : Nat) (b : Int) : Int := b / (2 ^ (7 - r) : Nat) % 2
theorem digI_bit (r : Nat) (b : Int) (h : r < 8) : digI r b * (2 ^ (7 - r) : Nat) = bitI r b := by
  rcases upto8 (Nat.le_of_lt h) with rfl | rfl | rfl | rfl | rfl | rfl | rfl | rfl | rfl
  all_goals first
    | omega
    | (simp only [digI, bitI, Nat.reduceSub, Nat.reducePow]; omega)
theorem digI_bd (r : Nat) (b : Int) : 0 ≤ digI r b ∧ digI r b < 2 := by unfold digI; omega
theorem tdiv8 (j : Nat) : Int.tdiv (j : Int) 8 = ((j / 8 : Nat) : Int) := by rw [Int.tdiv_eq_ediv_of_nonneg (by omega)]; omega
theorem tmod8 (j : Nat) : Int.tmod (j : Int) 8 = ((j % 8 : Nat) : Int) := by rw [Int.tmod_eq_emod_of_nonneg (by omega)]; omega

set_option maxRecDepth 20000 in
set_option maxHeartbeats 8000000 in
theorem digit_ref (six : Bool) (B : Nat → Int) (j : Nat) (hj : j < 128) (hB : U8 B) (w : World) : Calls Tryz.prog 57 #[adV six B, .int .i64 (j : Int)] w (RetAt w (.int .i64 (digI (j % 8) (B (j / 8))))) := by
  have HX : AdBox (w.alloc (.cells #[.bool six, .int .u8 (B 0), .int .u8 (B 1), .int .u8 (B 2), .int .u8 (B 3), .int .u8 (B 4), .int .u8 (B 5), .int .u8 (B 6), .int .u8 (B 7), .int .u8 (B 8), .int .u8 (B 9), .int .u8 (B 10), .int .u8 (B 11), .int .u8 (B 12), .int .u8 (B 13), .int .u8 (B 14), .int .u8 (B 15)] 41)) w.heap.size 41 six B := AdBox.made w _ six B
  have HB := Lib.hid (Below.all (Below.refl w.heap.size w) (.cells #[.bool six, .int .u8 (B 0), .int .u8 (B 1), .int .u8 (B 2), .int .u8 (B 3), .int .u8 (B 4), .int .u8 (B 5), .int .u8 (B 6), .int .u8 (B 7), .int .u8 (B 8), .int .u8 (B 9), .int .u8 (B 10), .int .u8 (B 11), .int .u8 (B 12), .int .u8 (B 13), .int .u8 (B 14), .int .u8 (B 15)] 41))
  have hq : j / 8 < 16 := by omega
  have hr : j % 8 < 8 := by omega
  have ht := tdiv8 j
  have hm := tmod8 j
  have hb := hB (j / 8)
  generalize j / 8 = q at *
  generalize j % 8 = r at *
  have hcx := HX.cell q hq
  clear HX
  unfold adV
  go_enter Tryz.func57, Tryz.ntmps57
  go_wp2_with fail
  generalize w.alloc (.cells #[.bool six, .int .u8 (B 0), .int .u8 (B 1), .int .u8 (B 2), .int .u8 (B 3), .int .u8 (B 4), .int .u8 (B 5), .int .u8 (B 6), .int .u8 (B 7), .int .u8 (B 8), .int .u8 (B 9), .int .u8 (B 10), .int .u8 (B 11), .int .u8 (B 12), .int .u8 (B 13), .int .u8 (B 14), .int .u8 (B 15)] 41) = w1 at *
  clear hcx
  generalize hv : B q = b at *
  clear hv hB
  go_loopw [5, 6] (fun u5 u6 wr => ∃ (k : Nat) (v : Int), r ≤ k ∧ k ≤ 7 ∧ u6 = .int .i64 k ∧ u5 = .int .i64 v ∧ 0 ≤ v ∧ v < 256 ∧ Hid (v = b / (2 ^ (k - r) : Nat)) ∧ wr = w1) (fun _ u6 _ => (7 : Int) - intOf u6 |>.toNat)
  case atStart => exact ⟨r, b, by omega, by omega, rfl, rfl, by omega, by omega, Lib.hid (by simp), rfl⟩
  case round =>
    obtain ⟨k, v, hrk, hk, rfl, rfl, hv0, hv1, HV, rfl⟩ := hrel
    have h2 : Int.tdiv v 2 = v / 2 := Int.tdiv_eq_ediv_of_nonneg hv0
    have h3 : Int.tmod v 2 = v % 2 := Int.tmod_eq_emod_of_nonneg hv0
    by_cases hlt : k < 7
    · go_wp2_with fail
      go_roundw
      case rel => exact ⟨k + 1, v / 2, by omega, by omega, by go_num, by first | rfl | go_num, by omega, by omega, Lib.hid (by rw [HV.out, show k + 1 - r = k - r + 1 by omega, Nat.pow_succ, Int.natCast_mul]; exact Int.ediv_ediv_of_nonneg (Int.natCast_nonneg _)), trivial⟩
      case measure => simp [intOf]; omega
    · obtain rfl : k = 7 := by omega
      go_wp2_with fail
      go_ret
      exact .mk (val_int (by unfold digI; rw [← HV.out])) HB.out

set_option maxRecDepth 20000 in
set_option maxHeartbeats 8000000 in
theorem rcut_right (six : Bool) (B : Nat → Int) (n : Int) (hB : U8 B) (hr : rightB six B = true) (hn0 : -9223372036854775808 ≤ n) (hn1 : n ≤ 9223372036854775807) (w : World) :
    Calls Tryz.prog 36 #[adV six B, .int .i64 n] w (RetAt w (pfV six (cutB (clampN six n) B) (clampN six n : Int))) := by
  have HR := Lib.hid (fun w => rright_any six B w)
  have HS := Lib.hid (fun w => rsize_any six w)
  have HD := Lib.hid (fun j hj w => digit_ref six B j hj hB w)
  have HB := Lib.hid hB
  have hC : (n ≤ 0 ∧ clampN six n = 0) ∨ (0 < n ∧ n ≤ 8 * sizeZ six ∧ n = clampN six n) ∨ (8 * sizeZ six < n ∧ 8 * sizeZ six = clampN six n) := by unfold clampN sizeZ; split <;> omega
  have hcl := clampN_le six n
  have hz0 : 4 ≤ sizeZ six := by unfold sizeZ; split <;> omega
  have hz1 : sizeZ six ≤ 16 := by unfold sizeZ; split <;> omega
  rw [hr] at HR
  clear hB hr
  generalize sizeZ six = z at *
  generalize clampN six n = m at *
  unfold adV at *
  go_enter Tryz.func36, Tryz.ntmps36
  go_wp2_with fail
  refine Calls.mono (HR.out _) ?_
  rintro e w1 ⟨rfl, hb1⟩
  have hX := (hb1.block w.heap.size (by simp; omega)).trans (heap_alloc2_old w (.cells #[.bool six, .int .u8 (B 0), .int .u8 (B 1), .int .u8 (B 2), .int .u8 (B 3), .int .u8 (B 4), .int .u8 (B 5), .int .u8 (B 6), .int .u8 (B 7), .int .u8 (B 8), .int .u8 (B 9), .int .u8 (B 10), .int .u8 (B 11), .int .u8 (B 12), .int .u8 (B 13), .int .u8 (B 14), .int .u8 (B 15)] 41) _)
  have HP : Hid (PfBox w1 (w.heap.size + 1) 47 false (fun _ => 0) 0) := Lib.hid ⟨(hb1.block _ (by simp)).trans (heap_alloc2_new w (.cells #[.bool six, .int .u8 (B 0), .int .u8 (B 1), .int .u8 (B 2), .int .u8 (B 3), .int .u8 (B 4), .int .u8 (B 5), .int .u8 (B 6), .int .u8 (B 7), .int .u8 (B 8), .int .u8 (B 9), .int .u8 (B 10), .int .u8 (B 11), .int .u8 (B 12), .int .u8 (B 13), .int .u8 (B 14), .int .u8 (B 15)] 41) (.cells #[.bool false, .int .u8 ((fun _ => 0) 0), .int .u8 ((fun _ => 0) 1), .int .u8 ((fun _ => 0) 2), .int .u8 ((fun _ => 0) 3), .int .u8 ((fun _ => 0) 4), .int .u8 ((fun _ => 0) 5), .int .u8 ((fun _ => 0) 6), .int .u8 ((fun _ => 0) 7), .int .u8 ((fun _ => 0) 8), .int .u8 ((fun _ => 0) 9), .int .u8 ((fun _ => 0) 10), .int .u8 ((fun _ => 0) 11), .int .u8 ((fun _ => 0) 12), .int .u8 ((fun _ => 0) 13), .int .u8 ((fun _ => 0) 14), .int .u8 ((fun _ => 0) 15), .int .i64 0] 47))⟩
  have hsx := (AdBox.mk hX).six
  have hlx := (AdBox.mk hX).lt
  have hlp := HP.out.lt
  have HB1 := Lib.hid (Below.via (Below.all (Below.all (Below.refl w.heap.size w) _) _) hb1)
  have HX := Lib.hid (AdBox.mk hX)
  clear hX hb1
  go_wp2_with fail
  refine Calls.mono (HS.out _) ?_
  rintro e w2 ⟨rfl, rfl⟩
  clear HR HS
  have hcase : (n ≤ 0 ∧ m = 0) ∨ (0 < n ∧ n ≤ 8 * z ∧ n = m) ∨ (8 * z < n ∧ 8 * z = m) := hC
  clear hC
  rcases hcase with ⟨h1, hm0⟩ | ⟨h1, h2, rfl⟩ | ⟨h1, h2⟩
  · have HM0 := Lib.hid hm0
    clear hm0
    have h8 : ¬ (8 * z < n) := by omega
    have h8' : 0 < 8 * z := by omega
    go_wp2_with fail
    go_loopw [6] (fun u6 wr => u6 = .int .i64 0 ∧ wr = w1.alloc (.cells #[.bool six, .int .u8 ((fun _ => 0) 0), .int .u8 ((fun _ => 0) 1), .int .u8 ((fun _ => 0) 2), .int .u8 ((fun _ => 0) 3), .int .u8 ((fun _ => 0) 4), .int .u8 ((fun _ => 0) 5), .int .u8 ((fun _ => 0) 6), .int .u8 ((fun _ => 0) 7), .int .u8 ((fun _ => 0) 8), .int .u8 ((fun _ => 0) 9), .int .u8 ((fun _ => 0) 10), .int .u8 ((fun _ => 0) 11), .int .u8 ((fun _ => 0) 12), .int .u8 ((fun _ => 0) 13), .int .u8 ((fun _ => 0) 14), .int .u8 ((fun _ => 0) 15), .int .i64 0] 47)) (fun _ _ => 0)
    case atStart => exact ⟨rfl, rfl⟩
    case round =>
      obtain ⟨rfl, rfl⟩ := hrel
      have hQ := PfBox.made w1 47 six (fun _ => 0) 0
      have hpp := hQ.part
      have hrr := (HP.out.alloc (.cells #[.bool six, .int .u8 ((fun _ => 0) 0), .int .u8 ((fun _ => 0) 1), .int .u8 ((fun _ => 0) 2), .int .u8 ((fun _ => 0) 3), .int .u8 ((fun _ => 0) 4), .int .u8 ((fun _ => 0) 5), .int .u8 ((fun _ => 0) 6), .int .u8 ((fun _ => 0) 7), .int .u8 ((fun _ => 0) 8), .int .u8 ((fun _ => 0) 9), .int .u8 ((fun _ => 0) 10), .int .u8 ((fun _ => 0) 11), .int .u8 ((fun _ => 0) 12), .int .u8 ((fun _ => 0) 13), .int .u8 ((fun _ => 0) 14), .int .u8 ((fun _ => 0) 15), .int .i64 0] 47)).row
      have HPh := Lib.hid (HP.out.alloc (.cells #[.bool six, .int .u8 ((fun _ => 0) 0), .int .u8 ((fun _ => 0) 1), .int .u8 ((fun _ => 0) 2), .int .u8 ((fun _ => 0) 3), .int .u8 ((fun _ => 0) 4), .int .u8 ((fun _ => 0) 5), .int .u8 ((fun _ => 0) 6), .int .u8 ((fun _ => 0) 7), .int .u8 ((fun _ => 0) 8), .int .u8 ((fun _ => 0) 9), .int .u8 ((fun _ => 0) 10), .int .u8 ((fun _ => 0) 11), .int .u8 ((fun _ => 0) 12), .int .u8 ((fun _ => 0) 13), .int .u8 ((fun _ => 0) 14), .int .u8 ((fun _ => 0) 15), .int .i64 0] 47)).heap
      have HBx := Lib.hid (Below.all HB1.out (.cells #[.bool six, .int .u8 ((fun _ => 0) 0), .int .u8 ((fun _ => 0) 1), .int .u8 ((fun _ => 0) 2), .int .u8 ((fun _ => 0) 3), .int .u8 ((fun _ => 0) 4), .int .u8 ((fun _ => 0) 5), .int .u8 ((fun _ => 0) 6), .int .u8 ((fun _ => 0) 7), .int .u8 ((fun _ => 0) 8), .int .u8 ((fun _ => 0) 9), .int .u8 ((fun _ => 0) 10), .int .u8 ((fun _ => 0) 11), .int .u8 ((fun _ => 0) 12), .int .u8 ((fun _ => 0) 13), .int .u8 ((fun _ => 0) 14), .int .u8 ((fun _ => 0) 15), .int .i64 0] 47))
      clear hQ hsx hlx HX HP HB1
      generalize w1.alloc (.cells #[.bool six, .int .u8 ((fun _ => 0) 0), .int .u8 ((fun _ => 0) 1), .int .u8 ((fun _ => 0) 2), .int .u8 ((fun _ => 0) 3), .int .u8 ((fun _ => 0) 4), .int .u8 ((fun _ => 0) 5), .int .u8 ((fun _ => 0) 6), .int .u8 ((fun _ => 0) 7), .int .u8 ((fun _ => 0) 8), .int .u8 ((fun _ => 0) 9), .int .u8 ((fun _ => 0) 10), .int .u8 ((fun _ => 0) 11), .int .u8 ((fun _ => 0) 12), .int .u8 ((fun _ => 0) 13), .int .u8 ((fun _ => 0) 14), .int .u8 ((fun _ => 0) 15), .int .i64 0] 47) = w3 at *
      go_wp2_with fail
      refine bodyPost_ret (v := pfV six (fun _ => 0) 0) (results_pf1 _ _ Tryz.underlying47 info_rpf rfl _ _ (w.heap.size + 1) rfl (partOf_set2 HPh.out)) rfl (.mk ?_ (below_setRow HBx.out (by omega) _))
      rw [HM0.out]
      exact pf_congr fun i _ => (cutB_zero HB.out i).symm
  all_goals
    try have h8 : ¬ (8 * z < n) := by omega
    try have h8' : 0 < 8 * z := by omega
    go_wp2_with fail
    try rw [h2]
    have HQ := Lib.hid ((PfBox.made w1 47 six (fun _ => 0) (m : Int)).congr (C := cutB 0 B) fun i _ => (cutB_zero HB.out i).symm)
    have HX1 := Lib.hid (HX.out.alloc (.cells #[.bool six, .int .u8 ((fun _ => 0) 0), .int .u8 ((fun _ => 0) 1), .int .u8 ((fun _ => 0) 2), .int .u8 ((fun _ => 0) 3), .int .u8 ((fun _ => 0) 4), .int .u8 ((fun _ => 0) 5), .int .u8 ((fun _ => 0) 6), .int .u8 ((fun _ => 0) 7), .int .u8 ((fun _ => 0) 8), .int .u8 ((fun _ => 0) 9), .int .u8 ((fun _ => 0) 10), .int .u8 ((fun _ => 0) 11), .int .u8 ((fun _ => 0) 12), .int .u8 ((fun _ => 0) 13), .int .u8 ((fun _ => 0) 14), .int .u8 ((fun _ => 0) 15), .int .i64 (m : Int)] 47))
    have HP1 := Lib.hid (HP.out.alloc (.cells #[.bool six, .int .u8 ((fun _ => 0) 0), .int .u8 ((fun _ => 0) 1), .int .u8 ((fun _ => 0) 2), .int .u8 ((fun _ => 0) 3), .int .u8 ((fun _ => 0) 4), .int .u8 ((fun _ => 0) 5), .int .u8 ((fun _ => 0) 6), .int .u8 ((fun _ => 0) 7), .int .u8 ((fun _ => 0) 8), .int .u8 ((fun _ => 0) 9), .int .u8 ((fun _ => 0) 10), .int .u8 ((fun _ => 0) 11), .int .u8 ((fun _ => 0) 12), .int .u8 ((fun _ => 0) 13), .int .u8 ((fun _ => 0) 14), .int .u8 ((fun _ => 0) 15), .int .i64 (m : Int)] 47))
    have HBx := Lib.hid (Below.all HB1.out (.cells #[.bool six, .int .u8 ((fun _ => 0) 0), .int .u8 ((fun _ => 0) 1), .int .u8 ((fun _ => 0) 2), .int .u8 ((fun _ => 0) 3), .int .u8 ((fun _ => 0) 4), .int .u8 ((fun _ => 0) 5), .int .u8 ((fun _ => 0) 6), .int .u8 ((fun _ => 0) 7), .int .u8 ((fun _ => 0) 8), .int .u8 ((fun _ => 0) 9), .int .u8 ((fun _ => 0) 10), .int .u8 ((fun _ => 0) 11), .int .u8 ((fun _ => 0) 12), .int .u8 ((fun _ => 0) 13), .int .u8 ((fun _ => 0) 14), .int .u8 ((fun _ => 0) 15), .int .i64 (m : Int)] 47))
    clear hsx hlx HX HP HB1 h1
    try clear h2
    try clear h8
    clear h8'
    generalize w1.alloc (.cells #[.bool six, .int .u8 ((fun _ => 0) 0), .int .u8 ((fun _ => 0) 1), .int .u8 ((fun _ => 0) 2), .int .u8 ((fun _ => 0) 3), .int .u8 ((fun _ => 0) 4), .int .u8 ((fun _ => 0) 5), .int .u8 ((fun _ => 0) 6), .int .u8 ((fun _ => 0) 7), .int .u8 ((fun _ => 0) 8), .int .u8 ((fun _ => 0) 9), .int .u8 ((fun _ => 0) 10), .int .u8 ((fun _ => 0) 11), .int .u8 ((fun _ => 0) 12), .int .u8 ((fun _ => 0) 13), .int .u8 ((fun _ => 0) 14), .int .u8 ((fun _ => 0) 15), .int .i64 (m : Int)] 47) = w3 at *
    generalize w1.heap.size = b1 at *
    go_loopw [6] (fun u6 wr => ∃ j : Nat, j ≤ m ∧ u6 = .int .i64 j ∧ Hid (AdBox wr w.heap.size 41 six B) ∧ Hid (PfBox wr (w.heap.size + 1) 47 false (fun _ => 0) 0) ∧ Hid (PfBox wr b1 47 six (cutB j B) m) ∧ Hid (Below w.heap.size w wr)) (fun u6 _ => (m : Int) - intOf u6 |>.toNat)
    case atStart => exact ⟨0, by omega, rfl, HX1, HP1, HQ, HBx⟩
    case round =>
      obtain ⟨j, hj, rfl, HX, HP, HR, HW⟩ := hrel
      by_cases hlt : j < m
      · have hp := HX.out.part
        have HDj := Lib.hid (HD.out j (by omega))
        have htd := tdiv8 j
        have htm := tmod8 j
        have hq : j / 8 < 16 := by omega
        have hr : j % 8 < 8 := by omega
        have HST := Lib.hid (fun i => cutB_step (n := j) (B := B) i)
        have HCU := Lib.hid (cutB_u8 (n := j + 1) HB.out)
        have HCJ := Lib.hid (cutB_u8 (n := j) HB.out (j / 8))
        generalize j / 8 = q at *
        generalize j % 8 = r at *
        go_wp2_with fail
        refine Calls.mono (HDj.out _) ?_
        rintro e w4 ⟨rfl, hb4⟩
        have HX4 := Lib.hid (HX.out.below hb4)
        have HP4 := Lib.hid (HP.out.below hb4)
        have HR4 := Lib.hid (HR.out.below hb4)
        have HW4 := Lib.hid (Below.via HW.out hb4)
        have hdg := digI_bd r (B q)
        have HDB := Lib.hid (digI_bit r (B q) hr)
        clear hp HX HP HR HW hb4 HDj
        generalize digI r (B q) = dg at *
        go_wp2_with fail
        go_loopw [7, 8] (fun u7 u8 wr => ∃ (k : Nat) (v : Int), r ≤ k ∧ k ≤ 7 ∧ u8 = .int .i64 k ∧ u7 = .int .i64 v ∧ 0 ≤ v ∧ v < 256 ∧ Hid (v = dg * (2 ^ (k - r) : Nat)) ∧ wr = w4) (fun _ u8 _ => (7 : Int) - intOf u8 |>.toNat)
        case atStart => exact ⟨r, dg, by omega, by omega, rfl, rfl, by omega, by omega, Lib.hid (by simp), rfl⟩
        case round =>
          obtain ⟨k, v, hrk, hk, rfl, rfl, hv0, hv1, HV, rfl⟩ := hrel
          by_cases hlt7 : k < 7
          · have hpw : (2 ^ (k + 1 - r) : Nat) ≤ 2 ^ 7 := Nat.pow_le_pow_right (by omega) (by omega)
            have hps : (2 ^ (k + 1 - r) : Nat) = 2 * 2 ^ (k - r) := by rw [show k + 1 - r = k - r + 1 by omega, Nat.pow_succ]; omega
            have hvv : 2 * v = dg * (2 ^ (k + 1 - r) : Nat) := by rw [HV.out, hps, Int.natCast_mul, Int.mul_left_comm]; rfl
            have hv2 : 2 * v < 256 := by
              rcases (show dg = 0 ∨ dg = 1 by omega) with h | h
              · rw [hvv, h]; omega
              · rw [hvv, h]; omega
            have HVV := Lib.hid hvv
            clear hpw hps hvv
            go_wp2_with fail
            go_roundw
            case rel => exact ⟨k + 1, 2 * v, by omega, by omega, by go_num, rfl, by omega, by omega, HVV, trivial⟩
            case measure => simp [intOf]; omega
          · obtain rfl : k = 7 := by omega
            have hcq := HR4.out.cell q hq
            have hfq := HR4.out.free (1 + q)
            have hst := HST.out q
            rw [if_pos rfl, ← HDB.out, ← HV.out] at hst
            have hcu := HCU.out q
            rw [hst] at hcu
            have HSQ := Lib.hid hst
            have hcj := HCJ.out
            clear hst
            generalize cutB j B q = c at *
            go_wp2_with fail
            go_roundw
            case rel =>
              refine ⟨j + 1, by omega, by go_num, Lib.hid (HX4.out.other _ _ (by simp only; omega)), Lib.hid (HP4.out.other _ _ (by simp only; omega)), Lib.hid ((HR4.out.set q hq (c + v)).congr fun i hi => ?_), Lib.hid (HW4.out.setCell (by simp only; omega) _)⟩
              by_cases e : i = q
              · subst e; simp [HSQ.out]
              · simp only [if_neg e]; rw [HST.out i, if_neg e]
            case measure => simp [intOf]; omega
      · obtain rfl : j = m := by omega
        have hpp := HR.out.part
        have hrr := HP.out.row
        have HPh := Lib.hid HP.out.heap
        go_wp2_with fail
        exact bodyPost_ret (v := pfV six (cutB j B) j) (results_pf1 _ _ Tryz.underlying47 info_rpf rfl _ _ (w.heap.size + 1) rfl (partOf_set2 HPh.out)) rfl (.mk rfl (below_setRow HW.out (by omega) _))
end Go.Proofs.YtcadpcppnllhnaaGreatDoor
end

/- Walks over prefixes: the reference's Cut and RightPrefix; Has, Within; the documents' forms. -/
section
set_option linter.unusedSimpArgs false
set_option linter.unusedVariables false
namespace Go.Proofs.YtcadpcppnllhnaaGreatDoor
open Go.RowKit

set_option maxRecDepth 20000 in
set_option maxHeartbeats 8000000 in
theorem rcut_wrong (six : Bool) (B : Nat → Int) (n : Int) (hr : rightB six B = false) (w : World) :
    Calls Tryz.prog 36 #[adV six B, .int .i64 n] w (RetAt w (pfV false (fun _ => 0) 0)) := by
  have HR := Lib.hid (fun w => rright_any six B w)
  rw [hr] at HR
  clear hr
  unfold adV at *
  go_enter Tryz.func36, Tryz.ntmps36
  go_wp2_with fail
  refine Calls.mono (HR.out _) ?_
  rintro e w1 ⟨rfl, hb1⟩
  have HP : PfBox w1 (w.heap.size + 1) 47 false (fun _ => 0) 0 := ⟨(hb1.block _ (by simp)).trans (heap_alloc2_new w (.cells #[.bool six, .int .u8 (B 0), .int .u8 (B 1), .int .u8 (B 2), .int .u8 (B 3), .int .u8 (B 4), .int .u8 (B 5), .int .u8 (B 6), .int .u8 (B 7), .int .u8 (B 8), .int .u8 (B 9), .int .u8 (B 10), .int .u8 (B 11), .int .u8 (B 12), .int .u8 (B 13), .int .u8 (B 14), .int .u8 (B 15)] 41) (.cells #[.bool false, .int .u8 ((fun _ => 0) 0), .int .u8 ((fun _ => 0) 1), .int .u8 ((fun _ => 0) 2), .int .u8 ((fun _ => 0) 3), .int .u8 ((fun _ => 0) 4), .int .u8 ((fun _ => 0) 5), .int .u8 ((fun _ => 0) 6), .int .u8 ((fun _ => 0) 7), .int .u8 ((fun _ => 0) 8), .int .u8 ((fun _ => 0) 9), .int .u8 ((fun _ => 0) 10), .int .u8 ((fun _ => 0) 11), .int .u8 ((fun _ => 0) 12), .int .u8 ((fun _ => 0) 13), .int .u8 ((fun _ => 0) 14), .int .u8 ((fun _ => 0) 15), .int .i64 0] 47))⟩
  have hrr := HP.row
  have HPh := Lib.hid HP.heap
  have HB1 := Lib.hid (Below.via (Below.all (Below.all (Below.refl w.heap.size w) _) _) hb1)
  clear HP hb1
  go_wp2_with fail
  refine bodyPost_ret (v := pfV false (fun _ => 0) 0) (results_pf1 _ _ Tryz.underlying47 info_rpf rfl _ _ (w.heap.size + 1) rfl (partOf_set2 HPh.out)) rfl (.mk rfl (below_setRow HB1.out (by omega) _))

theorem rcut_any (six : Bool) (B : Nat → Int) (n : Int) (hB : U8 B) (hn0 : -9223372036854775808 ≤ n) (hn1 : n ≤ 9223372036854775807) (w : World) :
    Calls Tryz.prog 36 #[adV six B, .int .i64 n] w (RetAt w (pfV (cutSix six B) (cutBy six B n) (cutLen six B n))) := by
  unfold cutSix cutBy cutLen
  by_cases h : rightB six B = true
  · rw [if_pos h, if_pos h, if_pos h]; exact rcut_right six B n hB h hn0 hn1 w
  · rw [if_neg h, if_neg h, if_neg h]; exact rcut_wrong six B n (by simpa using h) w

set_option maxRecDepth 20000 in
set_option maxHeartbeats 8000000 in
theorem rpright_yes (six : Bool) (B : Nat → Int) (n : Int) (hB : U8 B) (hr : rightB six B = true) (hn0 : -9223372036854775808 ≤ n) (hn1 : n ≤ 9223372036854775807) (w : World) :
    Calls Tryz.prog 37 #[pfV six B n] w (RetAt w (.bool (rightPB six B n))) := by
  have HR : ∀ w, Calls Tryz.prog 19 #[adV six B] w (RetAt w (.bool true)) := fun w => by rw [← hr]; exact rright_any six B w
  have HC := rcut_right six B n hB hr hn0 hn1
  have HE : Hid (rightPB six B n = (eqL (b16 (cutB (clampN six n) B)) (b16 B) && (clampN six n : Int) == n)) := Lib.hid (by unfold rightPB; rw [hr, Bool.true_and])
  clear hB hr
  generalize cutB (clampN six n) B = C at *
  generalize clampN six n = m at *
  unfold adV pfV at *
  go_enter Tryz.func37, Tryz.ntmps37
  go_wp2_with fail
  refine wp_region_later (by kernel_rfl) (by kernel_rfl) ?_
  repeat go_big_quiet_step (first | (go_at_call 19; exact later_call (HR _)) | (go_at_call 36; exact later_call (HC _)))
  refine wpQuiet_nil ?_
  intro x
  go_wp2_with fail
  go_ret
  exact .mk (val_bool HE.out.symm) (Below.lat (Below.all (Below.refl _ _) _))

set_option maxRecDepth 20000 in
set_option maxHeartbeats 8000000 in
theorem rpright_no (six : Bool) (B : Nat → Int) (n : Int) (hr : rightB six B = false) (w : World) :
    Calls Tryz.prog 37 #[pfV six B n] w (RetAt w (.bool (rightPB six B n))) := by
  have HR : ∀ w, Calls Tryz.prog 19 #[adV six B] w (RetAt w (.bool false)) := fun w => by rw [← hr]; exact rright_any six B w
  have HE : Hid (rightPB six B n = false) := Lib.hid (by unfold rightPB; rw [hr, Bool.false_and])
  clear hr
  unfold adV pfV at *
  go_enter Tryz.func37, Tryz.ntmps37
  go_wp2_with fail
  refine wp_region_later (by kernel_rfl) (by kernel_rfl) ?_
  repeat go_big_quiet_step ((go_at_call 19; exact later_call (HR _)))
  refine wpQuiet_nil ?_
  intro x
  go_wp2_with fail
  go_ret
  exact .mk (val_bool HE.out.symm) (Below.lat (Below.all (Below.refl _ _) _))
theorem rpright_any (six : Bool) (B : Nat → Int) (n : Int) (hB : U8 B) (hn0 : -9223372036854775808 ≤ n) (hn1 : n ≤ 9223372036854775807) (w : World) :
    Calls Tryz.prog 37 #[pfV six B n] w (RetAt w (.bool (rightPB six B n))) := by
  by_cases h : rightB six B = true
  · exact rpright_yes six B n hB h hn0 hn1 w
  · exact rpright_no six B n (by simpa using h) w

/-- Are two prefixes the same? -/
def pfEq (s : Bool) (B : Nat → Int) (n : Int) (t : Bool) (A : Nat → Int) (m : Int) : Bool := s == t && eqL (b16 B) (b16 A) && n == m
/-- Has a prefix an address? -/
def hasV (s : Bool) (B : Nat → Int) (n : Int) (t : Bool) (A : Nat → Int) : Bool := rightPB s B n && (rightB t A && pfEq t (cutB (clampN t n) A) (clampN t n : Int) s B n)
/-- Is one within another? -/
def withinV (s : Bool) (B : Nat → Int) (n : Int) (t : Bool) (A : Nat → Int) (m : Int) : Bool := rightPB s B n && (decide (m ≤ n) && hasV t A m s B)

set_option maxRecDepth 20000 in
set_option maxHeartbeats 8000000 in
theorem has_any (s : Bool) (B : Nat → Int) (n : Int) (t : Bool) (A : Nat → Int) (hB : U8 B) (hA : U8 A) (hn0 : -9223372036854775808 ≤ n) (hn1 : n ≤ 9223372036854775807) (w : World) :
    Calls Tryz.prog 24 #[pfV s B n, adV t A] w (RetAt w (.bool (hasV s B n t A))) := by
  have HP := pright_any s B n hB hn0 hn1
  have HR := fun w => right_any t A w
  have HC := cut_right t A n hA
  have HV : Hid (hasV s B n t A = (rightPB s B n && (rightB t A && pfEq t (cutB (clampN t n) A) (clampN t n : Int) s B n))) := Lib.hid rfl
  clear hB hA
  generalize hp : rightPB s B n = bp at *
  generalize hr : rightB t A = br at *
  generalize clampN t n = m at *
  generalize cutB m A = C at *
  cases bp
  · have HE := Lib.hid (HV.out.trans (Bool.false_and _))
    clear HV HC HR
    unfold adV pfV at *
    go_enter Tryz.func24, Tryz.ntmps24
    go_wp2_with fail
    refine wp_region_later (by kernel_rfl) (by kernel_rfl) ?_
    repeat go_big_quiet_step ((go_at_call 23; exact later_call (HP _)))
    refine wpQuiet_nil ?_
    intro x
    go_wp2_with fail
    go_ret
    exact .mk (val_bool HE.out.symm) (Below.lat (Below.all (Below.all (Below.refl _ _) _) _))
  · cases br
    · have HE := Lib.hid (HV.out.trans ((Bool.true_and _).trans (Bool.false_and _)))
      clear HV HC
      unfold adV pfV at *
      go_enter Tryz.func24, Tryz.ntmps24
      go_wp2_with fail
      refine wp_region_later (by kernel_rfl) (by kernel_rfl) ?_
      repeat go_big_quiet_step (first | (go_at_call 23; exact later_call (HP _)) | (go_at_call 28; exact later_call (HR _)))
      refine wpQuiet_nil ?_
      intro x
      go_wp2_with fail
      go_ret
      exact .mk (val_bool HE.out.symm) (Below.lat (Below.all (Below.all (Below.refl _ _) _) _))
    · have HE := Lib.hid (HV.out.trans ((Bool.true_and _).trans (Bool.true_and _)))
      have HC2 := HC rfl hn0 hn1
      clear HV HC
      unfold adV pfV at *
      go_enter Tryz.func24, Tryz.ntmps24
      go_wp2_with fail
      refine wp_region_later (by kernel_rfl) (by kernel_rfl) ?_
      repeat go_big_quiet_step (first | (go_at_call 23; exact later_call (HP _)) | (go_at_call 28; exact later_call (HR _)) | (go_at_call 9; exact later_call (HC2 _)))
      refine wpQuiet_nil ?_
      intro x
      go_wp2_with fail
      go_ret
      exact .mk (val_bool HE.out.symm) (Below.lat (Below.all (Below.all (Below.refl _ _) _) _))

set_option maxRecDepth 20000 in
set_option maxHeartbeats 8000000 in
theorem within_any (s : Bool) (B : Nat → Int) (n : Int) (t : Bool) (A : Nat → Int) (m : Int) (hB : U8 B) (hA : U8 A) (hn0 : -9223372036854775808 ≤ n) (hn1 : n ≤ 9223372036854775807) (hm0 : -9223372036854775808 ≤ m) (hm1 : m ≤ 9223372036854775807) (w : World) :
    Calls Tryz.prog 25 #[pfV s B n, pfV t A m] w (RetAt w (.bool (withinV s B n t A m))) := by
  have HP := pright_any s B n hB hn0 hn1
  have HH := has_any t A m s B hA hB hm0 hm1
  have HV : Hid (withinV s B n t A m = (rightPB s B n && (decide (m ≤ n) && hasV t A m s B))) := Lib.hid rfl
  clear hB hA
  generalize hp : rightPB s B n = bp at *
  generalize hr : hasV t A m s B = br at *
  by_cases hmn : m ≤ n
  all_goals cases bp
  all_goals
    unfold adV pfV at *
    go_enter Tryz.func25, Tryz.ntmps25
    go_wp2_with fail
    refine Calls.later (HP _) ?_
    intro x
    go_wp2_with fail
    first
      | (go_ret
         refine .mk (val_bool ?_) (Below.lat (Below.all (Below.all (Below.refl _ _) _) _))
         rw [HV.out]
         first
           | rfl
           | (rw [decide_eq_false (by omega)]; rfl))
      | skip
  refine Calls.later1 (HH _) ?_
  intro y
  go_wp2_with fail
  go_ret
  refine .mk (val_bool ?_) (Below.lat (Below.all (Below.all (Below.refl _ _) _) _))
  rw [HV.out, decide_eq_true (by omega)]; rfl

theorem results_ad1 {fn : Func} {p : Tmp} (t : TypeId) (fs : Array Field) (hu : Tryz.prog.underlying t = some (.struct fs)) (hi : (Tryz.prog.info? t).map (·.size) = some 17)
    (h : fn.results = #[.cell p t]) (tmps : Array Value) (w : World) (b : Nat) {six : Bool} {B : Nat → Int}
    (hp : tmps.getD p undef = .pointer (some ⟨b, 0, none⟩)) (hc : partOf w b 0 17 = #[.bool six, .int .u8 (B 0), .int .u8 (B 1), .int .u8 (B 2), .int .u8 (B 3), .int .u8 (B 4), .int .u8 (B 5), .int .u8 (B 6), .int .u8 (B 7), .int .u8 (B 8), .int .u8 (B 9), .int .u8 (B 10), .int .u8 (B 11), .int .u8 (B 12), .int .u8 (B 13), .int .u8 (B 14), .int .u8 (B 15)]) : (results fn tmps).run Tryz.prog w = .ok (adV six B) w :=
  results_part1 h tmps w b 17 _ hu rfl hi hp _ hc rfl
theorem info_rad5 : (Tryz.prog.info? 41).map (·.size) = some 17 := by kernel_rfl

set_option maxRecDepth 20000 in
set_option maxHeartbeats 8000000 in
theorem docsaddr_any (s : Bool) (B : Nat → Int) (w : World) : Calls Tryz.prog 17 #[adV s B] w (RetAt w (adV s B)) := by
  have HZ : AdBox ((w.alloc (.cells #[.bool s, .int .u8 (B 0), .int .u8 (B 1), .int .u8 (B 2), .int .u8 (B 3), .int .u8 (B 4), .int .u8 (B 5), .int .u8 (B 6), .int .u8 (B 7), .int .u8 (B 8), .int .u8 (B 9), .int .u8 (B 10), .int .u8 (B 11), .int .u8 (B 12), .int .u8 (B 13), .int .u8 (B 14), .int .u8 (B 15)] 26)).alloc (.cells #[.bool s, .int .u8 (B 0), .int .u8 (B 1), .int .u8 (B 2), .int .u8 (B 3), .int .u8 (B 4), .int .u8 (B 5), .int .u8 (B 6), .int .u8 (B 7), .int .u8 (B 8), .int .u8 (B 9), .int .u8 (B 10), .int .u8 (B 11), .int .u8 (B 12), .int .u8 (B 13), .int .u8 (B 14), .int .u8 (B 15)] 41)) (w.heap.size + 1) 41 s B := ⟨heap_alloc2_new w (.cells #[.bool s, .int .u8 (B 0), .int .u8 (B 1), .int .u8 (B 2), .int .u8 (B 3), .int .u8 (B 4), .int .u8 (B 5), .int .u8 (B 6), .int .u8 (B 7), .int .u8 (B 8), .int .u8 (B 9), .int .u8 (B 10), .int .u8 (B 11), .int .u8 (B 12), .int .u8 (B 13), .int .u8 (B 14), .int .u8 (B 15)] 26) (.cells #[.bool s, .int .u8 (B 0), .int .u8 (B 1), .int .u8 (B 2), .int .u8 (B 3), .int .u8 (B 4), .int .u8 (B 5), .int .u8 (B 6), .int .u8 (B 7), .int .u8 (B 8), .int .u8 (B 9), .int .u8 (B 10), .int .u8 (B 11), .int .u8 (B 12), .int .u8 (B 13), .int .u8 (B 14), .int .u8 (B 15)] 41)⟩
  have HZ := Lib.hid HZ
  unfold adV
  go_enter Tryz.func17, Tryz.ntmps17
  go_wp2_with fail
  exact bodyPost_ret (v := adV s B) (results_ad1 _ _ Tryz.underlying41 info_rad5 rfl _ _ (w.heap.size + 1) rfl HZ.out.part) rfl (.mk rfl (Below.all (Below.all (Below.refl _ _) _) _))

set_option maxRecDepth 20000 in
set_option maxHeartbeats 8000000 in
theorem docspf_any (s : Bool) (B : Nat → Int) (n : Int) (w : World) : Calls Tryz.prog 18 #[pfV s B n] w (RetAt w (pfV s B n)) := by
  have HD := fun w => docsaddr_any s B w
  unfold adV pfV at *
  go_enter Tryz.func18, Tryz.ntmps18
  go_wp2_with fail
  refine wp_region_tail 6 (by kernel_rfl) (by kernel_rfl) ?_
  simp only [List.take_succ_cons, List.take_zero, List.drop_succ_cons, List.drop_zero]
  repeat go_big_quiet_step ((go_at_call 17; exact later_call (HD _)))
  refine wpQuiet_nil ?_
  intro x
  have HP : PfBox x.world (w.heap.size + 1) 47 false (fun _ => 0) 0 := ⟨(x.below.block _ (by simp)).trans (heap_alloc2_new w (.cells #[.bool s, .int .u8 (B 0), .int .u8 (B 1), .int .u8 (B 2), .int .u8 (B 3), .int .u8 (B 4), .int .u8 (B 5), .int .u8 (B 6), .int .u8 (B 7), .int .u8 (B 8), .int .u8 (B 9), .int .u8 (B 10), .int .u8 (B 11), .int .u8 (B 12), .int .u8 (B 13), .int .u8 (B 14), .int .u8 (B 15), .int .i64 n] 33) (.cells #[.bool false, .int .u8 ((fun _ => 0) 0), .int .u8 ((fun _ => 0) 1), .int .u8 ((fun _ => 0) 2), .int .u8 ((fun _ => 0) 3), .int .u8 ((fun _ => 0) 4), .int .u8 ((fun _ => 0) 5), .int .u8 ((fun _ => 0) 6), .int .u8 ((fun _ => 0) 7), .int .u8 ((fun _ => 0) 8), .int .u8 ((fun _ => 0) 9), .int .u8 ((fun _ => 0) 10), .int .u8 ((fun _ => 0) 11), .int .u8 ((fun _ => 0) 12), .int .u8 ((fun _ => 0) 13), .int .u8 ((fun _ => 0) 14), .int .u8 ((fun _ => 0) 15), .int .i64 0] 47))⟩
  have hrr := HP.row
  have HPh := Lib.hid HP.heap
  have HB1 := Lib.hid (show Below w.heap.size w x.world from Below.lat (Below.all (Below.all (Below.refl _ _) _) _))
  clear HP
  go_wp2_with fail
  exact bodyPost_ret (v := pfV s B n) (results_pf1 _ _ Tryz.underlying47 info_rpf rfl _ _ (w.heap.size + 1) rfl (partOf_set2 HPh.out)) rfl (.mk rfl (below_setRow HB1.out (by omega) _))
end Go.Proofs.YtcadpcppnllhnaaGreatDoor
end
