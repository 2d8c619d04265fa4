/- Walk over apart: entries that stand one behind the other, in no more blocks than the ring has, stand on blocks of their own. -/
import Derived.Test.YtoehbcbdkahjpaaC
import Derived.Test.YtoehbcbdkahjpaaOwn
import Derived.Deep.OwnRows
namespace Go.Proofs.Ytoehbcbdkahjpaa
open Go.RowKit

/-- Entries as a ring has them: each in one segment, one behind the other, together no more than all blocks. -/
structure Stand (s z : Int) (L : Nat) (P S : Nat → Int) : Prop where
  one : ∀ i, i < L → 0 ≤ P i ∧ P i < 2305843009213693952 ∧ 1 ≤ S i ∧ S i ≤ z ∧ P i % z + S i ≤ z
  next : ∀ i, i + 1 < L → P i + S i ≤ P (i + 1)
  all : ∀ i, i < L → P i + S i - P 0 ≤ s * z

theorem Stand.first {s z : Int} {L : Nat} {P S : Nat → Int} (h : Stand s z L P S) : ∀ i, i < L → P 0 ≤ P i := by
  intro i
  induction i with
  | zero => intro _; omega
  | succ i ih =>
    intro hi
    have h1 := ih (by omega)
    have h2 := h.next i hi
    have h3 := (h.one i (by omega)).2.2.1
    omega

theorem emod_mul (p s z : Int) : p % (s * z) % z = p % z := Int.emod_emod_of_dvd _ ⟨s, Int.mul_comm _ _⟩

/-- a position in the same segment -/
theorem same_seg (p k s z : Int) (h0 : 0 ≤ p) (hs : 1 ≤ s) (hz : 1 ≤ z) (hk : 0 ≤ k) (h : p % z + k < z) : (p + k) % (s * z) = p % (s * z) + k ∧ (p + k) % (s * z) / z = p % (s * z) / z := by
  have hm : 1 * 1 ≤ s * z := Int.mul_le_mul hs hz (by omega) (by omega)
  have e := emod_mul p s z
  obtain ⟨q1, q2⟩ := pct p (s * z) h0 (by omega)
  have hp : p + k = (p % (s * z) + k) + (s * z) * (p / (s * z)) := by have := Int.mul_ediv_add_emod p (s * z); omega
  rw [hp, Int.add_mul_emod_self_left]
  generalize p % (s * z) = r at *
  have hr : r = z * (r / z) + r % z := (Int.mul_ediv_add_emod r z).symm
  have hd : r / z < s := Int.ediv_lt_of_lt_mul (by omega) q2
  have hd' : z * (r / z + 1) ≤ z * s := Int.mul_le_mul_of_nonneg_left (by omega) (by omega)
  rw [Int.mul_add, Int.mul_comm z s] at hd'
  have hlt : r + k < s * z := by omega
  have hn : 0 ≤ r % z := Int.emod_nonneg _ (by omega)
  rw [Int.emod_eq_of_lt (by omega) hlt]
  refine ⟨rfl, ?_⟩
  have h2 : r + k = (r % z + k) + z * (r / z) := by omega
  rw [h2, Int.add_mul_ediv_left _ _ (by omega), Int.ediv_eq_zero_of_lt (by omega) (by omega)]
  omega

/-- two positions less than all blocks apart stand at two places -/
theorem place_ne (p q m : Int) (h : p < q) (hm : q < p + m) (hp : 1 ≤ m) : p % m ≠ q % m := by
  intro e
  have h1 := Int.mul_ediv_add_emod p m
  have h2 := Int.mul_ediv_add_emod q m
  have h3 : q - p = m * (q / m - p / m) := by rw [Int.mul_sub]; omega
  rcases Int.lt_or_le (q / m - p / m) 1 with h4 | h4
  · have : m * (q / m - p / m) ≤ m * 0 := Int.mul_le_mul_of_nonneg_left (by omega) (by omega)
    omega
  · have : m * 1 ≤ m * (q / m - p / m) := Int.mul_le_mul_of_nonneg_left (by omega) (by omega)
    omega

/-- What is taken so far: places of positions from 'lo' on, below 'hi'. -/
def Taken (f m lo hi : Int) (T : Nat → Bool) : Prop := ∀ j, T j = true → ∃ q : Int, lo ≤ q ∧ q < hi ∧ (j : Int) = f + q % m
theorem Taken.none (f m lo hi : Int) : Taken f m lo hi (fun _ => false) := fun _ h => by cases h
theorem Taken.more {f m lo hi hi' : Int} {T : Nat → Bool} (h : Taken f m lo hi T) (hh : hi ≤ hi') : Taken f m lo hi' T := fun j hj => let ⟨q, a, b, c⟩ := h j hj; ⟨q, a, by omega, c⟩
theorem Taken.free {f m lo hi : Int} {T : Nat → Bool} (h : Taken f m lo hi T) (j : Nat) (hj : (j : Int) = f + hi % m) (hm : hi < lo + m) (h1 : 1 ≤ m) : T j = false := by
  cases hT : T j with
  | false => rfl
  | true =>
    obtain ⟨q, a, b, c⟩ := h j hT
    exact absurd (show q % m = hi % m by omega) (place_ne q hi m b (by omega) h1)
theorem Taken.put {f m lo hi : Int} {T : Nat → Bool} (h : Taken f m lo hi T) (j : Nat) (hj : (j : Int) = f + hi % m) (hl : lo ≤ hi) : Taken f m lo (hi + 1) (fun i => if i = j then true else T i) := by
  intro i hi'
  by_cases e : i = j
  · subst e; exact ⟨hi, hl, by omega, hj⟩
  · simp only [e, if_false] at hi'
    obtain ⟨q, a, b, c⟩ := h i hi'
    exact ⟨q, a, by omega, c⟩

theorem info4 : (Try.prog.info? 4).map (fun i => (i.zero, i.size, i.bytes)) = some (some (.bool false), 1, 1) := by kernel_rfl
theorem make_taken (w : World) : (Instr.makeSlice 59 (.int .i64 1025) (.int .i64 1025)).run Try.prog w = .ok (.slice (some ⟨w.heap.size, 0, none⟩) 1025 1025) (w.alloc (.cells (madeCells #[.bool false] 1025) 4)) :=
  run_make_row' 59 4 (.bool false) 1 Try.underlying59 info4 rfl .i64 .i64 1025 (by decide) (by decide) w

theorem bool_row {w : World} {b : Nat} {T : Nat → Bool} (h : w.rowIs b 4 1025 (fun j => .bool (T j))) (j : Nat) : (w.setCell ⟨b, j, none⟩ (.bool true)).rowIs b 4 1025 (fun i => .bool (if i = j then true else T i)) :=
  (h.set j (.bool true)).congr fun i _ => by by_cases e : i = j <;> simp [e]

set_option maxRecDepth 100000 in
set_option maxHeartbeats 1000000 in
theorem apart_any (f s z : Int) (L : Nat) (P S : Nat → Int) (g off ca g' off' ca' : Nat) (w : World) (hL : 0 < L) (hL' : L ≤ 1000) (hr : rightB f s z = true) (hst : Stand s z L P S)
    (hP : ∀ i, i < L → w.cell? ⟨g, off + i, none⟩ = some (.int .u64 (P i))) (hS : ∀ i, i < L → w.cell? ⟨g', off' + i, none⟩ = some (.int .i64 (S i))) (kg : g < w.heap.size) (kg' : g' < w.heap.size) :
    Calls Try.prog 26 #[.agg #[.int .i64 f, .int .i64 s, .int .i64 z], .slice (some ⟨g, off, none⟩) L ca, .slice (some ⟨g', off', none⟩) L ca'] w (RetAt w (.bool true)) := by
  obtain ⟨m1, m2⟩ := mul_bd hr
  obtain ⟨h1, h2, h3, h4, h5, h6, h7⟩ := right_bd hr
  have hmk := make_taken
  have HST := Lib.hid hst; clear hst
  have HP := Lib.hid hP; clear hP
  have HS := Lib.hid hS; clear hS
  have HR := Lib.hid hr; clear hr
  go_enter Try.func26, Try.ntmps26
  go_wp2_with fail
  refine Code.fresh (fun w1 => Below w.heap.size w w1 ∧ w.heap.size < w.heap.size + 1 ∧ w1.rowIs (w.heap.size + 1) 4 1025 (fun _ => .bool false) ∧
    w1.cell? ⟨w.heap.size, 0, none⟩ = some (.int .i64 f) ∧ w1.cell? ⟨w.heap.size, 1, none⟩ = some (.int .i64 s) ∧ w1.cell? ⟨w.heap.size, 2, none⟩ = some (.int .i64 z)) ?_ ?_
  · refine ⟨?_, ?_, ?_, ?_, ?_, ?_⟩
    case refine_1 => go_grown
    case refine_2 => omega
    case refine_3 =>
      have h := World.rowIs_made (w.alloc (.cells #[.int .i64 f, .int .i64 s, .int .i64 z] 23)) (.bool false) 1025 4
      rwa [World.size_alloc] at h
    all_goals go_cell
  clear hmk
  generalize hB : w.heap.size + 1 = B1
  rintro w1 ⟨hb, z0, hrow, c0, c1, c2⟩
  have HB := Lib.hid hB; clear hB
  have hz1 := hrow.lt
  go_loopw [8] (fun t wr => ∃ (k : Nat) (T : Nat → Bool), k ≤ L ∧ t = .int .i64 k ∧ wr.rowIs B1 4 1025 (fun j => .bool (T j)) ∧ Below B1 w1 wr ∧ Hid (Taken f (s * z) (P 0) (if k < L then P k else P 0 + s * z) T)) (fun t _ => L - (intOf t).toNat)
  case atStart => exact ⟨0, fun _ => false, by omega, rfl, hrow, Below.refl _ _, Taken.none _ _ _ _⟩
  case round =>
    obtain ⟨k, T, hk, rfl, hrow', hbw, HT⟩ := hrel
    by_cases hlt : k < L
    · have hst := HST.out
      obtain ⟨o1, o2, o3, o4, o5⟩ := hst.one k hlt
      have hfst := hst.first k hlt
      have hall := hst.all k hlt
      have hnx := hst.next k
      clear hst
      have hz0 : w.heap.size < B1 := by have := HB.out; omega
      have d0 : wr.cell? ⟨w.heap.size, 0, none⟩ = some (.int .i64 f) := (hbw.cell (p := ⟨_, _, none⟩) hz0).trans c0
      have d1 : wr.cell? ⟨w.heap.size, 1, none⟩ = some (.int .i64 s) := (hbw.cell (p := ⟨_, _, none⟩) hz0).trans c1
      have d2 : wr.cell? ⟨w.heap.size, 2, none⟩ = some (.int .i64 z) := (hbw.cell (p := ⟨_, _, none⟩) hz0).trans c2
      have dP : wr.cell? ⟨g, off + k, none⟩ = some (.int .u64 (P k)) := (hbw.cell (p := ⟨_, _, none⟩) (by simp only; omega)).trans ((hb.cell (p := ⟨_, _, none⟩) kg).trans (HP.out k hlt))
      have dS : wr.cell? ⟨g', off' + k, none⟩ = some (.int .i64 (S k)) := (hbw.cell (p := ⟨_, _, none⟩) (by simp only; omega)).trans ((hb.cell (p := ⟨_, _, none⟩) kg').trans (HS.out k hlt))
      have dz : w.heap.size < wr.heap.size := by have := hbw.size; omega
      have dB : B1 < wr.heap.size := by have := hbw.size; omega
      have dg : g < wr.heap.size := by omega
      have dg' : g' < wr.heap.size := by omega
      obtain ⟨wo, rfl⟩ : ∃ wo : World, wo = wr := ⟨_, rfl⟩
      go_wp2_with fail
      refine wp_region_later (by kernel_rfl) (by kernel_rfl) ?_
      repeat go_big_quiet_step ((go_at_call 8; exact later_call (segment_any _ _ _ _ _ o1)))
      refine wpQuiet_nil ?_
      intro x
      go_wp2_with fail
      go_loopw [11] (fun t wr2 => ∃ (kk : Nat) (T2 : Nat → Bool), (kk : Int) ≤ S k ∧ t = .int .i64 kk ∧ wr2.rowIs B1 4 1025 (fun j => .bool (T2 j)) ∧ Below B1 wo wr2 ∧ Hid (Taken f (s * z) (P 0) (P k + kk) T2)) (fun t _ => (S k - intOf t).toNat)
      case atStart =>
        refine ⟨0, T, by omega, rfl, hrow'.of_block (x.below.block _ dB), x.below.mono (by omega), ?_⟩
        have h := HT.out
        rw [if_pos hlt] at h
        exact h.more (by omega)
      case round =>
        obtain ⟨kk, T2, hkk, rfl, hrow2, hbw2, HT2⟩ := hrel
        have e0 : wr.cell? ⟨w.heap.size, 0, none⟩ = some (.int .i64 f) := (hbw2.cell (p := ⟨_, _, none⟩) hz0).trans d0
        have e1 : wr.cell? ⟨w.heap.size, 1, none⟩ = some (.int .i64 s) := (hbw2.cell (p := ⟨_, _, none⟩) hz0).trans d1
        have e2 : wr.cell? ⟨w.heap.size, 2, none⟩ = some (.int .i64 z) := (hbw2.cell (p := ⟨_, _, none⟩) hz0).trans d2
        have eP : wr.cell? ⟨g, off + k, none⟩ = some (.int .u64 (P k)) := (hbw2.cell (p := ⟨_, _, none⟩) (by simp only; omega)).trans dP
        have eS : wr.cell? ⟨g', off' + k, none⟩ = some (.int .i64 (S k)) := (hbw2.cell (p := ⟨_, _, none⟩) (by simp only; omega)).trans dS
        have ez : w.heap.size < wr.heap.size := by have := hbw2.size; omega
        have eB : B1 < wr.heap.size := by have := hbw2.size; omega
        have eg : g < wr.heap.size := by have := hbw2.size; omega
        have eg' : g' < wr.heap.size := by have := hbw2.size; omega
        by_cases hlt2 : (kk : Int) < S k
        · have hm : mayB f s z (P k) = true := by simp only [mayB, HR.out, Bool.true_and, decide_eq_true_eq]; omega
          have hm' : mayB f s z (P k + kk) = true := by simp only [mayB, HR.out, Bool.true_and, decide_eq_true_eq]; omega
          obtain ⟨sg1, sg2⟩ := same_seg (P k) kk s z o1 (by omega) (by omega) (by omega) (by omega)
          obtain ⟨r1, r2⟩ := pct (P k + kk) (s * z) (by omega) m1
          have hseg : segN f s z (P k + kk) = segN f s z (P k) := by simp only [segN, hm, hm', if_true]; exact sg2
          obtain ⟨j, hj⟩ : ∃ j : Nat, f + (P k + kk) % (s * z) = (j : Int) := ⟨(f + (P k + kk) % (s * z)).toNat, by omega⟩
          have hpl : placeN f s z (P k + kk) = (j : Int) := by simp only [placeN, hm', if_true]; exact hj
          have hfr := HT2.out.free j (by omega) (by omega) m1
          have j1 : f ≤ (j : Int) := by omega
          have j2 : (j : Int) < f + s * z := by omega
          have j3 : j < 1025 := by omega
          have eT : wr.cell? ⟨B1, j, none⟩ = some (.bool false) := by rw [hrow2.cell j3, hfr]
          have eF : wr.frozen? ⟨B1, j, none⟩ = false := hrow2.frozen j
          have hjl : (j : Int) < 1025 := by omega
          have hj0 : (0 : Int) ≤ (j : Int) := by omega
          have HJ := Lib.hid hj; clear hj
          have p0 : 0 ≤ P k + kk := by omega
          clear hfr sg1 sg2 r1 r2 hm hm'
          go_wp2_with fail
          refine wp_region_later (by kernel_rfl) (by kernel_rfl) ?_
          repeat go_big_quiet_step ((go_at_call 8; exact later_call (segment_any _ _ _ _ _ p0)))
          refine wpQuiet_nil ?_
          intro x
          go_wp2_with fail
          refine wp_region_later1 (by kernel_rfl) (by kernel_rfl) ?_
          repeat go_big_quiet_step ((go_at_call 19; exact later_call (place_any _ _ _ _ _ p0)))
          refine wpQuiet_nil ?_
          intro x
          go_wp2_with fail
          go_roundw
          case rel =>
            refine ⟨kk + 1, _, by omega, by go_num, bool_row (hrow2.of_block (x.below.block _ eB)) j, ?_, ?_⟩
            · exact ((hbw2.trans (x.below.mono (by omega)))).setCell (Nat.le_refl _) _
            · have h := HT2.out.put j HJ.out.symm (by omega)
              rwa [show P k + (kk : Int) + 1 = P k + ((kk + 1 : Nat) : Int) by omega] at h
          case measure => simp [intOf]; omega
        · have hkS : (kk : Int) = S k := by omega
          have HKS := Lib.hid hkS; clear hkS
          go_wp2_with fail
          go_roundw
          case rel =>
            refine ⟨k + 1, T2, by omega, by go_num, hrow2, hbw.trans hbw2, ?_⟩
            have h := HT2.out
            rw [HKS.out] at h
            refine h.more ?_
            split
            · exact hnx ‹_›
            · omega
          case measure => simp [intOf]; omega
    · go_wp2_with fail
      go_ret
      exact .mk rfl (hb.trans (hbw.mono (by have := HB.out; omega)))
end Go.Proofs.Ytoehbcbdkahjpaa
