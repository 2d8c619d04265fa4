/- The ring's own law, plain: entries laid down where they fit stand as a ring has them. -/
import Derived.Test.YtoehbcbdkahjpaaJ
import Derived.Test.YtoehbcbdkahjpaaF
namespace Go.Proofs.Ytoehbcbdkahjpaa
open Go.RowKit

/-- Entries, and where the next one begins. -/
structure Good (s z : Int) (n : Nat) (P S : Nat → Int) (t : Int) : Prop where
  stand : Stand s z n P S
  last : ∀ i, i + 1 = n → P i + S i = t
  room : 0 < n → t - P 0 ≤ s * z

theorem Good.none (s z : Int) (P S : Nat → Int) (t : Int) : Good s z 0 P S t := ⟨⟨by omega, by omega, by omega⟩, by omega, by omega⟩

theorem Good.pop {s z : Int} {n : Nat} {P S : Nat → Int} {t : Int} (h : Good s z (n + 1) P S t) : Good s z n (fun i => P (i + 1)) (fun i => S (i + 1)) t := by
  refine ⟨⟨fun i hi => h.stand.one (i + 1) (by omega), fun i hi => h.stand.next (i + 1) (by omega), fun i hi => ?_⟩, fun i hi => h.last (i + 1) (by omega), fun hn => ?_⟩
  · have h1 := h.stand.all (i + 1) (by omega)
    have h2 := h.stand.first 1 (by omega)
    simp only [Nat.zero_add]
    omega
  · have h1 := h.room (by omega)
    have h2 := h.stand.first 1 (by omega)
    simp only [Nat.zero_add]
    omega

theorem place_mod (f s z t b : Int) (h0 : 0 ≤ t) (h : startB f s z t b = true) : startV f s z t b % z + b ≤ z := by
  obtain ⟨h1, h2, hm, h3, h4, h5, h6⟩ := startV_bd f s z t b h0 h
  obtain ⟨a1, a2⟩ := at_bd f s z t h0 hm
  have hat : atN f s z t = t % z := by simp only [atN, hm, if_true]; exact emod_mul t s z
  simp only [startV, h, if_true, nextN, hat] at *
  have hd := Int.mul_ediv_add_emod t z
  split
  · split
    · have : t + (z - t % z) = 0 + z * (t / z + 1) := by rw [Int.mul_add]; omega
      rw [this, Int.add_mul_emod_self_left]
      simp
      omega
    · omega
  · omega

theorem Good.put {f s z : Int} {n : Nat} {P S : Nat → Int} {t b : Int} (h : Good s z n P S t) (h0 : 0 ≤ t) (ht : t ≤ 1152921504606846976 + 200000) (hr : rightB f s z = true)
    (hf : fitsB f s z (if 0 < n then P 0 else t) t b = true) :
    Good s z (n + 1) (fun i => if i = n then startV f s z t b else P i) (fun i => if i = n then b else S i) (startV f s z t b + b) := by
  have hs : startB f s z t b = true := by simp only [fitsB, Bool.and_eq_true] at hf; exact hf.1
  have hroom : startV f s z t b - t + b ≤ roomN f s z (if 0 < n then P 0 else t) t := by simp only [fitsB, Bool.and_eq_true, decide_eq_true_eq] at hf; exact hf.2
  obtain ⟨b1, b2, hm, b3, b4, b5, b6⟩ := startV_bd f s z t b h0 hs
  have hpm := place_mod f s z t b h0 hs
  obtain ⟨m1, m2⟩ := mul_bd hr
  have hrb := right_bd hr
  have hzs : 1 * z ≤ s * z := Int.mul_le_mul_of_nonneg_right (by omega) (by omega)
  have hall : ∀ i, i < n → P i + S i ≤ t := by
    intro i hi
    by_cases hl : i + 1 = n
    · have := h.last i hl; omega
    · have h1 := h.stand.first
      have hx : ∀ d i, i + d + 1 = n → P i + S i ≤ t := by
        intro d
        induction d with
        | zero => intro i hi; have := h.last i hi; omega
        | succ d ih =>
          intro i hi
          have h2 := ih (i + 1) (by omega)
          have h3 := h.stand.next i (by omega)
          have h4 := (h.stand.one (i + 1) (by omega)).2.2.1
          omega
      exact hx (n - i - 1) i (by omega)
  refine ⟨⟨fun i hi => ?_, fun i hi => ?_, fun i hi => ?_⟩, fun i hi => ?_, fun _ => ?_⟩
  · by_cases e : i = n
    · simp only [e, if_true]
      exact ⟨by omega, by omega, b3, b4, hpm⟩
    · simp only [e, if_false]
      exact h.stand.one i (by omega)
  · have e : i ≠ n := by omega
    simp only [e, if_false]
    by_cases e' : i + 1 = n
    · simp only [e', if_true]
      have := h.last i e'
      omega
    · simp only [e', if_false]
      exact h.stand.next i (by omega)
  · by_cases hn : 0 < n
    · have e0 : (0 : Nat) ≠ n := by omega
      simp only [e0, if_false]
      have hr0 := h.room hn
      rw [if_pos hn] at hroom
      have hP := h.stand.first (n - 1) (by omega)
      have hl := h.last (n - 1) (by omega)
      have h1 := (h.stand.one (n - 1) (by omega)).2.2.1
      by_cases e : i = n
      · simp only [e, if_true]
        simp only [roomN, freeN] at hroom
        split at hroom
        · split at hroom
          · simp only [blocksN, hr, if_true] at *; omega
          · omega
        · omega
      · simp only [e, if_false]
        have := hall i (by omega)
        omega
    · obtain rfl : n = 0 := by omega
      obtain rfl : i = 0 := by omega
      simp only [if_true]
      omega
  · have e : i = n := by omega
    simp only [e, if_true]
  · by_cases hn : 0 < n
    · have e0 : (0 : Nat) ≠ n := by omega
      simp only [e0, if_false]
      rw [if_pos hn] at hroom
      have hP := h.stand.first (n - 1) (by omega)
      have hl := h.last (n - 1) (by omega)
      have h1 := (h.stand.one (n - 1) (by omega)).2.2.1
      simp only [roomN, freeN] at hroom
      split at hroom
      · split at hroom
        · simp only [blocksN, hr, if_true] at *; omega
        · omega
      · omega
    · obtain rfl : n = 0 := by omega
      simp only [if_true]
      omega

/-- Where nothing fits there is not much room. -/
theorem no_fit (f s z : Int) (h t b : Int) (h0 : 0 ≤ t) (hr : rightB f s z = true) (hm : mayB f s z t = true) (hb : 1 ≤ b) (hz : b ≤ z) (hf : fitsB f s z h t b = false) : roomN f s z h t < 2 * z := by
  have hs : startB f s z t b = true := by simp [startB, hm, hb, hz]
  obtain ⟨b1, b2, -, b3, b4, b5, b6⟩ := startV_bd f s z t b h0 hs
  obtain ⟨a1, a2⟩ := at_bd f s z t h0 hm
  have hv : startV f s z t b - t + b < 2 * z := by
    simp only [startV, hs, if_true, nextN]
    split
    · split <;> omega
    · omega
  simp only [fitsB, hs, Bool.true_and, decide_eq_false_iff_not] at hf
  omega

/-- numbers in a row -/
def rowOf (k : IntKind) (n : Nat) (P : Nat → Int) : List Value := (List.range n).map fun i => Value.int k (P i)
theorem rowOf_get (k : IntKind) (n : Nat) (P : Nat → Int) (j : Nat) (h : j < n) : (rowOf k n P)[j]? = some (.int k (P j)) := by simp [rowOf, h]
theorem rowOf_len (k : IntKind) (n : Nat) (P : Nat → Int) : (rowOf k n P).length = n := by simp [rowOf]
theorem rowOf_tail (k : IntKind) (n : Nat) (P : Nat → Int) : (rowOf k (n + 1) P).drop 1 = rowOf k n (fun i => P (i + 1)) := by
  apply List.ext_getElem?
  intro j
  rw [List.getElem?_drop]
  by_cases hj : j < n
  · rw [rowOf_get _ _ _ _ hj, rowOf_get _ _ _ _ (by omega), Nat.add_comm]
  · rw [List.getElem?_eq_none (by rw [rowOf_len]; omega), List.getElem?_eq_none (by rw [rowOf_len]; omega)]
theorem rowOf_snoc (k : IntKind) (n : Nat) (P : Nat → Int) (p : Int) : rowOf k n P ++ [.int k p] = rowOf k (n + 1) (fun i => if i = n then p else P i) := by
  apply List.ext_getElem?
  intro j
  by_cases hj : j < n
  · rw [List.getElem?_append_left (by rw [rowOf_len]; exact hj), rowOf_get _ _ _ _ hj, rowOf_get _ _ _ _ (by omega)]
    simp only [show j ≠ n by omega, if_false]
  · rw [List.getElem?_append_right (by rw [rowOf_len]; omega), rowOf_len]
    by_cases e : j = n
    · subst e
      rw [rowOf_get _ _ _ _ (by omega)]; simp
    · rw [List.getElem?_eq_none (by simp; omega), List.getElem?_eq_none (by rw [rowOf_len]; omega)]
end Go.Proofs.Ytoehbcbdkahjpaa
