/- The plain law: what is put is parsed as it was. -/
import Derived.Test.YtoegehlefdpghaaM
set_option linter.unusedSimpArgs false
set_option linter.unusedVariables false
namespace Go.Proofs.Ytoegehlefdpghaa
open Go.RowKit

theorem numOf_be4 (v : Int) (h0 : 0 ≤ v) (h1 : v < 4294967296) : numOf (be4 v) = v := by
  simp [numOf, be4]; omega
theorem numOf_be8 (v : Int) (h0 : 0 ≤ v) (h1 : v < 18446744073709551616) : numOf (be8 v) = v := by
  simp [numOf, be8, be4]; omega

theorem dataOf_len (e n p : Int) (l : List Int) : (dataOf e n p l).length = 17 + l.length := by simp [dataOf, be4, be8]; omega
theorem dataOf_byte (e n p : Int) (l : List Int) (h : ∀ v ∈ l, 0 ≤ v ∧ v < 256) : ∀ v ∈ dataOf e n p l, 0 ≤ v ∧ v < 256 := by
  intro v hv
  simp only [dataOf, List.mem_append, List.mem_singleton] at hv
  rcases hv with (((rfl | h') | h') | h') | h'
  · decide
  · exact be4_byte _ v h'
  · exact be8_byte _ v h'
  · exact be4_byte _ v h'
  · exact h v h'
theorem dataOf_head (e n p : Int) (l : List Int) : (dataOf e n p l).getD 0 0 = 1 := rfl
theorem dataOf_e (e n p : Int) (l : List Int) (h0 : 0 ≤ e ∧ e < 4294967296) : numAt (dataOf e n p l) 1 4 = e := by
  have : ((dataOf e n p l).drop 1).take 4 = be4 e := rfl
  rw [numAt, this]; exact numOf_be4 e h0.1 h0.2
theorem dataOf_n (e n p : Int) (l : List Int) (h0 : 0 ≤ n ∧ n < 18446744073709551616) : numAt (dataOf e n p l) 5 8 = n := by
  have : ((dataOf e n p l).drop 5).take 8 = be8 n := rfl
  rw [numAt, this]; exact numOf_be8 n h0.1 h0.2
theorem dataOf_p (e n p : Int) (l : List Int) (h0 : 0 ≤ p ∧ p < 4294967296) : numAt (dataOf e n p l) 13 4 = p := by
  have : ((dataOf e n p l).drop 13).take 4 = be4 p := rfl
  rw [numAt, this]; exact numOf_be4 p h0.1 h0.2
theorem dataOf_rest (e n p : Int) (l : List Int) : (dataOf e n p l).drop 17 = l := rfl

theorem okB_dataOf (e n p : Int) (l : List Int) (he : 0 ≤ e ∧ e < 4294967296) (hn : 0 ≤ n ∧ n < 18446744073709551616) (hp : 0 ≤ p ∧ p < 4294967296) (hm : mayB e n p = true) : okB (dataOf e n p l) = true := by
  simp only [okB, Bool.and_eq_true, decide_eq_true_eq]
  exact ⟨⟨by rw [dataOf_len]; omega, rfl⟩, by rw [dataOf_e _ _ _ _ he, dataOf_n _ _ _ _ hn, dataOf_p _ _ _ _ hp]; exact hm⟩
theorem okB_nil : okB [] = false := by decide

theorem ackOf_len (d e n : Int) : (ackOf d e n).length = 17 := by simp [ackOf, be4, be8]
theorem ackOf_byte (d e n : Int) : ∀ v ∈ ackOf d e n, 0 ≤ v ∧ v < 256 := by
  intro v hv
  simp only [ackOf, List.mem_append, List.mem_singleton] at hv
  rcases hv with ((rfl | h') | h') | h'
  · decide
  · exact be4_byte _ v h'
  · exact be4_byte _ v h'
  · exact be8_byte _ v h'
theorem ackB_ackOf (d e n : Int) : ackB (ackOf d e n) = true := by
  simp only [ackB, decide_eq_true_eq]; exact ⟨ackOf_len d e n, rfl⟩
theorem ackOf_d (d e n : Int) (h : 0 ≤ d ∧ d < 4294967296) : ackD (ackOf d e n) = d := by
  rw [ackD, if_pos (ackB_ackOf d e n)]
  have : ((ackOf d e n).drop 1).take 4 = be4 d := rfl
  rw [numAt, this]; exact numOf_be4 d h.1 h.2
theorem ackOf_e (d e n : Int) (h : 0 ≤ e ∧ e < 4294967296) : ackE (ackOf d e n) = e := by
  rw [ackE, if_pos (ackB_ackOf d e n)]
  have : ((ackOf d e n).drop 5).take 4 = be4 e := rfl
  rw [numAt, this]; exact numOf_be4 e h.1 h.2
theorem ackOf_n (d e n : Int) (h : 0 ≤ n ∧ n < 18446744073709551616) : ackN (ackOf d e n) = n := by
  rw [ackN, if_pos (ackB_ackOf d e n)]
  have : ((ackOf d e n).drop 9).take 8 = be8 n := rfl
  rw [numAt, this]; exact numOf_be8 n h.1 h.2
theorem ackOf_x (d e n : Int) : ackX (ackOf d e n) = 0 := by rw [ackX, if_pos (ackB_ackOf d e n)]

theorem entB_byte (l : List Int) (h : ∀ v ∈ l, 0 ≤ v ∧ v < 256) : ∀ v ∈ entB l, 0 ≤ v ∧ v < 256 := by
  intro v hv
  by_cases hk : okB l = true
  · rw [entB, if_pos hk] at hv; exact h v (List.mem_of_mem_drop hv)
  · rw [entB, if_neg hk] at hv; cases hv
end Go.Proofs.Ytoegehlefdpghaa
