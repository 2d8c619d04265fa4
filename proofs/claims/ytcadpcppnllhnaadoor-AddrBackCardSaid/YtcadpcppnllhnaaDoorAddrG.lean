/- Walks over texts: digit; IndexFunc over what is no digit. -/
import Derived.Test.YtcadpcppnllhnaaDoorAddrF
set_option linter.unusedSimpArgs false
set_option linter.unusedVariables false
namespace Go.Proofs.YtcadpcppnllhnaaDoor
open Go.RowKit

def digR (x : Nat) : Bool := decide (48 ≤ x ∧ x ≤ 57 ∨ 97 ≤ x ∧ x ≤ 102 ∨ 65 ≤ x ∧ x ≤ 70)

set_option maxHeartbeats 4000000 in
theorem digit_any (x : Nat) (hx : x ≤ 1114111) (w : World) : Calls Tryd.prog 68 #[.int .i32 (x : Int)] w (RetAt w (.bool (digR x))) := by
  have h0 : (0 : Int) ≤ (x : Int) := by omega
  have h1 : (x : Int) ≤ 1114111 := by omega
  go_enter Tryd.func68, Tryd.ntmps68
  go_wp2_with fail
  all_goals go_ret
  all_goals refine .mk (val_bool ?_) (Below.refl _ _)
  all_goals unfold digR
  all_goals rw [Bool.eq_iff_iff]
  all_goals simp
  all_goals omega

theorem numL_digits (base most : Nat) : ∀ (l : List UInt8) (acc n : Nat), numL base most acc l = some n → ∀ c ∈ l, digitN c < base
  | [], _, _, _, c, hc => absurd hc (List.not_mem_nil)
  | x :: r, acc, n, h, c, hc => by
    rw [numL] at h
    split at h
    · cases h
    · rcases List.mem_cons.1 hc with rfl | hc
      · omega
      · exact numL_digits base most r _ n h c hc
theorem digR_of (c : UInt8) (h : digitN c < 16) : digR c.toNat = true ∧ c.toNat < 128 := by
  unfold digitN at h
  unfold digR
  split at h
  · exact ⟨decide_eq_true (by omega), by omega⟩
  · split at h
    · exact ⟨decide_eq_true (by omega), by omega⟩
    · split at h
      · exact ⟨decide_eq_true (by omega), by omega⟩
      · omega
theorem idx_none (s : ByteArray) (h : ∀ c ∈ s.data.toList, digitN c < 16) : ∀ (f pos : Nat), Lib.idxFuncFrom (fun x => !digR x) true s f pos = -1
  | 0, _ => rfl
  | f + 1, pos => by
    rw [Lib.idxFuncFrom]
    by_cases hp : pos < s.size
    · have hd := digR_of (s[pos]'hp) (h _ (by rw [show s[pos]'hp = s.data.toList[pos]'(by simpa using hp) from rfl]; exact List.getElem_mem _))
      rw [if_pos hp, decode_ascii s pos hp hd.2]
      simp only [hd.1]
      exact idx_none s h f _
    · rw [if_neg hp]

set_option maxHeartbeats 4000000 in
theorem undigit_grows (w : World) : PredGrows Tryd.prog 67 #[] (fun x => !digR x) w := by
  intro W x hx hb
  show Calls Tryd.prog 67 #[.int .i32 (x : Int)] W _
  go_enter Tryd.func67, Tryd.ntmps67
  go_wp2_with fail
  refine Calls.mono (digit_any x hx W) ?_
  rintro e w1 ⟨rfl, hb1⟩
  go_wp2_with fail
  go_ret
  exact ⟨rfl, hb1⟩
end Go.Proofs.YtcadpcppnllhnaaDoor
