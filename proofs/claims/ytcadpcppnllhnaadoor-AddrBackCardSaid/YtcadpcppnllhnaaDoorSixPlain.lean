/- The plain law of sixteen bytes: by what is cut. -/
import Derived.Test.YtcadpcppnllhnaaDoorAddrPlain
set_option linter.unusedSimpArgs false
set_option linter.unusedVariables false
namespace Go.Proofs.YtcadpcppnllhnaaDoor

/-- Sixteen bytes of eight groups. -/
def sixB (l : List Nat) (i : Nat) : Int := if i % 2 = 0 then ((l.getD (i / 2) 0 / 256 : Nat) : Int) else ((l.getD (i / 2) 0 % 256 : Nat) : Int)
theorem cut_two (l : List UInt8) : Lib.cut l [58, 58] = if Lib.index l [58, 58] = -1 then (l, [], false) else (l.take (Lib.index l [58, 58]).toNat, l.drop ((Lib.index l [58, 58]).toNat + 2), true) := by
  unfold Lib.cut
  have := Lib.index_ge l [58, 58]
  by_cases h : Lib.index l [58, 58] = -1
  · rw [if_pos h, if_neg (by omega)]
  · rw [if_neg h, if_pos (by omega)]; rfl
/-- The eight groups, by what is cut. -/
def sixCut (c : List UInt8 × List UInt8 × Bool) : Option (List Nat) := (groupsL c.1).bind fun l => (groupsL c.2.1).bind fun m =>
  if (c.2.2 = true ∧ l.length + m.length ≤ 7) ∨ (c.2.2 = false ∧ l.length + m.length = 8) then some (l ++ List.replicate (8 - l.length - m.length) 0 ++ m) else none
theorem sixL_cut (l : List UInt8) : sixL l = sixCut (Lib.cut l [58, 58]) := by
  rw [cut_two]
  unfold sixL
  split
  · rename_i h
    simp only [sixCut]
    have h0 : groupsL [] = some [] := rfl
    rw [h0]
    cases groupsL l with
    | none => rfl
    | some m =>
      simp only [Option.bind]
      by_cases hm : m.length = 8
      · rw [if_pos hm, if_pos (.inr ⟨by simp, by simpa using hm⟩), hm]; simp
      · rw [if_neg hm, if_neg (by simp; omega)]
  · simp only [sixCut]
    cases groupsL (l.take (Lib.index l [58, 58]).toNat) with
    | none => rfl
    | some a =>
      simp only [Option.bind]
      cases groupsL (l.drop ((Lib.index l [58, 58]).toNat + 2)) with
      | none => rfl
      | some b => simp
theorem cut_len (l sep : List UInt8) : (Lib.cut l sep).1.length ≤ l.length ∧ (Lib.cut l sep).2.1.length ≤ l.length := by
  unfold Lib.cut
  split
  · simp; omega
  · simp

end Go.Proofs.YtcadpcppnllhnaaDoor
