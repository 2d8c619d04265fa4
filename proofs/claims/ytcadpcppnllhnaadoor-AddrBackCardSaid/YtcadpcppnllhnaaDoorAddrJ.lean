/- strings.Split at one byte: an own row of strings. -/
import Derived.Test.YtcadpcppnllhnaaDoorAddrI
import Derived.Lib.SplitLaws
set_option linter.unusedSimpArgs false
set_option linter.unusedVariables false
namespace Go.Proofs.YtcadpcppnllhnaaDoor
open Go.RowKit

theorem split_row (s : ByteArray) (c : UInt8) : (Lib.splitB ⟨#[c]⟩ 0 (Lib.countB s ⟨#[c]⟩) s).map Value.string = (cutsL c s.data.toList).map strV := by
  have h := Lib.splitB_data ⟨#[c]⟩ 0 (Lib.countB s ⟨#[c]⟩) s
  have h2 : Lib.splitK (⟨#[c]⟩ : ByteArray).data.toList 0 (Lib.countB s ⟨#[c]⟩) s.data.toList = cutsL c s.data.toList := split_cuts c s.data.toList
  rw [h2] at h
  rw [← h, List.map_map]
  congr 1
theorem split_new (s : ByteArray) (c : UInt8) (w : World) (henv : Env w) (hs : s.size ≤ 1000) : Calls Tryd.prog 51 #[.string s, .string ⟨#[c]⟩] w (NewStrings w (cutsL c s.data.toList)) := by
  obtain ⟨m, hm⟩ := henv.len
  refine (Tryd.strings_Split s ⟨#[c]⟩ m w (by omega) hm (Nat.le_refl 1)).mono ?_
  rintro e w' ⟨rfl, rfl⟩
  have hr := split_row s c
  have hl : Lib.countB s ⟨#[c]⟩ + 1 = (cutsL c s.data.toList).length := by
    have h1 := Lib.splitB_all ⟨#[c]⟩ (Nat.le_refl 1) 0 (Lib.countB s ⟨#[c]⟩) s rfl
    have h2 := congrArg List.length hr
    rw [List.length_map, List.length_map, h1] at h2
    exact h2
  have hn : (cutsL c s.data.toList).length ≤ 1001 := by
    have := cutsL_count c s.data.toList
    have hz : s.data.toList.length = s.size := by rw [Array.length_toList, ByteArray.size_data]
    omega
  rw [hl, hr]
  refine ⟨_, _, rfl, ?_, (Below.refl _ _).alloc (Nat.le_refl _) _⟩
  exact Owns.made _ _ _ _ _ (Nat.le_refl _) (by simp) (Nat.le_refl _) (by unfold maxLen; omega) (by
    rw [List.toList_toArray, Nat.mul_one]
    exact List.take_of_length_le (by rw [List.length_map]; exact Nat.le_refl _))
end Go.Proofs.YtcadpcppnllhnaaDoor
