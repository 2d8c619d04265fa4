/- The plain law of what texts tell: an address, a prefix. -/
import Derived.Test.YtcadpcppnllhnaaDoorTextBack
import Derived.Test.YtcadpcppnllhnaaDoorPfPlain
import Derived.Test.YtcadpcppnllhnaaDoorAddrL
set_option linter.unusedSimpArgs false
set_option linter.unusedVariables false
namespace Go.Proofs.YtcadpcppnllhnaaDoor
open Go.Lib

/-- The address that a text tells. -/
def parseL (s : List UInt8) : Option (Bool × (Nat → Int)) := match fourL s with
  | some l => some (false, fourB l)
  | none => match sixL s with
    | some l => some (true, sixB l)
    | none => none
def parseV (o : Option (Bool × (Nat → Int))) : Value := match o with
  | some p => .tuple #[adV p.1 p.2, .int .i64 0]
  | none => .tuple #[adV false fun _ => 0, .int .i64 40]
theorem decL_lt {most : Nat} {l : List UInt8} {n : Nat} (h : decL most l = some n) : n < most := (decL_some.1 h).1
theorem mapM_all {α β : Type} (f : α → Option β) (p : β → Prop) (hf : ∀ x b, f x = some b → p b) : ∀ (l : List α) (a : List β), l.mapM f = some a → ∀ b ∈ a, p b
  | [], a, h, b, hb => by
    simp only [List.mapM_nil] at h
    cases h; cases hb
  | y :: l, a, h, b, hb => by
    rw [List.mapM_cons] at h
    cases hy : f y with
    | none => rw [hy] at h; cases h
    | some c =>
      rw [hy] at h
      cases hl : l.mapM f with
      | none => rw [hl] at h; cases h
      | some m =>
        rw [hl] at h
        cases h
        rcases List.mem_cons.1 hb with rfl | hb
        · exact hf _ _ hy
        · exact mapM_all f p hf l m hl b hb
theorem fourL_bd {s : List UInt8} {l : List Nat} (h : fourL s = some l) : l.length = 4 ∧ ∀ n ∈ l, n < 256 := by
  unfold fourL at h
  split at h
  · rename_i h4
    exact ⟨by rw [mapM_len _ _ _ h, h4], mapM_all _ (· < 256) (fun x b e => decL_lt e) _ _ h⟩
  · cases h
theorem hexG_lt {p : List UInt8} {n : Nat} (h : hexG p = some n) : n < 65536 := by
  unfold hexG at h
  split at h
  · unfold numberL at h
    split at h
    · cases h
    · exact numL_lt 16 65536 p 0 n (by omega) h
  · cases h
theorem groupsL_bd {s : List UInt8} {l : List Nat} (h : groupsL s = some l) : ∀ n ∈ l, n < 65536 := by
  unfold groupsL at h
  split at h
  · cases h; intro n hn; cases hn
  · exact mapM_all _ (· < 65536) (fun x b e => hexG_lt e) _ _ h
theorem sixL_bd {s : List UInt8} {l : List Nat} (h : sixL s = some l) : l.length = 8 ∧ ∀ n ∈ l, n < 65536 := by
  unfold sixL at h
  split at h
  · cases hg : groupsL s with
    | none => rw [hg] at h; cases h
    | some a =>
      rw [hg] at h
      simp only [Option.bind] at h
      split at h
      · cases h; rename_i h8; exact ⟨h8, groupsL_bd hg⟩
      · cases h
  · cases hg : groupsL (s.take (index s [58, 58]).toNat) with
    | none => rw [hg] at h; cases h
    | some a =>
      rw [hg] at h
      simp only [Option.bind] at h
      cases hg2 : groupsL (s.drop ((index s [58, 58]).toNat + 2)) with
      | none => rw [hg2] at h; cases h
      | some b =>
        rw [hg2] at h
        simp only at h
        split at h
        · cases h
          refine ⟨by simp; omega, fun n hn => ?_⟩
          simp only [List.mem_append, List.mem_replicate] at hn
          rcases hn with (hn | ⟨-, rfl⟩) | hn
          · exact groupsL_bd hg n hn
          · omega
          · exact groupsL_bd hg2 n hn
        · cases h
theorem getD_bd {l : List Nat} {m : Nat} (hm : 0 < m) (h : ∀ n ∈ l, n < m) (i : Nat) : l.getD i 0 < m := by
  rw [List.getD_eq_getElem?_getD]
  cases hi : l[i]? with
  | none => simpa using hm
  | some n => exact h n (List.mem_of_getElem? hi)
theorem fourB_u8 {l : List Nat} (h : ∀ n ∈ l, n < 256) : U8 (fourB l) := fun i => by
  have := getD_bd (by omega) h i
  unfold fourB
  omega
theorem sixB_u8 {l : List Nat} (h : ∀ n ∈ l, n < 65536) : U8 (sixB l) := fun i => by
  have := getD_bd (by omega) h (i / 2)
  unfold sixB
  split <;> omega
theorem fourB_right {l : List Nat} (h : l.length = 4) : rightB false (fourB l) = true := by
  rw [rightB_four]
  intro i h4 _
  unfold fourB
  rw [List.getD_eq_getElem?_getD, List.getElem?_eq_none (by omega)]; rfl
theorem parseL_right {s : List UInt8} {p : Bool × (Nat → Int)} (h : parseL s = some p) : rightB p.1 p.2 = true ∧ U8 p.2 := by
  unfold parseL at h
  split at h
  · rename_i l hl
    cases h
    exact ⟨fourB_right (fourL_bd hl).1, fourB_u8 (fourL_bd hl).2⟩
  · split at h
    · rename_i l hl
      cases h
      exact ⟨rfl, sixB_u8 (sixL_bd hl).2⟩
    · cases h

/-- The prefix that a text tells. -/
def pfOf (o : Option (Bool × (Nat → Int))) (d : Option Nat) : Option (Bool × (Nat → Int) × Nat) := match o with
  | some p => match d with
    | some n => if rightPB p.1 p.2 (n : Int) = true then some (p.1, p.2, n) else none
    | none => none
  | none => none
def ppL (s : List UInt8) : Option (Bool × (Nat → Int) × Nat) := pfOf (parseL (cut s [47]).1) (decL 129 (cut s [47]).2.1)
def ppV (o : Option (Bool × (Nat → Int) × Nat)) : Value := match o with
  | some p => .tuple #[pfV p.1 p.2.1 (p.2.2 : Int), .int .i64 0]
  | none => .tuple #[pfV false (fun _ => 0) 0, .int .i64 40]
theorem pfOf_none (o : Option (Bool × (Nat → Int))) : pfOf o none = none := by cases o <;> rfl
theorem decL_nil (most : Nat) : decL most [] = none := rfl
theorem decL_slash (most : Nat) {l : List UInt8} (h : (47 : UInt8) ∈ l) : decL most l = none := by
  cases hd : decL most l with
  | none => rfl
  | some n =>
    obtain ⟨-, rfl⟩ := decL_some.1 hd
    obtain ⟨d, hd, e⟩ := decDigits_signs _ _ h
    exact absurd e.symm (toNat_hexc d hd).2.2.2
theorem cut_one (l : List UInt8) (c : UInt8) : cut l [c] = if index l [c] = -1 then (l, [], false) else (l.take (index l [c]).toNat, l.drop ((index l [c]).toNat + 1), true) := by
  unfold cut
  have := index_ge l [c]
  by_cases h : index l [c] = -1
  · rw [if_pos h, if_neg (by omega)]
  · rw [if_neg h, if_pos (by omega)]; rfl
/-- Cut in just two, or none. -/
theorem ppL_cuts (s : List UInt8) : (∃ a b, cutsL 47 s = [a, b] ∧ ppL s = pfOf (parseL a) (decL 129 b)) ∨ ((cutsL 47 s).length ≠ 2 ∧ ppL s = none) := by
  unfold ppL
  rw [cut_one]
  by_cases h : index s [47] = -1
  · rw [if_pos h, cutsL_miss 47 s h]
    exact .inr ⟨by simp, by rw [decL_nil]; exact pfOf_none _⟩
  · rw [if_neg h]
    have hge := index_ge s [47]
    obtain ⟨i, hi⟩ : ∃ i : Nat, index s [47] = (i : Int) := ⟨(index s [47]).toNat, by omega⟩
    rw [cutsL_hit 47 s i hi, hi]
    simp only [Int.toNat_natCast]
    by_cases h2 : index (s.drop (i + 1)) [47] = -1
    · rw [cutsL_miss 47 _ h2]
      exact .inl ⟨_, _, rfl, rfl⟩
    · have hge2 := index_ge (s.drop (i + 1)) [47]
      obtain ⟨j, hj⟩ : ∃ j : Nat, index (s.drop (i + 1)) [47] = (j : Int) := ⟨(index (s.drop (i + 1)) [47]).toNat, by omega⟩
      refine .inr ⟨?_, ?_⟩
      · rw [cutsL_hit 47 _ j hj]
        have := cutsL_ne 47 ((s.drop (i + 1)).drop (j + 1))
        have : 0 < (cutsL 47 ((s.drop (i + 1)).drop (j + 1))).length := List.length_pos_iff.2 this
        simp only [List.length_cons]
        omega
      · have hm : (47 : UInt8) ∈ s.drop (i + 1) := by
          apply Classical.byContradiction
          intro hn
          have := cutsL_none 47 _ hn
          rw [cutsL_hit 47 _ j hj] at this
          have h3 := congrArg List.length this
          have : 0 < (cutsL 47 ((s.drop (i + 1)).drop (j + 1))).length := List.length_pos_iff.2 (cutsL_ne 47 _)
          simp only [List.length_cons, List.length_nil] at h3
          omega
        rw [decL_slash _ hm]
        exact pfOf_none _
theorem ppL_right {s : List UInt8} {p : Bool × (Nat → Int) × Nat} (h : ppL s = some p) : rightPB p.1 p.2.1 (p.2.2 : Int) = true := by
  unfold ppL pfOf at h
  split at h
  · split at h
    · split at h
      · rename_i hr
        cases h; exact hr
      · cases h
    · cases h
  · cases h
end Go.Proofs.YtcadpcppnllhnaaDoor
