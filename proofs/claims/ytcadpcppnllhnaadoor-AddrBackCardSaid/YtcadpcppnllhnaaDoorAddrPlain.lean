/- The plain law of texts of addresses: what is cut, which numbers digits tell, and what both parsers accept. -/
import Derived.Lib.Split
import Derived.Lib.IndexMore
import Derived.Lib.ItoaNum
import Derived.Lib.AtoiAll
namespace Go.Proofs.YtcadpcppnllhnaaDoor
open Go.Lib

/-! ### Cuts -/

/-- A text, cut at a byte. -/
def cutsL (c : UInt8) : List UInt8 → List (List UInt8)
  | [] => [[]]
  | x :: r => if x = c then [] :: cutsL c r else match cutsL c r with
    | [] => [[x]]
    | h :: t => (x :: h) :: t

theorem cutsL_ne (c : UInt8) : ∀ l, cutsL c l ≠ []
  | [] => by simp [cutsL]
  | x :: r => by
    unfold cutsL
    split
    · simp
    · split <;> simp

theorem index_one_nil (c : UInt8) : index [] [c] = -1 := by simp [index]
theorem index_one_cons (c x : UInt8) (r : List UInt8) : index (x :: r) [c] = if x = c then 0 else if index r [c] = -1 then -1 else index r [c] + 1 := by
  rw [index]
  by_cases h : x = c
  · subst h; simp
  · have h' : ([c].isPrefixOf (x :: r)) = false := by
      show (c == x && List.isPrefixOf [] r) = false
      have : (c == x) = false := by simpa using fun e : c = x => h e.symm
      rw [this]; rfl
    rw [h', if_neg h]
    simp

/-- Where the byte does not stand, nothing is cut. -/
theorem cutsL_miss (c : UInt8) : ∀ l, index l [c] = -1 → cutsL c l = [l]
  | [], _ => rfl
  | x :: r, h => by
    rw [index_one_cons] at h
    by_cases hx : x = c
    · rw [if_pos hx] at h; exact absurd h (by decide)
    · rw [if_neg hx] at h
      have hr : index r [c] = -1 := by
        by_cases e : index r [c] = -1
        · exact e
        · rw [if_neg e] at h; have := index_ge r [c]; omega
      rw [cutsL, if_neg hx, cutsL_miss c r hr]
/-- Where it stands first. -/
theorem cutsL_hit (c : UInt8) : ∀ (l : List UInt8) (i : Nat), index l [c] = (i : Int) → cutsL c l = l.take i :: cutsL c (l.drop (i + 1))
  | [], i, h => by rw [index_one_nil] at h; omega
  | x :: r, i, h => by
    rw [index_one_cons] at h
    by_cases hx : x = c
    · rw [if_pos hx] at h
      obtain rfl : i = 0 := by omega
      rw [cutsL, if_pos hx]; rfl
    · rw [if_neg hx] at h
      by_cases e : index r [c] = -1
      · rw [if_pos e] at h; omega
      · rw [if_neg e] at h
        have hge := index_ge r [c]
        obtain ⟨j, rfl⟩ : ∃ j, i = j + 1 := ⟨i - 1, by omega⟩
        have hj : index r [c] = (j : Int) := by omega
        rw [cutsL, if_neg hx, cutsL_hit c r j hj]
        rfl

theorem split_cuts_fuel (c : UInt8) : ∀ (fuel : Nat) (s : List UInt8), s.length < fuel → splitK [c] 0 (countFrom [c] fuel s) s = cutsL c s
  | 0, s, h => absurd h (Nat.not_lt_zero _)
  | fuel + 1, s, h => by
    rw [countFrom]
    by_cases e : index s [c] = -1
    · rw [if_pos (by simpa using e), cutsL_miss c s e]; rfl
    · rw [if_neg (by simpa using e)]
      have hge := index_ge s [c]
      obtain ⟨i, hi⟩ : ∃ i : Nat, index s [c] = (i : Int) := ⟨(index s [c]).toNat, by omega⟩
      rw [cutsL_hit c s i hi, hi, show 1 + countFrom [c] fuel (s.drop ((i : Int).toNat + [c].length)) = countFrom [c] fuel (s.drop (i + 1)) + 1 by simp [Nat.add_comm]]
      rw [splitK, hi, if_neg (by simp)]
      have hs : s ≠ [] := by rintro rfl; rw [index_one_nil] at hi; omega
      have hpos : 0 < s.length := List.length_pos_iff.2 hs
      have := split_cuts_fuel c fuel (s.drop (i + 1)) (by rw [List.length_drop]; omega)
      simp only [Int.toNat_natCast, Nat.add_zero, List.length_singleton]
      rw [this]
theorem split_cuts (c : UInt8) (s : List UInt8) : split s [c] = cutsL c s := split_cuts_fuel c _ s (Nat.lt_succ_self _)

/-! ### Numbers -/

/-- What a digit tells (99: none). -/
def digitN (c : UInt8) : Nat :=
  if 65 ≤ c.toNat ∧ c.toNat ≤ 70 then c.toNat - 55 else if 97 ≤ c.toNat ∧ c.toNat ≤ 102 then c.toNat - 87 else if 48 ≤ c.toNat ∧ c.toNat ≤ 57 then c.toNat - 48 else 99
/-- The number below 'most' that digits tell, behind what was told. -/
def numL (base most : Nat) : Nat → List UInt8 → Option Nat
  | n, [] => some n
  | n, c :: r => if base ≤ digitN c ∨ most ≤ n * base + digitN c then none else numL base most (n * base + digitN c) r
def numberL (base most : Nat) (l : List UInt8) : Option Nat := if l = [] then none else numL base most 0 l

theorem numL_append (base most : Nat) : ∀ (l : List UInt8) (n : Nat) (r : List UInt8), numL base most n (l ++ r) = (numL base most n l).bind fun m => numL base most m r
  | [], n, r => rfl
  | c :: l, n, r => by
    rw [List.cons_append, numL, numL]
    split
    · rfl
    · exact numL_append base most l _ r
theorem numL_lt (base most : Nat) : ∀ (l : List UInt8) (n m : Nat), n < most → numL base most n l = some m → m < most
  | [], n, m, h, e => by simp only [numL, Option.some.injEq] at e; omega
  | c :: l, n, m, h, e => by
    rw [numL] at e
    split at e
    · cases e
    · exact numL_lt base most l _ m (by omega) e

theorem digitN_dec (d : Nat) (h : d < 10) : digitN (UInt8.ofNat (48 + d)) = d := by
  have : d = 0 ∨ d = 1 ∨ d = 2 ∨ d = 3 ∨ d = 4 ∨ d = 5 ∨ d = 6 ∨ d = 7 ∨ d = 8 ∨ d = 9 := by omega
  rcases this with rfl | rfl | rfl | rfl | rfl | rfl | rfl | rfl | rfl | rfl <;> decide

theorem decDigits_ne (u : Nat) : decDigits u ≠ [] := by
  rw [decDigits]; split <;> simp
theorem numL_dec (most : Nat) : ∀ (k u : Nat), u ≤ k → u < most → numL 10 most 0 (decDigits u) = some u
  | 0, u, hk, hm => by
    obtain rfl : u = 0 := by omega
    rw [decDigits, dif_pos (by omega), numL, digitN_dec 0 (by omega), if_neg (by omega)]; rfl
  | k + 1, u, hk, hm => by
    rw [decDigits]
    by_cases h : u < 10
    · rw [dif_pos h, numL, digitN_dec u h, if_neg (by omega)]; simp [numL]
    · rw [dif_neg h, numL_append, numL_dec most k (u / 10) (by omega) (by omega)]
      simp only [Option.bind]
      rw [numL, digitN_dec _ (by omega), if_neg (by omega), numL]
      congr 1
      omega

/-- Digits without noughts ahead, of a number below 'most'. -/
def decL (most : Nat) (l : List UInt8) : Option Nat := match numberL 10 most l with
  | some n => if decDigits n = l then some n else none
  | none => none
theorem decL_some {most : Nat} {l : List UInt8} {n : Nat} : decL most l = some n ↔ n < most ∧ l = decDigits n := by
  unfold decL
  constructor
  · intro h
    split at h
    · rename_i m hm
      split at h
      · rename_i hd
        cases h
        refine ⟨?_, hd.symm⟩
        unfold numberL at hm
        split at hm
        · cases hm
        · rcases Nat.lt_or_ge 0 most with h0 | h0
          · exact numL_lt 10 most l 0 _ h0 hm
          · exfalso
            obtain rfl : most = 0 := by omega
            cases l with
            | nil => contradiction
            | cons c r => rw [numL, if_pos (.inr (Nat.zero_le _))] at hm; cases hm
      · cases h
    · cases h
  · rintro ⟨h1, rfl⟩
    have : numberL 10 most (decDigits n) = some n := by
      rw [numberL, if_neg (decDigits_ne n), numL_dec most n n (Nat.le_refl _) h1]
    rw [this]
    simp

theorem parseUint10_append : ∀ (l : List UInt8) (acc : Nat) (r : List UInt8) (m : Nat), parseUint10 acc l = .ok m → parseUint10 acc (l ++ r) = parseUint10 m r
  | [], acc, r, m, h => by simp only [parseUint10, NumEnd.ok.injEq] at h; subst h; rfl
  | c :: l, acc, r, m, h => by
    rw [List.cons_append, parseUint10]
    rw [parseUint10] at h
    split
    · rename_i hc
      rw [if_pos hc] at h
      split
      · rename_i h2; rw [if_pos h2] at h; cases h
      · rename_i h2
        rw [if_neg h2] at h
        split
        · rename_i h3; rw [if_pos h3] at h; cases h
        · rename_i h3; rw [if_neg h3] at h; exact parseUint10_append l _ r m h
    · rename_i hc; rw [if_neg hc] at h; cases h
theorem toNat_dec (d : Nat) (h : d < 10) : (UInt8.ofNat (48 + d)).toNat = 48 + d := by
  simp [UInt8.toNat_ofNat']; omega
theorem parseUint10_dec : ∀ (k u : Nat), u ≤ k → u < 9223372036854775808 → parseUint10 0 (decDigits u) = .ok u
  | 0, u, hk, hm => by
    obtain rfl : u = 0 := by omega
    rw [decDigits, dif_pos (by omega)]; decide
  | k + 1, u, hk, hm => by
    rw [decDigits]
    by_cases h : u < 10
    · rw [dif_pos h, parseUint10, toNat_dec u h, if_pos (by omega), if_neg (by omega), if_neg (by omega), parseUint10]
      congr 1; omega
    · rw [dif_neg h, parseUint10_append _ _ _ _ (parseUint10_dec k (u / 10) (by omega) (by omega)), parseUint10, toNat_dec _ (by omega), if_pos (by omega), if_neg (by omega), if_neg (by omega), parseUint10]
      congr 1; omega
theorem decDigits_head (u : Nat) : ∀ k, u ≤ k → ∃ (d : Nat) (r : List UInt8), d < 10 ∧ decDigits u = UInt8.ofNat (48 + d) :: r := by
  intro k
  induction k generalizing u with
  | zero => intro h; obtain rfl : u = 0 := by omega
            exact ⟨0, [], by omega, by rw [decDigits, dif_pos (by omega)]⟩
  | succ k ih =>
    intro h
    rw [decDigits]
    by_cases h' : u < 10
    · rw [dif_pos h']; exact ⟨u, [], h', rfl⟩
    · rw [dif_neg h']
      obtain ⟨d, r, hd, e⟩ := ih (u / 10) (by omega)
      exact ⟨d, r ++ [UInt8.ofNat (48 + u % 10)], hd, by rw [e]; rfl⟩
theorem atoi_dec (u : Nat) (hm : u < 9223372036854775808) : atoiAll (decDigits u) = .ok (u : Int) := by
  obtain ⟨d, r, hd, e⟩ := decDigits_head u u (Nat.le_refl _)
  have hp := parseUint10_dec u u (Nat.le_refl _) hm
  rw [e] at hp ⊢
  have ht := toNat_dec d hd
  simp only [atoiAll, ht]
  rw [if_neg (by omega : ¬ (48 + d = 43 ∨ 48 + d = 45))]
  simp only [parseMag]
  rw [if_neg (by simp), hp]
  simp only
  rw [if_neg (by omega), if_neg (by omega), if_neg (by omega)]

/-- What the program's 'decimal' accepts. -/
theorem decL_atoi (most : Nat) (hmost : most ≤ 1000000) (l : List UInt8) : decL most l = match atoiAll l with
    | .ok v => if 0 ≤ v ∧ v < most ∧ itoa v = l then some v.toNat else none
    | _ => none := by
  cases h : decL most l with
  | some n =>
    obtain ⟨h1, rfl⟩ := decL_some.1 h
    rw [atoi_dec n (by omega)]
    simp only
    rw [if_pos ⟨by omega, by omega, by unfold itoa; rw [if_neg (by omega)]; simp⟩]
    simp
  | none =>
    cases hv : atoiAll l with
    | ok v =>
      simp only
      by_cases hc : 0 ≤ v ∧ v < most ∧ itoa v = l
      · exfalso
        obtain ⟨h0, h1, h2⟩ := hc
        have : decL most l = some v.toNat := decL_some.2 ⟨by omega, by rw [← h2]; unfold itoa; rw [if_neg (by omega)]⟩
        rw [this] at h; cases h
      · rw [if_neg hc]
    | range => rfl
    | _ => rfl

/-! ### Groups -/

/-- A group's number. -/
def hexG (g : List UInt8) : Option Nat := if g.length ≤ 4 then numberL 16 65536 g else none
/-- The groups that a text tells. -/
def groupsL (s : List UInt8) : Option (List Nat) := if s = [] then some [] else (cutsL 58 s).mapM hexG
/-- The eight groups of a text. -/
def sixL (s : List UInt8) : Option (List Nat) :=
  if index s [58, 58] = -1 then (groupsL s).bind fun l => if l.length = 8 then some l else none
  else (groupsL (s.take (index s [58, 58]).toNat)).bind fun l => (groupsL (s.drop ((index s [58, 58]).toNat + 2))).bind fun m =>
    if l.length + m.length ≤ 7 then some (l ++ List.replicate (8 - l.length - m.length) 0 ++ m) else none
/-- The four bytes of a text. -/
def fourL (s : List UInt8) : Option (List Nat) := if (cutsL 46 s).length = 4 then (cutsL 46 s).mapM (decL 256) else none
end Go.Proofs.YtcadpcppnllhnaaDoor
