/- The plain law of texts and addresses: no text is both an address of four and of sixteen bytes; what is told is read as it was. -/
import Derived.Test.YtcadpcppnllhnaaDoorTextPlain
import Derived.Test.YtcadpcppnllhnaaDoorAddrG
import Derived.Test.YtcadpcppnllhnaaDoorSixPlain
set_option linter.unusedSimpArgs false
set_option linter.unusedVariables false
namespace Go.Proofs.YtcadpcppnllhnaaDoor
open Go.Lib

/-! ### No text is both -/
theorem cutsL_mem (c x : UInt8) : ∀ l : List UInt8, x ∈ l → x = c ∨ ∃ p ∈ cutsL c l, x ∈ p
  | [], h => by cases h
  | y :: r, h => by
    rw [cutsL]
    by_cases hy : y = c
    · rw [if_pos hy]
      rcases List.mem_cons.1 h with rfl | h
      · exact .inl hy
      · rcases cutsL_mem c x r h with h | ⟨p, hp, hx⟩
        · exact .inl h
        · exact .inr ⟨p, List.mem_cons_of_mem _ hp, hx⟩
    · rw [if_neg hy]
      cases hc : cutsL c r with
      | nil => exact absurd hc (cutsL_ne c r)
      | cons a t =>
        rcases List.mem_cons.1 h with rfl | h
        · exact .inr ⟨x :: a, by simp, by simp⟩
        · rcases cutsL_mem c x r h with h | ⟨p, hp, hx⟩
          · exact .inl h
          · rw [hc] at hp
            rcases List.mem_cons.1 hp with rfl | hp
            · exact .inr ⟨y :: p, by simp, by simp [hx]⟩
            · exact .inr ⟨p, by simp [hp], hx⟩
theorem mapM_each {α β : Type} (f : α → Option β) : ∀ (l : List α) (a : List β), l.mapM f = some a → ∀ x ∈ l, ∃ b, f x = some b
  | [], _, _, x, hx => by cases hx
  | y :: l, a, h, x, hx => by
    rw [List.mapM_cons] at h
    cases hy : f y with
    | none => rw [hy] at h; cases h
    | some b =>
      rw [hy] at h
      cases hl : l.mapM f with
      | none => rw [hl] at h; cases h
      | some m =>
        rcases List.mem_cons.1 hx with rfl | hx
        · exact ⟨b, hy⟩
        · exact mapM_each f l m hl x hx
theorem hexG_digits {p : List UInt8} {n : Nat} (h : hexG p = some n) : ∀ c ∈ p, digitN c < 16 := by
  unfold hexG at h
  split at h
  · unfold numberL at h
    split at h
    · cases h
    · exact numL_digits 16 65536 p 0 n h
  · cases h
theorem groupsL_dot {l : List UInt8} {m : List Nat} (h : groupsL l = some m) : (46 : UInt8) ∉ l := by
  intro hx
  unfold groupsL at h
  split at h
  · rename_i e; subst e; cases hx
  · rcases cutsL_mem 58 46 l hx with h0 | ⟨p, hp, hxp⟩
    · exact absurd h0 (by decide)
    · obtain ⟨b, hb⟩ := mapM_each hexG _ _ h p hp
      have := hexG_digits hb 46 hxp
      exact absurd this (by decide)
theorem cut_mem (x : UInt8) (l : List UInt8) (hx : x ∈ l) : x ∈ (cut l [58, 58]).1 ∨ x ∈ (cut l [58, 58]).2.1 ∨ x = 58 := by
  unfold cut
  split
  · rename_i h
    rcases index_spec l [58, 58] with ⟨h1, -⟩ | ⟨i, h1, h2, h3, -⟩
    · omega
    · rw [h1] at *
      simp only [Int.toNat_natCast, List.length_cons, List.length_nil]
      have e : l = l.take i ++ l.drop i := (List.take_append_drop _ _).symm
      rw [e, List.mem_append] at hx
      rcases hx with hx | hx
      · exact .inl hx
      · obtain ⟨r, hr⟩ : ∃ r, l.drop i = 58 :: 58 :: r := by
          unfold occAt at h3
          obtain ⟨r, hr⟩ := List.isPrefixOf_iff_prefix.1 h3
          exact ⟨r, by simpa using hr.symm⟩
        have hd : l.drop (i + 2) = r := by rw [← List.drop_drop, hr]; rfl
        rw [hr] at hx
        rcases List.mem_cons.1 hx with h | hx
        · exact .inr (.inr h)
        · rcases List.mem_cons.1 hx with h | hx
          · exact .inr (.inr h)
          · exact .inr (.inl (by rw [hd]; exact hx))
  · exact .inl hx
theorem sixL_dot {l : List UInt8} {m : List Nat} (h : sixL l = some m) : (46 : UInt8) ∉ l := by
  intro hx
  rw [sixL_cut] at h
  unfold sixCut at h
  cases h1 : groupsL (cut l [58, 58]).1 with
  | none => rw [h1] at h; cases h
  | some a =>
    rw [h1] at h
    simp only [Option.bind] at h
    cases h2 : groupsL (cut l [58, 58]).2.1 with
    | none => rw [h2] at h; cases h
    | some b =>
      rcases cut_mem 46 l hx with h3 | h3 | h3
      · exact groupsL_dot h1 h3
      · exact groupsL_dot h2 h3
      · exact absurd h3 (by decide)
/-- No text is an address of four bytes, and one of sixteen. -/
theorem four_six (l : List UInt8) {m : List Nat} (h : sixL l = some m) : fourL l = none := by
  unfold fourL
  rw [cutsL_none 46 l (sixL_dot h)]
  rfl

/-! ### What is told is read as it was -/
theorem toNat_hexc (d : Nat) (h : d < 16) : digitN (hexc d) = d ∧ (hexc d) ≠ 58 ∧ (hexc d) ≠ 46 ∧ (hexc d) ≠ 47 := by
  have : d = 0 ∨ d = 1 ∨ d = 2 ∨ d = 3 ∨ d = 4 ∨ d = 5 ∨ d = 6 ∨ d = 7 ∨ d = 8 ∨ d = 9 ∨ d = 10 ∨ d = 11 ∨ d = 12 ∨ d = 13 ∨ d = 14 ∨ d = 15 := by omega
  rcases this with rfl | rfl | rfl | rfl | rfl | rfl | rfl | rfl | rfl | rfl | rfl | rfl | rfl | rfl | rfl | rfl <;> decide
theorem digB_ne (b u : Nat) : digB b u ≠ [] := by
  rw [digB]; split <;> simp
theorem digB_signs (b : Nat) (hb : b ≤ 16) (hb2 : 2 ≤ b) : ∀ (k u : Nat), u ≤ k → ∀ c ∈ digB b u, ∃ d, d < 16 ∧ c = hexc d
  | 0, u, hk, c, hc => by
    obtain rfl : u = 0 := by omega
    rw [digB, dif_pos (by omega)] at hc
    exact ⟨0, by omega, by simpa using hc⟩
  | k + 1, u, hk, c, hc => by
    rw [digB] at hc
    by_cases h : u < b
    · rw [dif_pos (.inl h)] at hc
      exact ⟨u, by omega, by simpa using hc⟩
    · rw [dif_neg (by omega), List.mem_append] at hc
      have hlt : u / b < u := Nat.div_lt_self (by omega) (by omega)
      rcases hc with hc | hc
      · exact digB_signs b hb hb2 k (u / b) (by omega) c hc
      · exact ⟨u % b, by have := Nat.mod_lt u (show 0 < b by omega); omega, by simpa using hc⟩
theorem numL_digB (b most : Nat) (hb : b ≤ 16) (hb2 : 2 ≤ b) : ∀ (k u : Nat), u ≤ k → u < most → numL b most 0 (digB b u) = some u
  | 0, u, hk, hm => by
    obtain rfl : u = 0 := by omega
    rw [digB, dif_pos (by omega), numL, (toNat_hexc 0 (by omega)).1, if_neg (by omega)]; simp [numL]
  | k + 1, u, hk, hm => by
    rw [digB]
    by_cases h : u < b
    · rw [dif_pos (.inl h), numL, (toNat_hexc u (by omega)).1, if_neg (by omega)]; simp [numL]
    · have hlt : u / b < u := Nat.div_lt_self (by omega) (by omega)
      have hmod : u % b < b := Nat.mod_lt u (by omega)
      have he : u / b * b + u % b = u := by rw [Nat.mul_comm]; exact Nat.div_add_mod u b
      rw [dif_neg (by omega), numL_append, numL_digB b most hb hb2 k (u / b) (by omega) (by omega)]
      simp only [Option.bind]
      rw [numL, (toNat_hexc _ (by omega)).1, he, if_neg (by omega), numL]
theorem digB16_len (u : Nat) (h : u < 65536) : (digB 16 u).length ≤ 4 := by
  rw [digB]; split
  · simp
  rw [digB]; split
  · simp
  rw [digB]; split
  · simp
  rw [digB, dif_pos (.inl (by omega))]
  simp
theorem hexG_digB (u : Nat) (h : u < 65536) : hexG (digB 16 u) = some u := by
  rw [hexG, if_pos (digB16_len u h), numberL, if_neg (digB_ne 16 u), numL_digB 16 65536 (by omega) (by omega) u u (Nat.le_refl _) h]
theorem digB_colon (u : Nat) : (58 : UInt8) ∉ digB 16 u := fun h => by
  obtain ⟨d, hd, e⟩ := digB_signs 16 (by omega) (by omega) u u (Nat.le_refl _) 58 h
  exact (toNat_hexc d hd).2.1 e.symm
theorem mapM_hex (g : Nat → Nat) (hg : ∀ i, g i < 65536) : ∀ l : List Nat, (l.map fun i => digB 16 (g i)).mapM hexG = some (l.map g)
  | [] => rfl
  | i :: l => by
    rw [List.map_cons, List.mapM_cons, hexG_digB _ (hg i), mapM_hex g hg l]; rfl
theorem joinL_ne (c : UInt8) : ∀ l : List (List UInt8), l ≠ [] → (∀ p ∈ l, p ≠ []) → joinL c l ≠ []
  | [], h, _ => absurd rfl h
  | [p], _, h => h p (by simp)
  | p :: q :: l, _, h => by rw [joinL_cons2]; simp
theorem groupsL_join (g : Nat → Nat) (hg : ∀ i, g i < 65536) (l : List Nat) : groupsL (joinL 58 (l.map fun i => digB 16 (g i))) = some (l.map g) := by
  by_cases h : l = []
  · subst h; rfl
  · rw [groupsL, if_neg (joinL_ne 58 _ (by simpa using h) (fun p hp => by obtain ⟨i, -, rfl⟩ := List.mem_map.1 hp; exact digB_ne _ _)), cutsL_join 58 _ (by simpa using h) (fun p hp => by obtain ⟨i, -, rfl⟩ := List.mem_map.1 hp; exact digB_colon _), mapM_hex g hg]

theorem index_step (x : UInt8) (r : List UInt8) (h : ¬ ∃ t, x :: r = 58 :: 58 :: t) : index (x :: r) [58, 58] = if index r [58, 58] = -1 then -1 else index r [58, 58] + 1 := by
  rw [index]
  have : ([58, 58].isPrefixOf (x :: r)) = false := by
    rw [Bool.eq_false_iff]
    intro hp
    obtain ⟨t, ht⟩ := List.isPrefixOf_iff_prefix.1 hp
    exact h ⟨t, by simpa using ht.symm⟩
  rw [this]; simp
/-- A row of texts without a colon, behind it what begins with no colon, or nothing. -/
theorem index_skip : ∀ (p r : List UInt8), p ≠ [] → (58 : UInt8) ∉ p → index (p ++ r) [58, 58] = if index r [58, 58] = -1 then -1 else index r [58, 58] + p.length
  | [], r, h, _ => absurd rfl h
  | [x], r, _, h => by
    rw [List.singleton_append, index_step x r (fun ⟨t, ht⟩ => h (by simp only [List.cons.injEq] at ht; simp [ht.1]))]
    simp
  | x :: y :: p, r, _, h => by
    rw [List.cons_append, index_step x _ (fun ⟨t, ht⟩ => h (by simp only [List.cons.injEq] at ht; simp [ht.1])), index_skip (y :: p) r (by simp) (fun hm => h (by simp [hm]))]
    have := index_ge r [58, 58]
    by_cases e : index r [58, 58] = -1
    · simp [e]
    · rw [if_neg e, if_neg (by omega)]
      simp only [List.length_cons]; omega
theorem index_nil2 : index [] [58, 58] = -1 := by decide
theorem index_join : ∀ (l : List (List UInt8)), (∀ p ∈ l, p ≠ [] ∧ (58 : UInt8) ∉ p) → index (joinL 58 l) [58, 58] = -1
  | [], _ => index_nil2
  | [p], h => by
    have := index_skip p [] (h p (by simp)).1 (h p (by simp)).2
    rw [List.append_nil, index_nil2, if_pos rfl] at this
    exact this
  | p :: q :: l, h => by
    have ih := index_join (q :: l) (fun p' hp => h p' (by simp [hp]))
    have hq : ∃ x t, joinL 58 (q :: l) = x :: t ∧ x ≠ 58 := by
      obtain ⟨h1, h2⟩ := h q (by simp)
      cases q with
      | nil => exact absurd rfl h1
      | cons x t =>
        refine ⟨x, ?_⟩
        have hx : x ≠ 58 := fun e => h2 (by simp [e])
        cases l with
        | nil => exact ⟨t, rfl, hx⟩
        | cons a b => exact ⟨_, rfl, hx⟩
    obtain ⟨x, t, e, hx⟩ := hq
    rw [joinL_cons2, index_skip p _ (h p (by simp)).1 (h p (by simp)).2, e, index_step 58 _ (fun ⟨u, hu⟩ => hx (by simp only [List.cons.injEq] at hu; exact hu.2.1)), ← e, ih]
    rfl
theorem index_hit2 (r : List UInt8) : index (58 :: 58 :: r) [58, 58] = 0 := by
  rw [index]; simp
theorem index_join2 (r : List UInt8) : ∀ (l : List (List UInt8)), (∀ p ∈ l, p ≠ [] ∧ (58 : UInt8) ∉ p) → index (joinL 58 l ++ 58 :: 58 :: r) [58, 58] = ((joinL 58 l).length : Int)
  | [], _ => by rw [joinL, List.nil_append, index_hit2]; rfl
  | [p], h => by
    rw [joinL, index_skip p _ (h p (by simp)).1 (h p (by simp)).2, index_hit2]; simp
  | p :: q :: l, h => by
    have ih := index_join2 r (q :: l) (fun p' hp => h p' (by simp [hp]))
    have hq : ∃ x t, joinL 58 (q :: l) ++ 58 :: 58 :: r = x :: t ∧ x ≠ 58 := by
      obtain ⟨h1, h2⟩ := h q (by simp)
      cases q with
      | nil => exact absurd rfl h1
      | cons x t =>
        refine ⟨x, ?_⟩
        have hx : x ≠ 58 := fun e => h2 (by simp [e])
        cases l with
        | nil => exact ⟨_, rfl, hx⟩
        | cons a b => exact ⟨_, rfl, hx⟩
    obtain ⟨x, t, e, hx⟩ := hq
    rw [joinL_cons2, List.append_assoc, List.cons_append, index_skip p _ (h p (by simp)).1 (h p (by simp)).2, e, index_step 58 _ (fun ⟨u, hu⟩ => hx (by simp only [List.cons.injEq] at hu; exact hu.2.1)), ← e, ih]
    rw [if_neg (by omega), if_neg (by omega)]
    simp only [List.length_append, List.length_cons]; omega

set_option maxRecDepth 1000000 in
theorem nought_zero8 : ∀ a b c d e f g h : Bool, (List.range 8).all (fun i => !(decide ((noughtsZ (zof [a, b, c, d, e, f, g, h])).1 ≤ i ∧ i < (noughtsZ (zof [a, b, c, d, e, f, g, h])).2)) || zof [a, b, c, d, e, f, g, h] i) = true := by decide
/-- The eight groups are nought, or not. -/
def zg (g : Nat → Nat) : Nat → Bool := zof [g 0 == 0, g 1 == 0, g 2 == 0, g 3 == 0, g 4 == 0, g 5 == 0, g 6 == 0, g 7 == 0]
theorem zg_at (g : Nat → Nat) (i : Nat) (h : i < 8) : zg g i = (g i == 0) := by
  rcases i with _ | _ | _ | _ | _ | _ | _ | _ | i
  all_goals first | rfl | omega
/-- The text of eight groups. -/
def text6 (g : Nat → Nat) : List UInt8 := flatT (fun i => digB 16 (g i)) (progTok (zg g))
theorem text6_back (g : Nat → Nat) (hg : ∀ i, g i < 65536) : sixL (text6 g) = some ((List.range 8).map g) := by
  have hbd := noughts_bd8 (g 0 == 0) (g 1 == 0) (g 2 == 0) (g 3 == 0) (g 4 == 0) (g 5 == 0) (g 6 == 0) (g 7 == 0)
  have hz := nought_zero8 (g 0 == 0) (g 1 == 0) (g 2 == 0) (g 3 == 0) (g 4 == 0) (g 5 == 0) (g 6 == 0) (g 7 == 0)
  have hzg : ∀ i, i < 8 → (noughtsZ (zg g)).1 ≤ i → i < (noughtsZ (zg g)).2 → g i = 0 := fun i hi h1 h2 => by
    have := (List.all_eq_true.1 hz) i (List.mem_range.2 hi)
    rw [show zof [g 0 == 0, g 1 == 0, g 2 == 0, g 3 == 0, g 4 == 0, g 5 == 0, g 6 == 0, g 7 == 0] = zg g from rfl] at this
    rw [decide_eq_true (⟨h1, h2⟩ : _ ∧ _), zg_at g i hi] at this
    simpa using this
  change (noughtsZ (zg g)).1 ≤ (noughtsZ (zg g)).2 ∧ (noughtsZ (zg g)).2 ≤ 8 at hbd
  have hp : ∀ (l : List Nat), ∀ p ∈ l.map (fun i => digB 16 (g i)), p ≠ [] ∧ (58 : UInt8) ∉ p := fun l p hp => by
    obtain ⟨i, -, rfl⟩ := List.mem_map.1 hp; exact ⟨digB_ne _ _, digB_colon _⟩
  unfold text6 progTok
  generalize (noughtsZ (zg g)).1 = f at *
  generalize (noughtsZ (zg g)).2 = t at *
  split
  · rw [flat_join, sixL, if_pos (index_join _ (hp _)), groupsL_join g hg]
    simp
  · rw [flatT_append, flatT_append, flat_join, flat_join]
    have e2 : flatT (fun i => digB 16 (g i)) [none, none] = [58, 58] := rfl
    rw [e2, List.append_assoc]
    have hix := index_join2 (joinL 58 (((List.range 8).drop t).map fun i => digB 16 (g i))) _ (hp ((List.range 8).take f))
    rw [sixL]
    simp only [List.cons_append, List.nil_append]
    rw [hix, if_neg (by omega)]
    simp only [Int.toNat_natCast]
    rw [List.take_left, ← List.drop_drop, List.drop_left]
    simp only [List.drop_succ_cons, List.drop_zero]
    rw [groupsL_join g hg, groupsL_join g hg]
    simp only [Option.bind, List.length_map, List.length_take, List.length_drop, List.length_range]
    rw [if_pos (by omega)]
    congr 1
    apply List.ext_getElem?
    intro i
    by_cases hi : i < 8
    · rw [List.getElem?_map, List.getElem?_range hi]
      by_cases h1 : i < f
      · rw [List.append_assoc, List.getElem?_append_left (by simp; omega), List.getElem?_map, List.getElem?_take, if_pos h1, List.getElem?_range hi]
      · by_cases h2 : i < t
        · rw [List.getElem?_append_left (by simp; omega), List.getElem?_append_right (by simp; omega), List.getElem?_replicate, if_pos (by simp; omega), Option.map_some, hzg i hi (by omega) h2]
        · rw [List.getElem?_append_right (by simp; omega), List.getElem?_map, List.getElem?_drop]
          simp only [List.length_append, List.length_map, List.length_take, List.length_range, List.length_replicate]
          rw [show t + (i - (min f 8 + (8 - min f 8 - (8 - t)))) = i by omega, List.getElem?_range hi]
    · rw [List.getElem?_eq_none (by simp; omega), List.getElem?_eq_none (by simp; omega)]

/-- The text of four bytes. -/
def text4 (b : Nat → Nat) : List UInt8 := joinL 46 ((List.range 4).map fun i => decDigits (b i))
theorem decDigits_signs (u : Nat) : ∀ c ∈ decDigits u, ∃ d, d < 16 ∧ c = hexc d := by
  rw [← digB_ten u u (Nat.le_refl _)]; exact digB_signs 10 (by omega) (by omega) u u (Nat.le_refl _)
theorem text4_back (b : Nat → Nat) (hb : ∀ i, b i < 256) : fourL (text4 b) = some ((List.range 4).map b) := by
  have hc : cutsL 46 (text4 b) = (List.range 4).map fun i => decDigits (b i) := cutsL_join 46 _ (by simp) (fun p hp h => by
    obtain ⟨i, -, rfl⟩ := List.mem_map.1 hp
    obtain ⟨d, hd, e⟩ := decDigits_signs _ _ h
    exact (toNat_hexc d hd).2.2.1 e.symm)
  unfold fourL
  rw [hc, if_pos (by simp)]
  have hd : ∀ i, decL 256 (decDigits (b i)) = some (b i) := fun i => decL_some.2 ⟨hb i, rfl⟩
  show List.mapM (decL 256) [decDigits (b 0), decDigits (b 1), decDigits (b 2), decDigits (b 3)] = some [b 0, b 1, b 2, b 3]
  simp [List.mapM_cons, hd]
end Go.Proofs.YtcadpcppnllhnaaDoor
