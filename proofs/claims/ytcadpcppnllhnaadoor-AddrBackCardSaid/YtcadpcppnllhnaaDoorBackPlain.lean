/- The plain law of addresses: what is told is read as it was; the order; prefixes of addresses that are right. -/
import Derived.Test.YtcadpcppnllhnaaDoorAddrZd
import Derived.Test.YtcadpcppnllhnaaDoorParsePlain
import Derived.Test.YtcadpcppnllhnaaDoorAddrW
set_option linter.unusedSimpArgs false
set_option linter.unusedVariables false
namespace Go.Proofs.YtcadpcppnllhnaaDoor
open Go.Lib

theorem fourB_range (b : Nat → Nat) (i : Nat) : fourB ((List.range 4).map b) i = if i < 4 then (b i : Int) else 0 := by
  unfold fourB
  rw [List.getD_eq_getElem?_getD]
  by_cases h : i < 4
  · rw [if_pos h, List.getElem?_map, List.getElem?_range h]; rfl
  · rw [if_neg h, List.getElem?_eq_none (by simp; omega)]; rfl
theorem sixB_range (g : Nat → Nat) (i : Nat) (h : i < 16) : sixB ((List.range 8).map g) i = if i % 2 = 0 then ((g (i / 2) / 256 : Nat) : Int) else ((g (i / 2) % 256 : Nat) : Int) := by
  unfold sixB
  have : ((List.range 8).map g).getD (i / 2) 0 = g (i / 2) := by
    rw [List.getD_eq_getElem?_getD, List.getElem?_map, List.getElem?_range (by omega)]; rfl
  rw [this]
/-- What is told is read as it was. -/
theorem back_text {s : Bool} {B : Nat → Int} (hB : U8 B) (hr : rightB s B = true) : ∃ B' : Nat → Int, parseL (adText s B) = some (s, B') ∧ ∀ i, i < 16 → B' i = B i := by
  unfold adText
  rw [if_pos hr, parseL_of]
  cases s
  · rw [if_neg (by simp), text4_back _ (fun i => by have := hB i; omega)]
    refine ⟨_, rfl, fun i hi => ?_⟩
    rw [fourB_range]
    by_cases h : i < 4
    · rw [if_pos h]; have := hB i; omega
    · rw [if_neg h, rightB_four.1 hr i (by omega) hi]
  · rw [if_pos rfl]
    have h6 := text6_back (grpN B) (fun i => grpN_lt hB i)
    rw [four_six _ h6, h6]
    refine ⟨_, rfl, fun i hi => ?_⟩
    rw [sixB_range _ _ hi]
    have hg : grpN B (i / 2) = (B (2 * (i / 2)) * 256 + B (2 * (i / 2) + 1)).toNat := rfl
    have h1 := hB (2 * (i / 2))
    have h2 := hB (2 * (i / 2) + 1)
    rw [hg]
    by_cases he : i % 2 = 0
    · rw [if_pos he]
      have : B i = B (2 * (i / 2)) := by rw [show 2 * (i / 2) = i by omega]
      rw [this]; omega
    · rw [if_neg he]
      have : B i = B (2 * (i / 2) + 1) := by rw [show 2 * (i / 2) + 1 = i by omega]
      rw [this]; omega
theorem back_value {s : Bool} {B : Nat → Int} (hB : U8 B) (hr : rightB s B = true) : parseV (parseL (adText s B)) = .tuple #[adV s B, .int .i64 0] := by
  obtain ⟨B', h, e⟩ := back_text hB hr
  rw [h]
  show Value.tuple #[adV s B', .int .i64 0] = _
  rw [ad_congr e]
theorem zg_congr {g g' : Nat → Nat} (h : ∀ k, k < 8 → g k = g' k) : zg g = zg g' := by
  unfold zg
  rw [h 0 (by omega), h 1 (by omega), h 2 (by omega), h 3 (by omega), h 4 (by omega), h 5 (by omega), h 6 (by omega), h 7 (by omega)]
theorem text6_congr {g g' : Nat → Nat} (h : ∀ k, k < 8 → g k = g' k) : text6 g = text6 g' := by
  have e : (List.range 8).map (fun i => digB 16 (g i)) = (List.range 8).map fun i => digB 16 (g' i) := List.map_congr_left fun i hi => by rw [h i (List.mem_range.1 hi)]
  rw [text6_of, text6_of, zg_congr h, e]
theorem text4_congr {b b' : Nat → Nat} (h : ∀ k, k < 4 → b k = b' k) : text4 b = text4 b' := by
  unfold text4
  rw [List.map_congr_left fun i hi => by rw [h i (List.mem_range.1 hi)]]
theorem rightB_congr {s : Bool} {B A : Nat → Int} (h : ∀ i, i < 16 → B i = A i) : rightB s B = rightB s A := by
  cases s
  · rw [Bool.eq_iff_iff, rightB_four, rightB_four]
    exact ⟨fun h' i h1 h2 => (h i h2) ▸ h' i h1 h2, fun h' i h1 h2 => (h i h2).trans (h' i h1 h2)⟩
  · rfl
theorem adText_congr {s : Bool} {B A : Nat → Int} (h : ∀ i, i < 16 → B i = A i) : adText s B = adText s A := by
  unfold adText
  rw [rightB_congr h, text6_congr (g := grpN B) (g' := grpN A) (fun k hk => by unfold grpN grpI; rw [h (2 * k) (by omega), h (2 * k + 1) (by omega)]), text4_congr (b := fun i => (B i).toNat) (b' := fun i => (A i).toNat) (fun k hk => by show (B k).toNat = (A k).toNat; rw [h k (by omega)])]
/-- Are two addresses the same? -/
def adEq (s : Bool) (B : Nat → Int) (t : Bool) (A : Nat → Int) : Bool := s == t && eqL (b16 B) (b16 A)
theorem adEq_iff {s t : Bool} {B A : Nat → Int} : adEq s B t A = true ↔ s = t ∧ ∀ i, i < 16 → B i = A i := by
  unfold adEq
  rw [Bool.and_eq_true, eqL_iff, b16_eq]
  simp
/-- Two addresses that are right have the same text just if they are the same. -/
theorem text_iff {s t : Bool} {B A : Nat → Int} (hB : U8 B) (hA : U8 A) (h1 : rightB s B = true) (h2 : rightB t A = true) : (adText s B == adText t A) = adEq s B t A := by
  rw [Bool.eq_iff_iff, beq_iff_eq, adEq_iff]
  constructor
  · intro h
    obtain ⟨B', hb, eb⟩ := back_text hB h1
    obtain ⟨A', ha, ea⟩ := back_text hA h2
    rw [h, ha] at hb
    obtain ⟨rfl, rfl⟩ : t = s ∧ A' = B' := by simpa using hb
    exact ⟨rfl, fun i hi => (eb i hi).symm.trans (ea i hi)⟩
  · rintro ⟨rfl, h⟩
    exact adText_congr h
theorem cmpI_zero : ∀ (xs ys : List Int), xs.length = ys.length → (cmpI xs ys = 0 ↔ xs = ys)
  | [], [], _ => by simp [cmpI]
  | [], _ :: _, h => by simp at h
  | _ :: _, [], h => by simp at h
  | x :: xs, y :: ys, h => by
    have ih := cmpI_zero xs ys (by simpa using h)
    rw [cmpI]
    by_cases h1 : x < y
    · rw [if_pos h1]
      constructor
      · intro h; omega
      · intro h; simp only [List.cons.injEq] at h; omega
    · by_cases h2 : y < x
      · rw [if_neg h1, if_pos h2]
        constructor
        · intro h; omega
        · intro h; simp only [List.cons.injEq] at h; omega
      · rw [if_neg h1, if_neg h2, ih]
        have : x = y := by omega
        simp [this]
/-- They are alike in order just if they are the same. -/
theorem cmp_iff (s : Bool) (B : Nat → Int) (t : Bool) (A : Nat → Int) : (adCmp s B t A == 0) = adEq s B t A := by
  rw [Bool.eq_iff_iff, beq_iff_eq, adEq_iff, ← b16_eq]
  unfold adCmp
  by_cases h : s = t
  · rw [if_pos h, cmpI_zero (b16 B) (b16 A) rfl]
    simp [h]
  · rw [if_neg h]
    constructor
    · intro h'
      split at h' <;> omega
    · rintro ⟨h', -⟩; exact absurd h' h
theorem cmpI_neg : ∀ (xs ys : List Int), cmpI ys xs = - cmpI xs ys
  | [], [] => rfl
  | [], _ :: _ => rfl
  | _ :: _, [] => rfl
  | x :: xs, y :: ys => by
    have ih := cmpI_neg xs ys
    rw [cmpI, cmpI]
    by_cases h1 : x < y
    · rw [if_pos h1, if_neg (by omega), if_pos h1]; rfl
    · by_cases h2 : y < x
      · rw [if_pos h2, if_neg h1, if_pos h2]
      · rw [if_neg h1, if_neg h2, if_neg h2, if_neg h1, ih]
theorem adCmp_neg (s : Bool) (B : Nat → Int) (t : Bool) (A : Nat → Int) : adCmp t A s B = - adCmp s B t A := by
  unfold adCmp
  by_cases h : s = t
  · subst h
    rw [if_pos rfl, if_pos rfl, cmpI_neg]
  · rw [if_neg h, if_neg (fun e => h e.symm)]
    cases s <;> cases t <;> first | rfl | exact absurd rfl h
theorem cmpI_bd : ∀ (xs ys : List Int), -1 ≤ cmpI xs ys ∧ cmpI xs ys ≤ 1
  | [], [] => by simp [cmpI]
  | [], _ :: _ => by simp [cmpI]
  | _ :: _, [] => by simp [cmpI]
  | x :: xs, y :: ys => by
    have ih := cmpI_bd xs ys
    rw [cmpI]
    split
    · omega
    · split <;> omega
theorem adCmp_bd (s : Bool) (B : Nat → Int) (t : Bool) (A : Nat → Int) : -1 ≤ adCmp s B t A ∧ adCmp s B t A ≤ 1 := by
  unfold adCmp
  have := cmpI_bd (b16 B) (b16 A)
  split
  · exact this
  · split <;> omega

/-! ### Prefixes -/
theorem pfEq_self (s : Bool) (B : Nat → Int) (n : Int) : pfEq s B n s B n = true := by
  unfold pfEq
  rw [(eqL_iff _ _).2 rfl]; simp
theorem pfEq_congr {s : Bool} {B A : Nat → Int} {n : Int} (h : ∀ i, B i = A i) : pfEq s B n s A n = true := by
  unfold pfEq
  rw [(eqL_iff _ _).2 (b16_congr h)]; simp
theorem pfEq_six {s t : Bool} {B A : Nat → Int} {n m : Int} (h : s ≠ t) : pfEq s B n t A m = false := by
  unfold pfEq
  have : (s == t) = false := by simpa using h
  rw [this]; rfl
theorem has_self {s : Bool} {B : Nat → Int} (m : Int) (hr : rightB s B = true) : hasV s (cutB (clampN s m) B) (clampN s m : Int) s B = true := by
  unfold hasV
  rw [rightPB_cut m hr, hr, clampN_idem]
  exact pfEq_self _ _ _
theorem within_self {s : Bool} {B : Nat → Int} (m : Int) (hr : rightB s B = true) : withinV s (cutB (clampN s m) B) (clampN s m : Int) s (cutB (clampN s m) B) (clampN s m : Int) = true := by
  unfold withinV hasV
  rw [rightPB_cut m hr, cutB_right _ hr, clampN_idem, decide_eq_true (Int.le_refl _)]
  exact pfEq_congr fun i => by rw [cutB_cut, Nat.min_self]
theorem within_is {s : Bool} {B : Nat → Int} (m : Int) (hr : rightB s B = true) (t : Bool) (Q : Nat → Int) (qn : Int) :
    withinV s (cutB (clampN s m) B) (clampN s m : Int) t Q qn = (decide (qn ≤ (clampN s m : Int)) && hasV t Q qn s (cutB (clampN s m) B)) := by
  unfold withinV
  rw [rightPB_cut m hr]; rfl
theorem within_less {s : Bool} {B : Nat → Int} {m n : Int} (hr : rightB s B = true) (h : n ≤ m) :
    withinV s (cutB (clampN s m) B) (clampN s m : Int) s (cutB (clampN s n) B) (clampN s n : Int) = true := by
  have hmn := clampN_mono s h
  unfold withinV hasV
  rw [rightPB_cut m hr, rightPB_cut n hr, cutB_right _ hr, clampN_idem, decide_eq_true (by omega)]
  exact pfEq_congr fun i => by rw [cutB_cut, Nat.min_eq_left hmn]
theorem has_is {s t : Bool} {B A : Nat → Int} (n : Int) (h1 : rightB s B = true) (h2 : rightB t A = true) :
    hasV t (cutB (clampN t n) A) (clampN t n : Int) s B = (s == t && pfEq s (cutB (clampN s n) B) (clampN s n : Int) t (cutB (clampN t n) A) (clampN t n : Int)) := by
  unfold hasV
  rw [rightPB_cut n h2, h1]
  by_cases h : s = t
  · subst h
    rw [clampN_idem]; simp
  · rw [pfEq_six h, pfEq_six h]; simp
theorem cut_again {s : Bool} {B : Nat → Int} (m : Int) : pfEq s (cutB (clampN s m) (cutB (clampN s m) B)) (clampN s m : Int) s (cutB (clampN s m) B) (clampN s m : Int) = true :=
  pfEq_congr fun i => by rw [cutB_cut, Nat.min_self]

/-! ### A prefix's text -/
theorem joinL_mem (x c : UInt8) : ∀ L : List (List UInt8), x ∈ joinL c L → x = c ∨ ∃ p ∈ L, x ∈ p
  | [], h => by simp [joinL] at h
  | [p], h => .inr ⟨p, by simp, by simpa [joinL] using h⟩
  | p :: q :: l, h => by
    rw [joinL_cons2] at h
    rcases List.mem_append.1 h with h | h
    · exact .inr ⟨p, by simp, h⟩
    · rcases List.mem_cons.1 h with h | h
      · exact .inl h
      · rcases joinL_mem x c (q :: l) h with h | ⟨r, hr, hx⟩
        · exact .inl h
        · exact .inr ⟨r, by simp at hr ⊢; exact .inr hr, hx⟩
theorem digB_slash (u : Nat) : (47 : UInt8) ∉ digB 16 u := fun h => by
  obtain ⟨d, hd, e⟩ := digB_signs 16 (by omega) (by omega) u u (Nat.le_refl _) _ h
  exact (toNat_hexc d hd).2.2.2 e.symm
theorem dec_slash (u : Nat) : (47 : UInt8) ∉ decDigits u := fun h => by
  obtain ⟨d, hd, e⟩ := decDigits_signs u _ h
  exact (toNat_hexc d hd).2.2.2 e.symm
theorem adText_slash (s : Bool) (B : Nat → Int) : (47 : UInt8) ∉ adText s B := by
  intro h
  unfold adText at h
  split at h
  · split at h
    · rw [text6_of] at h
      have hm : ∀ p ∈ (List.range 8).map fun i => digB 16 (grpN B i), (47 : UInt8) ∉ p := fun p hp => by
        obtain ⟨i, -, rfl⟩ := List.mem_map.1 hp
        exact digB_slash _
      split at h
      · rcases joinL_mem _ _ _ h with h | ⟨p, hp, hx⟩
        · exact absurd h (by decide)
        · exact hm p hp hx
      · rcases List.mem_append.1 h with h | h
        · rcases List.mem_append.1 h with h | h
          · rcases joinL_mem _ _ _ h with h | ⟨p, hp, hx⟩
            · exact absurd h (by decide)
            · exact hm p (List.mem_of_mem_take hp) hx
          · simp at h
        · rcases joinL_mem _ _ _ h with h | ⟨p, hp, hx⟩
          · exact absurd h (by decide)
          · exact hm p (List.mem_of_mem_drop hp) hx
    · rcases joinL_mem _ _ _ h with h | ⟨p, hp, hx⟩
      · exact absurd h (by decide)
      · obtain ⟨i, -, rfl⟩ := List.mem_map.1 hp
        exact dec_slash _ hx
  · simp at h
theorem index_one_app (c : UInt8) : ∀ (p r : List UInt8), c ∉ p → index (p ++ c :: r) [c] = (p.length : Int)
  | [], r, _ => by rw [List.nil_append, index_one_cons]; simp
  | x :: p, r, h => by
    have hx : x ≠ c := fun e => h (by simp [e])
    have hp : c ∉ p := fun e => h (by simp [e])
    rw [List.cons_append, index_one_cons, if_neg hx, index_one_app c p r hp, if_neg (by omega)]
    simp
theorem rightPB_congr {s : Bool} {B A : Nat → Int} {n : Int} (hB : ∀ i, i < 16 → B i = A i) : rightPB s B n = rightPB s A n := by
  unfold rightPB
  have e1 : b16 B = b16 A := b16_eq.2 hB
  have e2 : b16 (cutB (clampN s n) B) = b16 (cutB (clampN s n) A) := b16_eq.2 fun i hi => by unfold cutB; rw [hB i hi]
  rw [rightB_congr hB, e1, e2]
/-- A prefix is read as it was told. -/
theorem back_prefix {s : Bool} {B : Nat → Int} (m : Int) (hB : U8 B) (hr : rightB s B = true) :
    ppV (ppL (pfText s (cutB (clampN s m) B) (clampN s m : Int))) = .tuple #[pfV s (cutB (clampN s m) B) (clampN s m : Int), .int .i64 0] := by
  have hp := rightPB_cut (B := B) m hr
  have hle := clampN_le s m
  generalize hP : cutB (clampN s m) B = P at *
  have hU : U8 P := by rw [← hP]; exact cutB_u8 hB
  have hrP : rightB s P = true := by rw [← hP]; exact cutB_right _ hr
  generalize clampN s m = k at *
  unfold pfText
  rw [if_pos hp, Int.toNat_natCast]
  have hcut : cut (adText s P ++ [47] ++ decDigits k) [47] = (adText s P, decDigits k, true) := by
    rw [cut_one, List.append_assoc, List.singleton_append, index_one_app 47 _ _ (adText_slash s P), if_neg (by omega), Int.toNat_natCast]
    simp
  obtain ⟨P', hpp, e⟩ := back_text hU hrP
  have hd : decL 129 (decDigits k) = some k := decL_some.2 ⟨by omega, rfl⟩
  have hR : rightPB s P' (k : Int) = true := by rw [rightPB_congr e]; exact hp
  unfold ppL
  rw [hcut]
  simp only
  rw [hpp, hd]
  show ppV (if rightPB s P' (k : Int) = true then some (s, P', k) else none) = _
  rw [if_pos hR]
  show Value.tuple #[pfV s P' (k : Int), .int .i64 0] = _
  rw [pf_congr e]
theorem dec3 : ∀ b : Fin 256, (Lib.decDigits b).length ≤ 3 := by decide +kernel
theorem adText_max (s : Bool) (B : Nat → Int) (hB : U8 B) : (adText s B).length ≤ 100 := by
  unfold adText
  split
  · split
    · have hp : ∀ p ∈ (List.range 8).map fun i => digB 16 (grpN B i), p.length ≤ 4 := fun p hp => by
        obtain ⟨i, -, rfl⟩ := List.mem_map.1 hp
        exact digB16_len _ (grpN_lt hB i)
      rw [text6_of]
      split
      · exact Nat.le_trans (joinL_len 58 4 _ hp) (by simp)
      · have h1 := joinL_len 58 4 (((List.range 8).map fun i => digB 16 (grpN B i)).take (noughtsZ (zg (grpN B))).1) (fun p h => hp p (List.mem_of_mem_take h))
        have h2 := joinL_len 58 4 (((List.range 8).map fun i => digB 16 (grpN B i)).drop (noughtsZ (zg (grpN B))).2) (fun p h => hp p (List.mem_of_mem_drop h))
        rw [List.length_take, List.length_map, List.length_range] at h1
        rw [List.length_drop, List.length_map, List.length_range] at h2
        simp only [List.length_append, List.length_cons, List.length_nil]
        have h3 : min (noughtsZ (zg (grpN B))).1 8 * (4 + 1) ≤ 40 := by have := Nat.min_le_right (noughtsZ (zg (grpN B))).1 8; omega
        have h4 : (8 - (noughtsZ (zg (grpN B))).2) * (4 + 1) ≤ 40 := by omega
        omega
    · refine Nat.le_trans (joinL_len 46 3 _ fun p hp => ?_) (by simp)
      obtain ⟨i, -, rfl⟩ := List.mem_map.1 hp
      have := hB i
      exact dec3 ⟨(B i).toNat, by omega⟩
  · simp
theorem pfText_max (s : Bool) (B : Nat → Int) (n : Nat) (hB : U8 B) (hn : n ≤ 128) : (pfText s B (n : Int)).length ≤ 200 := by
  unfold pfText
  have := adText_max s B hB
  have h3 := dec3 ⟨n, by omega⟩
  split
  · simp only [List.length_append, List.length_cons, List.length_nil, Int.toNat_natCast]
    simp only at h3
    omega
  · simp


/-! ### What the law AddrBack asks of prefixes, call by call -/
section
open Go.RowKit

structure BackF (s : Bool) (B : Nat → Int) (t : Bool) (A : Nat → Int) (m n : Int) (P : Nat → Int) (pn : Int) (Q : Nat → Int) (qn : Int) (S : Nat → Int) (sn : Int) (T : List UInt8) (h : Bool) : Prop where
  f1 : ∀ w, Calls Tryd.prog 26 #[adV s B, .int .i64 m] w (RetAt w (pfV s P pn))
  f2 : ∀ w, Calls Tryd.prog 26 #[adV t A, .int .i64 n] w (RetAt w (pfV t Q qn))
  f3 : ∀ w, Env w → Calls Tryd.prog 27 #[pfV s P pn] w (RetAt w (.string ⟨T.toArray⟩))
  f4 : ∀ w, Env w → Calls Tryd.prog 9 #[.string ⟨T.toArray⟩] w (RetAt w (.tuple #[pfV s P pn, .int .i64 0]))
  f5 : ∀ w, Calls Tryd.prog 28 #[pfV s P pn] w (RetAt w (.bool true))
  f6 : ∀ w, Calls Tryd.prog 29 #[pfV s P pn, adV s B] w (RetAt w (.bool true))
  f7 : ∀ w, Calls Tryd.prog 30 #[pfV s P pn, pfV s P pn] w (RetAt w (.bool true))
  f8 : ∀ w, Calls Tryd.prog 30 #[pfV s P pn, pfV t Q qn] w (RetAt w (.bool (decide (qn ≤ pn) && h)))
  f9 : ∀ w, Calls Tryd.prog 29 #[pfV t Q qn, adV s P] w (RetAt w (.bool h))
  f10 : ∀ w, Calls Tryd.prog 26 #[adV s B, .int .i64 n] w (RetAt w (pfV s S sn))
  f11 : n ≤ m → ∀ w, Calls Tryd.prog 30 #[pfV s P pn, pfV s S sn] w (RetAt w (.bool true))
  f12 : ∀ w, Calls Tryd.prog 29 #[pfV t Q qn, adV s B] w (RetAt w (.bool (s == t && pfEq s S sn t Q qn)))
  f13 : ∀ w, Calls Tryd.prog 26 #[adV s P, .int .i64 m] w (RetAt w (pfV s P pn))

theorem cut_is (s : Bool) (B : Nat → Int) (n : Int) (hB : U8 B) (hr : rightB s B = true) (hn0 : -9223372036854775808 ≤ n) (hn1 : n ≤ 9223372036854775807) (w : World) :
    Calls Tryd.prog 26 #[adV s B, .int .i64 n] w (RetAt w (pfV s (cutB (clampN s n) B) (clampN s n : Int))) := by
  have := cut_any s B n hB hn0 hn1 w
  unfold cutSix cutBy cutLen at this
  rwa [if_pos hr, if_pos hr, if_pos hr] at this

set_option maxHeartbeats 1000000 in
theorem back_facts (s : Bool) (B : Nat → Int) (t : Bool) (A : Nat → Int) (m n : Int) (hB : U8 B) (hA : U8 A) (h1 : rightB s B = true) (h2 : rightB t A = true) (hm0 : -9223372036854775808 ≤ m) (hm1 : m ≤ 9223372036854775807) (hn0 : -9223372036854775808 ≤ n) (hn1 : n ≤ 9223372036854775807) :
    BackF s B t A m n (cutB (clampN s m) B) (clampN s m : Int) (cutB (clampN t n) A) (clampN t n : Int) (cutB (clampN s n) B) (clampN s n : Int) (pfText s (cutB (clampN s m) B) (clampN s m : Int)) (hasV t (cutB (clampN t n) A) (clampN t n : Int) s (cutB (clampN s m) B)) := by
  have hP : U8 (cutB (clampN s m) B) := cutB_u8 hB
  have hQ : U8 (cutB (clampN t n) A) := cutB_u8 hA
  have hS : U8 (cutB (clampN s n) B) := cutB_u8 hB
  have cp := clampN_le s m
  have cq := clampN_le t n
  have cs := clampN_le s n
  refine ⟨fun w => cut_is s B m hB h1 hm0 hm1 w, fun w => cut_is t A n hA h2 hn0 hn1 w, fun w he => ptext_any s _ _ hP (by omega) (by omega) w he, fun w he => ?_, fun w => ?_, fun w => ?_, fun w => ?_, fun w => ?_, fun w => ?_,
    fun w => cut_is s B n hB h1 hn0 hn1 w, fun hle w => ?_, fun w => ?_, fun w => ?_⟩
  · have hT : (⟨(pfText s (cutB (clampN s m) B) (clampN s m : Int)).toArray⟩ : ByteArray).size ≤ 1000 := by
      have := pfText_max s (cutB (clampN s m) B) (clampN s m) hP cp
      show (pfText s (cutB (clampN s m) B) (clampN s m : Int)).toArray.size ≤ 1000
      rw [List.size_toArray]; omega
    have := pparse_any ⟨(pfText s (cutB (clampN s m) B) (clampN s m : Int)).toArray⟩ w hT he
    rwa [show ppL (⟨(pfText s (cutB (clampN s m) B) (clampN s m : Int)).toArray⟩ : ByteArray).data.toList = ppL (pfText s (cutB (clampN s m) B) (clampN s m : Int)) from rfl, back_prefix m hB h1] at this
  · have := pright_any s (cutB (clampN s m) B) (clampN s m : Int) hP (by omega) (by omega) w
    rwa [rightPB_cut m h1] at this
  · have := has_any s (cutB (clampN s m) B) (clampN s m : Int) s B hP hB (by omega) (by omega) w
    rwa [has_self m h1] at this
  · have := within_any s (cutB (clampN s m) B) (clampN s m : Int) s (cutB (clampN s m) B) (clampN s m : Int) hP hP (by omega) (by omega) (by omega) (by omega) w
    rwa [within_self m h1] at this
  · have := within_any s (cutB (clampN s m) B) (clampN s m : Int) t (cutB (clampN t n) A) (clampN t n : Int) hP hQ (by omega) (by omega) (by omega) (by omega) w
    rwa [within_is m h1] at this
  · exact has_any t (cutB (clampN t n) A) (clampN t n : Int) s (cutB (clampN s m) B) hQ hP (by omega) (by omega) w
  · have := within_any s (cutB (clampN s m) B) (clampN s m : Int) s (cutB (clampN s n) B) (clampN s n : Int) hP hS (by omega) (by omega) (by omega) (by omega) w
    rwa [within_less h1 hle] at this
  · have := has_any t (cutB (clampN t n) A) (clampN t n : Int) s B hQ hB (by omega) (by omega) w
    rwa [has_is n h1 h2] at this
  · have := cut_is s (cutB (clampN s m) B) m hP (cutB_right _ h1) hm0 hm1 w
    rwa [pf_congr (B := cutB (clampN s m) (cutB (clampN s m) B)) (fun i _ => by rw [cutB_cut, Nat.min_self])] at this
end
end Go.Proofs.YtcadpcppnllhnaaDoor
