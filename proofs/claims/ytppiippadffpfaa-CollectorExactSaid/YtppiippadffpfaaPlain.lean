/- Exactly once, plain: what the verdicts alone make of a spool's entries, behind crashes too. -/
import Derived.Test.YtppiippadffpfaaA
set_option linter.unusedVariables false
namespace Go.Proofs.Ytppiippadffpfaa

/-- Is an entry covered by a mark? -/
def cov (e n me mn : Int) : Prop := e < me ∨ (e = me ∧ n < mn)

/-- a: how many were ever made; E, N, V: their epoch, number, and the epoch ahead; t: how many are there, pl: which ones; c: how often each one was credited. -/
structure Once (a t : Nat) (E N V : Nat → Int) (pl : Nat → Nat) (c : Nat → Int) (ep me mn : Int) : Prop where
  ep1 : 1 ≤ ep
  mk0 : 0 ≤ me ∧ 0 ≤ mn
  all : ∀ y, y < a → 0 ≤ N y ∧ 1 ≤ E y ∧ E y ≤ ep ∧ 0 ≤ V y ∧ V y ≤ E y
  num : ∀ y, y < a → N y < a
  there : ∀ k, k < t → pl k < a ∧ N (pl k) = k ∧ V (pl k) = (if k = 0 then 0 else E (pl (k - 1)))
  mono : ∀ k, k + 1 < t → E (pl k) ≤ E (pl (k + 1))
  later : ∀ y k, y < a → k < t → E (pl k) < E y → (k : Int) < N y ∧ E (pl k) ≤ V y
  same : ∀ y k, y < a → k < t → E y = E (pl k) → N y ≤ k → y = pl (N y).toNat
  next : ∀ y k, y < a → k < t → E y = E (pl k) → (k : Int) < N y → V y = E y
  now : ∀ y, y < a → E y = ep → N y < t ∧ y = pl (N y).toNat
  mark : (me = 0 ∧ mn = 0) ∨ ∃ y, y < a ∧ E y = me ∧ N y + 1 = mn
  once : ∀ y, y < a → 0 ≤ c y ∧ c y ≤ 1 ∧ (c y = 1 → cov (E y) (N y) me mn)
  done : ∀ k, k < t → cov (E (pl k)) (N (pl k)) me mn → c (pl k) = 1

theorem Once.start : Once 0 0 (fun _ => 0) (fun _ => 0) (fun _ => 0) (fun _ => 0) (fun _ => 0) 1 0 0 :=
  ⟨by omega, by omega, by omega, by omega, by omega, by omega, by omega, by omega, by omega, by omega, .inl ⟨rfl, rfl⟩, by omega, by omega⟩

theorem Once.mono' {a t : Nat} {E N V : Nat → Int} {pl : Nat → Nat} {c : Nat → Int} {ep me mn : Int} (h : Once a t E N V pl c ep me mn) : ∀ d k, k + d < t → E (pl k) ≤ E (pl (k + d)) := by
  intro d
  induction d with
  | zero => intro k _; exact Int.le_refl _
  | succ d ih =>
    intro k hk
    have h1 := ih k (by omega)
    have h2 := h.mono (k + d) (by omega)
    rw [Nat.add_assoc] at h2
    omega

/-- An entry is added. -/
theorem Once.add {a t : Nat} {E N V : Nat → Int} {pl : Nat → Nat} {c : Nat → Int} {ep me mn : Int} (h : Once a t E N V pl c ep me mn) (ht : t ≤ a) (v : Int) (hv : v = if t = 0 then 0 else E (pl (t - 1))) :
    Once (a + 1) (t + 1) (fun y => if y = a then ep else E y) (fun y => if y = a then (t : Int) else N y) (fun y => if y = a then v else V y) (fun k => if k = t then a else pl k) (fun y => if y = a then 0 else c y) ep me mn := by
  have hlast : ∀ k, k < t → E (pl k) ≤ v := by
    intro k hk
    have h1 := h.mono' (t - 1 - k) k (by omega)
    rw [show k + (t - 1 - k) = t - 1 by omega] at h1
    rw [hv, if_neg (by omega)]; exact h1
  have hv1 : 0 ≤ v ∧ v ≤ ep := by
    rw [hv]; split
    · have := h.ep1; omega
    · have h1 := (h.there (t - 1) (by omega)).1
      have h2 := h.all _ h1
      omega
  have hpl : ∀ k, k < t → pl k ≠ a := fun k hk => by have := (h.there k hk).1; omega
  refine ⟨h.ep1, h.mk0, ?_, ?_, ?_, ?_, ?_, ?_, ?_, ?_, ?_, ?_, ?_⟩
  · intro y hy
    by_cases e : y = a
    · simp only [e, if_true]; have := h.ep1; omega
    · simp only [e, if_false]; exact h.all y (by omega)
  · intro y hy
    by_cases e : y = a
    · simp only [e, if_true]; omega
    · simp only [e, if_false]; have := h.num y (by omega); omega
  · intro k hk
    by_cases e : k = t
    · simp only [e, if_true]
      refine ⟨by omega, trivial, ?_⟩
      by_cases e0 : t = 0
      · simp only [hv, e0, if_true]
      · have e1 : t - 1 ≠ t := by omega
        have e2 := hpl (t - 1) (by omega)
        simp only [hv, e0, e1, e2, if_false]
    · have hk' : k < t := by omega
      have e2 := hpl k hk'
      obtain ⟨a1, a2, a3⟩ := h.there k hk'
      simp only [e, e2, if_false]
      refine ⟨by omega, a2, ?_⟩
      by_cases e0 : k = 0
      · simp only [e0, if_true] at a3 ⊢; exact a3
      · have e3 : k - 1 ≠ t := by omega
        have e4 := hpl (k - 1) (by omega)
        simp only [e0, e3, e4, if_false] at a3 ⊢; exact a3
  · intro k hk
    have e : k ≠ t := by omega
    have e2 := hpl k (by omega)
    by_cases e' : k + 1 = t
    · simp only [e, e', e2, if_true, if_false]
      have := h.all _ (h.there k (by omega)).1
      omega
    · have e3 := hpl (k + 1) (by omega)
      simp only [e, e', e2, e3, if_false]
      exact h.mono k (by omega)
  · intro y k hy hk
    by_cases e : k = t
    · by_cases e' : y = a
      · simp only [e, e', if_true]; omega
      · simp only [e, e', if_true, if_false]
        intro hlt
        have := h.all y (by omega)
        omega
    · have e2 := hpl k (by omega)
      by_cases e' : y = a
      · simp only [e, e', e2, if_true, if_false]
        intro hlt
        have := hlast k (by omega)
        omega
      · simp only [e, e', e2, if_false]
        exact h.later y k (by omega) (by omega)
  · intro y k hy hk
    by_cases e : k = t
    · by_cases e' : y = a
      · simp only [e, e', if_true]
        intro _ _
        simp
      · simp only [e, e', if_true, if_false]
        intro he hn
        have h1 := h.now y (by omega) he
        have h0 := h.all y (by omega)
        have hne : (N y).toNat ≠ t := by omega
        simp only [hne, if_false]
        exact h1.2
    · have e2 := hpl k (by omega)
      by_cases e' : y = a
      · simp only [e, e', e2, if_true, if_false]
        intro _ hn
        omega
      · simp only [e, e', e2, if_false]
        intro he hn
        have h0 := h.all y (by omega)
        have hne : (N y).toNat ≠ t := by omega
        simp only [hne, if_false]
        exact h.same y k (by omega) (by omega) he hn
  · intro y k hy hk
    by_cases e : k = t
    · by_cases e' : y = a
      · simp only [e, e', if_true]; omega
      · simp only [e, e', if_true, if_false]
        intro he hn
        have := h.now y (by omega) he
        omega
    · have e2 := hpl k (by omega)
      by_cases e' : y = a
      · simp only [e, e', e2, if_true, if_false]
        intro he hn
        have := hlast k (by omega)
        omega
      · simp only [e, e', e2, if_false]
        exact h.next y k (by omega) (by omega)
  · intro y hy
    by_cases e' : y = a
    · simp only [e', if_true]
      intro _
      refine ⟨by omega, ?_⟩
      simp
    · simp only [e', if_false]
      intro he
      have := h.now y (by omega) he
      have hne : (N y).toNat ≠ t := by have := h.all y (by omega); omega
      simp only [hne, if_false]
      exact ⟨by omega, this.2⟩
  · rcases h.mark with h0 | ⟨y, hy, h1, h2⟩
    · exact .inl h0
    · refine .inr ⟨y, by omega, ?_⟩
      have e : y ≠ a := by omega
      simp only [e, if_false]
      exact ⟨h1, h2⟩
  · intro y hy
    by_cases e' : y = a
    · simp only [e', if_true]; omega
    · simp only [e', if_false]; exact h.once y (by omega)
  · intro k hk
    by_cases e : k = t
    · simp only [e, if_true]
      intro hc
      exfalso
      have h1 := h.ep1
      rcases h.mark with ⟨h0, h0'⟩ | ⟨y, hy, h2, h3⟩
      · rcases hc with hc | hc <;> omega
      · have h4 := h.all y hy
        rcases hc with hc | ⟨hc, hn⟩
        · omega
        · have := h.now y hy (by omega)
          omega
    · have e2 := hpl k (by omega)
      simp only [e, e2, if_false]
      exact h.done k (by omega)

/-- A crash. -/
theorem Once.crash {a t : Nat} {E N V : Nat → Int} {pl : Nat → Nat} {c : Nat → Int} {ep me mn : Int} (h : Once a t E N V pl c ep me mn) (n : Nat) (hn : n ≤ t) :
    Once a n E N V pl c (ep + 1) me mn := by
  refine ⟨by have := h.ep1; omega, h.mk0, fun y hy => by have := h.all y hy; omega, h.num, fun k hk => h.there k (by omega), fun k hk => h.mono k (by omega), fun y k hy hk => h.later y k hy (by omega),
    fun y k hy hk => h.same y k hy (by omega), fun y k hy hk => h.next y k hy (by omega), fun y hy he => by have := h.all y hy; omega, h.mark, h.once, fun k hk => h.done k (by omega)⟩

/-- Is it fresh? -/
def fresh (e n v me mn : Int) : Prop := ¬ cov e n me mn ∧ ((e = me ∧ n = mn) ∨ (me < e ∧ (v < me ∨ (v = me ∧ n ≤ mn))))

/-- An entry comes that is fresh. -/
theorem Once.come {a t : Nat} {E N V : Nat → Int} {pl : Nat → Nat} {c : Nat → Int} {ep me mn : Int} (h : Once a t E N V pl c ep me mn) (y : Nat) (hy : y < a) (hf : fresh (E y) (N y) (V y) me mn) :
    Once a t E N V pl (fun z => if z = y then c z + 1 else c z) ep (E y) (N y + 1) ∧ c y = 0 := by
  obtain ⟨hnc, hf⟩ := hf
  have hcy : c y = 0 := by
    have h1 := h.once y hy
    by_cases e : c y = 1
    · exact absurd (h1.2.2 e) hnc
    · omega
  have hay := h.all y hy
  have hmk := h.mk0
  refine ⟨⟨h.ep1, by omega, h.all, h.num, h.there, h.mono, h.later, h.same, h.next, h.now, .inr ⟨y, hy, rfl, rfl⟩, ?_, ?_⟩, hcy⟩
  · intro z hz
    have h1 := h.once z hz
    by_cases e : z = y
    · subst e
      simp only [if_true]
      refine ⟨by omega, by omega, fun _ => .inr ⟨rfl, by omega⟩⟩
    · simp only [e, if_false]
      refine ⟨h1.1, h1.2.1, fun hc => ?_⟩
      have h2 := h1.2.2 hc
      unfold cov at h2 ⊢
      rcases hf with hf | hf <;> rcases h2 with h2 | h2 <;> omega
  · intro k hk hc
    by_cases e : pl k = y
    · simp only [e, if_true]; omega
    · simp only [e, if_false]
      refine h.done k hk ?_
      obtain ⟨p1, p2, p3⟩ := h.there k hk
      have hp := h.all _ p1
      have hsame := h.same y k hy hk
      have hnext := h.next y k hy hk
      have hlater := h.later y k hy hk
      unfold cov at hc ⊢
      rw [p2] at hc ⊢
      by_cases hcov : E (pl k) < me ∨ E (pl k) = me ∧ (k : Int) < mn
      · exact hcov
      · exfalso
        have hkey : E y = E (pl k) → N y = k → False := fun h1 h2 => by
          have := hsame h1 (by omega)
          rw [h2, Int.toNat_natCast] at this
          exact e this.symm
        rcases hc with hc | ⟨hc, hn⟩
        · have h3 := hlater hc
          rcases hf with hf | hf <;> omega
        · rcases Int.lt_trichotomy (N y) k with h4 | h4 | h4
          · omega
          · exact hkey hc.symm h4
          · have h5 := hnext hc.symm h4
            rcases hf with hf | hf
            · omega
            · omega

/-- As they come in their order: one that is there, all ahead of it credited, is fresh or credited. -/
theorem Once.order {a t : Nat} {E N V : Nat → Int} {pl : Nat → Nat} {c : Nat → Int} {ep me mn : Int} (h : Once a t E N V pl c ep me mn) (k : Nat) (hk : k < t) (hb : ∀ j, j < k → c (pl j) = 1) :
    c (pl k) = 1 ∨ fresh (E (pl k)) (N (pl k)) (V (pl k)) me mn := by
  by_cases hcov : cov (E (pl k)) (N (pl k)) me mn
  · exact .inl (h.done k hk hcov)
  · refine .inr ⟨hcov, ?_⟩
    obtain ⟨p1, p2, p3⟩ := h.there k hk
    have hp := h.all _ p1
    have hmk := h.mk0
    unfold cov at hcov
    rw [p2] at hcov ⊢
    rcases Int.lt_trichotomy (E (pl k)) me with h1 | h1 | h1
    · exact absurd (.inl h1) hcov
    · left
      refine ⟨h1, ?_⟩
      rcases h.mark with ⟨h0, -⟩ | ⟨y, hy, h2, h3⟩
      · omega
      · have h4 := h.same y k hy hk (by omega)
        by_cases h5 : N y ≤ k
        · have h6 := h4 h5
          have hy0 := h.all y hy
          by_cases h7 : (k : Int) = mn
          · exact h7
          · exfalso
            have h8 : (N y).toNat + 1 < k := by omega
            have h9 := (h.once _ (h.there _ (show (N y).toNat + 1 < t by omega)).1).2.2 (hb _ h8)
            have h10 := (h.there _ (show (N y).toNat + 1 < t by omega)).2.1
            have h11 := h.mono (N y).toNat (by omega)
            rw [← h6] at h11
            unfold cov at h9
            rw [h10] at h9
            rcases h9 with h9 | h9 <;> omega
        · omega
    · right
      refine ⟨h1, ?_⟩
      rw [p3]
      by_cases e0 : k = 0
      · simp only [e0, if_true]; omega
      · simp only [e0, if_false]
        have h2 := (h.once _ (h.there _ (show k - 1 < t by omega)).1).2.2 (hb _ (by omega))
        have h3 := (h.there _ (show k - 1 < t by omega)).2.1
        unfold cov at h2
        rw [h3] at h2
        omega
end Go.Proofs.Ytppiippadffpfaa
