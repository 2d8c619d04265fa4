/- Rows of entries; what holds at each step. -/
import Derived.Test.YtppiippadffpfaaB
import Derived.Test.YtppiippadffpfaaOwn
import Derived.Test.YtppiippadffpfaaPlain
set_option linter.unusedSimpArgs false
set_option linter.unusedVariables false
namespace Go.Proofs.Ytppiippadffpfaa
open Go.RowKit

/-- entries in a row: epoch, number, the epoch ahead, no bytes -/
def entAt (E N V : Nat → Int) (j : Nat) : Value := if j % 4 = 0 then .int .u32 (E (j / 4)) else if j % 4 = 1 then .int .u64 (N (j / 4)) else if j % 4 = 2 then .int .u32 (V (j / 4)) else .slice none 0 0
def ents (n : Nat) (E N V : Nat → Int) : List Value := (List.range (n * 4)).map (entAt E N V)
theorem ents_len (n : Nat) (E N V : Nat → Int) : (ents n E N V).length = n * 4 := by simp [ents]
theorem ents_at (n : Nat) (E N V : Nat → Int) (j : Nat) (h : j < n * 4) : (ents n E N V)[j]? = some (entAt E N V j) := by simp [ents, h]
theorem ents_get (n : Nat) (E N V : Nat → Int) (i : Nat) (h : i < n) :
    (ents n E N V)[i * 4]? = some (.int .u32 (E i)) ∧ (ents n E N V)[i * 4 + 1]? = some (.int .u64 (N i)) ∧ (ents n E N V)[i * 4 + 2]? = some (.int .u32 (V i)) ∧ (ents n E N V)[i * 4 + 3]? = some (.slice none 0 0) := by
  refine ⟨?_, ?_, ?_, ?_⟩
  all_goals rw [ents_at _ _ _ _ _ (by omega)]
  all_goals simp [entAt, Nat.add_div, Nat.mul_div_cancel, Nat.add_mod, Nat.mul_mod_left]
theorem ents_snoc (n : Nat) (E N V : Nat → Int) (e m v : Int) :
    ents n E N V ++ [.int .u32 e, .int .u64 m, .int .u32 v, .slice none 0 0] = ents (n + 1) (fun i => if i = n then e else E i) (fun i => if i = n then m else N i) (fun i => if i = n then v else V i) := by
  apply List.ext_getElem?
  intro j
  by_cases hj : j < n * 4
  · rw [List.getElem?_append_left (by rw [ents_len]; exact hj), ents_at _ _ _ _ _ hj, ents_at _ _ _ _ _ (by omega)]
    have : j / 4 ≠ n := by omega
    simp only [entAt, this, if_false]
  · rw [List.getElem?_append_right (by rw [ents_len]; omega), ents_len]
    by_cases h4 : j < (n + 1) * 4
    · rw [ents_at _ _ _ _ _ h4]
      have : j / 4 = n := by omega
      rcases (show j = n * 4 ∨ j = n * 4 + 1 ∨ j = n * 4 + 2 ∨ j = n * 4 + 3 by omega) with rfl | rfl | rfl | rfl
      all_goals simp [entAt, this, Nat.add_mod, Nat.mul_mod_left]
    · rw [List.getElem?_eq_none (by simp; omega), List.getElem?_eq_none (by rw [ents_len]; omega)]
theorem ents_take (n m : Nat) (E N V : Nat → Int) (h : m ≤ n) : (ents n E N V).take (m * 4) = ents m E N V := by
  apply List.ext_getElem?
  intro j
  rw [List.getElem?_take]
  by_cases hj : j < m * 4
  · rw [if_pos hj, ents_at _ _ _ _ _ (by omega), ents_at _ _ _ _ _ hj]
  · rw [if_neg hj, List.getElem?_eq_none (by rw [ents_len]; omega)]
theorem ents_congr (n : Nat) (E N V E' N' V' : Nat → Int) (h : ∀ i, i < n → E i = E' i ∧ N i = N' i ∧ V i = V' i) : ents n E N V = ents n E' N' V' := by
  unfold ents
  refine List.map_congr_left fun j hj => ?_
  have hj := List.mem_range.1 hj
  obtain ⟨a, b, c⟩ := h (j / 4) (by omega)
  simp only [entAt, a, b, c]

theorem info32 : (Try.prog.info? 32).map (fun i => (i.zero, i.size, i.bytes)) = some (some (.agg #[.int .u32 0, .int .u64 0, .int .u32 0, .slice none 0 0]), 4, 48) := by kernel_rfl
theorem info3 : (Try.prog.info? 3).map (fun i => (i.zero, i.size, i.bytes)) = some (some (.int .i64 0), 1, 8) := by kernel_rfl

def four (a t : Nat) (E N V : Nat → Int) (pl : Nat → Nat) (c : Nat → Int) (o3 o4 o5 o6 : Option Addr) (c3 c4 c5 c6 : Nat) : List RowS :=
  [⟨4, o3, a, c3, ents a E N V⟩, ⟨4, o4, t, c4, ents t (fun k => E (pl k)) (fun k => N (pl k)) (fun k => V (pl k))⟩, ⟨1, o5, a, c5, nums .i64 a c⟩, ⟨1, o6, t, c6, nums .i64 t (fun k => (pl k : Int))⟩]

/-- What holds at the head of each step: BM is the mark's block. -/
structure St (BM k a t : Nat) (E N V : Nat → Int) (pl : Nat → Nat) (c : Nat → Int) (ep me mn : Int) (o3 o4 o5 o6 : Option Addr) (c3 c4 c5 c6 : Nat) (w1 wr : World) : Prop where
  once : Once a t E N V pl c ep me mn
  ta : t ≤ a
  ak : a ≤ k
  epk : ep ≤ k + 1
  fam : Family wr (BM + 1) (four a t E N V pl c o3 o4 o5 o6 c3 c4 c5 c6)
  m0 : wr.cell? ⟨BM, 0, none⟩ = some (.int .u32 me)
  m1 : wr.cell? ⟨BM, 1, none⟩ = some (.int .u64 mn)
  mf : ∀ j, wr.frozen? ⟨BM, j, none⟩ = false
  mz : BM < wr.heap.size
  below : Below BM w1 wr

theorem St.later {BM k a t : Nat} {E N V : Nat → Int} {pl : Nat → Nat} {c : Nat → Int} {ep me mn : Int} {o3 o4 o5 o6 : Option Addr} {c3 c4 c5 c6 : Nat} {w1 wr : World} (h : St BM k a t E N V pl c ep me mn o3 o4 o5 o6 c3 c4 c5 c6 w1 wr) (x : Later wr) :
    St BM k a t E N V pl c ep me mn o3 o4 o5 o6 c3 c4 c5 c6 w1 x.world :=
  ⟨h.once, h.ta, h.ak, h.epk, h.fam.later x, (x.cell _ _ h.mz).trans h.m0, (x.cell _ _ h.mz).trans h.m1, fun j => (x.frozen _ _ h.mz).trans (h.mf j),
    Nat.lt_of_lt_of_le h.mz x.below.size, h.below.trans (x.below.mono (Nat.le_of_lt h.mz))⟩
theorem St.more {BM k a t : Nat} {E N V : Nat → Int} {pl : Nat → Nat} {c : Nat → Int} {ep me mn : Int} {o3 o4 o5 o6 : Option Addr} {c3 c4 c5 c6 : Nat} {w1 wr : World} (h : St BM k a t E N V pl c ep me mn o3 o4 o5 o6 c3 c4 c5 c6 w1 wr) :
    St BM (k + 1) a t E N V pl c ep me mn o3 o4 o5 o6 c3 c4 c5 c6 w1 wr :=
  ⟨h.once, h.ta, by have := h.ak; omega, by have := h.epk; omega, h.fam, h.m0, h.m1, h.mf, h.mz, h.below⟩
/-- Where the entries that are there lie. -/
theorem St.there {BM k a t : Nat} {E N V : Nat → Int} {pl : Nat → Nat} {c : Nat → Int} {ep me mn : Int} {o3 o4 o5 o6 : Option Addr} {c3 c4 c5 c6 : Nat} {w1 wr : World} (h : St BM k a t E N V pl c ep me mn o3 o4 o5 o6 c3 c4 c5 c6 w1 wr) (hn : 0 < t) :
    ∃ g off, o4 = some ⟨g, off, none⟩ ∧ g < wr.heap.size ∧ ∀ q, q < t → wr.cell? ⟨g, off + q * 4, none⟩ = some (.int .u32 (E (pl q))) ∧ wr.cell? ⟨g, off + q * 4 + 1, none⟩ = some (.int .u64 (N (pl q))) ∧
      wr.cell? ⟨g, off + q * 4 + 2, none⟩ = some (.int .u32 (V (pl q))) ∧ wr.cell? ⟨g, off + q * 4 + 3, none⟩ = some (.slice none 0 0) := by
  obtain ⟨g, off, e, -, hlt, hc, -⟩ := Owns.here (h.fam.own 1 _ rfl) hn
  refine ⟨g, off, e, hlt, fun q hq => ?_⟩
  obtain ⟨h0, h1, h2, h3⟩ := ents_get t (fun k => E (pl k)) (fun k => N (pl k)) (fun k => V (pl k)) q hq
  exact ⟨hc _ _ h0, by have := hc _ _ h1; rwa [← Nat.add_assoc] at this, by have := hc _ _ h2; rwa [← Nat.add_assoc] at this, by have := hc _ _ h3; rwa [← Nat.add_assoc] at this⟩
theorem St.all {BM k a t : Nat} {E N V : Nat → Int} {pl : Nat → Nat} {c : Nat → Int} {ep me mn : Int} {o3 o4 o5 o6 : Option Addr} {c3 c4 c5 c6 : Nat} {w1 wr : World} (h : St BM k a t E N V pl c ep me mn o3 o4 o5 o6 c3 c4 c5 c6 w1 wr) (hn : 0 < a) :
    ∃ g off, o3 = some ⟨g, off, none⟩ ∧ g < wr.heap.size ∧ ∀ q, q < a → wr.cell? ⟨g, off + q * 4, none⟩ = some (.int .u32 (E q)) ∧ wr.cell? ⟨g, off + q * 4 + 1, none⟩ = some (.int .u64 (N q)) ∧
      wr.cell? ⟨g, off + q * 4 + 2, none⟩ = some (.int .u32 (V q)) ∧ wr.cell? ⟨g, off + q * 4 + 3, none⟩ = some (.slice none 0 0) := by
  obtain ⟨g, off, e, -, hlt, hc, -⟩ := Owns.here (h.fam.own 0 _ rfl) hn
  refine ⟨g, off, e, hlt, fun q hq => ?_⟩
  obtain ⟨h0, h1, h2, h3⟩ := ents_get a E N V q hq
  exact ⟨hc _ _ h0, by have := hc _ _ h1; rwa [← Nat.add_assoc] at this, by have := hc _ _ h2; rwa [← Nat.add_assoc] at this, by have := hc _ _ h3; rwa [← Nat.add_assoc] at this⟩
theorem St.cred {BM k a t : Nat} {E N V : Nat → Int} {pl : Nat → Nat} {c : Nat → Int} {ep me mn : Int} {o3 o4 o5 o6 : Option Addr} {c3 c4 c5 c6 : Nat} {w1 wr : World} (h : St BM k a t E N V pl c ep me mn o3 o4 o5 o6 c3 c4 c5 c6 w1 wr) (hn : 0 < a) :
    ∃ g off, o5 = some ⟨g, off, none⟩ ∧ BM + 1 ≤ g ∧ g < wr.heap.size ∧ ∀ q, q < a → wr.cell? ⟨g, off + q, none⟩ = some (.int .i64 (c q)) ∧ wr.frozen? ⟨g, off + q, none⟩ = false := by
  obtain ⟨g, off, e, hb, hlt, hc, ht⟩ := Owns.here (h.fam.own 2 _ rfl) hn
  have hle := (h.fam.own 2 _ rfl).le
  exact ⟨g, off, e, hb, hlt, fun q hq => ⟨hc q _ (nums_get _ _ _ q hq), (ht q (by simp only at hle ⊢; omega)).2⟩⟩
theorem St.place {BM k a t : Nat} {E N V : Nat → Int} {pl : Nat → Nat} {c : Nat → Int} {ep me mn : Int} {o3 o4 o5 o6 : Option Addr} {c3 c4 c5 c6 : Nat} {w1 wr : World} (h : St BM k a t E N V pl c ep me mn o3 o4 o5 o6 c3 c4 c5 c6 w1 wr) (hn : 0 < t) :
    ∃ g off, o6 = some ⟨g, off, none⟩ ∧ g < wr.heap.size ∧ ∀ q, q < t → wr.cell? ⟨g, off + q, none⟩ = some (.int .i64 (pl q : Int)) := by
  obtain ⟨g, off, e, hb, hlt, hc, ht⟩ := Owns.here (h.fam.own 3 _ rfl) hn
  exact ⟨g, off, e, hlt, fun q hq => hc q _ (nums_get _ _ (fun k => (pl k : Int)) q hq)⟩
theorem elem24 : Try.prog.underlying 24 = some (.slice (Try.prog.elem 24)) := by kernel_rfl
theorem elem22 : Try.prog.underlying 22 = some (.slice (Try.prog.elem 22)) := by kernel_rfl
theorem size24 : (Try.prog.info? (Try.prog.elem 24)).map (·.size) = some 4 := by kernel_rfl
theorem size22 : (Try.prog.info? (Try.prog.elem 22)).map (·.size) = some 1 := by kernel_rfl

theorem St.crash {BM k a t : Nat} {E N V : Nat → Int} {pl : Nat → Nat} {c : Nat → Int} {ep me mn : Int} {o3 o4 o5 o6 : Option Addr} {c3 c4 c5 c6 : Nat} {w1 wr : World} (h : St BM k a t E N V pl c ep me mn o3 o4 o5 o6 c3 c4 c5 c6 w1 wr) (n : Nat) (hn : n ≤ t) :
    St BM (k + 1) a n E N V pl c (ep + 1) me mn o3 o4 o5 o6 c3 c4 c5 c6 w1 wr := by
  refine ⟨h.once.crash n hn, by have := h.ta; omega, by have := h.ak; omega, by have := h.epk; omega, ?_, h.m0, h.m1, h.mf, h.mz, h.below⟩
  have h1 := (h.fam.take 1 rfl n hn).take 3 rfl n hn
  simpa only [four, List.set_cons_succ, List.set_cons_zero, ents_take _ _ _ _ _ hn, Nat.mul_one, nums_take _ _ _ _ hn] using h1

theorem verdict_fresh (e n v me mn : Int) : verdictN e n v me mn = 1 ↔ fresh e n v me mn := by
  simp only [verdictN, isOld, isNext, isBoot, decide_eq_true_eq, fresh, cov]
  split
  · constructor
    · intro h; omega
    · intro h; exact absurd ‹_› h.1
  · rename_i h1
    split
    · exact ⟨fun _ => ⟨h1, .inl ‹_›⟩, fun _ => rfl⟩
    · rename_i h2
      split
      · exact ⟨fun _ => ⟨h1, .inr ‹_›⟩, fun _ => rfl⟩
      · rename_i h3
        constructor
        · intro h; omega
        · rintro ⟨-, h | h⟩
          · exact absurd h h2
          · exact absurd h h3

/-- What is credited. -/
theorem St.come {BM k a t : Nat} {E N V : Nat → Int} {pl : Nat → Nat} {c : Nat → Int} {ep me mn : Int} {o3 o4 o6 : Option Addr} {g off : Nat} {c3 c4 c5 c6 : Nat} {w1 wr : World} (h : St BM k a t E N V pl c ep me mn o3 o4 (some ⟨g, off, none⟩) o6 c3 c4 c5 c6 w1 wr)
    (y : Nat) (hy : y < a) (hf : fresh (E y) (N y) (V y) me mn) :
    St BM k a t E N V pl (fun z => if z = y then c z + 1 else c z) ep (E y) (N y + 1) o3 o4 (some ⟨g, off, none⟩) o6 c3 c4 c5 c6 w1
      (((wr.setCell ⟨BM, 0, none⟩ (.int .u32 (E y))).setCell ⟨BM, 1, none⟩ (.int .u64 (N y + 1))).setCell ⟨g, off + y, none⟩ (.int .i64 (c y + 1))) := by
  have hfam := ((h.fam.other (p := ⟨BM, 0, none⟩) (by simp) (.int .u32 (E y))).other (p := ⟨BM, 1, none⟩) (by simp) (.int .u64 (N y + 1))).set 2 rfl y (by simpa using hy) (.int .i64 (c y + 1))
  have hg : BM + 1 ≤ g := ((h.fam.own 2 _ rfl).lt rfl).1
  have hm0 := World.cell?_setCell_same wr ⟨BM, 0, none⟩ (.int .u32 (E y)) h.m0
  have hm1 : (wr.setCell ⟨BM, 0, none⟩ (.int .u32 (E y))).cell? ⟨BM, 1, none⟩ = some (.int .u64 mn) := by
    rw [World.cell?_setCell_other _ _ _ _ (by simp)]; exact h.m1
  refine ⟨(h.once.come y hy hf).1, h.ta, h.ak, h.epk, ?_, ?_, ?_, fun j => ?_, ?_, ?_⟩
  · have e : nums .i64 a (fun z => if z = y then c z + 1 else c z) = (nums .i64 a c).set y (.int .i64 (c y + 1)) := by
      rw [nums_set _ _ _ _ _ hy]
      refine nums_congr _ _ _ _ fun i _ => ?_
      by_cases e : i = y <;> simp [e]
    simp only [four, e]
    exact hfam
  · rw [World.cell?_setCell_other _ _ _ _ (by simp only [ne_eq, Addr.mk.injEq, not_and]; omega), World.cell?_setCell_other _ _ _ _ (by simp)]
    exact hm0
  · rw [World.cell?_setCell_other _ _ _ _ (by simp only [ne_eq, Addr.mk.injEq, not_and]; omega)]
    exact World.cell?_setCell_same _ _ _ hm1
  · rw [World.frozen?_setCell, World.frozen?_setCell, World.frozen?_setCell]; exact h.mf j
  · simpa using h.mz
  · exact ((h.below.setCell (Nat.le_refl _) _).setCell (Nat.le_refl _) _).setCell (by simp only; omega) _
theorem St.drew {BM k a t : Nat} {E N V : Nat → Int} {pl : Nat → Nat} {c : Nat → Int} {ep me mn : Int} {o3 o4 o5 o6 : Option Addr} {c3 c4 c5 c6 : Nat} {w1 wr : World} (h : St BM k a t E N V pl c ep me mn o3 o4 o5 o6 c3 c4 c5 c6 w1 wr) :
    St BM k a t E N V pl c ep me mn o3 o4 o5 o6 c3 c4 c5 c6 w1 wr.drew := h.later ⟨wr.drew, (Below.refl _ _).drew⟩

theorem Family.init {w : World} {base : Nat} {rows : List RowS} {r : RowS} (h : Family w base (rows ++ [r])) : Family w base rows := by
  have hs : ∀ (i : Nat) (s : RowS), rows[i]? = some s → (rows ++ [r])[i]? = some s := fun i s hi => by
    rw [List.getElem?_append_left (List.getElem?_eq_some_iff.1 hi).1]; exact hi
  exact ⟨fun i s hi => h.own i s (hs i s hi), fun i j s t hij hi hj => h.sep i j s t hij (hs i s hi) (hs j t hj)⟩

/-- An entry is added. -/
theorem St.add {BM k a t : Nat} {E N V : Nat → Int} {pl : Nat → Nat} {c : Nat → Int} {ep me mn : Int} {o3 o4 o5 o6 : Option Addr} {c3 c4 c5 c6 : Nat} {w1 wr : World} (h : St BM k a t E N V pl c ep me mn o3 o4 o5 o6 c3 c4 c5 c6 w1 wr)
    (v tn : Int) (hv : v = if t = 0 then 0 else E (pl (t - 1))) (htn : tn = (t : Int)) {q3 q4 q5 q6 : Option Addr} {k3 k4 k5 k6 : Nat} {x : RowS} {w5 : World}
    (hF : Family w5 (BM + 1) ([(⟨4, q3, a + 1, k3, ents a E N V ++ [.int .u32 ep, .int .u64 tn, .int .u32 v, .slice none 0 0]⟩ : RowS),
      ⟨4, q4, t + 1, k4, ents t (fun k => E (pl k)) (fun k => N (pl k)) (fun k => V (pl k)) ++ [.int .u32 ep, .int .u64 tn, .int .u32 v, .slice none 0 0]⟩,
      ⟨1, q5, a + 1, k5, nums .i64 a c ++ [.int .i64 0]⟩, ⟨1, q6, t + 1, k6, nums .i64 t (fun k => (pl k : Int)) ++ [.int .i64 (a : Int)]⟩] ++ [x]))
    (hk : Below (BM + 1) wr w5) :
    St BM (k + 1) (a + 1) (t + 1) (fun y => if y = a then ep else E y) (fun y => if y = a then (t : Int) else N y) (fun y => if y = a then v else V y) (fun k => if k = t then a else pl k) (fun y => if y = a then 0 else c y) ep me mn q3 q4 q5 q6 k3 k4 k5 k6 w1 w5 := by
  subst htn
  have hpl : ∀ i, i < t → pl i ≠ a := fun i hi => by have := (h.once.there i hi).1; omega
  refine ⟨h.once.add h.ta v hv, by have := h.ta; omega, by have := h.ak; omega, by have := h.epk; omega, ?_, (hk.cell (p := ⟨_, _, none⟩) (by simp)).trans h.m0, (hk.cell (p := ⟨_, _, none⟩) (by simp)).trans h.m1,
    fun j => (hk.frozen (p := ⟨_, _, none⟩) (by simp)).trans (h.mf j), Nat.lt_of_lt_of_le h.mz hk.size, h.below.trans (hk.mono (by omega))⟩
  have h1 := hF.init
  have e1 : ents a E N V ++ [.int .u32 ep, .int .u64 (t : Int), .int .u32 v, .slice none 0 0] = ents (a + 1) (fun y => if y = a then ep else E y) (fun y => if y = a then (t : Int) else N y) (fun y => if y = a then v else V y) := ents_snoc _ _ _ _ _ _ _
  have e2 : ents t (fun k => E (pl k)) (fun k => N (pl k)) (fun k => V (pl k)) ++ [.int .u32 ep, .int .u64 (t : Int), .int .u32 v, .slice none 0 0] =
      ents (t + 1) (fun k => (fun y => if y = a then ep else E y) (if k = t then a else pl k)) (fun k => (fun y => if y = a then (t : Int) else N y) (if k = t then a else pl k)) (fun k => (fun y => if y = a then v else V y) (if k = t then a else pl k)) := by
    rw [ents_snoc]
    refine ents_congr _ _ _ _ _ _ _ fun i hi => ?_
    by_cases e : i = t
    · simp [e]
    · have := hpl i (by omega)
      simp [e, this]
  have e3 : nums .i64 a c ++ [.int .i64 0] = nums .i64 (a + 1) (fun y => if y = a then 0 else c y) := nums_snoc _ _ _ _
  have e4 : nums .i64 t (fun k => (pl k : Int)) ++ [.int .i64 (a : Int)] = nums .i64 (t + 1) (fun k => ((if k = t then a else pl k : Nat) : Int)) := by
    rw [nums_snoc]
    refine nums_congr _ _ _ _ fun i hi => ?_
    by_cases e : i = t <;> simp [e]
  rw [e1, e2, e3, e4] at h1
  exact h1
end Go.Proofs.Ytppiippadffpfaa
