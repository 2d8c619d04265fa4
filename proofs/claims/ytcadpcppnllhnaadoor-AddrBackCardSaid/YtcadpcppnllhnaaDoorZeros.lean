/- 'append(v, make([]T, k)...)', v an own row. -/
import Derived.Test.YtcadpcppnllhnaaDoorOwn
import Derived.Lib.AppendZerosOnto
set_option linter.unusedSimpArgs false
set_option linter.unusedVariables false
namespace Go.Proofs.YtcadpcppnllhnaaDoor
open Go.RowKit

theorem zeroCells_one (z : Value) (n : Nat) : Builtin.zeroCells #[z] n = (List.replicate n z).toArray := by
  apply Array.ext
  · simp [Builtin.zeroCells]
  · intro i h1 h2
    simp [Builtin.zeroCells, Nat.mod_one]

section
variable {P : Program}
theorem run_append_zeros_room0 (w : World) (t tn ty e : TypeId) (i : TypeInfo) (kn : IntKind) (ht : P.underlying t = some (.slice e)) (htn : P.underlying tn = some (.int kn)) (hi : P.info? e = some i) (base : Option Addr) (n cap : Nat) (hle : n ≤ cap) :
    (Builtin.append_ #[t, tn] ty #[.slice base n cap, .int .i64 ((0 : Nat) : Int)]).run P w = .ok (.slice base n cap) w := by
  have hw : IntKind.i64.wrap ((0 : Nat) : Int) = 0 := by rw [IntKind.wrap_i64]; decide
  have hw' : IntKind.i64.wrap 0 = 0 := hw
  cases base <;> simp [Builtin.append_, run_underlying ht, run_underlying htn, sizeOf, typeInfo, hi, asInt, asIntOf, hw', hle, storeCells, Question.forced]
theorem run_append_zeros_room (w : World) (t tn ty e : TypeId) (i : TypeInfo) (z : Value) (kn : IntKind) (ht : P.underlying t = some (.slice e)) (htn : P.underlying tn = some (.int kn)) (hi : P.info? e = some i) (hz : i.zero = some z) (hzc : z.cells = #[z])
    (g off n cap k : Nat) (h0 : 0 < k) (hsz : i.size = 1) (hroom : n + k ≤ cap) (hk : k ≤ 1000000) (hby : k * i.bytes ≤ 281474976710656) (h1 : z.oneCell' = true)
    (hc : ∀ j, j < k → (w.cell? ⟨g, off + n + j, none⟩).isSome = true) (hf : ∀ j, j < k → w.frozen? ⟨g, off + n + j, none⟩ = false) :
    (Builtin.append_ #[t, tn] ty #[.slice (some ⟨g, off, none⟩) n cap, .int .i64 (k : Int)]).run P w = .ok (.slice (some ⟨g, off, none⟩) (n + k) cap) (w.setCells g (off + n) (List.replicate k z)) := by
  have hst := run_storeCells_cells (P := P) g (off + n) (List.replicate k z) 0 w (by simpa using hc) (by simpa using hf) (fun v hv => by rw [(List.mem_replicate.1 hv).2]; exact h1)
  simp only [Nat.add_zero] at hst
  have hw : IntKind.i64.wrap (k : Int) = k := by rw [IntKind.wrap_i64]; omega
  have hneg : ¬ ((k : Int) < 0) := by omega
  have hk0 : k ≠ 0 := by omega
  have h48i : ¬ (281474976710656 < (k : Int) * (i.bytes : Int)) := by rw [← Int.natCast_mul]; omega
  simp [Builtin.append_, run_underlying ht, run_underlying htn, sizeOf, typeInfo, zeroValue, hi, hz, hsz, asInt, asIntOf, hw, hneg, h48i, hk0, hroom, hzc, zeroCells_one, Addr.add_lit, hst, Question.forced]

theorem run_append_zeros_owns (w : World) (t tn ty e : TypeId) (z : Value) (bytes base : Nat) (kn : IntKind) (ht : P.underlying t = some (.slice e)) (htn : P.underlying tn = some (.int kn))
    (hinfo : (P.info? e).map (fun i => (i.zero, i.size, i.bytes)) = some (some z, 1, bytes)) (hzc : z.cells = #[z]) (h1 : z.oneCell' = true)
    (oa : Option Addr) (n cap : Nat) (xs : List Value) (hown : Owns w base 1 oa n cap xs) (k : Nat) (hk : k ≤ 1000000) (h63 : n + k ≤ maxLen) (hbytes : (n + k) * bytes ≤ 140737488355328) (hbase : base ≤ w.heap.size) :
    ∃ oa' cap' w', (Builtin.append_ #[t, tn] ty #[.slice oa n cap, .int .i64 (k : Int)]).run P w = .ok (.slice oa' (n + k) cap') w' ∧ Owns w' base 1 oa' (n + k) cap' (xs ++ List.replicate k z) ∧
      w.grownBy w' (oa.map Addr.block) ∧ (∀ a, oa' = some a → oa = some a ∨ w.heap.size ≤ a.block) := by
  obtain ⟨i, hi, hz, h4, h5⟩ := info_parts hinfo
  have hby : k * i.bytes ≤ 140737488355328 := by rw [h5]; exact Nat.le_trans (Nat.mul_le_mul_right _ (by omega)) hbytes
  rcases Nat.eq_zero_or_pos k with h0 | h0
  · subst h0
    exact ⟨oa, cap, w, run_append_zeros_room0 w t tn ty e i kn ht htn hi oa n cap hown.le, by simpa using hown, World.grownBy_refl w _, fun a ha => .inl ha⟩
  · have hsm : ((n + k : Nat) : Int) ≤ 9223372036854775807 := by unfold maxLen at h63; omega
    have hge := grownCap_ge w (n + k) cap e
    have hcm : grownCap w (n + k) cap e ≤ maxLen := grownCap_le_maxLen w (n + k) cap e h63
    have hmade : ∀ (olds : List Value), olds.length = n → (∀ u, (olds[n]? = some u) → False) → olds = xs → ∀ rest : Nat, rest = grownCap w (n + k) cap e - (n + k) →
        Owns (w.drew.alloc (.cells (olds.toArray ++ Builtin.zeroCells z.cells k ++ Builtin.zeroCells z.cells rest) e)) base 1 (some ⟨w.heap.size, 0, none⟩) (n + k) (grownCap w (n + k) cap e) (xs ++ List.replicate k z) := by
      intro olds hl _ he rest hrest
      subst he
      refine Owns.made (w := w.drew) _ _ _ _ _ (by simpa using hbase) ?_ hge hcm ?_
      · simp only [Array.size_append, List.size_toArray, size_zeroCells, hl, hzc, Nat.mul_one, List.size_toArray, List.length_singleton]; omega
      · rw [hzc, zeroCells_one, zeroCells_one]
        simp only [List.append_toArray, List.toList_toArray, Nat.mul_one]
        rw [List.take_append_of_le_length (by simp [hl])]
        exact List.take_of_length_le (by simp [hl])
    rcases hown.at' with ⟨rfl, rfl⟩ | ⟨g, off, rfl, hb, hlt, hc, hth⟩
    · have hn : n = 0 := by have := hown.le; omega
      subst hn
      have hx : xs = [] := List.eq_nil_of_length_eq_zero (by simpa using hown.len)
      subst hx
      have hr := Lib.run_append_grow_zeros (P := P) w t tn ty e i z .i64 kn ht htn hi hz none 0 0 [] (by simp [Builtin.firstCells]) k h0 (by omega) (by omega) hsm (by omega) (growslice_fits (by omega) (by rw [h5]; exact hbytes))
      refine ⟨_, _, _, hr, hmade [] rfl (by simp) rfl _ rfl, ⟨rfl, rfl, rfl, by simp, fun k hk _ => heap_alloc_old w.drew _ hk⟩, fun a ha => .inr ?_⟩
      cases ha; exact Nat.le_refl _
    · by_cases hroom : n + k ≤ cap
      · have hsome : ∀ j, j < k → (w.cell? ⟨g, off + n + j, none⟩).isSome = true := fun j hj => by have := (hth (n + j) (by omega)).1; rwa [← Nat.add_assoc] at this
        have hfz : ∀ j, j < k → w.frozen? ⟨g, off + n + j, none⟩ = false := fun j hj => by have := (hth (n + j) (by omega)).2; rwa [← Nat.add_assoc] at this
        have hr := run_append_zeros_room (P := P) w t tn ty e i z kn ht htn hi hz hzc g off n cap k h0 h4 hroom hk (by omega) h1 hsome hfz
        have hlen := hown.len
        refine ⟨_, _, _, hr, ⟨by rw [List.length_append, List.length_replicate, hlen]; omega, hroom, hown.max, .inr ⟨g, off, rfl, hb, ?_, fun j u hu => ?_, fun j hj => ?_⟩⟩, ?_, fun a ha => .inl ha⟩
        · have hk := World.keptBut_setCells g (may := fun _ => True) (List.replicate k z) (off + n) w (fun _ _ => trivial)
          exact Nat.lt_of_lt_of_le hlt hk.size
        · by_cases hj : j < xs.length
          · rw [List.getElem?_append_left hj] at hu
            rw [World.cell?_setCells_out g _ _ _ _ (fun _ _ => Or.inl (by simp only; omega))]
            exact hc j u hu
          · rw [List.getElem?_append_right (by omega)] at hu
            have hjl := (List.getElem?_eq_some_iff.1 hu).1
            have := World.cell?_setCells_in g (List.replicate k z) (off + n) w (by simpa using hsome) (j - xs.length) hjl
            rw [show off + j = off + n + (j - xs.length) by omega, this, ← hu, List.getElem?_eq_getElem hjl]
        · rw [World.frozen?_setCells]
          refine ⟨?_, (hth j hj).2⟩
          by_cases hin : n ≤ j ∧ j < n + k
          · have := World.cell?_setCells_in g (List.replicate k z) (off + n) w (by simpa using hsome) (j - n) (by simp; omega)
            rw [show off + j = off + n + (j - n) by omega, this]; rfl
          · rw [World.cell?_setCells_out g _ _ _ _ (fun _ _ => by simp only [List.length_replicate]; omega)]
            exact (hth j hj).1
        · have hk := World.keptBut_setCells g (may := fun p => p.block = g) (List.replicate k z) (off + n) w (fun _ _ => rfl)
          have htape : ∀ (vs : List Value) (o : Nat) (w : World), (w.setCells g o vs).tape = w.tape := by
            intro vs; induction vs with
            | nil => intro o w; rfl
            | cons v r ih => intro o w; rw [World.setCells, ih]; rfl
          refine ⟨hk.1, htape _ _ _, hk.2.1, hk.size, fun k hkl hne => ?_⟩
          exact hk.block hkl (fun _ hp e => hne (by simp [← hp, e]))
      · have hr := Lib.run_append_grow_zeros (P := P) w t tn ty e i z .i64 kn ht htn hi hz (some ⟨g, off, none⟩) n cap xs (run_firstCells_some (P := P) w.drew i.size n ⟨g, off, none⟩ n cap xs (by rw [h4]; exact hown.len) (fun j u hu => by rw [Addr.add_lit]; exact hc j u hu)) k h0 (by omega) (by omega) hsm (by omega) (growslice_fits (by omega) (by rw [h5]; exact hbytes))
        refine ⟨_, _, _, hr, hmade xs (by simpa using hown.len) (fun u hu => by rw [List.getElem?_eq_none (by have := hown.len; omega)] at hu; cases hu) rfl _ rfl, ⟨rfl, rfl, rfl, by simp, fun k hk _ => heap_alloc_old w.drew _ hk⟩, fun a ha => .inr ?_⟩
        cases ha; exact Nat.le_refl _

/-- .. for the walk. -/
theorem wpList_append_zeros (w : World) {ops : Array Oper} {rest : List Oper} {o : Oper} {a : Act} {Q : Exit → Act → World → Prop}
    (hg : o.guard = none) (s x : Operand) (t tn : TypeId) (hop : o.op = Op.call { callee := Callee.builtin Builtin.append, args := #[s, x], argTypes := #[t, tn] })
    (e : TypeId) (z : Value) (bytes base : Nat) (kn : IntKind) (ht : P.underlying t = some (.slice e)) (htn : P.underlying tn = some (.int kn))
    (hinfo : (P.info? e).map (fun i => (i.zero, i.size, i.bytes)) = some (some z, 1, bytes)) (hzc : z.cells = #[z]) (h1 : z.oneCell' = true)
    (oa : Option Addr) (n cap : Nat) (xs : List Value) (hs : a.eval s = .slice oa n cap) (hown : Owns w base 1 oa n cap xs) (k : Nat) (hx : a.eval x = .int .i64 (k : Int)) (hk : k ≤ 1000000) (h63 : n + k ≤ maxLen) (hbytes : (n + k) * bytes ≤ 140737488355328) (hbase : base ≤ w.heap.size)
    (h : ∀ oa' cap' w', Owns w' base 1 oa' (n + k) cap' (xs ++ List.replicate k z) → w.grownBy w' (oa.map Addr.block) → (∀ a, oa' = some a → oa = some a ∨ w.heap.size ≤ a.block) → wpList P ops Q rest (a.put o.dst (.slice oa' (n + k) cap')) w') :
    wpList P ops Q (o :: rest) a w := by
  obtain ⟨oa', cap', w', hr, h2, h3, h4⟩ := run_append_zeros_owns (P := P) w t tn o.type e z bytes base kn ht htn hinfo hzc h1 oa n cap xs hown k hk h63 hbytes hbase
  exact Lib.wpList_append_run w hg s x t tn hop _ _ hs hx _ _ hr (h oa' cap' w' h2 h3 h4)
end
end Go.Proofs.YtcadpcppnllhnaaDoor
