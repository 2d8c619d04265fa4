/- What every law's row wants: its arguments read on as they did, whatever was laid behind them. -/
import Derived.Test.YtnalnepjapelkaaGreatDoorLater
import Derived.ProofKit
import Derived.OpenShut
import Derived.Lib.SmallJoins
import Derived.Deep.Slices
namespace Go.Proofs.YtnalnepjapelkaaGreatDoor
open Go.ChangeShapes Go.WideShapes Go.ChangeAt Go.RowKit

theorem DataW.TrodAll_lt' {H : Type} {enc : TypeId × Value → H} {P : Program} {w : World} {base : Nat} {spare : Nat → Bool} {held : Bool} :
    ∀ {ts : List TypeId} {vs : List Value} {ds : List (DataW H)} {ps : List MemPlace}, DataW.TrodAll enc P w base spare held ts vs ds ps → ∀ x ∈ ps, x.block < w.heap.size
  | [], _, _, _, h => by
    obtain ⟨-, -, rfl⟩ := trodAll_nil h
    intro x hx; cases hx
  | t :: ts, _, _, _, h => by
    obtain ⟨v, vs, d, ds, p, q, rfl, rfl, rfl, h0, r⟩ := trodAll_cons h
    intro x hx
    rcases List.mem_append.1 hx with hx | hx
    · obtain ⟨m, hm⟩ := h0
      exact DataW.trod_lt m _ _ _ hm x hx
    · exact DataW.TrodAll_lt' r x hx

theorem trodAll_stays {H : Type} {enc : TypeId × Value → H} {P : Program} {W W' : World} (hl : laidOutB P = true) :
    ∀ {ts : List TypeId} {vs : List Value} {ds : List (DataW H)} {ps : List MemPlace}, (∀ t ∈ ts, P.readableRec t = true ∧ t < P.types.size) →
    DataW.TrodAll enc P W 0 (fun _ => true) true ts vs ds ps → Below W.heap.size W W' → (∀ x ∈ ps, x.block < W.heap.size) →
    DataW.TrodAll enc P W' 0 (fun b => decide (b < W.heap.size)) true ts vs ds ps
  | [], _, _, _, _, h, _, _ => by
    obtain ⟨rfl, rfl, rfl⟩ := trodAll_nil h
    exact trodAll_mk0
  | t :: ts, _, _, _, ht, h, hb, hlt => by
    obtain ⟨v, vs, d, ds, p, q, rfl, rfl, rfl, h0, r⟩ := trodAll_cons h
    obtain ⟨h1, h2⟩ := ht t (List.mem_cons_self ..)
    exact ⟨p, q, Below.trod hl h1 h2 h0 hb fun x hx => hlt x (List.mem_append_left _ hx),
      trodAll_stays hl (fun t' h' => ht t' (List.mem_cons_of_mem _ h')) r hb fun x hx => hlt x (List.mem_append_right _ hx), rfl⟩

/-- A slice that came in: each of its places reads. -/
theorem slice_each {H : Type} {enc : TypeId × Value → H} {P : Program} {w : World} {t e : TypeId} {oa : Option Addr} {len cap : Nat} {d : DataW H} {p : List MemPlace} (ht : P.underlying t = some (.slice e))
    (h : DataW.Trod enc P w 0 (fun _ => true) true t (.slice oa len cap) d p) :
    len ≤ cap ∧ cap ≤ maxLen ∧ ((oa = none ∧ cap = 0) ∨ ∃ a n, oa = some a ∧ ∀ i, i < cap → ∃ cs y, w.cells? 0 (a.add (i * P.cellsOf e)) (P.cellsOf e) = some cs ∧ DataW.trod enc P w 0 (fun _ => true) true n e cs = some y) := by
  obtain ⟨fuel, hf⟩ := h
  rcases Go.Deep.open_slice ht hf with ⟨hcs, -⟩ | ⟨a, l, c, m, n, D, Pl, hcs, -, hl, hm, hmm, -, hall⟩
  · simp [Value.cells] at hcs
    obtain ⟨rfl, rfl, rfl⟩ := hcs
    exact ⟨Nat.le_refl _, Nat.zero_le _, .inl ⟨rfl, rfl⟩⟩
  · simp [Value.cells] at hcs
    obtain ⟨rfl, rfl, rfl⟩ := hcs
    simp only [if_true] at hmm
    subst hmm
    exact ⟨hl, hm, .inr ⟨a, n, rfl, fun i hi => let ⟨cs', h1, h2⟩ := hall i hi; ⟨cs', _, h1, h2⟩⟩⟩

theorem Addr.add_zero' (a : Addr) : a.add 0 = a := by simp [Addr.add]
theorem cells_one {w : World} {a : Addr} {cs : List Value} (h : w.cells? 0 a 1 = some cs) : ∃ v, cs = [v] ∧ w.cell? a = some v := by
  unfold World.cells? at h
  rw [if_pos (Nat.zero_le _)] at h
  have hr : List.range 1 = [0] := rfl
  rw [hr] at h
  simp only [List.mapM_cons, List.mapM_nil, Addr.add_zero'] at h
  cases hc : w.cell? a with
  | none => rw [hc] at h; cases h
  | some v =>
    rw [hc] at h
    exact ⟨v, by simpa using h.symm, rfl⟩

/-- .. of one-cell elements that are integers, or structs of one integer: the numbers by their places. -/
theorem ints_each {H : Type} {enc : TypeId × Value → H} {P : Program} {w : World} {t e : TypeId} {k : IntKind} {oa : Option Addr} {len cap : Nat} {d : DataW H} {p : List MemPlace} (ht : P.underlying t = some (.slice e))
    (hc : P.cellsOf e = 1) (he : ∀ n v y, DataW.trod enc P w 0 (fun _ => true) true n e [v] = some y → ∃ z, v = .int k z ∧ (Lit.int k z).wf = true)
    (h : DataW.Trod enc P w 0 (fun _ => true) true t (.slice oa len cap) d p) :
    ∃ A : Nat → Int, ∀ i, i < len → ∃ g off, oa = some ⟨g, off, none⟩ ∧ g < w.heap.size ∧ w.cell? ⟨g, off + i, none⟩ = some (.int k (A i)) ∧ (Lit.int k (A i)).wf = true := by
  obtain ⟨hl, hm, ⟨rfl, rfl⟩ | ⟨a, n, rfl, hall⟩⟩ := slice_each ht h
  · exact ⟨fun _ => 0, fun i hi => by omega⟩
  · refine ⟨fun i => intOf ((w.cell? (a.add i)).getD undef), fun i hi => ?_⟩
    obtain ⟨cs, y, h1, h2⟩ := hall i (by omega)
    rw [hc, Nat.mul_one] at h1
    obtain ⟨v, rfl, hv⟩ := cells_one h1
    obtain ⟨z, rfl, hz⟩ := he n v y h2
    have hsp := World.cell?_spot hv
    obtain ⟨g, off, sp⟩ := a
    obtain rfl : sp = none := by
      unfold Addr.add at hsp
      split at hsp
      · exact hsp
      · obtain ⟨cs0, y0, h10, -⟩ := hall 0 (by omega)
        rw [hc, Nat.mul_one] at h10
        obtain ⟨v0, -, hv0⟩ := cells_one h10
        have := World.cell?_spot hv0
        simpa [Addr.add] using this
    rw [Addr.add_lit] at hv
    refine ⟨g, off, rfl, World.block_lt_of_cell? w _ hv, ?_, ?_⟩
    · simp only [Addr.add_lit, hv]; rfl
    · simp only [Addr.add_lit, hv]; exact hz

theorem int_cell {H : Type} {enc : TypeId × Value → H} {P : Program} {w : World} {e : TypeId} {k : IntKind} (he : P.underlying e = some (.int k)) :
    ∀ n v y, DataW.trod enc P w 0 (fun _ => true) true n e [v] = some y → ∃ z, v = .int k z ∧ (Lit.int k z).wf = true := by
  intro n v y h
  obtain ⟨z, hz, -, hw⟩ := DataW.trod_int he h
  simp only [List.cons.injEq, and_true] at hz
  exact ⟨z, hz, hw⟩
theorem struct_int_cell {H : Type} {enc : TypeId × Value → H} {P : Program} {w : World} {e : TypeId} {f : Field} {k : IntKind} (he : P.underlying e = some (.struct #[f])) (hf : P.underlying f.type = some (.int k)) (ho : f.offset = 0) (h1 : P.cellsOf f.type = 1) :
    ∀ n v y, DataW.trod enc P w 0 (fun _ => true) true n e [v] = some y → ∃ z, v = .int k z ∧ (Lit.int k z).wf = true := by
  intro n v y h
  obtain ⟨y0, m, -, -, h0⟩ := trod_struct1 he h
  rw [ho, h1] at h0
  exact int_cell hf m v y0 h0
end Go.Proofs.YtnalnepjapelkaaGreatDoor
