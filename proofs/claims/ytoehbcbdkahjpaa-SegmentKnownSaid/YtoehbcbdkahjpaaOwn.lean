/- A slice that the call itself made, wherever in its block it begins: appends, cuts, reads and writes, told by its cells. -/
import Derived.Test.YtoehbcbdkahjpaaLater
import Derived.ArgAppend
namespace Go.Proofs.Ytoehbcbdkahjpaa
open Go.RowKit

/-- The walk stands here. -/
def Stopped (p : Prop) : Prop := p
theorem Stopped.of {p : Prop} (h : Stopped p) : p := h
theorem Stopped.mk {p : Prop} (h : p) : Stopped p := h

/-- The slice of address 'oa', length n and capacity cap holds the cells xs ('size' an element), lies in a block from 'base' on, and may be written up to its capacity. -/
structure Owns (w : World) (base size : Nat) (oa : Option Addr) (n cap : Nat) (xs : List Value) : Prop where
  len : xs.length = n * size
  le : n ≤ cap
  max : cap ≤ maxLen
  at' : (oa = none ∧ cap = 0) ∨ ∃ g off, oa = some ⟨g, off, none⟩ ∧ base ≤ g ∧ g < w.heap.size ∧ (∀ j u, xs[j]? = some u → w.cell? ⟨g, off + j, none⟩ = some u) ∧
    (∀ j, j < cap * size → (w.cell? ⟨g, off + j, none⟩).isSome = true ∧ w.frozen? ⟨g, off + j, none⟩ = false)

theorem Owns.nil (w : World) (base size : Nat) : Owns w base size none 0 0 [] := ⟨by simp, Nat.le_refl _, Nat.zero_le _, .inl ⟨rfl, rfl⟩⟩

theorem Owns.keep {w w' : World} {base size : Nat} {oa : Option Addr} {n cap : Nat} {xs : List Value} (h : Owns w base size oa n cap xs) (hs : w.heap.size ≤ w'.heap.size)
    (hk : ∀ a, oa = some a → w'.heap[a.block]? = w.heap[a.block]?) : Owns w' base size oa n cap xs := by
  refine ⟨h.len, h.le, h.max, ?_⟩
  rcases h.at' with h0 | ⟨g, off, rfl, hb, hlt, hc, ht⟩
  · exact .inl h0
  · have e := hk _ rfl
    refine .inr ⟨g, off, rfl, hb, Nat.lt_of_lt_of_le hlt hs, fun j u hu => ?_, fun j hj => ?_⟩
    · rw [World.cell?_of_block (w := w) (a := ⟨g, off + j, none⟩) e]; exact hc j u hu
    · rw [World.cell?_of_block (w := w) (a := ⟨g, off + j, none⟩) e, World.frozen?_of_block (w := w) (a := ⟨g, off + j, none⟩) e]; exact ht j hj

theorem Owns.lt {w : World} {base size : Nat} {oa : Option Addr} {n cap : Nat} {xs : List Value} (h : Owns w base size oa n cap xs) {a : Addr} (ha : oa = some a) : base ≤ a.block ∧ a.block < w.heap.size := by
  rcases h.at' with ⟨h0, -⟩ | ⟨g, off, e, hb, hlt, -⟩
  · rw [h0] at ha; cases ha
  · rw [e] at ha; cases ha; exact ⟨hb, hlt⟩

theorem Owns.below {w w' : World} {base size : Nat} {oa : Option Addr} {n cap : Nat} {xs : List Value} (h : Owns w base size oa n cap xs) (hb : Below w.heap.size w w') : Owns w' base size oa n cap xs :=
  h.keep hb.size fun _ ha => hb.block _ (h.lt ha).2
theorem Owns.later {w : World} {base size : Nat} {oa : Option Addr} {n cap : Nat} {xs : List Value} (h : Owns w base size oa n cap xs) (x : Later w) : Owns x.world base size oa n cap xs := h.below x.below
theorem Owns.alloc {w : World} {base size : Nat} {oa : Option Addr} {n cap : Nat} {xs : List Value} (h : Owns w base size oa n cap xs) (o : Obj) : Owns (w.alloc o) base size oa n cap xs :=
  h.below ((Below.refl _ _).alloc (Nat.le_refl _) o)
theorem Owns.drew {w : World} {base size : Nat} {oa : Option Addr} {n cap : Nat} {xs : List Value} (h : Owns w base size oa n cap xs) : Owns w.drew base size oa n cap xs := h.below (Below.refl _ _).drew
theorem Owns.mono {w : World} {base base' size : Nat} {oa : Option Addr} {n cap : Nat} {xs : List Value} (h : Owns w base size oa n cap xs) (hb : base' ≤ base) : Owns w base' size oa n cap xs :=
  ⟨h.len, h.le, h.max, h.at'.imp id fun ⟨g, off, e, h1, r⟩ => ⟨g, off, e, Nat.le_trans hb h1, r⟩⟩
theorem Owns.grown {w w' : World} {row : Option Nat} {base size : Nat} {oa : Option Addr} {n cap : Nat} {xs : List Value} (h : Owns w base size oa n cap xs) (hg : w.grownBy w' row) (hne : ∀ a, oa = some a → some a.block ≠ row) : Owns w' base size oa n cap xs :=
  h.keep hg.size fun a ha => hg.block _ (h.lt ha).2 (hne a ha)
theorem Owns.other {w : World} {base size : Nat} {oa : Option Addr} {n cap : Nat} {xs : List Value} (h : Owns w base size oa n cap xs) {p : Addr} (hp : ∀ a, oa = some a → a.block ≠ p.block) (u : Value) : Owns (w.setCell p u) base size oa n cap xs :=
  h.keep (by simp) fun a ha => Below.heap_setCell _ _ _ _ (hp a ha)

/-- Where there is an element, the address is known. -/
theorem Owns.here {w : World} {base size : Nat} {oa : Option Addr} {n cap : Nat} {xs : List Value} (h : Owns w base size oa n cap xs) (hn : 0 < n) :
    ∃ g off, oa = some ⟨g, off, none⟩ ∧ base ≤ g ∧ g < w.heap.size ∧ (∀ j u, xs[j]? = some u → w.cell? ⟨g, off + j, none⟩ = some u) ∧
    (∀ j, j < cap * size → (w.cell? ⟨g, off + j, none⟩).isSome = true ∧ w.frozen? ⟨g, off + j, none⟩ = false) := by
  rcases h.at' with ⟨-, hc⟩ | r
  · have := h.le; omega
  · exact r

theorem Owns.of_row {w : World} {base : Nat} {e : TypeId} {size : Nat} {v : Value} {n : Nat} {xs : List Value} (h : w.ownsRow base e size v n xs) :
    ∃ oa cap, v = .slice oa n cap ∧ Owns w base size oa n cap xs := by
  obtain ⟨hl, ⟨rfl, rfl⟩ | ⟨g, cap, cur, rfl, hb, hg, hle, hm, hcs, htake⟩⟩ := h
  · have hx : xs = [] := List.eq_nil_of_length_eq_zero (by simpa using hl)
    subst hx
    exact ⟨none, 0, rfl, Owns.nil w base size⟩
  · refine ⟨_, _, rfl, hl, hle, hm, .inr ⟨g, 0, rfl, hb, (Array.getElem?_eq_some_iff.1 hg).1, fun j u hu => ?_, fun j hj => ?_⟩⟩
    · rw [Nat.zero_add, cell_of_row w g j cur e (0, 0) hg]
      rw [← htake, List.getElem?_take] at hu
      split at hu
      · simpa using hu
      · cases hu
    · rw [Nat.zero_add, cell_of_row w g j cur e (0, 0) hg]
      refine ⟨by simp; omega, by simp [World.frozen?, hg]⟩

/-- A new row, made whole. -/
theorem Owns.made {w : World} {base size : Nat} (cur : Array Value) (n cap : Nat) (e : TypeId) (xs : List Value) (hb : base ≤ w.heap.size) (hs : cap * size ≤ cur.size) (hn : n ≤ cap) (hm : cap ≤ maxLen) (hx : cur.toList.take (n * size) = xs) :
    Owns (w.alloc (.cells cur e)) base size (some ⟨w.heap.size, 0, none⟩) n cap xs := by
  have hg : (w.alloc (.cells cur e)).heap[w.heap.size]? = some (.cells cur e (0, 0)) := heap_alloc_new w _
  have h1 : n * size ≤ cap * size := Nat.mul_le_mul_right _ hn
  refine ⟨?_, hn, hm, .inr ⟨_, 0, rfl, hb, by simp, fun j u hu => ?_, fun j hj => ?_⟩⟩
  · rw [← hx, List.length_take, Array.length_toList]; omega
  · rw [Nat.zero_add, cell_of_row _ _ j cur e (0, 0) hg]
    rw [← hx, List.getElem?_take] at hu
    split at hu
    · simpa using hu
    · cases hu
  · rw [Nat.zero_add, cell_of_row _ _ j cur e (0, 0) hg]
    have hz : (w.alloc (.cells cur e)).frozen? ⟨w.heap.size, j, none⟩ = false := by
      unfold World.frozen?; rw [hg]; simp
    exact ⟨by simp; omega, hz⟩

section
variable {P : Program}

theorem run_append_owns (w : World) (t ty e : TypeId) (z : Value) (size bytes base : Nat) (ht : P.underlying t = some (.slice e)) (hinfo : (P.info? e).map (fun i => (i.zero, i.size, i.bytes)) = some (some z, size, bytes))
    (hzs : z.cells.size = size) (hsz : 0 < size) (oa : Option Addr) (n cap : Nat) (xs : List Value) (hown : Owns w base size oa n cap xs)
    (ad : Addr) (m c : Nat) (news : List Value) (hl : news.length = m * size) (hnews : ∀ j u, news[j]? = some u → w.cell? (ad.add j) = some u) (h1 : ∀ u ∈ news, u.oneCell' = true)
    (hm : 0 < m) (h63 : n + m ≤ maxLen) (hbytes : (n + m) * bytes ≤ 140737488355328) (hbase : base ≤ w.heap.size) :
    ∃ oa' cap' w', (Builtin.append_ #[t, t] ty #[.slice oa n cap, .slice (some ad) m c]).run P w = .ok (.slice oa' (n + m) cap') w' ∧ Owns w' base size oa' (n + m) cap' (xs ++ news) ∧
      w.grownBy w' (oa.map Addr.block) ∧ (∀ a, oa' = some a → oa = some a ∨ w.heap.size ≤ a.block) := by
  obtain ⟨i, hi, hz, h4, h5⟩ := info_parts hinfo
  rcases hown.at' with ⟨rfl, rfl⟩ | ⟨g, off, rfl, hb, hlt, hc, hth⟩
  · have hn : n = 0 := by have := hown.le; omega
    subst hn
    have hx : xs = [] := List.eq_nil_of_length_eq_zero (by simpa using hown.len)
    subst hx
    obtain ⟨v', w', hr, ho, hg, -⟩ := run_append_own (P := P) w w.heap.size t ty e i z size bytes ht hi hz h4 h5 hzs hsz _ 0 [] (World.ownsRow_nil w w.heap.size e size) ad m c news hl hnews h1 h63 hbytes (Nat.le_refl _)
    obtain ⟨oa', cap', rfl, ho'⟩ := Owns.of_row ho
    exact ⟨oa', cap', w', hr, ho'.mono hbase, by simpa [Value.ownBlock] using hg, fun a ha => .inr (ho'.lt ha).1⟩
  · by_cases hroom : n + m ≤ cap
    · have hfit : n * size + news.length ≤ cap * size := by rw [hl, ← Nat.add_mul]; exact Nat.mul_le_mul_right _ hroom
      have hsome : ∀ j, j < news.length → (w.cell? ⟨g, off + n * size + j, none⟩).isSome = true := fun j hj => by
        have := (hth (n * size + j) (by omega)).1; rwa [← Nat.add_assoc] at this
      have hfz : ∀ j, j < news.length → w.frozen? ⟨g, off + n * size + j, none⟩ = false := fun j hj => by
        have := (hth (n * size + j) (by omega)).2; rwa [← Nat.add_assoc] at this
      subst h4
      have hr := run_append_room_cells (P := P) w t ty e i ht hi g off n cap ad m c news hl hnews h1 hroom hsome hfz
      refine ⟨_, _, _, hr, ⟨by rw [List.length_append, hown.len, hl, Nat.add_mul], hroom, hown.max, .inr ⟨g, off, rfl, hb, ?_, fun j u hu => ?_, fun j hj => ?_⟩⟩, ?_, fun a ha => .inl ha⟩
      · have hk := World.keptBut_setCells g (may := fun _ => True) news (off + n * i.size) w (fun _ _ => trivial)
        exact Nat.lt_of_lt_of_le hlt hk.size
      · by_cases hj : j < xs.length
        · rw [List.getElem?_append_left hj] at hu
          rw [World.cell?_setCells_out g news _ _ _ (fun _ _ => Or.inl (by simp only; have := hown.len; omega))]
          exact hc j u hu
        · rw [List.getElem?_append_right (by omega)] at hu
          have hjl := (List.getElem?_eq_some_iff.1 hu).1
          have := World.cell?_setCells_in g news (off + n * i.size) w hsome (j - xs.length) hjl
          have hx := hown.len
          rw [show off + j = off + n * i.size + (j - xs.length) by omega, this, ← hu, List.getElem?_eq_getElem hjl]
      · rw [World.frozen?_setCells]
        refine ⟨?_, (hth j hj).2⟩
        by_cases hin : n * i.size ≤ j ∧ j < n * i.size + news.length
        · have := World.cell?_setCells_in g news (off + n * i.size) w hsome (j - n * i.size) (by omega)
          rw [show off + j = off + n * i.size + (j - n * i.size) by omega, this]; rfl
        · rw [World.cell?_setCells_out g news _ _ _ (fun _ _ => by simp only; omega)]
          exact (hth j hj).1
      · have hk := World.keptBut_setCells g (may := fun p => p.block = g) news (off + n * i.size) w (fun _ _ => rfl)
        have htape : ∀ (vs : List Value) (o : Nat) (w : World), (w.setCells g o vs).tape = w.tape := by
          intro vs; induction vs with
          | nil => intro o w; rfl
          | cons v r ih => intro o w; rw [World.setCells, ih]; rfl
        refine ⟨hk.1, htape _ _ _, hk.2.1, hk.size, fun k hkl hne => ?_⟩
        exact hk.block hkl (fun _ hp e => hne (by simp [← hp, e]))
    · obtain ⟨v', w', hr, ho, hg⟩ := run_append_arg_grows (P := P) w t ty e i z size bytes ht hi hz h4 h5 hzs hsz ⟨g, off, none⟩ n cap xs hown.len (fun j u hu => by rw [Addr.add_lit]; exact hc j u hu) ad m c news hl hnews (by omega) h63 hbytes
      obtain ⟨oa', cap', rfl, ho'⟩ := Owns.of_row ho
      exact ⟨oa', cap', w', hr, ho'.mono hbase, ⟨hg.os, hg.tape, hg.output, hg.size, fun k hk _ => hg.block k hk (by simp)⟩, fun a ha => .inr (ho'.lt ha).1⟩

/-- 'v = append(v, ..)' for the walk. -/
theorem wpList_append_owns (w : World) {ops : Array Oper} {rest : List Oper} {o : Oper} {a : Act} {Q : Exit → Act → World → Prop}
    (hg : o.guard = none) (s x : Operand) (t : TypeId) (hop : o.op = Op.call { callee := Callee.builtin Builtin.append, args := #[s, x], argTypes := #[t, t] })
    (e : TypeId) (z : Value) (size bytes base : Nat) (ht : P.underlying t = some (.slice e)) (hinfo : (P.info? e).map (fun i => (i.zero, i.size, i.bytes)) = some (some z, size, bytes))
    (hzs : z.cells.size = size) (hsz : 0 < size) (oa : Option Addr) (n cap : Nat) (xs : List Value) (hs : a.eval s = .slice oa n cap) (hown : Owns w base size oa n cap xs)
    (ad : Addr) (m c : Nat) (news : List Value) (hx : a.eval x = .slice (some ad) m c) (hl : news.length = m * size) (hnews : ∀ j u, news[j]? = some u → w.cell? (ad.add j) = some u) (h1 : ∀ u ∈ news, u.oneCell' = true)
    (hm : 0 < m) (h63 : n + m ≤ maxLen) (hbytes : (n + m) * bytes ≤ 140737488355328) (hbase : base ≤ w.heap.size)
    (h : ∀ oa' cap' w', Owns w' base size oa' (n + m) cap' (xs ++ news) → w.grownBy w' (oa.map Addr.block) → (∀ a, oa' = some a → oa = some a ∨ w.heap.size ≤ a.block) → wpList P ops Q rest (a.put o.dst (.slice oa' (n + m) cap')) w') :
    wpList P ops Q (o :: rest) a w := by
  refine wpList_plain hg fun K hK' => ?_
  obtain ⟨oa', cap', w', hr, h2, h3, h4⟩ := run_append_owns (P := P) w t o.type e z size bytes base ht hinfo hzs hsz oa n cap xs hown ad m c news hl hnews h1 hm h63 hbytes hbase
  unfold Oper.wp
  simp [execOp, hop, resolve, invoke, builtin, hs, hx, hr, Result.andThen]
  exact hK' _ _ (h oa' cap' w' h2 h3 h4)
end

/-- The address behind 'v[k:]'. -/
def cutAddr (oa : Option Addr) (k cap size : Nat) : Option Addr := if cap = k then oa else oa.map (·.add (k * size))

theorem Owns.cut {w : World} {base size : Nat} {oa : Option Addr} {n cap : Nat} {xs : List Value} (h : Owns w base size oa n cap xs) (k : Nat) (hk : k ≤ n) :
    Owns w base size (cutAddr oa k cap size) (n - k) (cap - k) (xs.drop (k * size)) := by
  have hle := h.le
  refine ⟨by rw [List.length_drop, h.len, Nat.sub_mul], by omega, by have := h.max; omega, ?_⟩
  rcases h.at' with ⟨rfl, rfl⟩ | ⟨g, off, rfl, hb, hlt, hc, ht⟩
  · exact .inl ⟨by simp [cutAddr], by omega⟩
  · by_cases hck : cap = k
    · refine .inr ⟨g, off, by simp [cutAddr, hck], hb, hlt, fun j u hu => ?_, fun j hj => by simp [hck] at hj⟩
      have hl := h.len
      rw [List.getElem?_eq_none (by rw [List.length_drop, hl, ← Nat.sub_mul, show n - k = 0 by omega]; omega)] at hu
      cases hu
    · refine .inr ⟨g, off + k * size, by simp [cutAddr, hck, Addr.add_lit], hb, hlt, fun j u hu => ?_, fun j hj => ?_⟩
      · rw [List.getElem?_drop] at hu
        rw [Nat.add_assoc]
        exact hc _ u hu
      · rw [Nat.add_assoc]
        exact ht _ (by rw [Nat.sub_mul] at hj; have : k * size ≤ cap * size := Nat.mul_le_mul_right _ (by omega); omega)

/-- 'v[:k]' -/
theorem Owns.take {w : World} {base size : Nat} {oa : Option Addr} {n cap : Nat} {xs : List Value} (h : Owns w base size oa n cap xs) (k : Nat) (hk : k ≤ n) :
    Owns w base size oa k cap (xs.take (k * size)) := by
  have hle := h.le
  refine ⟨by rw [List.length_take, h.len]; have : k * size ≤ n * size := Nat.mul_le_mul_right _ hk; omega, by omega, h.max, ?_⟩
  rcases h.at' with h0 | ⟨g, off, rfl, hb, hlt, hc, ht⟩
  · exact .inl h0
  · refine .inr ⟨g, off, rfl, hb, hlt, fun j u hu => ?_, ht⟩
    rw [List.getElem?_take] at hu
    split at hu
    · exact hc j u hu
    · cases hu

/-- a cell is written -/
theorem Owns.set {w : World} {base size : Nat} {g off n cap : Nat} {xs : List Value} (h : Owns w base size (some ⟨g, off, none⟩) n cap xs) (j : Nat) (hj : j < n * size) (u : Value) :
    Owns (w.setCell ⟨g, off + j, none⟩ u) base size (some ⟨g, off, none⟩) n cap (xs.set j u) := by
  have hle : n * size ≤ cap * size := Nat.mul_le_mul_right _ h.le
  refine ⟨by rw [List.length_set]; exact h.len, h.le, h.max, ?_⟩
  rcases h.at' with ⟨h0, -⟩ | ⟨g', off', e, hb, hlt, hc, ht⟩
  · cases h0
  · obtain ⟨rfl, rfl⟩ : g = g' ∧ off = off' := by simpa using e
    refine .inr ⟨g, off, rfl, hb, by simpa using hlt, fun k x hx => ?_, fun k hk => ?_⟩
    · by_cases hjk : j = k
      · subst hjk
        rw [List.getElem?_set_self (by rw [h.len]; exact hj)] at hx
        obtain rfl : u = x := by simpa using hx
        obtain ⟨u0, hu0⟩ := Option.isSome_iff_exists.1 (ht j (by omega)).1
        exact World.cell?_setCell_same _ _ _ hu0
      · rw [List.getElem?_set_ne hjk] at hx
        rw [World.cell?_setCell_other _ _ _ _ (by simp only [ne_eq, Addr.mk.injEq, not_and]; omega)]
        exact hc k x hx
    · rw [World.frozen?_setCell]
      refine ⟨?_, (ht k hk).2⟩
      by_cases hjk : j = k
      · subst hjk
        obtain ⟨u0, hu0⟩ := Option.isSome_iff_exists.1 (ht j hk).1
        rw [World.cell?_setCell_same _ _ _ hu0]; rfl
      · rw [World.cell?_setCell_other _ _ _ _ (by simp only [ne_eq, Addr.mk.injEq, not_and]; omega)]
        exact (ht k hk).1

/-- 'v[k:]' in the walk: lay it, at the slice in question, ahead of the walk. -/
theorem run_cut {P : Program} (t : TypeId) (oa : Option Addr) (n cap size : Nat) (ht : P.underlying t = some (.slice (P.elem t))) (hsize : (P.info? (P.elem t)).map (·.size) = some size) (k : Nat) (i : Int) (hi : i = (k : Int)) (hk : k ≤ n) (w : World) :
    (Instr.slice t (.slice oa n cap) (some (.int .i64 i)) none none).run P w = .ok (.slice (cutAddr oa k cap size) (n - k) (cap - k)) w := by
  subst hi
  obtain ⟨inf, h1, h2⟩ := Option.map_eq_some_iff.1 hsize
  rw [run_slice_l w t oa n cap ht .i64 (k : Int) (Int.natCast_nonneg _) (Int.ofNat_le.2 hk)]
  simp [sizeOf, typeInfo, h1, h2, sliced, cutAddr, Result.andThen]

theorem run_cutTo {P : Program} (t : TypeId) (oa : Option Addr) (n cap : Nat) (size : Nat) (ht : P.underlying t = some (.slice (P.elem t))) (hsize : (P.info? (P.elem t)).map (·.size) = some size) (k : Nat) (i : Int) (hi : i = (k : Int)) (hk : k ≤ cap) (w : World) :
    (Instr.slice t (.slice oa n cap) none (some (.int .i64 i)) none).run P w = .ok (.slice oa k cap) w := by
  subst hi
  obtain ⟨inf, h1, h2⟩ := Option.map_eq_some_iff.1 hsize
  rw [run_slice_h w t oa n cap ht .i64 (k : Int) (Int.natCast_nonneg _) (Int.ofNat_le.2 hk)]
  simp [sizeOf, typeInfo, h1, h2, sliced, Result.andThen]
  intro _
  cases oa <;> simp [Addr.add]
end Go.Proofs.Ytoehbcbdkahjpaa
