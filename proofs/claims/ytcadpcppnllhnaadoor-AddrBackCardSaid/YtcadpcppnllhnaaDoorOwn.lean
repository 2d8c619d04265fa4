/- A slice that the call itself made, wherever in its block it begins: appends, cuts, reads and writes, told by its cells. -/
import Derived.Test.YtcadpcppnllhnaaDoorLater
import Derived.ArgAppend
namespace Go.Proofs.YtcadpcppnllhnaaDoor
open Go.RowKit

/-- The walk stands here. -/
def Stopped (p : Prop) : Prop := p
theorem Stopped.of {p : Prop} (h : Stopped p) : p := h
theorem Stopped.mk {p : Prop} (h : p) : Stopped p := h

/-- The slice of address 'oa', length n and capacity cap holds the cells xs ('size' an element), lies in a block from 'base' on, and may be written up to its capacity. -/
structure Owns (w : World) (base size : Nat) (oa : Option Addr) (n cap : Nat) (xs : List Value) : Prop where
  len : xs.length = n * size
  le : n ≤ cap
  max : cap ≤ maxLen
  at' : (oa = none ∧ cap = 0) ∨ ∃ g off, oa = some ⟨g, off, none⟩ ∧ base ≤ g ∧ g < w.heap.size ∧ (∀ j u, xs[j]? = some u → w.cell? ⟨g, off + j, none⟩ = some u) ∧
    (∀ j, j < cap * size → (w.cell? ⟨g, off + j, none⟩).isSome = true ∧ w.frozen? ⟨g, off + j, none⟩ = false)

theorem Owns.nil (w : World) (base size : Nat) : Owns w base size none 0 0 [] := ⟨by simp, Nat.le_refl _, Nat.zero_le _, .inl ⟨rfl, rfl⟩⟩

theorem Owns.keep {w w' : World} {base size : Nat} {oa : Option Addr} {n cap : Nat} {xs : List Value} (h : Owns w base size oa n cap xs) (hs : w.heap.size ≤ w'.heap.size)
    (hk : ∀ a, oa = some a → w'.heap[a.block]? = w.heap[a.block]?) : Owns w' base size oa n cap xs := by
  refine ⟨h.len, h.le, h.max, ?_⟩
  rcases h.at' with h0 | ⟨g, off, rfl, hb, hlt, hc, ht⟩
  · exact .inl h0
  · have e := hk _ rfl
    refine .inr ⟨g, off, rfl, hb, Nat.lt_of_lt_of_le hlt hs, fun j u hu => ?_, fun j hj => ?_⟩
    · rw [World.cell?_of_block (w := w) (a := ⟨g, off + j, none⟩) e]; exact hc j u hu
    · rw [World.cell?_of_block (w := w) (a := ⟨g, off + j, none⟩) e, World.frozen?_of_block (w := w) (a := ⟨g, off + j, none⟩) e]; exact ht j hj

theorem Owns.lt {w : World} {base size : Nat} {oa : Option Addr} {n cap : Nat} {xs : List Value} (h : Owns w base size oa n cap xs) {a : Addr} (ha : oa = some a) : base ≤ a.block ∧ a.block < w.heap.size := by
  rcases h.at' with ⟨h0, -⟩ | ⟨g, off, e, hb, hlt, -⟩
  · rw [h0] at ha; cases ha
  · rw [e] at ha; cases ha; exact ⟨hb, hlt⟩

theorem Owns.below {w w' : World} {base size : Nat} {oa : Option Addr} {n cap : Nat} {xs : List Value} (h : Owns w base size oa n cap xs) (hb : Below w.heap.size w w') : Owns w' base size oa n cap xs :=
  h.keep hb.size fun _ ha => hb.block _ (h.lt ha).2
theorem Owns.later {w : World} {base size : Nat} {oa : Option Addr} {n cap : Nat} {xs : List Value} (h : Owns w base size oa n cap xs) (x : Later w) : Owns x.world base size oa n cap xs := h.below x.below
theorem Owns.alloc {w : World} {base size : Nat} {oa : Option Addr} {n cap : Nat} {xs : List Value} (h : Owns w base size oa n cap xs) (o : Obj) : Owns (w.alloc o) base size oa n cap xs :=
  h.below ((Below.refl _ _).alloc (Nat.le_refl _) o)
theorem Owns.drew {w : World} {base size : Nat} {oa : Option Addr} {n cap : Nat} {xs : List Value} (h : Owns w base size oa n cap xs) : Owns w.drew base size oa n cap xs := h.below (Below.refl _ _).drew
theorem Owns.mono {w : World} {base base' size : Nat} {oa : Option Addr} {n cap : Nat} {xs : List Value} (h : Owns w base size oa n cap xs) (hb : base' ≤ base) : Owns w base' size oa n cap xs :=
  ⟨h.len, h.le, h.max, h.at'.imp id fun ⟨g, off, e, h1, r⟩ => ⟨g, off, e, Nat.le_trans hb h1, r⟩⟩
theorem Owns.grown {w w' : World} {row : Option Nat} {base size : Nat} {oa : Option Addr} {n cap : Nat} {xs : List Value} (h : Owns w base size oa n cap xs) (hg : w.grownBy w' row) (hne : ∀ a, oa = some a → some a.block ≠ row) : Owns w' base size oa n cap xs :=
  h.keep hg.size fun a ha => hg.block _ (h.lt ha).2 (hne a ha)
theorem Owns.other {w : World} {base size : Nat} {oa : Option Addr} {n cap : Nat} {xs : List Value} (h : Owns w base size oa n cap xs) {p : Addr} (hp : ∀ a, oa = some a → a.block ≠ p.block) (u : Value) : Owns (w.setCell p u) base size oa n cap xs :=
  h.keep (by simp) fun a ha => Below.heap_setCell _ _ _ _ (hp a ha)

/-- Where there is an element, the address is known. -/
theorem Owns.here {w : World} {base size : Nat} {oa : Option Addr} {n cap : Nat} {xs : List Value} (h : Owns w base size oa n cap xs) (hn : 0 < n) :
    ∃ g off, oa = some ⟨g, off, none⟩ ∧ base ≤ g ∧ g < w.heap.size ∧ (∀ j u, xs[j]? = some u → w.cell? ⟨g, off + j, none⟩ = some u) ∧
    (∀ j, j < cap * size → (w.cell? ⟨g, off + j, none⟩).isSome = true ∧ w.frozen? ⟨g, off + j, none⟩ = false) := by
  rcases h.at' with ⟨-, hc⟩ | r
  · have := h.le; omega
  · exact r

theorem Owns.of_row {w : World} {base : Nat} {e : TypeId} {size : Nat} {v : Value} {n : Nat} {xs : List Value} (h : w.ownsRow base e size v n xs) :
    ∃ oa cap, v = .slice oa n cap ∧ Owns w base size oa n cap xs := by
  obtain ⟨hl, ⟨rfl, rfl⟩ | ⟨g, cap, cur, rfl, hb, hg, hle, hm, hcs, htake⟩⟩ := h
  · have hx : xs = [] := List.eq_nil_of_length_eq_zero (by simpa using hl)
    subst hx
    exact ⟨none, 0, rfl, Owns.nil w base size⟩
  · refine ⟨_, _, rfl, hl, hle, hm, .inr ⟨g, 0, rfl, hb, (Array.getElem?_eq_some_iff.1 hg).1, fun j u hu => ?_, fun j hj => ?_⟩⟩
    · rw [Nat.zero_add, cell_of_row w g j cur e (0, 0) hg]
      rw [← htake, List.getElem?_take] at hu
      split at hu
      · simpa using hu
      · cases hu
    · rw [Nat.zero_add, cell_of_row w g j cur e (0, 0) hg]
      refine ⟨by simp; omega, by simp [World.frozen?, hg]⟩

/-- A new row, made whole. -/
theorem Owns.made {w : World} {base size : Nat} (cur : Array Value) (n cap : Nat) (e : TypeId) (xs : List Value) (hb : base ≤ w.heap.size) (hs : cap * size ≤ cur.size) (hn : n ≤ cap) (hm : cap ≤ maxLen) (hx : cur.toList.take (n * size) = xs) :
    Owns (w.alloc (.cells cur e)) base size (some ⟨w.heap.size, 0, none⟩) n cap xs := by
  have hg : (w.alloc (.cells cur e)).heap[w.heap.size]? = some (.cells cur e (0, 0)) := heap_alloc_new w _
  have h1 : n * size ≤ cap * size := Nat.mul_le_mul_right _ hn
  refine ⟨?_, hn, hm, .inr ⟨_, 0, rfl, hb, by simp, fun j u hu => ?_, fun j hj => ?_⟩⟩
  · rw [← hx, List.length_take, Array.length_toList]; omega
  · rw [Nat.zero_add, cell_of_row _ _ j cur e (0, 0) hg]
    rw [← hx, List.getElem?_take] at hu
    split at hu
    · simpa using hu
    · cases hu
  · rw [Nat.zero_add, cell_of_row _ _ j cur e (0, 0) hg]
    have hz : (w.alloc (.cells cur e)).frozen? ⟨w.heap.size, j, none⟩ = false := by
      unfold World.frozen?; rw [hg]; simp
    exact ⟨by simp; omega, hz⟩

section
variable {P : Program}

theorem run_append_owns (w : World) (t ty e : TypeId) (z : Value) (size bytes base : Nat) (ht : P.underlying t = some (.slice e)) (hinfo : (P.info? e).map (fun i => (i.zero, i.size, i.bytes)) = some (some z, size, bytes))
    (hzs : z.cells.size = size) (hsz : 0 < size) (oa : Option Addr) (n cap : Nat) (xs : List Value) (hown : Owns w base size oa n cap xs)
    (ad : Addr) (m c : Nat) (news : List Value) (hl : news.length = m * size) (hnews : ∀ j u, news[j]? = some u → w.cell? (ad.add j) = some u) (h1 : ∀ u ∈ news, u.oneCell' = true)
    (hm : 0 < m) (h63 : n + m ≤ maxLen) (hbytes : (n + m) * bytes ≤ 140737488355328) (hbase : base ≤ w.heap.size) :
    ∃ oa' cap' w', (Builtin.append_ #[t, t] ty #[.slice oa n cap, .slice (some ad) m c]).run P w = .ok (.slice oa' (n + m) cap') w' ∧ Owns w' base size oa' (n + m) cap' (xs ++ news) ∧
      w.grownBy w' (oa.map Addr.block) ∧ (∀ a, oa' = some a → oa = some a ∨ w.heap.size ≤ a.block) := by
  obtain ⟨i, hi, hz, h4, h5⟩ := info_parts hinfo
  rcases hown.at' with ⟨rfl, rfl⟩ | ⟨g, off, rfl, hb, hlt, hc, hth⟩
  · have hn : n = 0 := by have := hown.le; omega
    subst hn
    have hx : xs = [] := List.eq_nil_of_length_eq_zero (by simpa using hown.len)
    subst hx
    obtain ⟨v', w', hr, ho, hg, -⟩ := run_append_own (P := P) w w.heap.size t ty e i z size bytes ht hi hz h4 h5 hzs hsz _ 0 [] (World.ownsRow_nil w w.heap.size e size) ad m c news hl hnews h1 h63 hbytes (Nat.le_refl _)
    obtain ⟨oa', cap', rfl, ho'⟩ := Owns.of_row ho
    exact ⟨oa', cap', w', hr, ho'.mono hbase, by simpa [Value.ownBlock] using hg, fun a ha => .inr (ho'.lt ha).1⟩
  · by_cases hroom : n + m ≤ cap
    · have hfit : n * size + news.length ≤ cap * size := by rw [hl, ← Nat.add_mul]; exact Nat.mul_le_mul_right _ hroom
      have hsome : ∀ j, j < news.length → (w.cell? ⟨g, off + n * size + j, none⟩).isSome = true := fun j hj => by
        have := (hth (n * size + j) (by omega)).1; rwa [← Nat.add_assoc] at this
      have hfz : ∀ j, j < news.length → w.frozen? ⟨g, off + n * size + j, none⟩ = false := fun j hj => by
        have := (hth (n * size + j) (by omega)).2; rwa [← Nat.add_assoc] at this
      subst h4
      have hr := run_append_room_cells (P := P) w t ty e i ht hi g off n cap ad m c news hl hnews h1 hroom hsome hfz
      refine ⟨_, _, _, hr, ⟨by rw [List.length_append, hown.len, hl, Nat.add_mul], hroom, hown.max, .inr ⟨g, off, rfl, hb, ?_, fun j u hu => ?_, fun j hj => ?_⟩⟩, ?_, fun a ha => .inl ha⟩
      · have hk := World.keptBut_setCells g (may := fun _ => True) news (off + n * i.size) w (fun _ _ => trivial)
        exact Nat.lt_of_lt_of_le hlt hk.size
      · by_cases hj : j < xs.length
        · rw [List.getElem?_append_left hj] at hu
          rw [World.cell?_setCells_out g news _ _ _ (fun _ _ => Or.inl (by simp only; have := hown.len; omega))]
          exact hc j u hu
        · rw [List.getElem?_append_right (by omega)] at hu
          have hjl := (List.getElem?_eq_some_iff.1 hu).1
          have := World.cell?_setCells_in g news (off + n * i.size) w hsome (j - xs.length) hjl
          have hx := hown.len
          rw [show off + j = off + n * i.size + (j - xs.length) by omega, this, ← hu, List.getElem?_eq_getElem hjl]
      · rw [World.frozen?_setCells]
        refine ⟨?_, (hth j hj).2⟩
        by_cases hin : n * i.size ≤ j ∧ j < n * i.size + news.length
        · have := World.cell?_setCells_in g news (off + n * i.size) w hsome (j - n * i.size) (by omega)
          rw [show off + j = off + n * i.size + (j - n * i.size) by omega, this]; rfl
        · rw [World.cell?_setCells_out g news _ _ _ (fun _ _ => by simp only; omega)]
          exact (hth j hj).1
      · have hk := World.keptBut_setCells g (may := fun p => p.block = g) news (off + n * i.size) w (fun _ _ => rfl)
        have htape : ∀ (vs : List Value) (o : Nat) (w : World), (w.setCells g o vs).tape = w.tape := by
          intro vs; induction vs with
          | nil => intro o w; rfl
          | cons v r ih => intro o w; rw [World.setCells, ih]; rfl
        refine ⟨hk.1, htape _ _ _, hk.2.1, hk.size, fun k hkl hne => ?_⟩
        exact hk.block hkl (fun _ hp e => hne (by simp [← hp, e]))
    · obtain ⟨v', w', hr, ho, hg⟩ := run_append_arg_grows (P := P) w t ty e i z size bytes ht hi hz h4 h5 hzs hsz ⟨g, off, none⟩ n cap xs hown.len (fun j u hu => by rw [Addr.add_lit]; exact hc j u hu) ad m c news hl hnews (by omega) h63 hbytes
      obtain ⟨oa', cap', rfl, ho'⟩ := Owns.of_row ho
      exact ⟨oa', cap', w', hr, ho'.mono hbase, ⟨hg.os, hg.tape, hg.output, hg.size, fun k hk _ => hg.block k hk (by simp)⟩, fun a ha => .inr (ho'.lt ha).1⟩

/-- 'v = append(v, ..)' for the walk. -/
theorem wpList_append_owns (w : World) {ops : Array Oper} {rest : List Oper} {o : Oper} {a : Act} {Q : Exit → Act → World → Prop}
    (hg : o.guard = none) (s x : Operand) (t : TypeId) (hop : o.op = Op.call { callee := Callee.builtin Builtin.append, args := #[s, x], argTypes := #[t, t] })
    (e : TypeId) (z : Value) (size bytes base : Nat) (ht : P.underlying t = some (.slice e)) (hinfo : (P.info? e).map (fun i => (i.zero, i.size, i.bytes)) = some (some z, size, bytes))
    (hzs : z.cells.size = size) (hsz : 0 < size) (oa : Option Addr) (n cap : Nat) (xs : List Value) (hs : a.eval s = .slice oa n cap) (hown : Owns w base size oa n cap xs)
    (ad : Addr) (m c : Nat) (news : List Value) (hx : a.eval x = .slice (some ad) m c) (hl : news.length = m * size) (hnews : ∀ j u, news[j]? = some u → w.cell? (ad.add j) = some u) (h1 : ∀ u ∈ news, u.oneCell' = true)
    (hm : 0 < m) (h63 : n + m ≤ maxLen) (hbytes : (n + m) * bytes ≤ 140737488355328) (hbase : base ≤ w.heap.size)
    (h : ∀ oa' cap' w', Owns w' base size oa' (n + m) cap' (xs ++ news) → w.grownBy w' (oa.map Addr.block) → (∀ a, oa' = some a → oa = some a ∨ w.heap.size ≤ a.block) → wpList P ops Q rest (a.put o.dst (.slice oa' (n + m) cap')) w') :
    wpList P ops Q (o :: rest) a w := by
  refine wpList_plain hg fun K hK' => ?_
  obtain ⟨oa', cap', w', hr, h2, h3, h4⟩ := run_append_owns (P := P) w t o.type e z size bytes base ht hinfo hzs hsz oa n cap xs hown ad m c news hl hnews h1 hm h63 hbytes hbase
  unfold Oper.wp
  simp [execOp, hop, resolve, invoke, builtin, hs, hx, hr, Result.andThen]
  exact hK' _ _ (h oa' cap' w' h2 h3 h4)
end

/-- The address behind 'v[k:]'. -/
def cutAddr (oa : Option Addr) (k cap size : Nat) : Option Addr := if cap = k then oa else oa.map (·.add (k * size))

theorem Owns.cut {w : World} {base size : Nat} {oa : Option Addr} {n cap : Nat} {xs : List Value} (h : Owns w base size oa n cap xs) (k : Nat) (hk : k ≤ n) :
    Owns w base size (cutAddr oa k cap size) (n - k) (cap - k) (xs.drop (k * size)) := by
  have hle := h.le
  refine ⟨by rw [List.length_drop, h.len, Nat.sub_mul], by omega, by have := h.max; omega, ?_⟩
  rcases h.at' with ⟨rfl, rfl⟩ | ⟨g, off, rfl, hb, hlt, hc, ht⟩
  · exact .inl ⟨by simp [cutAddr], by omega⟩
  · by_cases hck : cap = k
    · refine .inr ⟨g, off, by simp [cutAddr, hck], hb, hlt, fun j u hu => ?_, fun j hj => by simp [hck] at hj⟩
      have hl := h.len
      rw [List.getElem?_eq_none (by rw [List.length_drop, hl, ← Nat.sub_mul, show n - k = 0 by omega]; omega)] at hu
      cases hu
    · refine .inr ⟨g, off + k * size, by simp [cutAddr, hck, Addr.add_lit], hb, hlt, fun j u hu => ?_, fun j hj => ?_⟩
      · rw [List.getElem?_drop] at hu
        rw [Nat.add_assoc]
        exact hc _ u hu
      · rw [Nat.add_assoc]
        exact ht _ (by rw [Nat.sub_mul] at hj; have : k * size ≤ cap * size := Nat.mul_le_mul_right _ (by omega); omega)

/-- 'v[:k]' -/
theorem Owns.take {w : World} {base size : Nat} {oa : Option Addr} {n cap : Nat} {xs : List Value} (h : Owns w base size oa n cap xs) (k : Nat) (hk : k ≤ n) :
    Owns w base size oa k cap (xs.take (k * size)) := by
  have hle := h.le
  refine ⟨by rw [List.length_take, h.len]; have : k * size ≤ n * size := Nat.mul_le_mul_right _ hk; omega, by omega, h.max, ?_⟩
  rcases h.at' with h0 | ⟨g, off, rfl, hb, hlt, hc, ht⟩
  · exact .inl h0
  · refine .inr ⟨g, off, rfl, hb, hlt, fun j u hu => ?_, ht⟩
    rw [List.getElem?_take] at hu
    split at hu
    · exact hc j u hu
    · cases hu

/-- a cell is written -/
theorem Owns.set {w : World} {base size : Nat} {g off n cap : Nat} {xs : List Value} (h : Owns w base size (some ⟨g, off, none⟩) n cap xs) (j : Nat) (hj : j < n * size) (u : Value) :
    Owns (w.setCell ⟨g, off + j, none⟩ u) base size (some ⟨g, off, none⟩) n cap (xs.set j u) := by
  have hle : n * size ≤ cap * size := Nat.mul_le_mul_right _ h.le
  refine ⟨by rw [List.length_set]; exact h.len, h.le, h.max, ?_⟩
  rcases h.at' with ⟨h0, -⟩ | ⟨g', off', e, hb, hlt, hc, ht⟩
  · cases h0
  · obtain ⟨rfl, rfl⟩ : g = g' ∧ off = off' := by simpa using e
    refine .inr ⟨g, off, rfl, hb, by simpa using hlt, fun k x hx => ?_, fun k hk => ?_⟩
    · by_cases hjk : j = k
      · subst hjk
        rw [List.getElem?_set_self (by rw [h.len]; exact hj)] at hx
        obtain rfl : u = x := by simpa using hx
        obtain ⟨u0, hu0⟩ := Option.isSome_iff_exists.1 (ht j (by omega)).1
        exact World.cell?_setCell_same _ _ _ hu0
      · rw [List.getElem?_set_ne hjk] at hx
        rw [World.cell?_setCell_other _ _ _ _ (by simp only [ne_eq, Addr.mk.injEq, not_and]; omega)]
        exact hc k x hx
    · rw [World.frozen?_setCell]
      refine ⟨?_, (ht k hk).2⟩
      by_cases hjk : j = k
      · subst hjk
        obtain ⟨u0, hu0⟩ := Option.isSome_iff_exists.1 (ht j hk).1
        rw [World.cell?_setCell_same _ _ _ hu0]; rfl
      · rw [World.cell?_setCell_other _ _ _ _ (by simp only [ne_eq, Addr.mk.injEq, not_and]; omega)]
        exact (ht k hk).1

/-- 'v[k:]' in the walk: lay it, at the slice in question, ahead of the walk. -/
theorem run_cut {P : Program} (t : TypeId) (oa : Option Addr) (n cap size : Nat) (ht : P.underlying t = some (.slice (P.elem t))) (hsize : (P.info? (P.elem t)).map (·.size) = some size) (k : Nat) (i : Int) (hi : i = (k : Int)) (hk : k ≤ n) (w : World) :
    (Instr.slice t (.slice oa n cap) (some (.int .i64 i)) none none).run P w = .ok (.slice (cutAddr oa k cap size) (n - k) (cap - k)) w := by
  subst hi
  obtain ⟨inf, h1, h2⟩ := Option.map_eq_some_iff.1 hsize
  rw [run_slice_l w t oa n cap ht .i64 (k : Int) (Int.natCast_nonneg _) (Int.ofNat_le.2 hk)]
  simp [sizeOf, typeInfo, h1, h2, sliced, cutAddr, Result.andThen]

theorem run_cutTo {P : Program} (t : TypeId) (oa : Option Addr) (n cap : Nat) (size : Nat) (ht : P.underlying t = some (.slice (P.elem t))) (hsize : (P.info? (P.elem t)).map (·.size) = some size) (k : Nat) (i : Int) (hi : i = (k : Int)) (hk : k ≤ cap) (w : World) :
    (Instr.slice t (.slice oa n cap) none (some (.int .i64 i)) none).run P w = .ok (.slice oa k cap) w := by
  subst hi
  obtain ⟨inf, h1, h2⟩ := Option.map_eq_some_iff.1 hsize
  rw [run_slice_h w t oa n cap ht .i64 (k : Int) (Int.natCast_nonneg _) (Int.ofNat_le.2 hk)]
  simp [sizeOf, typeInfo, h1, h2, sliced, Result.andThen]
  intro _
  cases oa <;> simp [Addr.add]

/-! Several own slices at once, no two in one block. -/

structure RowS where
  size : Nat
  oa : Option Addr
  n : Nat
  cap : Nat
  xs : List Value
def RowS.holds (r : RowS) (w : World) (base : Nat) : Prop := Owns w base r.size r.oa r.n r.cap r.xs
def RowS.sep (r r' : RowS) : Prop := ∀ a b, r.oa = some a → r'.oa = some b → a.block ≠ b.block

structure Family (w : World) (base : Nat) (rows : List RowS) : Prop where
  own : ∀ (i : Nat) (r : RowS), rows[i]? = some r → r.holds w base
  sep : ∀ (i j : Nat) (r r' : RowS), i ≠ j → rows[i]? = some r → rows[j]? = some r' → r.sep r'

theorem Family.below {w w' : World} {base : Nat} {rows : List RowS} (h : Family w base rows) (hb : Below w.heap.size w w') : Family w' base rows :=
  ⟨fun i r hi => (h.own i r hi).below hb, h.sep⟩
theorem Family.later {w : World} {base : Nat} {rows : List RowS} (h : Family w base rows) (x : Later w) : Family x.world base rows := h.below x.below

theorem RowS.sep_symm {r r' : RowS} (h : r.sep r') : r'.sep r := fun a b ha hb e => h b a hb ha e.symm

/-- One row has turned, the others have not. -/
theorem Family.put {w w' : World} {base : Nat} {rows : List RowS} (h : Family w base rows) (i : Nat) {r r' : RowS} (hi : rows[i]? = some r) (hg : w.grownBy w' (r.oa.map Addr.block)) (ho : r'.holds w' base)
    (hd : ∀ a, r'.oa = some a → r.oa = some a ∨ w.heap.size ≤ a.block) : Family w' base (rows.set i r') := by
  have hilt := (List.getElem?_eq_some_iff.1 hi).1
  have hnew : ∀ j s, j ≠ i → rows[j]? = some s → r'.sep s := by
    intro j s hj hs a b ha hb
    rcases hd a ha with h1 | h1
    · exact h.sep i j r s (fun e => hj e.symm) hi hs a b h1 hb
    · have := ((h.own j s hs).lt hb).2; omega
  refine ⟨fun j s hs => ?_, fun j k s t hjk hs ht => ?_⟩
  · by_cases hij : i = j
    · subst hij
      rw [List.getElem?_set_self hilt] at hs
      obtain rfl : r' = s := by simpa using hs
      exact ho
    · rw [List.getElem?_set_ne hij] at hs
      refine (h.own j s hs).grown hg fun a ha e => ?_
      obtain ⟨b, hb, hbb⟩ := Option.map_eq_some_iff.1 e.symm
      exact h.sep i j r s hij hi hs b a hb ha hbb
  · by_cases hij : i = j
    · subst hij
      rw [List.getElem?_set_self hilt] at hs
      obtain rfl : r' = s := by simpa using hs
      rw [List.getElem?_set_ne hjk] at ht
      exact hnew k t (fun e => hjk e.symm) ht
    · rw [List.getElem?_set_ne hij] at hs
      by_cases hik : i = k
      · subst hik
        rw [List.getElem?_set_self hilt] at ht
        obtain rfl : r' = t := by simpa using ht
        exact RowS.sep_symm (hnew j s (fun e => hij e.symm) hs)
      · rw [List.getElem?_set_ne hik] at ht
        exact h.sep j k s t hjk hs ht

theorem World.grownBy_setCell (w : World) (p : Addr) (u : Value) : w.grownBy (w.setCell p u) (some p.block) :=
  ⟨rfl, rfl, rfl, by simp, fun k _ hne => Below.heap_setCell _ _ _ _ (fun e => hne (by rw [e]))⟩
theorem World.grownBy_refl (w : World) (row : Option Nat) : w.grownBy w row := ⟨rfl, rfl, rfl, Nat.le_refl _, fun _ _ _ => rfl⟩

/-- What a new block of cells brings to an append. -/
theorem news_new (w : World) (cs : Array Value) (t : TypeId) : ∀ j u, cs.toList[j]? = some u → (w.alloc (.cells cs t)).cell? ((⟨w.heap.size, 0, none⟩ : Addr).add j) = some u := by
  intro j u hu
  rw [Addr.add_lit, Nat.zero_add, cell_of_row _ _ j cs t (0, 0) (heap_alloc_new w _)]
  simpa using hu

/-- 'v = append(v, ..)' for the walk, v one of several. -/
theorem wpList_append_family {P : Program} (w : World) {ops : Array Oper} {rest : List Oper} {o : Oper} {a : Act} {Q : Exit → Act → World → Prop}
    (hg : o.guard = none) (s x : Operand) (t : TypeId) (hop : o.op = Op.call { callee := Callee.builtin Builtin.append, args := #[s, x], argTypes := #[t, t] })
    (e : TypeId) (z : Value) (size bytes base : Nat) (ht : P.underlying t = some (.slice e)) (hinfo : (P.info? e).map (fun i => (i.zero, i.size, i.bytes)) = some (some z, size, bytes))
    (hzs : z.cells.size = size) (hsz : 0 < size) {rows : List RowS} (hF : Family w base rows) (i : Nat) {oa : Option Addr} {n cap : Nat} {xs : List Value} (hi : rows[i]? = some ⟨size, oa, n, cap, xs⟩) (hs : a.eval s = .slice oa n cap)
    (ad : Addr) (m c : Nat) (news : List Value) (hx : a.eval x = .slice (some ad) m c) (hl : news.length = m * size) (hnews : ∀ j u, news[j]? = some u → w.cell? (ad.add j) = some u) (h1 : ∀ u ∈ news, u.oneCell' = true)
    (hm : 0 < m) (h63 : n + m ≤ maxLen) (hbytes : (n + m) * bytes ≤ 140737488355328) (hbase : base ≤ w.heap.size)
    (h : ∀ oa' cap' w', Family w' base (rows.set i ⟨size, oa', n + m, cap', xs ++ news⟩) → Below base w w' → wpList P ops Q rest (a.put o.dst (.slice oa' (n + m) cap')) w') :
    wpList P ops Q (o :: rest) a w := by
  refine wpList_append_owns w hg s x t hop e z size bytes base ht hinfo hzs hsz oa n cap xs hs (hF.own i _ hi) ad m c news hx hl hnews h1 hm h63 hbytes hbase fun oa' cap' w' ho hgr hd => ?_
  refine h oa' cap' w' (hF.put i hi hgr (r' := ⟨size, oa', n + m, cap', xs ++ news⟩) ho hd) (Below.grown (Below.refl _ _) hgr hbase fun k hk => ?_)
  obtain ⟨a', e1, e2⟩ := Option.map_eq_some_iff.1 hk
  rw [← e2]; exact ((hF.own i _ hi).lt e1).1

/-- A new block is one more. -/
theorem Family.add {w : World} {base : Nat} {rows : List RowS} (h : Family w base rows) (hb : base ≤ w.heap.size) (size n cap : Nat) (cs : Array Value) (e : TypeId) (xs : List Value) (hs : cap * size ≤ cs.size) (hn : n ≤ cap) (hm : cap ≤ maxLen) (hx : cs.toList.take (n * size) = xs) :
    Family (w.alloc (.cells cs e)) base (rows ++ [⟨size, some ⟨w.heap.size, 0, none⟩, n, cap, xs⟩]) := by
  have h' := h.below ((Below.refl _ _).alloc (Nat.le_refl _) (.cells cs e))
  have hlast : ∀ (i : Nat) (r : RowS), (rows ++ [(⟨size, some ⟨w.heap.size, 0, none⟩, n, cap, xs⟩ : RowS)])[i]? = some r → rows[i]? = some r ∨ (i = rows.length ∧ r = ⟨size, some ⟨w.heap.size, 0, none⟩, n, cap, xs⟩) := by
    intro i r hi
    by_cases hlt : i < rows.length
    · rw [List.getElem?_append_left hlt] at hi; exact .inl hi
    · rw [List.getElem?_append_right (by omega)] at hi
      by_cases e0 : i - rows.length = 0
      · rw [e0] at hi
        exact .inr ⟨by omega, by simpa using hi.symm⟩
      · obtain ⟨k, hk⟩ : ∃ k, i - rows.length = k + 1 := ⟨i - rows.length - 1, by omega⟩
        rw [hk] at hi
        simp at hi
  refine ⟨fun i r hi => ?_, fun i j r r' hij hi hj => ?_⟩
  · rcases hlast i r hi with h1 | ⟨-, rfl⟩
    · exact h'.own i r h1
    · exact Owns.made cs n cap e xs hb hs hn hm hx
  · rcases hlast i r hi with h1 | ⟨h1, rfl⟩ <;> rcases hlast j r' hj with h2 | ⟨h2, rfl⟩
    · exact h'.sep i j r r' hij h1 h2
    · intro a b ha hb'
      have := ((h.own i r h1).lt ha).2
      simp only [Option.some.injEq] at hb'
      subst hb'
      simp only
      omega
    · intro a b ha hb'
      have := ((h.own j r' h2).lt hb').2
      simp only [Option.some.injEq] at ha
      subst ha
      simp only
      omega
    · omega

/-- A cell of one row is written. -/
theorem Family.set {w : World} {base : Nat} {rows : List RowS} (h : Family w base rows) (i : Nat) {size n cap g off : Nat} {xs : List Value} (hi : rows[i]? = some ⟨size, some ⟨g, off, none⟩, n, cap, xs⟩) (j : Nat) (hj : j < n * size) (u : Value) :
    Family (w.setCell ⟨g, off + j, none⟩ u) base (rows.set i ⟨size, some ⟨g, off, none⟩, n, cap, xs.set j u⟩) :=
  h.put i hi (World.grownBy_setCell _ _ _) (Owns.set (h.own i _ hi) j hj u) fun _ ha => .inl ha

/-- A cell that lies below all rows is written. -/
theorem Family.other {w : World} {base : Nat} {rows : List RowS} (h : Family w base rows) {p : Addr} (hp : p.block < base) (u : Value) : Family (w.setCell p u) base rows :=
  ⟨fun i r hi => (h.own i r hi).other (fun a ha => by have := ((h.own i r hi).lt ha).1; omega) u, h.sep⟩

/-- 'v[:k]' -/
theorem Family.take {w : World} {base : Nat} {rows : List RowS} (h : Family w base rows) (i : Nat) {r : RowS} (hi : rows[i]? = some r) (k : Nat) (hk : k ≤ r.n) :
    Family w base (rows.set i ⟨r.size, r.oa, k, r.cap, r.xs.take (k * r.size)⟩) :=
  h.put i hi (World.grownBy_refl _ _) ((h.own i r hi).take k hk) fun _ ha => .inl ha
theorem Family.none (w : World) (base : Nat) (rows : List RowS) (h : ∀ (i : Nat) (r : RowS), rows[i]? = some r → r.oa = none ∧ r.n = 0 ∧ r.cap = 0 ∧ r.xs = []) : Family w base rows := by
  refine ⟨fun i r hi => ?_, fun i j r r' _ hi _ a b ha _ => ?_⟩
  · obtain ⟨h1, h2, h3, h4⟩ := h i r hi
    unfold RowS.holds
    rw [h1, h2, h3, h4]
    exact Owns.nil _ _ _
  · rw [(h i r hi).1] at ha; cases ha

/-- numbers in a row -/
def nums (k : IntKind) (n : Nat) (P : Nat → Int) : List Value := (List.range n).map fun i => Value.int k (P i)
theorem nums_get (k : IntKind) (n : Nat) (P : Nat → Int) (j : Nat) (h : j < n) : (nums k n P)[j]? = some (.int k (P j)) := by simp [nums, h]
theorem nums_len (k : IntKind) (n : Nat) (P : Nat → Int) : (nums k n P).length = n := by simp [nums]
theorem nums_snoc (k : IntKind) (n : Nat) (P : Nat → Int) (p : Int) : nums k n P ++ [.int k p] = nums k (n + 1) (fun i => if i = n then p else P i) := by
  apply List.ext_getElem?
  intro j
  by_cases hj : j < n
  · rw [List.getElem?_append_left (by rw [nums_len]; exact hj), nums_get _ _ _ _ hj, nums_get _ _ _ _ (by omega)]
    simp only [show j ≠ n by omega, if_false]
  · rw [List.getElem?_append_right (by rw [nums_len]; omega), nums_len]
    by_cases e : j = n
    · subst e
      rw [nums_get _ _ _ _ (by omega)]; simp
    · rw [List.getElem?_eq_none (by simp; omega), List.getElem?_eq_none (by rw [nums_len]; omega)]
theorem nums_take (k : IntKind) (n m : Nat) (P : Nat → Int) (h : m ≤ n) : (nums k n P).take m = nums k m P := by
  apply List.ext_getElem?
  intro j
  rw [List.getElem?_take]
  by_cases hj : j < m
  · rw [if_pos hj, nums_get _ _ _ _ (by omega), nums_get _ _ _ _ hj]
  · rw [if_neg hj, List.getElem?_eq_none (by rw [nums_len]; omega)]
theorem nums_set (k : IntKind) (n : Nat) (P : Nat → Int) (i : Nat) (p : Int) (h : i < n) : (nums k n P).set i (.int k p) = nums k n (fun j => if j = i then p else P j) := by
  apply List.ext_getElem?
  intro j
  by_cases hj : j < n
  · by_cases e : i = j
    · subst e
      rw [List.getElem?_set_self (by rw [nums_len]; exact hj), nums_get _ _ _ _ hj]; simp
    · rw [List.getElem?_set_ne e, nums_get _ _ _ _ hj, nums_get _ _ _ _ hj]
      simp only [show j ≠ i from fun h => e h.symm, if_false]
  · rw [List.getElem?_eq_none (by rw [List.length_set, nums_len]; omega), List.getElem?_eq_none (by rw [nums_len]; omega)]
theorem nums_congr (k : IntKind) (n : Nat) (P Q : Nat → Int) (h : ∀ i, i < n → P i = Q i) : nums k n P = nums k n Q := by
  unfold nums
  refine List.map_congr_left fun i hi => ?_
  rw [h i (List.mem_range.1 hi)]
end Go.Proofs.YtcadpcppnllhnaaDoor
