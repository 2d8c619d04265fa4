/- What a call has made and reads on: its boxes and rows, kept through all that makes memory of its own alone. -/
import Derived.Test.YtcadpcppnllhnaaDoorBytes
namespace Go.Proofs.YtcadpcppnllhnaaDoor
open Go.RowKit

/-- Blocks that hold these cells from their head on; rows of bytes that read so; what stood at the start is as it was. -/
structure Mem (W w : World) (fs : List (Nat × List Value)) (rs : List (Option Addr × Nat × Nat × List Int)) : Prop where
  cell : ∀ b cs, (b, cs) ∈ fs → b < w.heap.size ∧ (∀ j u, cs[j]? = some u → w.cell? ⟨b, j, none⟩ = some u) ∧ ∀ j, w.frozen? ⟨b, j, none⟩ = false
  row : ∀ oa n cap l, (oa, n, cap, l) ∈ rs → Reads w oa n cap l
  out : Below W.heap.size W w

theorem Mem.start (W : World) : Mem W W [] [] := ⟨fun _ _ h => absurd h (List.not_mem_nil), fun _ _ _ _ h => absurd h (List.not_mem_nil), Below.refl _ _⟩
theorem Mem.go {W w w' : World} {fs : List (Nat × List Value)} {rs : List (Option Addr × Nat × Nat × List Int)} (h : Mem W w fs rs) (hb : Below w.heap.size w w') : Mem W w' fs rs := by
  refine ⟨fun b cs hm => ?_, fun oa n cap l hm => (h.row oa n cap l hm).below hb, Below.via h.out hb⟩
  obtain ⟨h1, h2, h3⟩ := h.cell b cs hm
  exact ⟨Nat.lt_of_lt_of_le h1 hb.size, fun j u hu => (hb.cell (p := ⟨b, j, none⟩) h1).trans (h2 j u hu), fun j => (hb.frozen (p := ⟨b, j, none⟩) h1).trans (h3 j)⟩
theorem Mem.drew {W w : World} {fs : List (Nat × List Value)} {rs : List (Option Addr × Nat × Nat × List Int)} (h : Mem W w fs rs) : Mem W w.drew fs rs := h.go (Below.refl _ _).drew
theorem Mem.alloc {W w : World} {fs : List (Nat × List Value)} {rs : List (Option Addr × Nat × Nat × List Int)} (h : Mem W w fs rs) (o : Obj) : Mem W (w.alloc o) fs rs := h.go ((Below.refl _ _).alloc (Nat.le_refl _) o)
/-- a box more -/
theorem Mem.box {W w : World} {fs : List (Nat × List Value)} {rs : List (Option Addr × Nat × Nat × List Int)} (h : Mem W w fs rs) (cs : Array Value) (t : TypeId) : Mem W (w.alloc (.cells cs t)) ((w.heap.size, cs.toList) :: fs) rs := by
  have h' := h.alloc (.cells cs t)
  refine ⟨fun b ds hm => ?_, h'.row, h'.out⟩
  rcases List.mem_cons.1 hm with e | hm
  · obtain ⟨rfl, rfl⟩ : b = w.heap.size ∧ ds = cs.toList := by simpa using e
    refine ⟨by simp, fun j u hu => ?_, fun j => ?_⟩
    · rw [cell_of_row _ _ j _ t (0, 0) (heap_alloc_new w _)]; simpa using hu
    · unfold World.frozen?; rw [heap_alloc_new w _]; simp
  · exact h'.cell b ds hm
/-- a row more -/
theorem Mem.rowed {W w : World} {fs : List (Nat × List Value)} {rs : List (Option Addr × Nat × Nat × List Int)} (h : Mem W w fs rs) {oa : Option Addr} {n cap : Nat} {l : List Int} (hr : Reads w oa n cap l) : Mem W w fs ((oa, n, cap, l) :: rs) :=
  ⟨h.cell, fun oa' n' cap' l' hm => by
    rcases List.mem_cons.1 hm with e | hm
    · obtain ⟨rfl, rfl, rfl, rfl⟩ : oa' = oa ∧ n' = n ∧ cap' = cap ∧ l' = l := by simpa using e
      exact hr
    · exact h.row _ _ _ _ hm, h.out⟩
theorem Mem.at {W w : World} {fs : List (Nat × List Value)} {rs : List (Option Addr × Nat × Nat × List Int)} (h : Mem W w fs rs) (i j : Nat) {b : Nat} {cs : List Value} {u : Value} (hi : fs[i]? = some (b, cs)) (hj : cs[j]? = some u) : w.cell? ⟨b, j, none⟩ = some u :=
  (h.cell b cs (List.mem_of_getElem? hi)).2.1 j u hj
theorem Mem.lt {W w : World} {fs : List (Nat × List Value)} {rs : List (Option Addr × Nat × Nat × List Int)} (h : Mem W w fs rs) (i : Nat) {b : Nat} {cs : List Value} (hi : fs[i]? = some (b, cs)) : b < w.heap.size :=
  (h.cell b cs (List.mem_of_getElem? hi)).1
theorem Mem.free {W w : World} {fs : List (Nat × List Value)} {rs : List (Option Addr × Nat × Nat × List Int)} (h : Mem W w fs rs) (i : Nat) {b : Nat} {cs : List Value} (hi : fs[i]? = some (b, cs)) (j : Nat) : w.frozen? ⟨b, j, none⟩ = false :=
  (h.cell b cs (List.mem_of_getElem? hi)).2.2 j
theorem Mem.reads {W w : World} {fs : List (Nat × List Value)} {rs : List (Option Addr × Nat × Nat × List Int)} (h : Mem W w fs rs) (i : Nat) {oa : Option Addr} {n cap : Nat} {l : List Int} (hi : rs[i]? = some (oa, n, cap, l)) : Reads w oa n cap l :=
  h.row oa n cap l (List.mem_of_getElem? hi)
/-- less -/
theorem Mem.less {W w : World} {fs fs' : List (Nat × List Value)} {rs rs' : List (Option Addr × Nat × Nat × List Int)} (h : Mem W w fs rs) (hf : ∀ x ∈ fs', x ∈ fs) (hr : ∀ x ∈ rs', x ∈ rs) : Mem W w fs' rs' :=
  ⟨fun b cs hm => h.cell b cs (hf _ hm), fun oa n cap l hm => h.row oa n cap l (hr _ hm), h.out⟩

/-- Rows of bytes of one's own, in blocks from 'lo' on and below 'hi'. -/
structure Mine (w : World) (os : List (Option Addr × Nat × Nat × List Int × Nat × Nat)) : Prop where
  own : ∀ oa n cap l lo hi, (oa, n, cap, l, lo, hi) ∈ os → Owns w lo 1 oa n cap (l.map (.int .u8)) ∧ (∀ a, oa = some a → a.block < hi)
theorem Mine.none (w : World) : Mine w [] := ⟨fun _ _ _ _ _ _ h => absurd h (List.not_mem_nil)⟩
theorem Mine.go {w w' : World} {os : List (Option Addr × Nat × Nat × List Int × Nat × Nat)} (h : Mine w os) (hb : Below w.heap.size w w') : Mine w' os :=
  ⟨fun oa n cap l lo hi hm => ⟨(h.own oa n cap l lo hi hm).1.below hb, (h.own oa n cap l lo hi hm).2⟩⟩
theorem Mine.add {w : World} {os : List (Option Addr × Nat × Nat × List Int × Nat × Nat)} (h : Mine w os) {oa : Option Addr} {n cap lo : Nat} {l : List Int} (ho : Owns w lo 1 oa n cap (l.map (.int .u8))) : Mine w ((oa, n, cap, l, lo, w.heap.size) :: os) :=
  ⟨fun oa' n' cap' l' lo' hi' hm => by
    rcases List.mem_cons.1 hm with e | hm
    · obtain ⟨rfl, rfl, rfl, rfl, rfl, rfl⟩ : oa' = oa ∧ n' = n ∧ cap' = cap ∧ l' = l ∧ lo' = lo ∧ hi' = w.heap.size := by simpa using e
      exact ⟨ho, fun a ha => (ho.lt ha).2⟩
    · exact h.own _ _ _ _ _ _ hm⟩
theorem Mine.at {w : World} {os : List (Option Addr × Nat × Nat × List Int × Nat × Nat)} (h : Mine w os) (i : Nat) {oa : Option Addr} {n cap lo hi : Nat} {l : List Int} (hi' : os[i]? = some (oa, n, cap, l, lo, hi)) : Owns w lo 1 oa n cap (l.map (.int .u8)) ∧ (∀ a, oa = some a → a.block < hi) :=
  h.own _ _ _ _ _ _ (List.mem_of_getElem? hi')
end Go.Proofs.YtcadpcppnllhnaaDoor
