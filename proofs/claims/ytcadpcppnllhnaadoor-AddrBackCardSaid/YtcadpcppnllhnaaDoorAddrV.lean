/- Addresses as values: their cells, their equality; size, Right. -/
import Derived.Test.YtcadpcppnllhnaaDoorMem
import Derived.IntWalk
import Derived.Laws.StructEq
import Derived.Laws.Rows
import Derived.Laws.CopyOwn
import Derived.Test.YtcadpcppnllhnaaDoorTail
import Derived.Test.YtcadpcppnllhnaaDoorPart
import Derived.RegionTactic
import Derived.BigRegion
set_option linter.unusedSimpArgs false
set_option linter.unusedVariables false
namespace Go.Proofs.YtcadpcppnllhnaaDoor
open Go.RowKit

/-- An address's value: 17 cells. -/
def adV (six : Bool) (B : Nat → Int) : Value := .agg #[.bool six, .int .u8 (B 0), .int .u8 (B 1), .int .u8 (B 2), .int .u8 (B 3), .int .u8 (B 4), .int .u8 (B 5), .int .u8 (B 6), .int .u8 (B 7), .int .u8 (B 8), .int .u8 (B 9), .int .u8 (B 10), .int .u8 (B 11), .int .u8 (B 12), .int .u8 (B 13), .int .u8 (B 14), .int .u8 (B 15)]
/-- .. and a prefix's: 18. -/
def pfV (six : Bool) (B : Nat → Int) (n : Int) : Value := .agg #[.bool six, .int .u8 (B 0), .int .u8 (B 1), .int .u8 (B 2), .int .u8 (B 3), .int .u8 (B 4), .int .u8 (B 5), .int .u8 (B 6), .int .u8 (B 7), .int .u8 (B 8), .int .u8 (B 9), .int .u8 (B 10), .int .u8 (B 11), .int .u8 (B 12), .int .u8 (B 13), .int .u8 (B 14), .int .u8 (B 15), .int .i64 n]
/-- Bytes. -/
def U8 (B : Nat → Int) : Prop := ∀ i, 0 ≤ B i ∧ B i < 256
def sizeZ (six : Bool) : Int := if six then 16 else 4

theorem size_any (six : Bool) (B : Nat → Int) (w : World) : Calls Tryd.prog 40 #[adV six B] w (RetAt w (.int .i64 (sizeZ six))) := by
  unfold adV
  cases six
  all_goals
    go_enter Tryd.func40, Tryd.ntmps40
    go_wp2_with fail
    go_ret
    exact .mk rfl (Below.all (Below.refl _ _) _)
theorem rsize_any (six : Bool) (w : World) : Calls Tryd.prog 42 #[.bool six] w fun e w' => e = .returned (.int .i64 (sizeZ six)) ∧ w = w' := by
  cases six
  all_goals
    go_enter Tryd.func42, Tryd.ntmps42
    go_wp2_with fail
    go_ret
    exact ⟨rfl, rfl⟩

/-- Numbers, compared. -/
def eqL : List Int → List Int → Bool
  | [], [] => true
  | x :: l, y :: m => if x == y then eqL l m else false
  | _, _ => false
theorem eqL_iff : ∀ (l m : List Int), eqL l m = true ↔ l = m
  | [], [] => by simp [eqL]
  | x :: l, y :: m => by
    rw [eqL]
    by_cases h : x = y
    · subst h; simp [eqL_iff l m]
    · simp [h]
  | [], y :: m => by simp [eqL]
  | x :: l, [] => by simp [eqL]
/-- The sixteen numbers. -/
def b16 (B : Nat → Int) : List Int := [B 0, B 1, B 2, B 3, B 4, B 5, B 6, B 7, B 8, B 9, B 10, B 11, B 12, B 13, B 14, B 15]
theorem b16_get (B : Nat → Int) (i : Nat) (h : i < 16) : (b16 B)[i]? = some (B i) := by
  unfold b16
  rcases i with _ | _ | _ | _ | _ | _ | _ | _ | _ | _ | _ | _ | _ | _ | _ | _ | i
  all_goals first | rfl | omega
theorem b16_eq {B C : Nat → Int} : b16 B = b16 C ↔ ∀ i, i < 16 → B i = C i := by
  constructor
  · intro h i hi
    have := b16_get B i hi
    rw [h, b16_get C i hi] at this
    exact (Option.some.inj this).symm
  · intro h
    unfold b16
    simp [h]
set_option maxHeartbeats 4000000 in
theorem run_equalIn_16 (w : World) (d : Nat) (x0 x1 x2 x3 x4 x5 x6 x7 x8 x9 x10 x11 x12 x13 x14 x15 y0 y1 y2 y3 y4 y5 y6 y7 y8 y9 y10 y11 y12 y13 y14 y15 : Int) :
    (Op.equalIn (d + 2) 23 (.agg #[.int .u8 x0, .int .u8 x1, .int .u8 x2, .int .u8 x3, .int .u8 x4, .int .u8 x5, .int .u8 x6, .int .u8 x7, .int .u8 x8, .int .u8 x9, .int .u8 x10, .int .u8 x11, .int .u8 x12, .int .u8 x13, .int .u8 x14, .int .u8 x15]) (.agg #[.int .u8 y0, .int .u8 y1, .int .u8 y2, .int .u8 y3, .int .u8 y4, .int .u8 y5, .int .u8 y6, .int .u8 y7, .int .u8 y8, .int .u8 y9, .int .u8 y10, .int .u8 y11, .int .u8 y12, .int .u8 y13, .int .u8 y14, .int .u8 y15])).run Tryd.prog w = .ok (eqL [x0, x1, x2, x3, x4, x5, x6, x7, x8, x9, x10, x11, x12, x13, x14, x15] [y0, y1, y2, y3, y4, y5, y6, y7, y8, y9, y10, y11, y12, y13, y14, y15]) w := by
  have hr : List.range' 0 16 = [0,1,2,3,4,5,6,7,8,9,10,11,12,13,14,15] := by decide
  rw [Op.equalIn]
  simp only [Sem.run_bind, run_underlying Tryd.underlying23, Result.andThen_ok]
  simp [go_sem, Std.Legacy.Range.forIn_eq_forIn_range', Std.Legacy.Range.size, hr]
  simp only [eqL, beq_iff_eq]
  have hi : ∀ (c : Prop) [Decidable c] (a b : Bool), (Result.ok (if c then a else b) w : Result Bool) = if c then Result.ok a w else Result.ok b w := fun c _ a b => by split <;> rfl
  simp only [hi]
attribute [go_sem] run_equalIn_16

/-- Is an address right? -/
def rightB (six : Bool) (B : Nat → Int) : Bool := six || (List.range 12).all fun i => B (4 + i) == 0
theorem rightB_four {B : Nat → Int} : rightB false B = true ↔ ∀ i, 4 ≤ i → i < 16 → B i = 0 := by
  unfold rightB
  simp only [Bool.false_or, List.all_eq_true, List.mem_range, beq_iff_eq]
  constructor
  · intro h i h4 h16
    have := h (i - 4) (by omega)
    rwa [show 4 + (i - 4) = i by omega] at this
  · intro h i hi; exact h _ (by omega) (by omega)
theorem eqL_right (B : Nat → Int) : eqL (b16 B) (b16 fun i => if i < 4 then B i else 0) = rightB false B := by
  rw [Bool.eq_iff_iff, eqL_iff, b16_eq, rightB_four]
  constructor
  · intro h i h4 h16; have := h i h16; rw [if_neg (by omega)] at this; exact this
  · intro h i hi
    split
    · rfl
    · exact h i (by omega) hi

/-- The first bytes, as cells. -/
def bytesL (n : Nat) (B : Nat → Int) : List Value := (List.range n).map fun i => .int .u8 (B i)
theorem bytesL_get (n : Nat) (B : Nat → Int) (j : Nat) (u : Value) (h : (bytesL n B)[j]? = some u) : j < n ∧ u = .int .u8 (B j) := by
  unfold bytesL at h
  rw [List.getElem?_map] at h
  by_cases hj : j < n
  · rw [List.getElem?_range hj] at h
    exact ⟨hj, by simpa using h.symm⟩
  · rw [List.getElem?_eq_none (by simpa using hj)] at h; cases h
theorem bytesL_len (n : Nat) (B : Nat → Int) : (bytesL n B).length = n := by simp [bytesL]
theorem bytesL_one (n : Nat) (B : Nat → Int) : ∀ u ∈ bytesL n B, u.oneCell' = true := by
  intro u hu
  obtain ⟨i, -, rfl⟩ := List.mem_map.1 hu
  rfl
/-- The bytes of an address that lies in memory. -/
theorem ad_cell {w : World} {b : Nat} {s : Bool} {B : Nat → Int} (h : ∀ j, w.cell? ⟨b, j, none⟩ = (#[.bool s, .int .u8 (B 0), .int .u8 (B 1), .int .u8 (B 2), .int .u8 (B 3), .int .u8 (B 4), .int .u8 (B 5), .int .u8 (B 6), .int .u8 (B 7), .int .u8 (B 8), .int .u8 (B 9), .int .u8 (B 10), .int .u8 (B 11), .int .u8 (B 12), .int .u8 (B 13), .int .u8 (B 14), .int .u8 (B 15)] : Array Value)[j]?) (j : Nat) (hj : j < 16) : w.cell? ⟨b, 1 + j, none⟩ = some (.int .u8 (B j)) := by
  rw [h]
  rcases j with _ | _ | _ | _ | _ | _ | _ | _ | _ | _ | _ | _ | _ | _ | _ | _ | j
  all_goals first | rfl | omega


set_option maxHeartbeats 4000000 in
theorem right_four (B : Nat → Int) (w : World) : Calls Tryd.prog 17 #[adV false B] w (RetAt w (.bool (rightB false B))) := by
  have hsz : ∀ w, Calls Tryd.prog 40 #[adV false B] w (RetAt w (.int .i64 4)) := size_any false B
  unfold adV at hsz ⊢
  go_enter Tryd.func17, Tryd.ntmps17
  go_wp2_with fail
  refine wp_region_tail 5 (by kernel_rfl) (by kernel_rfl) ?_
  simp only [List.take_succ_cons, List.take_zero, List.drop_succ_cons, List.drop_zero]
  repeat go_big_quiet_step ((go_at_call 40; exact later_call (hsz _)))
  refine wpQuiet_nil ?_
  intro x
  have hA0 := (x.below.block _ (by simp; omega)).trans (heap_alloc2_old w (.cells #[.bool false, .int .u8 (B 0), .int .u8 (B 1), .int .u8 (B 2), .int .u8 (B 3), .int .u8 (B 4), .int .u8 (B 5), .int .u8 (B 6), .int .u8 (B 7), .int .u8 (B 8), .int .u8 (B 9), .int .u8 (B 10), .int .u8 (B 11), .int .u8 (B 12), .int .u8 (B 13), .int .u8 (B 14), .int .u8 (B 15)] 25) (.cells #[.int .u8 0, .int .u8 0, .int .u8 0, .int .u8 0, .int .u8 0, .int .u8 0, .int .u8 0, .int .u8 0, .int .u8 0, .int .u8 0, .int .u8 0, .int .u8 0, .int .u8 0, .int .u8 0, .int .u8 0, .int .u8 0] 23))
  have hP0 := (x.below.block _ (by simp)).trans (heap_alloc2_new w (.cells #[.bool false, .int .u8 (B 0), .int .u8 (B 1), .int .u8 (B 2), .int .u8 (B 3), .int .u8 (B 4), .int .u8 (B 5), .int .u8 (B 6), .int .u8 (B 7), .int .u8 (B 8), .int .u8 (B 9), .int .u8 (B 10), .int .u8 (B 11), .int .u8 (B 12), .int .u8 (B 13), .int .u8 (B 14), .int .u8 (B 15)] 25) (.cells (List.replicate 16 (Value.int .u8 0)).toArray 23))
  have hxb : Below w.heap.size w x.world := Below.lat (Below.all (Below.all (Below.refl _ _) _) _)
  have hxs : w.heap.size + 1 < x.world.heap.size := by have := x.below.size; simp at this; omega
  refine wpList_copy_splice rfl (.tmp 6) (.tmp 8) 43 43 rfl 5 Tryd.underlying43 (by kernel_rfl) (some ⟨w.heap.size + 1, 0, none⟩) (some ⟨w.heap.size, 1, none⟩) 4 16 16 16 rfl rfl (w.heap.size + 1) 0
    (List.replicate 16 (.int .u8 0)) 23 hP0 (bytesL 4 B) (bytesL_len _ _) (fun _ => ⟨rfl, _, rfl, fun j v hv => ?_⟩) (by rw [bytesL_len]; decide) (bytesL_one _ _) (w.heap.size + 1) x.world (Below.refl _ _) (Nat.le_refl _) ?_
  · obtain ⟨hj, rfl⟩ := bytesL_get _ _ _ _ hv
    rw [Addr.add_lit]
    exact ad_cell (fun j => cell_of_row _ _ j _ _ (0, 0) hA0) j (by omega)
  intro w' hg hb
  have hA1 := (hb.block _ (by simp)).trans hA0
  have hP1 : w'.heap[w.heap.size + 1]? = some (.cells #[.int .u8 (B 0), .int .u8 (B 1), .int .u8 (B 2), .int .u8 (B 3), .int .u8 0, .int .u8 0, .int .u8 0, .int .u8 0, .int .u8 0, .int .u8 0, .int .u8 0, .int .u8 0, .int .u8 0, .int .u8 0, .int .u8 0, .int .u8 0] 23 (0, 0)) := hg.out
  have hA : partOf w' w.heap.size 1 16 = #[.int .u8 (B 0), .int .u8 (B 1), .int .u8 (B 2), .int .u8 (B 3), .int .u8 (B 4), .int .u8 (B 5), .int .u8 (B 6), .int .u8 (B 7), .int .u8 (B 8), .int .u8 (B 9), .int .u8 (B 10), .int .u8 (B 11), .int .u8 (B 12), .int .u8 (B 13), .int .u8 (B 14), .int .u8 (B 15)] := by rw [partOf_row _ _ _ _ _ _ _ hA1]; simp
  have hP : partOf w' (w.heap.size + 1) 0 16 = #[.int .u8 (B 0), .int .u8 (B 1), .int .u8 (B 2), .int .u8 (B 3), .int .u8 0, .int .u8 0, .int .u8 0, .int .u8 0, .int .u8 0, .int .u8 0, .int .u8 0, .int .u8 0, .int .u8 0, .int .u8 0, .int .u8 0, .int .u8 0] := by rw [partOf_row _ _ _ _ _ _ _ hP1]; simp
  have hB : Hid (Below w.heap.size w w') := Lib.hid (hxb.trans (hb.mono (by omega)))
  clear hA0 hP0 hg hxb hxs hsz hb hA1 hP1
  go_wp2_with fail
  go_ret
  exact .mk (val_bool (eqL_right B)) hB.out

set_option maxHeartbeats 4000000 in
theorem right_six (B : Nat → Int) (w : World) : Calls Tryd.prog 17 #[adV true B] w (RetAt w (.bool (rightB true B))) := by
  have hsz : ∀ w, Calls Tryd.prog 40 #[adV true B] w (RetAt w (.int .i64 16)) := size_any true B
  unfold adV at hsz ⊢
  go_enter Tryd.func17, Tryd.ntmps17
  go_wp2_with fail
  refine wp_region_tail 5 (by kernel_rfl) (by kernel_rfl) ?_
  simp only [List.take_succ_cons, List.take_zero, List.drop_succ_cons, List.drop_zero]
  repeat go_big_quiet_step ((go_at_call 40; exact later_call (hsz _)))
  refine wpQuiet_nil ?_
  intro x
  have hA0 := (x.below.block _ (by simp; omega)).trans (heap_alloc2_old w (.cells #[.bool true, .int .u8 (B 0), .int .u8 (B 1), .int .u8 (B 2), .int .u8 (B 3), .int .u8 (B 4), .int .u8 (B 5), .int .u8 (B 6), .int .u8 (B 7), .int .u8 (B 8), .int .u8 (B 9), .int .u8 (B 10), .int .u8 (B 11), .int .u8 (B 12), .int .u8 (B 13), .int .u8 (B 14), .int .u8 (B 15)] 25) (.cells #[.int .u8 0, .int .u8 0, .int .u8 0, .int .u8 0, .int .u8 0, .int .u8 0, .int .u8 0, .int .u8 0, .int .u8 0, .int .u8 0, .int .u8 0, .int .u8 0, .int .u8 0, .int .u8 0, .int .u8 0, .int .u8 0] 23))
  have hP0 := (x.below.block _ (by simp)).trans (heap_alloc2_new w (.cells #[.bool true, .int .u8 (B 0), .int .u8 (B 1), .int .u8 (B 2), .int .u8 (B 3), .int .u8 (B 4), .int .u8 (B 5), .int .u8 (B 6), .int .u8 (B 7), .int .u8 (B 8), .int .u8 (B 9), .int .u8 (B 10), .int .u8 (B 11), .int .u8 (B 12), .int .u8 (B 13), .int .u8 (B 14), .int .u8 (B 15)] 25) (.cells (List.replicate 16 (Value.int .u8 0)).toArray 23))
  have hxb : Below w.heap.size w x.world := Below.lat (Below.all (Below.all (Below.refl _ _) _) _)
  have hxs : w.heap.size + 1 < x.world.heap.size := by have := x.below.size; simp at this; omega
  refine wpList_copy_splice rfl (.tmp 6) (.tmp 8) 43 43 rfl 5 Tryd.underlying43 (by kernel_rfl) (some ⟨w.heap.size + 1, 0, none⟩) (some ⟨w.heap.size, 1, none⟩) 16 16 16 16 rfl rfl (w.heap.size + 1) 0
    (List.replicate 16 (.int .u8 0)) 23 hP0 (bytesL 16 B) (bytesL_len _ _) (fun _ => ⟨rfl, _, rfl, fun j v hv => ?_⟩) (by rw [bytesL_len]; decide) (bytesL_one _ _) (w.heap.size + 1) x.world (Below.refl _ _) (Nat.le_refl _) ?_
  · obtain ⟨hj, rfl⟩ := bytesL_get _ _ _ _ hv
    rw [Addr.add_lit]
    exact ad_cell (fun j => cell_of_row _ _ j _ _ (0, 0) hA0) j (by omega)
  intro w' hg hb
  have hA1 := (hb.block _ (by simp)).trans hA0
  have hP1 : w'.heap[w.heap.size + 1]? = some (.cells #[.int .u8 (B 0), .int .u8 (B 1), .int .u8 (B 2), .int .u8 (B 3), .int .u8 (B 4), .int .u8 (B 5), .int .u8 (B 6), .int .u8 (B 7), .int .u8 (B 8), .int .u8 (B 9), .int .u8 (B 10), .int .u8 (B 11), .int .u8 (B 12), .int .u8 (B 13), .int .u8 (B 14), .int .u8 (B 15)] 23 (0, 0)) := hg.out
  have hA : partOf w' w.heap.size 1 16 = #[.int .u8 (B 0), .int .u8 (B 1), .int .u8 (B 2), .int .u8 (B 3), .int .u8 (B 4), .int .u8 (B 5), .int .u8 (B 6), .int .u8 (B 7), .int .u8 (B 8), .int .u8 (B 9), .int .u8 (B 10), .int .u8 (B 11), .int .u8 (B 12), .int .u8 (B 13), .int .u8 (B 14), .int .u8 (B 15)] := by rw [partOf_row _ _ _ _ _ _ _ hA1]; simp
  have hP : partOf w' (w.heap.size + 1) 0 16 = #[.int .u8 (B 0), .int .u8 (B 1), .int .u8 (B 2), .int .u8 (B 3), .int .u8 (B 4), .int .u8 (B 5), .int .u8 (B 6), .int .u8 (B 7), .int .u8 (B 8), .int .u8 (B 9), .int .u8 (B 10), .int .u8 (B 11), .int .u8 (B 12), .int .u8 (B 13), .int .u8 (B 14), .int .u8 (B 15)] := by rw [partOf_row _ _ _ _ _ _ _ hP1]; simp
  have hB : Hid (Below w.heap.size w w') := Lib.hid (hxb.trans (hb.mono (by omega)))
  clear hA0 hP0 hg hxb hxs hsz hb hA1 hP1
  go_wp2_with fail
  go_ret
  exact .mk (val_bool ((eqL_iff _ _).2 rfl)) hB.out

theorem right_any (six : Bool) (B : Nat → Int) (w : World) : Calls Tryd.prog 17 #[adV six B] w (RetAt w (.bool (rightB six B))) := by
  cases six
  · exact right_four B w
  · exact right_six B w
end Go.Proofs.YtcadpcppnllhnaaDoor
