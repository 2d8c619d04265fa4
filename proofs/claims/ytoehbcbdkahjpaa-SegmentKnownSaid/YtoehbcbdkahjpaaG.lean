/- Walks over works, and the two laws that tell. -/
import Derived.Test.YtoehbcbdkahjpaaF
namespace Go.Proofs.Ytoehbcbdkahjpaa
open Go.RowKit

theorem Calls.row1a {P : Program} {f : FuncId} {args : Array Value} {w0 : World} {x : Later w0} {a : Int} {R : Ending → World → Prop}
    (h : Calls P f args x.world (NewRow x.world [a])) (k : ∀ y : Later w0, R (.returned (.slice (some ⟨y.world.heap.size, 0, none⟩) 1 1)) (y.world.alloc (.cells #[.int .u64 a] 24))) : Calls P f args x.world R :=
  h.mono fun _ w' ⟨y, he, hw⟩ => by subst he; subst hw; exact k ⟨y.world, x.below.trans (y.below.mono x.below.size)⟩
theorem Calls.row1b {P : Program} {f : FuncId} {args : Array Value} {w0 : World} {x : Later w0} {a b : Int} {R : Ending → World → Prop}
    (h : Calls P f args x.world (NewRow x.world [a, b])) (k : ∀ y : Later w0, R (.returned (.slice (some ⟨y.world.heap.size, 0, none⟩) 2 2)) (y.world.alloc (.cells #[.int .u64 a, .int .u64 b] 24))) : Calls P f args x.world R :=
  h.mono fun _ w' ⟨y, he, hw⟩ => by subst he; subst hw; exact k ⟨y.world, x.below.trans (y.below.mono x.below.size)⟩
theorem Calls.row2a {P : Program} {f : FuncId} {args : Array Value} {w0 : World} {a : Int} {R : Ending → World → Prop}
    (h : Calls P f args w0 (NewRow w0 [a])) (k : ∀ y : Later w0, R (.returned (.slice (some ⟨y.world.heap.size, 0, none⟩) 1 1)) (y.world.alloc (.cells #[.int .u64 a] 24))) : Calls P f args w0 R :=
  h.mono fun _ w' ⟨y, he, hw⟩ => by subst he; subst hw; exact k y
theorem Calls.row2b {P : Program} {f : FuncId} {args : Array Value} {w0 : World} {a b : Int} {R : Ending → World → Prop}
    (h : Calls P f args w0 (NewRow w0 [a, b])) (k : ∀ y : Later w0, R (.returned (.slice (some ⟨y.world.heap.size, 0, none⟩) 2 2)) (y.world.alloc (.cells #[.int .u64 a, .int .u64 b] 24))) : Calls P f args w0 R :=
  h.mono fun _ w' ⟨y, he, hw⟩ => by subst he; subst hw; exact k y
theorem v1 : segN 2 3 4 13 = 0 := by decide +kernel
theorem v2 : atN 2 3 4 13 = 1 := by decide +kernel
theorem v3 : startV 2 3 4 6 2 = 6 := by decide +kernel
theorem v4 : startB 2 3 4 6 2 = true := by decide +kernel
theorem v5 : startV 2 3 4 7 2 = 8 := by decide +kernel
theorem v6 : startB 2 3 4 7 2 = true := by decide +kernel
theorem v7 : startB 2 3 4 7 5 = false := by decide +kernel
theorem v8 : fitsV 2 3 4 3 13 2 = 13 := by decide +kernel
theorem v9 : fitsB 2 3 4 3 13 2 = true := by decide +kernel
theorem v10 : fitsB 2 3 4 3 14 2 = false := by decide +kernel
theorem v11 : blocksN 2 3 4 = 12 := by decide +kernel
theorem v12 : placeN 2 3 4 0 = 2 := by decide +kernel
theorem v13 : placeN 2 3 4 13 = 3 := by decide +kernel
theorem v14 : roomN 2 3 4 3 14 = 1 := by decide +kernel
theorem v15 : nextN 2 3 4 6 = 8 := by decide +kernel
theorem v16 : atN 2 3 4 6 = 2 := by decide +kernel
theorem v17 : atN 2 3 4 8 = 0 := by decide +kernel
theorem v18 : mayB 2 3 4 6 = true := by decide +kernel
theorem v19 : mayB 2 3 4 8 = true := by decide +kernel

set_option maxRecDepth 100000 in
set_option maxHeartbeats 1000000 in
theorem works_any (w : World) : Calls Try.prog 21 #[] w (RetAt w (.bool true)) := by
  have v1 := v1
  have v2 := v2
  have v3 := v3
  have v4 := v4
  have v5 := v5
  have v6 := v6
  have v7 := v7
  have v8 := v8
  have v9 := v9
  have v10 := v10
  have v11 := v11
  have v12 := v12
  have v13 := v13
  have v14 := v14
  have v15 := v15
  go_enter Try.func21, Try.ntmps21
  go_wp2_with (first
    | (go_at_call 8; refine Calls.later (segment_any _ _ _ _ _ (by decide)) ?_; intro x)
    | (go_at_call 10; refine Calls.later1 (start_any _ _ _ _ _ _ (by decide)) ?_; intro x)
    | (go_at_call 22; refine Calls.later1 (fits_any _ _ _ _ _ _ _ (by decide) (by decide)) ?_; intro x)
    | (go_at_call 17; refine Calls.later1 (blocks_any _ _ _ _) ?_; intro x)
    | (go_at_call 19; refine Calls.later1 (place_any _ _ _ _ _ (by decide)) ?_; intro x)
    | (go_at_call 24; refine Calls.later1 (room_any _ _ _ _ _ _ (by decide) (by decide)) ?_; intro x))
  refine Calls.row1b (starts_two 2 3 4 6 _ (by decide) v18 (by rw [v16]; decide)) ?_
  rw [v15]
  intro y
  go_wp2_with fail
  refine Calls.later3 (same_two 6 8 _ _ _ (by go_cell) (by go_cell) (by go_cell) (by go_cell) (by simp; omega) (by simp)) ?_
  intro y
  go_wp2_with fail
  refine Calls.row1a (starts_one 2 3 4 8 _ (by decide) v19 v17) ?_
  intro y
  go_wp2_with fail
  refine Calls.later3 (same_one 8 _ _ _ (by go_cell) (by go_cell) (by simp; omega) (by simp)) ?_
  intro y
  go_wp2_with fail
  go_ret
  refine .mk rfl ?_
  repeat' (first | (refine Later.to _ ?_ ?_) | go_grown | (simp [go_sem]; done))
end Go.Proofs.Ytoehbcbdkahjpaa
