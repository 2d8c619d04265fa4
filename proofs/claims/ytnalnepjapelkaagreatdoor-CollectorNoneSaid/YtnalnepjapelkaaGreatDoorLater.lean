/- Worlds that come later: whatever was there is as it was. A region that draws its order, whose calls make memory of their own alone, is walked once. -/
import Derived.Test.YtnalnepjapelkaaGreatDoorRows
import Derived.WalkKit
import Derived.WalkSpells
import Derived.WalkLawsBesides
import Derived.Handy
import Derived.Deep.QuietTactic
import Derived.BigQuiet
import Derived.Laws.EntriesVeiled
import Derived.Lib.Hide
set_option linter.unusedSimpArgs false
set_option linter.unusedVariables false
namespace Go.Proofs.YtnalnepjapelkaaGreatDoor
open Go.RowKit


/-! Sums of ones, as the walk writes block numbers. -/
theorem up_lt2 (w : World) : (w.heap.size < w.heap.size + 1 + 1) = True := eq_true (by omega)
theorem up_lt3 (w : World) : (w.heap.size < w.heap.size + 1 + 1 + 1) = True := eq_true (by omega)
theorem up_lt4 (w : World) : (w.heap.size < w.heap.size + 1 + 1 + 1 + 1) = True := eq_true (by omega)
theorem up_lt5 (w : World) : (w.heap.size < w.heap.size + 1 + 1 + 1 + 1 + 1) = True := eq_true (by omega)
theorem up_lt6 (w : World) : (w.heap.size < w.heap.size + 1 + 1 + 1 + 1 + 1 + 1) = True := eq_true (by omega)
theorem up_lt7 (w : World) : (w.heap.size < w.heap.size + 1 + 1 + 1 + 1 + 1 + 1 + 1) = True := eq_true (by omega)
attribute [go_sem] up_lt2 up_lt3 up_lt4 up_lt5 up_lt6 up_lt7

/-- A world behind 'w': all blocks of 'w' are as they were. -/
structure Later (w : World) where
  world : World
  below : Below w.heap.size w world
instance (w : World) : Nonempty (Later w) := ⟨⟨w, Below.refl _ _⟩⟩

theorem Later.cell {w : World} (x : Later w) (b o : Nat) (h : b < w.heap.size) : x.world.cell? ⟨b, o, none⟩ = w.cell? ⟨b, o, none⟩ := x.below.cell (p := ⟨b, o, none⟩) h
theorem Later.frozen {w : World} (x : Later w) (b o : Nat) (h : b < w.heap.size) : x.world.frozen? ⟨b, o, none⟩ = w.frozen? ⟨b, o, none⟩ := x.below.frozen (p := ⟨b, o, none⟩) h
theorem Later.lt {w : World} (x : Later w) (k : Nat) (h : k < w.heap.size) : (k < x.world.heap.size) = True := eq_true (Nat.lt_of_lt_of_le h x.below.size)
theorem Later.le {w : World} (x : Later w) (k : Nat) (h : k ≤ w.heap.size) : (k ≤ x.world.heap.size) = True := eq_true (Nat.le_trans h x.below.size)
theorem Later.lt_succ {w : World} (x : Later w) (k n : Nat) (h : k < w.heap.size) : (k < x.world.heap.size + n) = True := eq_true (by have := x.below.size; omega)
theorem Later.le_succ {w : World} (x : Later w) (k n : Nat) (h : k ≤ w.heap.size) : (k ≤ x.world.heap.size + n) = True := eq_true (by have := x.below.size; omega)
theorem Later.ne {w : World} (x : Later w) (k : Nat) (h : k < w.heap.size) : (k = x.world.heap.size) = False := eq_false (by have := x.below.size; omega)
theorem Later.ne_succ {w : World} (x : Later w) (k n : Nat) (h : k < w.heap.size) : (k = x.world.heap.size + n) = False := eq_false (by have := x.below.size; omega)
attribute [go_sem] Later.cell Later.frozen Later.lt Later.le Later.lt_succ Later.le_succ Later.ne Later.ne_succ

/-- A call that returns 'v', and has made memory of its own alone. -/
def RetAt (w : World) (v : Value) : Ending → World → Prop := fun e w' => e = .returned v ∧ Below w.heap.size w w'
theorem RetAt.mk {w w' : World} {v u : Value} (h : u = v) (hb : Below w.heap.size w w') : RetAt w v (.returned u) w' := ⟨by rw [h], hb⟩

theorem Calls.later {P : Program} {f : FuncId} {args : Array Value} {w : World} {v : Value} {R : Ending → World → Prop}
    (h : Calls P f args w (RetAt w v)) (k : ∀ x : Later w, R (.returned v) x.world) : Calls P f args w R :=
  h.mono fun _ w' ⟨he, hb⟩ => by subst he; exact k ⟨w', hb⟩

/-- The call is made in a world behind 'w0': what comes is again a world behind 'w0'. -/
theorem Calls.later1 {P : Program} {f : FuncId} {args : Array Value} {w0 : World} {x : Later w0} {v : Value} {R : Ending → World → Prop}
    (h : Calls P f args x.world (RetAt x.world v)) (k : ∀ y : Later w0, R (.returned v) y.world) : Calls P f args x.world R :=
  h.mono fun _ w' ⟨he, hb⟩ => by subst he; exact k ⟨w', x.below.trans (hb.mono x.below.size)⟩

/-- .. or behind it and one block, of which nothing is asked any more. -/
theorem Calls.later2 {P : Program} {f : FuncId} {args : Array Value} {w0 : World} {x : Later w0} {o : Obj} {v : Value} {R : Ending → World → Prop}
    (h : Calls P f args (x.world.alloc o) (RetAt (x.world.alloc o) v)) (k : ∀ y : Later w0, R (.returned v) y.world) : Calls P f args (x.world.alloc o) R :=
  h.mono fun _ w' ⟨he, hb⟩ => by subst he; exact k ⟨w', (x.below.alloc x.below.size o).trans (hb.mono (by have := x.below.size; simp; omega))⟩

theorem Calls.later3 {P : Program} {f : FuncId} {args : Array Value} {w0 : World} {x : Later w0} {o o' : Obj} {v : Value} {R : Ending → World → Prop}
    (h : Calls P f args ((x.world.alloc o).alloc o') (RetAt ((x.world.alloc o).alloc o') v)) (k : ∀ y : Later w0, R (.returned v) y.world) : Calls P f args ((x.world.alloc o).alloc o') R :=
  h.mono fun _ w' ⟨he, hb⟩ => by subst he; exact k ⟨w', ((x.below.alloc x.below.size o).alloc (by have := x.below.size; simp; omega) o').trans (hb.mono (by have := x.below.size; simp; omega))⟩


/-- A call, in a world of which just so much is known. -/
theorem Calls.fresh {P : Program} {f : FuncId} {args : Array Value} {w : World} {R : Ending → World → Prop} (F : World → Prop) (h : F w) (k : ∀ w1, F w1 → Calls P f args w1 R) : Calls P f args w R := k w h
/-- .. and likewise code. -/
theorem Code.fresh {P : Program} {c : Code} {Q : Exit → Act → World → Prop} {a : Act} {w : World} (F : World → Prop) (h : F w) (k : ∀ w1, F w1 → c.wp P Q a w1) : c.wp P Q a w := k w h

theorem val_bool {a b : Bool} (h : a = b) : Value.bool a = .bool b := by rw [h]
theorem val_int {k : IntKind} {a b : Int} (h : a = b) : Value.int k a = .int k b := by rw [h]
theorem val_pair {u u' v v' : Value} (h : u = v) (h' : u' = v') : Value.tuple #[u, u'] = .tuple #[v, v'] := by rw [h, h']
theorem val_tri {u u' u'' v v' v'' : Value} (h : u = v) (h' : u' = v') (h'' : u'' = v'') : Value.tuple #[u, u', u''] = .tuple #[v, v', v''] := by rw [h, h', h'']

theorem Later.to {B : Nat} {w0 w : World} (x : Later w) (h : Below B w0 w) (hB : B ≤ w.heap.size) : Below B w0 x.world := h.trans (x.below.mono hB)

/-- .. a call in a world and one block more, of which nothing is asked any more. -/
theorem Calls.later0 {P : Program} {f : FuncId} {args : Array Value} {w0 : World} {o : Obj} {v : Value} {R : Ending → World → Prop}
    (h : Calls P f args (w0.alloc o) (RetAt (w0.alloc o) v)) (k : ∀ y : Later w0, R (.returned v) y.world) : Calls P f args (w0.alloc o) R :=
  h.mono fun _ w' ⟨he, hb⟩ => by subst he; exact k ⟨w', ((Below.refl _ _).alloc (Nat.le_refl _) o).trans (hb.mono (by simp))⟩

theorem Below.lat {w w0 : World} {x : Later w0} (h : Below w.heap.size w w0) : Below w.heap.size w x.world := h.trans (x.below.mono h.size)
theorem Below.all {w w0 : World} (h : Below w.heap.size w w0) (o : Obj) : Below w.heap.size w (w0.alloc o) := h.alloc h.size o
theorem Below.via {w w0 w' : World} (h : Below w.heap.size w w0) (h' : Below w0.heap.size w0 w') : Below w.heap.size w w' := h.trans (h'.mono h.size)

theorem later_call {P : Program} {f : FuncId} {args : Array Value} {w : World} {x : Later w} {v : Value}
    (h : Calls P f args x.world (RetAt x.world v)) : Calls P f args x.world fun e w'' => e = .returned v ∧ ∃ y : Later w, w'' = y.world :=
  h.mono fun _ w' ⟨he, hb⟩ => ⟨he, ⟨w', x.below.trans (hb.mono x.below.size)⟩, rfl⟩

theorem wp_region_later {P : Program} {id : Nat} {Q : Exit → Act → World → Prop} {a : Act} {w : World} {l : List Oper} (hm : P.follows .mixedOrders = true) (hB : Region.lexB .any l.toArray = true)
    (h : wpQuiet P l.toArray (fun w' => ∃ x : Later w, w' = x.world) (fun a' => ∀ x : Later w, Q .normal a' x.world) l a) : (Code.region id l.toArray true).wp P Q a w := by
  refine wp_region_quiet (C := fun w' => ∃ x : Later w, w' = x.world) hm hB ⟨⟨_, (Below.refl _ _).drew⟩, rfl⟩ ?_
  have : (fun a' => ∀ x : Later w, Q .normal a' x.world) = (fun a' => ∀ w', (∃ x : Later w, w' = x.world) → Q .normal a' w') := by
    funext a'; exact propext ⟨fun h w' ⟨x, hx⟩ => hx ▸ h x, fun h x => h _ ⟨x, rfl⟩⟩
  rw [← this]
  simpa using h

theorem wp_region_later1 {P : Program} {id : Nat} {Q : Exit → Act → World → Prop} {a : Act} {w : World} {x : Later w} {l : List Oper} (hm : P.follows .mixedOrders = true) (hB : Region.lexB .any l.toArray = true)
    (h : wpQuiet P l.toArray (fun w' => ∃ x : Later w, w' = x.world) (fun a' => ∀ x : Later w, Q .normal a' x.world) l a) : (Code.region id l.toArray true).wp P Q a x.world := by
  refine wp_region_quiet (C := fun w' => ∃ x : Later w, w' = x.world) hm hB ⟨⟨_, x.below.drew⟩, rfl⟩ ?_
  have : (fun a' => ∀ x : Later w, Q .normal a' x.world) = (fun a' => ∀ w', (∃ x : Later w, w' = x.world) → Q .normal a' w') := by
    funext a'; exact propext ⟨fun h w' ⟨x, hx⟩ => hx ▸ h x, fun h x => h _ ⟨x, rfl⟩⟩
  rw [← this]
  simpa using h
end Go.Proofs.YtnalnepjapelkaaGreatDoor
