/- The entry that the document has. -/
import Derived.Test.YtoegehlefdpghaaI
set_option linter.unusedSimpArgs false
set_option linter.unusedVariables false
namespace Go.Proofs.Ytoegehlefdpghaa
open Go.RowKit
/-- A call that returns an entry with a row of its own. -/
def NewEntry (w : World) (e n p : Int) (l : List Int) : Ending → World → Prop := fun en w' =>
  ∃ oa cap, en = .returned (.agg #[.int .u32 e, .int .u64 n, .int .u32 p, .slice oa l.length cap]) ∧ Owns w' w.heap.size 1 oa l.length cap (l.map (.int .u8)) ∧ Below w.heap.size w w'
set_option maxHeartbeats 8000000 in
attribute [local go_sem ↓] Go.wp_at_zero Go.wp_at_succ in
theorem docsentry_any (e n p : Int) (A : Option Addr) (m c : Nat) (l : List Int) (w : World) (hr : Reads w A m c l) (hm : m ≤ 1000000) :
    Calls Try.prog 5 #[.agg #[.int .u32 e, .int .u64 n, .int .u32 p, .slice A m c]] w (NewEntry w e n p l) := by
  have HR := Lib.hid hr
  clear hr
  go_enter Try.func5, Try.ntmps5
  go_wp2_with fail
  refine Code.fresh (fun w1 => Below w.heap.size w w1 ∧ w.heap.size + 1 < w1.heap.size ∧
    w1.cell? ⟨w.heap.size, 0, none⟩ = some (.int .u32 e) ∧ w1.cell? ⟨w.heap.size, 1, none⟩ = some (.int .u64 n) ∧ w1.cell? ⟨w.heap.size, 2, none⟩ = some (.int .u32 p) ∧ w1.cell? ⟨w.heap.size, 3, none⟩ = some (.slice A m c) ∧
    w1.cell? ⟨w.heap.size + 1, 0, none⟩ = some (.int .u32 0) ∧ w1.cell? ⟨w.heap.size + 1, 1, none⟩ = some (.int .u64 0) ∧ w1.cell? ⟨w.heap.size + 1, 2, none⟩ = some (.int .u32 0) ∧ w1.cell? ⟨w.heap.size + 1, 3, none⟩ = some (.slice none 0 0) ∧ (∀ j, w1.frozen? ⟨w.heap.size + 1, j, none⟩ = false)) ?_ ?_
  · refine ⟨?_, ?_, ?_, ?_, ?_, ?_, ?_, ?_, ?_, ?_, ?_⟩
    case refine_1 => go_grown
    all_goals first | go_cell | (intro j; go_cell) | (simp; omega)
  rintro w1 ⟨hb1, hs1, c0, c1, c2, c3, t0, t1, t2, t3, tf⟩
  have HB1 := Lib.hid hb1
  have HR1 := Lib.hid (HR.out.below hb1).drew
  have HT := Lib.hid (And.intro t0 (And.intro t1 (And.intro t2 (And.intro t3 tf))))
  have HS1 : w.heap.size < w1.heap.size := by omega
  have d0 : w1.drew.cell? ⟨w.heap.size, 0, none⟩ = some (.int .u32 e) := c0
  have d1 : w1.drew.cell? ⟨w.heap.size, 1, none⟩ = some (.int .u64 n) := c1
  have d2 : w1.drew.cell? ⟨w.heap.size, 2, none⟩ = some (.int .u32 p) := c2
  have d3 : w1.drew.cell? ⟨w.heap.size, 3, none⟩ = some (.slice A m c) := c3
  clear t0 t1 t2 t3 tf hb1
  generalize hQ : Exit.then _ (bodyPost _ _ _) = Q
  have HQ := Lib.hid hQ
  clear hQ
  go_region_held3 (fun w' => w'.cell? ⟨w.heap.size, 0, none⟩ = some (.int .u32 e) ∧ w'.cell? ⟨w.heap.size, 1, none⟩ = some (.int .u64 n) ∧ w'.cell? ⟨w.heap.size, 2, none⟩ = some (.int .u32 p) ∧ w'.cell? ⟨w.heap.size, 3, none⟩ = some (.slice A m c))
    (first | (with_reducible exact ⟨d0, d1, d2, d3⟩) | exact ⟨e0, e1, e2, e3⟩ | go_keep)
    ((go_at_call 20; refine Calls.mono (own_any A m c l _ HR1.out hm) ?_; rintro en w2 ⟨oa, cap, rfl, ho, hb2⟩; have t0 := (hb2.cell (p := ⟨_, _, none⟩) hs1).trans HT.out.1; have t1 := (hb2.cell (p := ⟨_, _, none⟩) hs1).trans HT.out.2.1; have t2 := (hb2.cell (p := ⟨_, _, none⟩) hs1).trans HT.out.2.2.1; have t3 := (hb2.cell (p := ⟨_, _, none⟩) hs1).trans HT.out.2.2.2.1; have tf := fun j => (hb2.frozen (p := ⟨_, j, none⟩) hs1).trans (HT.out.2.2.2.2 j); have e0 := (hb2.cell (p := ⟨_, _, none⟩) HS1).trans d0; have e1 := (hb2.cell (p := ⟨_, _, none⟩) HS1).trans d1; have e2 := (hb2.cell (p := ⟨_, _, none⟩) HS1).trans d2; have e3 := (hb2.cell (p := ⟨_, _, none⟩) HS1).trans d3))
  rw [← HQ.out]
  have hs2 : w.heap.size + 1 < w2.heap.size := Nat.lt_of_lt_of_le hs1 hb2.size
  go_wp2_with fail
  have hlo : w1.heap.size ≤ w1.drew.heap.size := Nat.le_refl _
  have ne : ∀ a, oa = some a → a.block ≠ w.heap.size + 1 := fun a ha => by have := (ho.lt ha).1; omega
  have hbb : Below w.heap.size w w2 := HB1.out.drew.trans (hb2.mono (by omega))
  refine bodyPost_ret (v := .agg #[.int .u32 e, .int .u64 n, .int .u32 p, .slice oa l.length cap]) (by simp [results, Try.results5, go_sem, t0, t1, t2, t3]) rfl ⟨oa, cap, rfl, ?_, ?_⟩
  · exact ((((ho.other ne _).other ne _).other ne _).other ne _).mono (by omega)
  · exact (((hbb.setCell (by simp) _).setCell (by simp) _).setCell (by simp) _).setCell (by simp) _

set_option maxHeartbeats 400000 in
theorem same14_any (e n p : Int) (A : Option Addr) (m c : Nat) (A2 : Option Addr) (m2 c2 : Nat) (l : List Int) (w : World) (hr : Reads w A m c l) (hr2 : Reads w A2 m2 c2 l) :
    Calls Try.prog 14 #[.agg #[.int .u32 e, .int .u64 n, .int .u32 p, .slice A m c], .agg #[.int .u32 e, .int .u64 n, .int .u32 p, .slice A2 m2 c2]] w (RetAt w (.bool true)) := by
  have HR := Lib.hid hr
  have HR2 := Lib.hid hr2
  clear hr hr2
  go_enter Try.func14, Try.ntmps14
  go_wp2_with (go_at_call 13; refine Calls.later (same_any _ _ _ _ _ _ l _ ((HR.out.alloc _).alloc _) ((HR2.out.alloc _).alloc _)) ?_; intro x)
  go_ret
  exact .mk rfl (by repeat' (first | (with_reducible assumption) | (with_reducible exact Below.refl _ _) | (with_reducible refine Below.lat ?_) | (with_reducible refine Below.all ?_ _) | (with_reducible refine Below.drew ?_)))

/-- What is overwritten: a row of one's own; nothing else. -/
def SpoilPost (w : World) (oa : Option Addr) : Ending → World → Prop := fun e w' => e = .returned (.tuple #[]) ∧ w.grownBy w' (oa.map Addr.block) ∧ w'.heap.size = w.heap.size

set_option maxHeartbeats 400000 in
theorem spoil_any (oa : Option Addr) (n cap base : Nat) (xs : List Value) (w : World) (ho : Owns w base 1 oa n cap xs) (hn : n ≤ 1000000) : Calls Try.prog 17 #[.slice oa n cap] w (SpoilPost w oa) := by
  have HO := Lib.hid ho
  clear ho
  go_enter Try.func17, Try.ntmps17
  go_wp2_with fail
  go_loopw [2] (fun u2 wr => ∃ k : Nat, k ≤ n ∧ u2 = .int .i64 k ∧ Hid (∃ ys, Owns wr base 1 oa n cap ys) ∧ Hid (w.grownBy wr (oa.map Addr.block)) ∧ Hid (wr.heap.size = w.heap.size)) (fun u2 _ => (n : Int) - intOf u2 |>.toNat)
  case atStart => exact ⟨0, Nat.zero_le _, rfl, Lib.hid ⟨xs, HO.out⟩, Lib.hid (World.grownBy_refl _ _), Lib.hid rfl⟩
  case round =>
    obtain ⟨k, hk, rfl, HY, HG, HS⟩ := hrel
    by_cases hlt : k < n
    · obtain ⟨ys, hy⟩ := HY.out
      obtain ⟨g, off, rfl, hb, hg, hc, ht⟩ := hy.here (by omega)
      have hle := hy.le
      obtain ⟨h1, h2⟩ := ht k (by omega)
      obtain ⟨u, hu⟩ := Option.isSome_iff_exists.1 h1
      have HY2 := Lib.hid (hy.set k (by omega) (.int .u8 165))
      have HG2 := Lib.hid (World.grownBy.trans HG.out (World.grownBy_setCell wr ⟨g, off + k, none⟩ (.int .u8 165)))
      clear hc ht h1 hy HY
      go_wp2_with fail
      go_roundw
      case rel => exact ⟨k + 1, by omega, by go_num, Lib.hid ⟨_, HY2.out⟩, HG2, Lib.hid (by simpa using HS.out)⟩
      case measure => simp [intOf]; omega
    · go_wp2_with fail
      go_end0
      exact ⟨rfl, HG.out, HS.out⟩
end Go.Proofs.Ytoegehlefdpghaa
