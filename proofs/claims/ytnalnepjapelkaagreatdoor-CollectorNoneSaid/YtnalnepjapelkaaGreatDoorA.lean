/- Walk over Verdict. -/
import Derived.Test.YtnalnepjapelkaaGreatDoorLater
namespace Go.Proofs.YtnalnepjapelkaaGreatDoor
open Go.RowKit

def isOld (e n me nx : Int) : Bool := decide (e < me ∨ (e = me ∧ n < nx))
def isNext (e n me nx : Int) : Bool := decide (e = me ∧ n = nx)
def isBoot (e n p me nx : Int) : Bool := decide (me < e ∧ (p < me ∨ (p = me ∧ n ≤ nx)))
def verdictN (e n p me nx : Int) : Int := if isOld e n me nx = true then 2 else if isNext e n me nx = true then 1 else if isBoot e n p me nx = true then 1 else 3

theorem dec_mk {p : Prop} [Decidable p] {b : Bool} (h : b = true ↔ p) : b = decide p := by rw [Bool.eq_iff_iff, h]; simp

set_option maxHeartbeats 400000 in
theorem rule1_any (e n p me nx : Int) (ob : Option Addr) (nb cb : Nat) (w : World) :
    Calls Tryz.prog 14 #[.agg #[.int .u32 e, .int .u64 n, .int .u32 p, .slice ob nb cb], .agg #[.int .u32 me, .int .u64 nx]] w (RetAt w (.bool (isOld e n me nx))) := by
  go_enter Tryz.func14, Tryz.ntmps14
  go_wp2
  all_goals go_ret
  all_goals refine .mk (val_bool (dec_mk ?_)) (by go_grown)
  all_goals simp
  all_goals omega
set_option maxHeartbeats 400000 in
theorem rule2_any (e n p me nx : Int) (ob : Option Addr) (nb cb : Nat) (w : World) :
    Calls Tryz.prog 15 #[.agg #[.int .u32 e, .int .u64 n, .int .u32 p, .slice ob nb cb], .agg #[.int .u32 me, .int .u64 nx]] w (RetAt w (.bool (isNext e n me nx))) := by
  go_enter Tryz.func15, Tryz.ntmps15
  go_wp2
  all_goals go_ret
  all_goals refine .mk (val_bool (dec_mk ?_)) (by go_grown)
  all_goals simp
  all_goals omega
set_option maxHeartbeats 400000 in
theorem rule3_any (e n p me nx : Int) (ob : Option Addr) (nb cb : Nat) (w : World) :
    Calls Tryz.prog 16 #[.agg #[.int .u32 e, .int .u64 n, .int .u32 p, .slice ob nb cb], .agg #[.int .u32 me, .int .u64 nx]] w (RetAt w (.bool (isBoot e n p me nx))) := by
  go_enter Tryz.func16, Tryz.ntmps16
  go_wp2
  all_goals go_ret
  all_goals refine .mk (val_bool (dec_mk ?_)) (by go_grown)
  all_goals simp
  all_goals omega

theorem row0 (w : World) : (Instr.index 58 (.agg #[.func (Fn.func 14) #[] #[], .int .i64 2, .func (Fn.func 15) #[] #[], .int .i64 1, .func (Fn.func 16) #[] #[], .int .i64 1]) (.int .i64 0)).run Tryz.prog w = .ok (.agg #[.func (Fn.func 14) #[] #[], .int .i64 2]) w := by kernel_rfl
theorem row1 (w : World) : (Instr.index 58 (.agg #[.func (Fn.func 14) #[] #[], .int .i64 2, .func (Fn.func 15) #[] #[], .int .i64 1, .func (Fn.func 16) #[] #[], .int .i64 1]) (.int .i64 1)).run Tryz.prog w = .ok (.agg #[.func (Fn.func 15) #[] #[], .int .i64 1]) w := by kernel_rfl
theorem row2 (w : World) : (Instr.index 58 (.agg #[.func (Fn.func 14) #[] #[], .int .i64 2, .func (Fn.func 15) #[] #[], .int .i64 1, .func (Fn.func 16) #[] #[], .int .i64 1]) (.int .i64 2)).run Tryz.prog w = .ok (.agg #[.func (Fn.func 16) #[] #[], .int .i64 1]) w := by kernel_rfl

set_option maxHeartbeats 1000000 in
theorem verdict1 (e n p me nx : Int) (ob : Option Addr) (nb cb : Nat) (w : World) (h1 : isOld e n me nx = true) :
    Calls Tryz.prog 10 #[.agg #[.int .u32 e, .int .u64 n, .int .u32 p, .slice ob nb cb], .agg #[.int .u32 me, .int .u64 nx]] w (RetAt w (.int .i64 2)) := by
  have r0 := row0
  have r1 := row1
  have r2 := row2
  go_enter Tryz.func10, Tryz.ntmps10
  go_wp2_with fail
  refine Code.fresh (fun w1 => Below w.heap.size w w1 ∧ w.heap.size < w1.heap.size ∧ w.heap.size + 1 < w1.heap.size ∧
    w1.cell? ⟨w.heap.size, 0, none⟩ = some (.int .u32 e) ∧ w1.cell? ⟨w.heap.size, 1, none⟩ = some (.int .u64 n) ∧ w1.cell? ⟨w.heap.size, 2, none⟩ = some (.int .u32 p) ∧ w1.cell? ⟨w.heap.size, 3, none⟩ = some (.slice ob nb cb) ∧
    w1.cell? ⟨w.heap.size + 1, 0, none⟩ = some (.int .u32 me) ∧ w1.cell? ⟨w.heap.size + 1, 1, none⟩ = some (.int .u64 nx)) ?_ ?_
  · refine ⟨?_, ?_, ?_, ?_, ?_, ?_, ?_, ?_, ?_⟩
    case refine_1 => go_grown
    all_goals first | go_cell | (simp; omega)
  rintro w1 ⟨hb, z0, z1, c0, c1, c2, c3, d0, d1⟩
  refine wp_loop_rounds 4 ?_
  rw [rounds_succ]
  go_wp2_with fail
  refine Calls.later (rule1_any _ _ _ _ _ _ _ _ _) ?_
  intro x0
  go_wp2_with fail
  go_ret
  refine .mk rfl ?_
  repeat' (first | (with_reducible assumption) | (with_reducible exact Below.refl _ _) | (with_reducible refine Below.lat ?_) | (with_reducible refine Below.all ?_ _) | (with_reducible refine Below.drew ?_))

set_option maxHeartbeats 1000000 in
theorem verdict2 (e n p me nx : Int) (ob : Option Addr) (nb cb : Nat) (w : World) (h1 : isOld e n me nx = false) (h2 : isNext e n me nx = true) :
    Calls Tryz.prog 10 #[.agg #[.int .u32 e, .int .u64 n, .int .u32 p, .slice ob nb cb], .agg #[.int .u32 me, .int .u64 nx]] w (RetAt w (.int .i64 1)) := by
  have r0 := row0
  have r1 := row1
  have r2 := row2
  go_enter Tryz.func10, Tryz.ntmps10
  go_wp2_with fail
  refine Code.fresh (fun w1 => Below w.heap.size w w1 ∧ w.heap.size < w1.heap.size ∧ w.heap.size + 1 < w1.heap.size ∧
    w1.cell? ⟨w.heap.size, 0, none⟩ = some (.int .u32 e) ∧ w1.cell? ⟨w.heap.size, 1, none⟩ = some (.int .u64 n) ∧ w1.cell? ⟨w.heap.size, 2, none⟩ = some (.int .u32 p) ∧ w1.cell? ⟨w.heap.size, 3, none⟩ = some (.slice ob nb cb) ∧
    w1.cell? ⟨w.heap.size + 1, 0, none⟩ = some (.int .u32 me) ∧ w1.cell? ⟨w.heap.size + 1, 1, none⟩ = some (.int .u64 nx)) ?_ ?_
  · refine ⟨?_, ?_, ?_, ?_, ?_, ?_, ?_, ?_, ?_⟩
    case refine_1 => go_grown
    all_goals first | go_cell | (simp; omega)
  rintro w1 ⟨hb, z0, z1, c0, c1, c2, c3, d0, d1⟩
  refine wp_loop_rounds 4 ?_
  rw [rounds_succ]
  go_wp2_with fail
  refine Calls.later0 (rule1_any _ _ _ _ _ _ _ _ _) ?_
  intro x0
  go_wp2_with fail
  rw [rounds_succ]
  go_wp2_with fail
  refine Calls.later (rule2_any _ _ _ _ _ _ _ _ _) ?_
  intro x1
  go_wp2_with fail
  go_ret
  refine .mk rfl ?_
  repeat' (first | (with_reducible assumption) | (with_reducible exact Below.refl _ _) | (with_reducible refine Below.lat ?_) | (with_reducible refine Below.all ?_ _) | (with_reducible refine Below.drew ?_))

set_option maxHeartbeats 1000000 in
theorem verdict3 (e n p me nx : Int) (ob : Option Addr) (nb cb : Nat) (w : World) (h1 : isOld e n me nx = false) (h2 : isNext e n me nx = false) (h3 : isBoot e n p me nx = true) :
    Calls Tryz.prog 10 #[.agg #[.int .u32 e, .int .u64 n, .int .u32 p, .slice ob nb cb], .agg #[.int .u32 me, .int .u64 nx]] w (RetAt w (.int .i64 1)) := by
  have r0 := row0
  have r1 := row1
  have r2 := row2
  go_enter Tryz.func10, Tryz.ntmps10
  go_wp2_with fail
  refine Code.fresh (fun w1 => Below w.heap.size w w1 ∧ w.heap.size < w1.heap.size ∧ w.heap.size + 1 < w1.heap.size ∧
    w1.cell? ⟨w.heap.size, 0, none⟩ = some (.int .u32 e) ∧ w1.cell? ⟨w.heap.size, 1, none⟩ = some (.int .u64 n) ∧ w1.cell? ⟨w.heap.size, 2, none⟩ = some (.int .u32 p) ∧ w1.cell? ⟨w.heap.size, 3, none⟩ = some (.slice ob nb cb) ∧
    w1.cell? ⟨w.heap.size + 1, 0, none⟩ = some (.int .u32 me) ∧ w1.cell? ⟨w.heap.size + 1, 1, none⟩ = some (.int .u64 nx)) ?_ ?_
  · refine ⟨?_, ?_, ?_, ?_, ?_, ?_, ?_, ?_, ?_⟩
    case refine_1 => go_grown
    all_goals first | go_cell | (simp; omega)
  rintro w1 ⟨hb, z0, z1, c0, c1, c2, c3, d0, d1⟩
  refine wp_loop_rounds 4 ?_
  rw [rounds_succ]
  go_wp2_with fail
  refine Calls.later0 (rule1_any _ _ _ _ _ _ _ _ _) ?_
  intro x0
  go_wp2_with fail
  rw [rounds_succ]
  go_wp2_with fail
  refine Calls.later2 (rule2_any _ _ _ _ _ _ _ _ _) ?_
  intro x1
  go_wp2_with fail
  rw [rounds_succ]
  go_wp2_with fail
  refine Calls.later (rule3_any _ _ _ _ _ _ _ _ _) ?_
  intro x2
  go_wp2_with fail
  go_ret
  refine .mk rfl ?_
  repeat' (first | (with_reducible assumption) | (with_reducible exact Below.refl _ _) | (with_reducible refine Below.lat ?_) | (with_reducible refine Below.all ?_ _) | (with_reducible refine Below.drew ?_))

set_option maxHeartbeats 1000000 in
theorem verdict4 (e n p me nx : Int) (ob : Option Addr) (nb cb : Nat) (w : World) (h1 : isOld e n me nx = false) (h2 : isNext e n me nx = false) (h3 : isBoot e n p me nx = false) :
    Calls Tryz.prog 10 #[.agg #[.int .u32 e, .int .u64 n, .int .u32 p, .slice ob nb cb], .agg #[.int .u32 me, .int .u64 nx]] w (RetAt w (.int .i64 3)) := by
  have r0 := row0
  have r1 := row1
  have r2 := row2
  go_enter Tryz.func10, Tryz.ntmps10
  go_wp2_with fail
  refine Code.fresh (fun w1 => Below w.heap.size w w1 ∧ w.heap.size < w1.heap.size ∧ w.heap.size + 1 < w1.heap.size ∧
    w1.cell? ⟨w.heap.size, 0, none⟩ = some (.int .u32 e) ∧ w1.cell? ⟨w.heap.size, 1, none⟩ = some (.int .u64 n) ∧ w1.cell? ⟨w.heap.size, 2, none⟩ = some (.int .u32 p) ∧ w1.cell? ⟨w.heap.size, 3, none⟩ = some (.slice ob nb cb) ∧
    w1.cell? ⟨w.heap.size + 1, 0, none⟩ = some (.int .u32 me) ∧ w1.cell? ⟨w.heap.size + 1, 1, none⟩ = some (.int .u64 nx)) ?_ ?_
  · refine ⟨?_, ?_, ?_, ?_, ?_, ?_, ?_, ?_, ?_⟩
    case refine_1 => go_grown
    all_goals first | go_cell | (simp; omega)
  rintro w1 ⟨hb, z0, z1, c0, c1, c2, c3, d0, d1⟩
  refine wp_loop_rounds 4 ?_
  rw [rounds_succ]
  go_wp2_with fail
  refine Calls.later0 (rule1_any _ _ _ _ _ _ _ _ _) ?_
  intro x0
  go_wp2_with fail
  rw [rounds_succ]
  go_wp2_with fail
  refine Calls.later2 (rule2_any _ _ _ _ _ _ _ _ _) ?_
  intro x1
  go_wp2_with fail
  rw [rounds_succ]
  go_wp2_with fail
  refine Calls.later2 (rule3_any _ _ _ _ _ _ _ _ _) ?_
  intro x2
  go_wp2_with fail
  rw [rounds_succ]
  go_wp2_with fail
  go_ret
  refine .mk rfl ?_
  repeat' (first | (with_reducible assumption) | (with_reducible exact Below.refl _ _) | (with_reducible refine Below.lat ?_) | (with_reducible refine Below.all ?_ _) | (with_reducible refine Below.drew ?_))

theorem verdict_any (e n p me nx : Int) (ob : Option Addr) (nb cb : Nat) (w : World) :
    Calls Tryz.prog 10 #[.agg #[.int .u32 e, .int .u64 n, .int .u32 p, .slice ob nb cb], .agg #[.int .u32 me, .int .u64 nx]] w (RetAt w (.int .i64 (verdictN e n p me nx))) := by
  unfold verdictN
  split
  · exact verdict1 e n p me nx ob nb cb w ‹_›
  · rename_i h1
    split
    · exact verdict2 e n p me nx ob nb cb w (by simpa using h1) ‹_›
    · rename_i h2
      split
      · exact verdict3 e n p me nx ob nb cb w (by simpa using h1) (by simpa using h2) ‹_›
      · rename_i h3
        exact verdict4 e n p me nx ob nb cb w (by simpa using h1) (by simpa using h2) (by simpa using h3)
end Go.Proofs.YtnalnepjapelkaaGreatDoor
