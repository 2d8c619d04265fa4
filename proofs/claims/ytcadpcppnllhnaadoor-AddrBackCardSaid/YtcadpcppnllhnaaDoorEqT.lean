/- Addresses and prefixes, compared. -/
import Derived.Test.YtcadpcppnllhnaaDoorAddrBox
set_option linter.unusedSimpArgs false
set_option linter.unusedVariables false
namespace Go.Proofs.YtcadpcppnllhnaaDoor
open Go.RowKit

set_option maxHeartbeats 4000000 in
theorem run_equalIn_ad (w : World) (d : Nat) (s t : Bool) (x0 x1 x2 x3 x4 x5 x6 x7 x8 x9 x10 x11 x12 x13 x14 x15 y0 y1 y2 y3 y4 y5 y6 y7 y8 y9 y10 y11 y12 y13 y14 y15 : Int) :
    (Op.equalIn (d + 3) 25 (.agg #[.bool s, .int .u8 x0, .int .u8 x1, .int .u8 x2, .int .u8 x3, .int .u8 x4, .int .u8 x5, .int .u8 x6, .int .u8 x7, .int .u8 x8, .int .u8 x9, .int .u8 x10, .int .u8 x11, .int .u8 x12, .int .u8 x13, .int .u8 x14, .int .u8 x15]) (.agg #[.bool t, .int .u8 y0, .int .u8 y1, .int .u8 y2, .int .u8 y3, .int .u8 y4, .int .u8 y5, .int .u8 y6, .int .u8 y7, .int .u8 y8, .int .u8 y9, .int .u8 y10, .int .u8 y11, .int .u8 y12, .int .u8 y13, .int .u8 y14, .int .u8 y15])).run Tryd.prog w = .ok (s == t && eqL [x0, x1, x2, x3, x4, x5, x6, x7, x8, x9, x10, x11, x12, x13, x14, x15] [y0, y1, y2, y3, y4, y5, y6, y7, y8, y9, y10, y11, y12, y13, y14, y15]) w := by
  simp [go_sem]
  generalize eqL _ _ = e
  by_cases h : s = t
  · subst h; cases e <;> simp
  · simp [h]
set_option maxHeartbeats 4000000 in
theorem run_equalIn_rad (w : World) (d : Nat) (s t : Bool) (x0 x1 x2 x3 x4 x5 x6 x7 x8 x9 x10 x11 x12 x13 x14 x15 y0 y1 y2 y3 y4 y5 y6 y7 y8 y9 y10 y11 y12 y13 y14 y15 : Int) :
    (Op.equalIn (d + 3) 29 (.agg #[.bool s, .int .u8 x0, .int .u8 x1, .int .u8 x2, .int .u8 x3, .int .u8 x4, .int .u8 x5, .int .u8 x6, .int .u8 x7, .int .u8 x8, .int .u8 x9, .int .u8 x10, .int .u8 x11, .int .u8 x12, .int .u8 x13, .int .u8 x14, .int .u8 x15]) (.agg #[.bool t, .int .u8 y0, .int .u8 y1, .int .u8 y2, .int .u8 y3, .int .u8 y4, .int .u8 y5, .int .u8 y6, .int .u8 y7, .int .u8 y8, .int .u8 y9, .int .u8 y10, .int .u8 y11, .int .u8 y12, .int .u8 y13, .int .u8 y14, .int .u8 y15])).run Tryd.prog w = .ok (s == t && eqL [x0, x1, x2, x3, x4, x5, x6, x7, x8, x9, x10, x11, x12, x13, x14, x15] [y0, y1, y2, y3, y4, y5, y6, y7, y8, y9, y10, y11, y12, y13, y14, y15]) w := by
  simp [go_sem]
  generalize eqL _ _ = e
  by_cases h : s = t
  · subst h; cases e <;> simp
  · simp [h]
set_option maxHeartbeats 4000000 in
theorem run_equalIn_pf (w : World) (d : Nat) (s t : Bool) (x0 x1 x2 x3 x4 x5 x6 x7 x8 x9 x10 x11 x12 x13 x14 x15 y0 y1 y2 y3 y4 y5 y6 y7 y8 y9 y10 y11 y12 y13 y14 y15 n m : Int) :
    (Op.equalIn (d + 4) 33 (.agg #[.bool s, .int .u8 x0, .int .u8 x1, .int .u8 x2, .int .u8 x3, .int .u8 x4, .int .u8 x5, .int .u8 x6, .int .u8 x7, .int .u8 x8, .int .u8 x9, .int .u8 x10, .int .u8 x11, .int .u8 x12, .int .u8 x13, .int .u8 x14, .int .u8 x15, .int .i64 n]) (.agg #[.bool t, .int .u8 y0, .int .u8 y1, .int .u8 y2, .int .u8 y3, .int .u8 y4, .int .u8 y5, .int .u8 y6, .int .u8 y7, .int .u8 y8, .int .u8 y9, .int .u8 y10, .int .u8 y11, .int .u8 y12, .int .u8 y13, .int .u8 y14, .int .u8 y15, .int .i64 m])).run Tryd.prog w = .ok ((s == t && eqL [x0, x1, x2, x3, x4, x5, x6, x7, x8, x9, x10, x11, x12, x13, x14, x15] [y0, y1, y2, y3, y4, y5, y6, y7, y8, y9, y10, y11, y12, y13, y14, y15]) && n == m) w := by
  simp [go_sem]
  generalize eqL _ _ = e
  by_cases h : s = t
  · subst h; cases e <;> by_cases hn : n = m <;> simp [hn]
  · simp [h]
set_option maxHeartbeats 4000000 in
theorem run_equalIn_rpf (w : World) (d : Nat) (s t : Bool) (x0 x1 x2 x3 x4 x5 x6 x7 x8 x9 x10 x11 x12 x13 x14 x15 y0 y1 y2 y3 y4 y5 y6 y7 y8 y9 y10 y11 y12 y13 y14 y15 n m : Int) :
    (Op.equalIn (d + 4) 37 (.agg #[.bool s, .int .u8 x0, .int .u8 x1, .int .u8 x2, .int .u8 x3, .int .u8 x4, .int .u8 x5, .int .u8 x6, .int .u8 x7, .int .u8 x8, .int .u8 x9, .int .u8 x10, .int .u8 x11, .int .u8 x12, .int .u8 x13, .int .u8 x14, .int .u8 x15, .int .i64 n]) (.agg #[.bool t, .int .u8 y0, .int .u8 y1, .int .u8 y2, .int .u8 y3, .int .u8 y4, .int .u8 y5, .int .u8 y6, .int .u8 y7, .int .u8 y8, .int .u8 y9, .int .u8 y10, .int .u8 y11, .int .u8 y12, .int .u8 y13, .int .u8 y14, .int .u8 y15, .int .i64 m])).run Tryd.prog w = .ok ((s == t && eqL [x0, x1, x2, x3, x4, x5, x6, x7, x8, x9, x10, x11, x12, x13, x14, x15] [y0, y1, y2, y3, y4, y5, y6, y7, y8, y9, y10, y11, y12, y13, y14, y15]) && n == m) w := by
  simp [go_sem]
  generalize eqL _ _ = e
  by_cases h : s = t
  · subst h; cases e <;> by_cases hn : n = m <;> simp [hn]
  · simp [h]
theorem run_eqGuard_ad (w : World) (op : BinOp) (x y : Operand) (xs ys : Array Value) : (eqGuard op 25 x y (.agg xs) (.agg ys)).run Tryd.prog w = .ok () w := run_eqGuard_agg w op _ x y xs ys (by kernel_rfl)
theorem run_eqGuard_rad (w : World) (op : BinOp) (x y : Operand) (xs ys : Array Value) : (eqGuard op 29 x y (.agg xs) (.agg ys)).run Tryd.prog w = .ok () w := run_eqGuard_agg w op _ x y xs ys (by kernel_rfl)
theorem run_eqGuard_pf (w : World) (op : BinOp) (x y : Operand) (xs ys : Array Value) : (eqGuard op 33 x y (.agg xs) (.agg ys)).run Tryd.prog w = .ok () w := run_eqGuard_agg w op _ x y xs ys (by kernel_rfl)
theorem run_eqGuard_rpf (w : World) (op : BinOp) (x y : Operand) (xs ys : Array Value) : (eqGuard op 37 x y (.agg xs) (.agg ys)).run Tryd.prog w = .ok () w := run_eqGuard_agg w op _ x y xs ys (by kernel_rfl)
theorem run_eqGuard_arr (w : World) (op : BinOp) (x y : Operand) (xs ys : Array Value) : (eqGuard op 23 x y (.agg xs) (.agg ys)).run Tryd.prog w = .ok () w := run_eqGuard_agg w op _ x y xs ys (by kernel_rfl)
attribute [go_sem] run_eqGuard_ad run_eqGuard_rad run_eqGuard_pf run_eqGuard_rpf run_eqGuard_arr
attribute [go_sem 5000] run_equalIn_ad run_equalIn_rad run_equalIn_pf run_equalIn_rpf
end Go.Proofs.YtcadpcppnllhnaaDoor
