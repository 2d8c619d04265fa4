/- Walks over texts: strconv.FormatUint at base 16. -/
import Derived.Test.YtcadpcppnllhnaaDoorAddrBox
import Derived.Laws.BitsAllLaws
set_option linter.unusedSimpArgs false
set_option linter.unusedVariables false
namespace Go.Proofs.YtcadpcppnllhnaaDoor
open Go.RowKit

theorem w64_1 : IntKind.u64.wrap (-16) = 18446744073709551600 := by decide
theorem w64_2 : bits BinOp.and IntKind.u64 16 18446744073709551600 = 16 := by kernel_rfl
theorem w64_3 : IntKind.u64.wrap (16 * 285870213051353865) = 4573923408821661840 := by decide
theorem w64_4 : (4573923408821661840 : Int) / 288230376151711744 = 15 := by decide

set_option maxRecDepth 20000 in
set_option maxHeartbeats 8000000 in
theorem tz64_16 (w : World) (hb : w.cell? ⟨5, 15, none⟩ = some (.int .u8 4)) : Calls Tryd.prog 111 #[.int .u64 16] w (fun e w' => e = .returned (.int .i64 4) ∧ w = w') := by
  have h1 := w64_1
  have h2 := w64_2
  have h3 := w64_3
  have h4 := w64_4
  go_enter Tryd.func111, Tryd.ntmps111
  go_wp2_with fail
  go_ret
  exact ⟨rfl, rfl⟩

set_option maxRecDepth 20000 in
set_option maxHeartbeats 8000000 in
theorem tz_16 (w : World) (hb : w.cell? ⟨5, 15, none⟩ = some (.int .u8 4)) : Calls Tryd.prog 100 #[.int .u64 16] w (fun e w' => e = .returned (.int .i64 4) ∧ w = w') := by
  go_enter Tryd.func100, Tryd.ntmps100
  go_wp2_with fail
  refine Calls.mono (tz64_16 w hb) ?_
  rintro e w2 ⟨rfl, rfl⟩
  go_wp2_with fail
  go_ret
  exact ⟨rfl, rfl⟩

theorem p2_16 (w : World) : Calls Tryd.prog 99 #[.int .i64 16] w (fun e w' => e = .returned (.bool true) ∧ w = w') := by
  have h1 : bits BinOp.and IntKind.i64 16 15 = 0 := by kernel_rfl
  go_enter Tryd.func99, Tryd.ntmps99
  go_wp2_with fail
  go_ret
  exact ⟨rfl, rfl⟩
end Go.Proofs.YtcadpcppnllhnaaDoor
