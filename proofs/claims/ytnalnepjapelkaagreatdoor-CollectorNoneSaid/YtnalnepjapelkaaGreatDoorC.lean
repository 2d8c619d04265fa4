/- Walk over the law CollectorNone: a collector that is not there answers so. -/
import Derived.Test.YtnalnepjapelkaaGreatDoorB
set_option linter.unusedSimpArgs false
set_option linter.unusedVariables false
namespace Go.Proofs.YtnalnepjapelkaaGreatDoor
open Go.RowKit

theorem take_nil (oa : Option Addr) (n cap : Nat) (w : World) :
    Calls Tryz.prog 5 #[.pointer none, .slice oa n cap] w (RetAt w (.tuple #[.agg #[.int .u32 0, .int .u32 0, .int .u64 0, .int .i64 0, .int .i64 0], .int .i64 1])) := by
  go_enter Tryz.func5, Tryz.ntmps5
  go_wp2_with fail
  refine bodyPost_ret (v := .tuple #[.agg #[.int .u32 0, .int .u32 0, .int .u64 0, .int .i64 0, .int .i64 0], .int .i64 1]) (by simp [results, Tryz.results5, go_sem]) rfl ?_
  exact .mk rfl (by go_grown)
theorem new_nil (w : World) : Calls Tryz.prog 6 #[.pointer none] w (RetAt w (.tuple #[.pointer none, .int .i64 1])) := by
  go_enter Tryz.func6, Tryz.ntmps6
  go_wp2_with fail
  go_ret2
  exact .mk rfl (by go_grown)
theorem commit_nil (w : World) : Calls Tryz.prog 7 #[.pointer none] w (RetAt w (.int .i64 1)) := by
  go_enter Tryz.func7, Tryz.ntmps7
  go_wp2_with fail
  go_ret
  exact .mk rfl (by go_grown)
theorem ledger_nil (w : World) : Calls Tryz.prog 8 #[.pointer none] w (RetAt w (.pointer none)) := by
  go_enter Tryz.func8, Tryz.ntmps8
  go_wp2_with fail
  go_ret
  exact .mk rfl (by go_grown)
theorem stat_nil (w : World) : Calls Tryz.prog 9 #[.pointer none] w (RetAt w (.agg #[.int .u64 0, .int .u64 0, .int .u64 0, .int .u64 0, .int .u64 0, .int .u64 0])) := by
  go_enter Tryz.func9, Tryz.ntmps9
  go_wp2_with fail
  refine bodyPost_ret (v := .agg #[.int .u64 0, .int .u64 0, .int .u64 0, .int .u64 0, .int .u64 0, .int .u64 0]) (by simp [results, Tryz.results9, go_sem]) rfl ?_
  exact .mk rfl (by go_grown)

set_option maxHeartbeats 1000000 in
theorem none_any (oa : Option Addr) (n cap : Nat) (w : World) : Calls Tryz.prog 3 #[.slice oa n cap] w (RetAt w (.bool true)) := by
  go_enter Tryz.func3, Tryz.ntmps3
  by_cases h : n ≤ 400
  rotate_left
  · have h2 : (n : Int) > 400 := by omega
    go_wp2_with fail
    refine Calls.mono (works_any _) ?_
    rintro e w2 ⟨rfl, hb⟩
    go_wp2_with fail
    go_ret
    exact .mk rfl hb
  have h2 : ¬ ((n : Int) > 400) := by omega
  go_wp2_with fail
  refine Calls.mono (take_nil _ _ _ _) ?_
  rintro e w1 ⟨rfl, hb1⟩
  go_wp2_with fail
  refine Calls.mono (new_nil _) ?_
  rintro e w2 ⟨rfl, hb2⟩
  have H2 : Hid (Below w.heap.size w w2) := Lib.hid (Below.via (Below.all hb1 _) hb2)
  clear hb1 hb2
  go_wp2_with fail
  refine Calls.mono (commit_nil _) ?_
  rintro e w3 ⟨rfl, hb⟩
  have H3 : Hid (Below w.heap.size w w3) := Lib.hid (Below.via H2.out hb)
  clear hb H2
  go_wp2_with fail
  refine Calls.mono (ledger_nil _) ?_
  rintro e w4 ⟨rfl, hb⟩
  have H4 : Hid (Below w.heap.size w w4) := Lib.hid (Below.via H3.out hb)
  clear hb H3
  go_wp2_with fail
  refine Calls.mono (stat_nil _) ?_
  rintro e w5 ⟨rfl, hb⟩
  have H5 : Hid (Below w.heap.size w w5) := Lib.hid (Below.via H4.out hb)
  clear hb H4
  go_wp2_with fail
  refine Calls.mono (works_any _) ?_
  rintro e w6 ⟨rfl, hb⟩
  have H6 : Hid (Below w.heap.size w w6) := Lib.hid (Below.via H5.out hb)
  clear hb H5
  go_wp2_with fail
  go_ret
  exact .mk rfl H6.out
end Go.Proofs.YtnalnepjapelkaaGreatDoor
