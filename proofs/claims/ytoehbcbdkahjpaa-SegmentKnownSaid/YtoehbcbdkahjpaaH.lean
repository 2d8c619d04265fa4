/- Walks over the two laws that tell. -/
import Derived.Test.YtoehbcbdkahjpaaG
namespace Go.Proofs.Ytoehbcbdkahjpaa
open Go.RowKit

set_option maxRecDepth 100000 in
set_option maxHeartbeats 1000000 in
theorem lawFits_any (f s z h t b : Int) (w : World) (h0 : 0 ≤ h) (t0 : 0 ≤ t) :
    Calls Try.prog 4 #[.agg #[.int .i64 f, .int .i64 s, .int .i64 z], .int .u64 h, .int .u64 t, .int .i64 b] w (RetAt w (.bool true)) := by
  go_enter Try.func4, Try.ntmps4
  go_wp2_with fail
  refine Calls.later (ref_any _ _ _ _) ?_
  intro x
  have hz : w.heap.size < x.world.heap.size := by simp [go_sem]
  go_wp2_with fail
  refine Calls.later (fits_any _ _ _ _ _ _ _ h0 t0) ?_
  intro x
  go_wp2_with fail
  refine Calls.later1 (refFits_any _ _ _ _ _ _ _ h0 t0) ?_
  intro x
  go_wp2_with fail
  refine wp_region_later1 (by kernel_rfl) (by kernel_rfl) ?_
  repeat go_big_quiet_step (first | (go_at_call 24; exact later_call (room_any _ _ _ _ _ _ h0 t0)) | (go_at_call 25; exact later_call (refRoom_any _ _ _ _ _ _ h0 t0)) | (go_at_call 21; exact later_call (works_any _)))
  refine wpQuiet_nil ?_
  intro x
  go_wp2_with fail
  go_ret
  refine .mk rfl ?_
  repeat' (first | (refine Later.to _ ?_ ?_) | go_grown | (simp [go_sem]; done))
end Go.Proofs.Ytoehbcbdkahjpaa
