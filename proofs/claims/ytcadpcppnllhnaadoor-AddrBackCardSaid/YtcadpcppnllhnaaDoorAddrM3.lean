/- Walks over prefixes: Cut of what is not right; a prefix's Right. -/
import Derived.Test.YtcadpcppnllhnaaDoorAddrM2
import Derived.Test.YtcadpcppnllhnaaDoorEqT
set_option linter.unusedSimpArgs false
set_option linter.unusedVariables false
namespace Go.Proofs.YtcadpcppnllhnaaDoor
open Go.RowKit

theorem ext_18_0 (a0 a1 a2 a3 a4 a5 a6 a7 a8 a9 a10 a11 a12 a13 a14 a15 a16 a17 : Value) : (#[a0, a1, a2, a3, a4, a5, a6, a7, a8, a9, a10, a11, a12, a13, a14, a15, a16, a17] : Array Value).extract 0 17 = #[a0, a1, a2, a3, a4, a5, a6, a7, a8, a9, a10, a11, a12, a13, a14, a15, a16] := by simp
theorem ext_18_1 (a0 a1 a2 a3 a4 a5 a6 a7 a8 a9 a10 a11 a12 a13 a14 a15 a16 a17 : Value) : (#[a0, a1, a2, a3, a4, a5, a6, a7, a8, a9, a10, a11, a12, a13, a14, a15, a16, a17] : Array Value).extract 1 17 = #[a1, a2, a3, a4, a5, a6, a7, a8, a9, a10, a11, a12, a13, a14, a15, a16] := by simp
theorem ext_17_1 (a0 a1 a2 a3 a4 a5 a6 a7 a8 a9 a10 a11 a12 a13 a14 a15 a16 : Value) : (#[a0, a1, a2, a3, a4, a5, a6, a7, a8, a9, a10, a11, a12, a13, a14, a15, a16] : Array Value).extract 1 17 = #[a1, a2, a3, a4, a5, a6, a7, a8, a9, a10, a11, a12, a13, a14, a15, a16] := by simp
attribute [go_sem] ext_18_0 ext_18_1 ext_17_1

set_option maxRecDepth 20000 in
set_option maxHeartbeats 8000000 in
theorem cut_wrong (six : Bool) (B : Nat → Int) (n : Int) (hr : rightB six B = false) (w : World) :
    Calls Tryd.prog 26 #[adV six B, .int .i64 n] w (RetAt w (pfV false (fun _ => 0) 0)) := by
  have HR := Lib.hid (fun w => right_any six B w)
  rw [hr] at HR
  clear hr
  unfold adV at *
  go_enter Tryd.func26, Tryd.ntmps26
  go_wp2_with fail
  refine Calls.mono (HR.out _) ?_
  rintro e w1 ⟨rfl, hb1⟩
  have HP : PfBox w1 (w.heap.size + 1) 33 false (fun _ => 0) 0 := ⟨(hb1.block _ (by simp)).trans (heap_alloc2_new w (.cells #[.bool six, .int .u8 (B 0), .int .u8 (B 1), .int .u8 (B 2), .int .u8 (B 3), .int .u8 (B 4), .int .u8 (B 5), .int .u8 (B 6), .int .u8 (B 7), .int .u8 (B 8), .int .u8 (B 9), .int .u8 (B 10), .int .u8 (B 11), .int .u8 (B 12), .int .u8 (B 13), .int .u8 (B 14), .int .u8 (B 15)] 25) (.cells #[.bool false, .int .u8 ((fun _ => 0) 0), .int .u8 ((fun _ => 0) 1), .int .u8 ((fun _ => 0) 2), .int .u8 ((fun _ => 0) 3), .int .u8 ((fun _ => 0) 4), .int .u8 ((fun _ => 0) 5), .int .u8 ((fun _ => 0) 6), .int .u8 ((fun _ => 0) 7), .int .u8 ((fun _ => 0) 8), .int .u8 ((fun _ => 0) 9), .int .u8 ((fun _ => 0) 10), .int .u8 ((fun _ => 0) 11), .int .u8 ((fun _ => 0) 12), .int .u8 ((fun _ => 0) 13), .int .u8 ((fun _ => 0) 14), .int .u8 ((fun _ => 0) 15), .int .i64 0] 33))⟩
  have hrr := HP.row
  have HPh := Lib.hid HP.heap
  have HB1 := Lib.hid (Below.via (Below.all (Below.all (Below.refl w.heap.size w) _) _) hb1)
  clear HP hb1
  go_wp2_with fail
  refine bodyPost_ret (v := pfV false (fun _ => 0) 0) (results_pf1 _ _ Tryd.underlying33 info_pf rfl _ _ (w.heap.size + 1) rfl (partOf_set2 HPh.out)) rfl (.mk rfl (below_setRow HB1.out (by omega) _))

/-- The prefix of an address. -/
def cutSix (six : Bool) (B : Nat → Int) : Bool := if rightB six B then six else false
def cutBy (six : Bool) (B : Nat → Int) (n : Int) : Nat → Int := if rightB six B then cutB (clampN six n) B else fun _ => 0
def cutLen (six : Bool) (B : Nat → Int) (n : Int) : Int := if rightB six B then (clampN six n : Int) else 0
theorem cut_any (six : Bool) (B : Nat → Int) (n : Int) (hB : U8 B) (hn0 : -9223372036854775808 ≤ n) (hn1 : n ≤ 9223372036854775807) (w : World) :
    Calls Tryd.prog 26 #[adV six B, .int .i64 n] w (RetAt w (pfV (cutSix six B) (cutBy six B n) (cutLen six B n))) := by
  unfold cutSix cutBy cutLen
  by_cases h : rightB six B = true
  · rw [if_pos h, if_pos h, if_pos h]; exact cut_right six B n hB h hn0 hn1 w
  · rw [if_neg h, if_neg h, if_neg h]; exact cut_wrong six B n (by simpa using h) w

set_option maxRecDepth 20000 in
set_option maxHeartbeats 8000000 in
theorem pright_yes (six : Bool) (B : Nat → Int) (n : Int) (hB : U8 B) (hr : rightB six B = true) (hn0 : -9223372036854775808 ≤ n) (hn1 : n ≤ 9223372036854775807) (w : World) :
    Calls Tryd.prog 28 #[pfV six B n] w (RetAt w (.bool (rightPB six B n))) := by
  have HR : ∀ w, Calls Tryd.prog 17 #[adV six B] w (RetAt w (.bool true)) := fun w => by rw [← hr]; exact right_any six B w
  have HC := cut_right six B n hB hr hn0 hn1
  have HE : Hid (rightPB six B n = (eqL (b16 (cutB (clampN six n) B)) (b16 B) && (clampN six n : Int) == n)) := Lib.hid (by unfold rightPB; rw [hr, Bool.true_and])
  clear hB hr
  generalize cutB (clampN six n) B = C at *
  generalize clampN six n = m at *
  unfold adV pfV at *
  go_enter Tryd.func28, Tryd.ntmps28
  go_wp2_with fail
  refine wp_region_later (by kernel_rfl) (by kernel_rfl) ?_
  repeat go_big_quiet_step (first | (go_at_call 17; exact later_call (HR _)) | (go_at_call 26; exact later_call (HC _)))
  refine wpQuiet_nil ?_
  intro x
  go_wp2_with fail
  go_ret
  exact .mk (val_bool HE.out.symm) (Below.lat (Below.all (Below.refl _ _) _))

set_option maxRecDepth 20000 in
set_option maxHeartbeats 8000000 in
theorem pright_no (six : Bool) (B : Nat → Int) (n : Int) (hr : rightB six B = false) (w : World) :
    Calls Tryd.prog 28 #[pfV six B n] w (RetAt w (.bool (rightPB six B n))) := by
  have HR : ∀ w, Calls Tryd.prog 17 #[adV six B] w (RetAt w (.bool false)) := fun w => by rw [← hr]; exact right_any six B w
  have HE : Hid (rightPB six B n = false) := Lib.hid (by unfold rightPB; rw [hr, Bool.false_and])
  clear hr
  unfold adV pfV at *
  go_enter Tryd.func28, Tryd.ntmps28
  go_wp2_with fail
  refine wp_region_later (by kernel_rfl) (by kernel_rfl) ?_
  repeat go_big_quiet_step ((go_at_call 17; exact later_call (HR _)))
  refine wpQuiet_nil ?_
  intro x
  go_wp2_with fail
  go_ret
  exact .mk (val_bool HE.out.symm) (Below.lat (Below.all (Below.refl _ _) _))
theorem pright_any (six : Bool) (B : Nat → Int) (n : Int) (hB : U8 B) (hn0 : -9223372036854775808 ≤ n) (hn1 : n ≤ 9223372036854775807) (w : World) :
    Calls Tryd.prog 28 #[pfV six B n] w (RetAt w (.bool (rightPB six B n))) := by
  by_cases h : rightB six B = true
  · exact pright_yes six B n hB h hn0 hn1 w
  · exact pright_no six B n (by simpa using h) w
end Go.Proofs.YtcadpcppnllhnaaDoor
