/- Walks over prefixes: the reference's Cut and RightPrefix; Has, Within; the documents' forms. -/
import Derived.Test.YtcadpcppnllhnaaDoorAddrM4
set_option linter.unusedSimpArgs false
set_option linter.unusedVariables false
namespace Go.Proofs.YtcadpcppnllhnaaDoor
open Go.RowKit

set_option maxRecDepth 20000 in
set_option maxHeartbeats 8000000 in
theorem rcut_wrong (six : Bool) (B : Nat → Int) (n : Int) (hr : rightB six B = false) (w : World) :
    Calls Tryd.prog 56 #[adV six B, .int .i64 n] w (RetAt w (pfV false (fun _ => 0) 0)) := by
  have HR := Lib.hid (fun w => rright_any six B w)
  rw [hr] at HR
  clear hr
  unfold adV at *
  go_enter Tryd.func56, Tryd.ntmps56
  go_wp2_with fail
  refine Calls.mono (HR.out _) ?_
  rintro e w1 ⟨rfl, hb1⟩
  have HP : PfBox w1 (w.heap.size + 1) 37 false (fun _ => 0) 0 := ⟨(hb1.block _ (by simp)).trans (heap_alloc2_new w (.cells #[.bool six, .int .u8 (B 0), .int .u8 (B 1), .int .u8 (B 2), .int .u8 (B 3), .int .u8 (B 4), .int .u8 (B 5), .int .u8 (B 6), .int .u8 (B 7), .int .u8 (B 8), .int .u8 (B 9), .int .u8 (B 10), .int .u8 (B 11), .int .u8 (B 12), .int .u8 (B 13), .int .u8 (B 14), .int .u8 (B 15)] 29) (.cells #[.bool false, .int .u8 ((fun _ => 0) 0), .int .u8 ((fun _ => 0) 1), .int .u8 ((fun _ => 0) 2), .int .u8 ((fun _ => 0) 3), .int .u8 ((fun _ => 0) 4), .int .u8 ((fun _ => 0) 5), .int .u8 ((fun _ => 0) 6), .int .u8 ((fun _ => 0) 7), .int .u8 ((fun _ => 0) 8), .int .u8 ((fun _ => 0) 9), .int .u8 ((fun _ => 0) 10), .int .u8 ((fun _ => 0) 11), .int .u8 ((fun _ => 0) 12), .int .u8 ((fun _ => 0) 13), .int .u8 ((fun _ => 0) 14), .int .u8 ((fun _ => 0) 15), .int .i64 0] 37))⟩
  have hrr := HP.row
  have HPh := Lib.hid HP.heap
  have HB1 := Lib.hid (Below.via (Below.all (Below.all (Below.refl w.heap.size w) _) _) hb1)
  clear HP hb1
  go_wp2_with fail
  refine bodyPost_ret (v := pfV false (fun _ => 0) 0) (results_pf1 _ _ Tryd.underlying37 info_rpf rfl _ _ (w.heap.size + 1) rfl (partOf_set2 HPh.out)) rfl (.mk rfl (below_setRow HB1.out (by omega) _))

theorem rcut_any (six : Bool) (B : Nat → Int) (n : Int) (hB : U8 B) (hn0 : -9223372036854775808 ≤ n) (hn1 : n ≤ 9223372036854775807) (w : World) :
    Calls Tryd.prog 56 #[adV six B, .int .i64 n] w (RetAt w (pfV (cutSix six B) (cutBy six B n) (cutLen six B n))) := by
  unfold cutSix cutBy cutLen
  by_cases h : rightB six B = true
  · rw [if_pos h, if_pos h, if_pos h]; exact rcut_right six B n hB h hn0 hn1 w
  · rw [if_neg h, if_neg h, if_neg h]; exact rcut_wrong six B n (by simpa using h) w

set_option maxRecDepth 20000 in
set_option maxHeartbeats 8000000 in
theorem rpright_yes (six : Bool) (B : Nat → Int) (n : Int) (hB : U8 B) (hr : rightB six B = true) (hn0 : -9223372036854775808 ≤ n) (hn1 : n ≤ 9223372036854775807) (w : World) :
    Calls Tryd.prog 39 #[pfV six B n] w (RetAt w (.bool (rightPB six B n))) := by
  have HR : ∀ w, Calls Tryd.prog 18 #[adV six B] w (RetAt w (.bool true)) := fun w => by rw [← hr]; exact rright_any six B w
  have HC := rcut_right six B n hB hr hn0 hn1
  have HE : Hid (rightPB six B n = (eqL (b16 (cutB (clampN six n) B)) (b16 B) && (clampN six n : Int) == n)) := Lib.hid (by unfold rightPB; rw [hr, Bool.true_and])
  clear hB hr
  generalize cutB (clampN six n) B = C at *
  generalize clampN six n = m at *
  unfold adV pfV at *
  go_enter Tryd.func39, Tryd.ntmps39
  go_wp2_with fail
  refine wp_region_later (by kernel_rfl) (by kernel_rfl) ?_
  repeat go_big_quiet_step (first | (go_at_call 18; exact later_call (HR _)) | (go_at_call 56; exact later_call (HC _)))
  refine wpQuiet_nil ?_
  intro x
  go_wp2_with fail
  go_ret
  exact .mk (val_bool HE.out.symm) (Below.lat (Below.all (Below.refl _ _) _))

set_option maxRecDepth 20000 in
set_option maxHeartbeats 8000000 in
theorem rpright_no (six : Bool) (B : Nat → Int) (n : Int) (hr : rightB six B = false) (w : World) :
    Calls Tryd.prog 39 #[pfV six B n] w (RetAt w (.bool (rightPB six B n))) := by
  have HR : ∀ w, Calls Tryd.prog 18 #[adV six B] w (RetAt w (.bool false)) := fun w => by rw [← hr]; exact rright_any six B w
  have HE : Hid (rightPB six B n = false) := Lib.hid (by unfold rightPB; rw [hr, Bool.false_and])
  clear hr
  unfold adV pfV at *
  go_enter Tryd.func39, Tryd.ntmps39
  go_wp2_with fail
  refine wp_region_later (by kernel_rfl) (by kernel_rfl) ?_
  repeat go_big_quiet_step ((go_at_call 18; exact later_call (HR _)))
  refine wpQuiet_nil ?_
  intro x
  go_wp2_with fail
  go_ret
  exact .mk (val_bool HE.out.symm) (Below.lat (Below.all (Below.refl _ _) _))
theorem rpright_any (six : Bool) (B : Nat → Int) (n : Int) (hB : U8 B) (hn0 : -9223372036854775808 ≤ n) (hn1 : n ≤ 9223372036854775807) (w : World) :
    Calls Tryd.prog 39 #[pfV six B n] w (RetAt w (.bool (rightPB six B n))) := by
  by_cases h : rightB six B = true
  · exact rpright_yes six B n hB h hn0 hn1 w
  · exact rpright_no six B n (by simpa using h) w

/-- Are two prefixes the same? -/
def pfEq (s : Bool) (B : Nat → Int) (n : Int) (t : Bool) (A : Nat → Int) (m : Int) : Bool := s == t && eqL (b16 B) (b16 A) && n == m
/-- Has a prefix an address? -/
def hasV (s : Bool) (B : Nat → Int) (n : Int) (t : Bool) (A : Nat → Int) : Bool := rightPB s B n && (rightB t A && pfEq t (cutB (clampN t n) A) (clampN t n : Int) s B n)
/-- Is one within another? -/
def withinV (s : Bool) (B : Nat → Int) (n : Int) (t : Bool) (A : Nat → Int) (m : Int) : Bool := rightPB s B n && (decide (m ≤ n) && hasV t A m s B)

set_option maxRecDepth 20000 in
set_option maxHeartbeats 8000000 in
theorem has_any (s : Bool) (B : Nat → Int) (n : Int) (t : Bool) (A : Nat → Int) (hB : U8 B) (hA : U8 A) (hn0 : -9223372036854775808 ≤ n) (hn1 : n ≤ 9223372036854775807) (w : World) :
    Calls Tryd.prog 29 #[pfV s B n, adV t A] w (RetAt w (.bool (hasV s B n t A))) := by
  have HP := pright_any s B n hB hn0 hn1
  have HR := fun w => right_any t A w
  have HC := cut_right t A n hA
  have HV : Hid (hasV s B n t A = (rightPB s B n && (rightB t A && pfEq t (cutB (clampN t n) A) (clampN t n : Int) s B n))) := Lib.hid rfl
  clear hB hA
  generalize hp : rightPB s B n = bp at *
  generalize hr : rightB t A = br at *
  generalize clampN t n = m at *
  generalize cutB m A = C at *
  cases bp
  · have HE := Lib.hid (HV.out.trans (Bool.false_and _))
    clear HV HC HR
    unfold adV pfV at *
    go_enter Tryd.func29, Tryd.ntmps29
    go_wp2_with fail
    refine wp_region_later (by kernel_rfl) (by kernel_rfl) ?_
    repeat go_big_quiet_step ((go_at_call 28; exact later_call (HP _)))
    refine wpQuiet_nil ?_
    intro x
    go_wp2_with fail
    go_ret
    exact .mk (val_bool HE.out.symm) (Below.lat (Below.all (Below.all (Below.refl _ _) _) _))
  · cases br
    · have HE := Lib.hid (HV.out.trans ((Bool.true_and _).trans (Bool.false_and _)))
      clear HV HC
      unfold adV pfV at *
      go_enter Tryd.func29, Tryd.ntmps29
      go_wp2_with fail
      refine wp_region_later (by kernel_rfl) (by kernel_rfl) ?_
      repeat go_big_quiet_step (first | (go_at_call 28; exact later_call (HP _)) | (go_at_call 17; exact later_call (HR _)))
      refine wpQuiet_nil ?_
      intro x
      go_wp2_with fail
      go_ret
      exact .mk (val_bool HE.out.symm) (Below.lat (Below.all (Below.all (Below.refl _ _) _) _))
    · have HE := Lib.hid (HV.out.trans ((Bool.true_and _).trans (Bool.true_and _)))
      have HC2 := HC rfl hn0 hn1
      clear HV HC
      unfold adV pfV at *
      go_enter Tryd.func29, Tryd.ntmps29
      go_wp2_with fail
      refine wp_region_later (by kernel_rfl) (by kernel_rfl) ?_
      repeat go_big_quiet_step (first | (go_at_call 28; exact later_call (HP _)) | (go_at_call 17; exact later_call (HR _)) | (go_at_call 26; exact later_call (HC2 _)))
      refine wpQuiet_nil ?_
      intro x
      go_wp2_with fail
      go_ret
      exact .mk (val_bool HE.out.symm) (Below.lat (Below.all (Below.all (Below.refl _ _) _) _))

set_option maxRecDepth 20000 in
set_option maxHeartbeats 8000000 in
theorem within_any (s : Bool) (B : Nat → Int) (n : Int) (t : Bool) (A : Nat → Int) (m : Int) (hB : U8 B) (hA : U8 A) (hn0 : -9223372036854775808 ≤ n) (hn1 : n ≤ 9223372036854775807) (hm0 : -9223372036854775808 ≤ m) (hm1 : m ≤ 9223372036854775807) (w : World) :
    Calls Tryd.prog 30 #[pfV s B n, pfV t A m] w (RetAt w (.bool (withinV s B n t A m))) := by
  have HP := pright_any s B n hB hn0 hn1
  have HH := has_any t A m s B hA hB hm0 hm1
  have HV : Hid (withinV s B n t A m = (rightPB s B n && (decide (m ≤ n) && hasV t A m s B))) := Lib.hid rfl
  clear hB hA
  generalize hp : rightPB s B n = bp at *
  generalize hr : hasV t A m s B = br at *
  by_cases hmn : m ≤ n
  all_goals cases bp
  all_goals
    unfold adV pfV at *
    go_enter Tryd.func30, Tryd.ntmps30
    go_wp2_with fail
    refine Calls.later (HP _) ?_
    intro x
    go_wp2_with fail
    first
      | (go_ret
         refine .mk (val_bool ?_) (Below.lat (Below.all (Below.all (Below.refl _ _) _) _))
         rw [HV.out]
         first
           | rfl
           | (rw [decide_eq_false (by omega)]; rfl))
      | skip
  refine Calls.later1 (HH _) ?_
  intro y
  go_wp2_with fail
  go_ret
  refine .mk (val_bool ?_) (Below.lat (Below.all (Below.all (Below.refl _ _) _) _))
  rw [HV.out, decide_eq_true (by omega)]; rfl

theorem results_ad1 {fn : Func} {p : Tmp} (t : TypeId) (fs : Array Field) (hu : Tryd.prog.underlying t = some (.struct fs)) (hi : (Tryd.prog.info? t).map (·.size) = some 17)
    (h : fn.results = #[.cell p t]) (tmps : Array Value) (w : World) (b : Nat) {six : Bool} {B : Nat → Int}
    (hp : tmps.getD p undef = .pointer (some ⟨b, 0, none⟩)) (hc : partOf w b 0 17 = #[.bool six, .int .u8 (B 0), .int .u8 (B 1), .int .u8 (B 2), .int .u8 (B 3), .int .u8 (B 4), .int .u8 (B 5), .int .u8 (B 6), .int .u8 (B 7), .int .u8 (B 8), .int .u8 (B 9), .int .u8 (B 10), .int .u8 (B 11), .int .u8 (B 12), .int .u8 (B 13), .int .u8 (B 14), .int .u8 (B 15)]) : (results fn tmps).run Tryd.prog w = .ok (adV six B) w :=
  results_part1 h tmps w b 17 _ hu rfl hi hp _ hc rfl
theorem info_rad5 : (Tryd.prog.info? 29).map (·.size) = some 17 := by kernel_rfl

set_option maxRecDepth 20000 in
set_option maxHeartbeats 8000000 in
theorem docsaddr_any (s : Bool) (B : Nat → Int) (w : World) : Calls Tryd.prog 11 #[adV s B] w (RetAt w (adV s B)) := by
  have HZ : AdBox ((w.alloc (.cells #[.bool s, .int .u8 (B 0), .int .u8 (B 1), .int .u8 (B 2), .int .u8 (B 3), .int .u8 (B 4), .int .u8 (B 5), .int .u8 (B 6), .int .u8 (B 7), .int .u8 (B 8), .int .u8 (B 9), .int .u8 (B 10), .int .u8 (B 11), .int .u8 (B 12), .int .u8 (B 13), .int .u8 (B 14), .int .u8 (B 15)] 25)).alloc (.cells #[.bool s, .int .u8 (B 0), .int .u8 (B 1), .int .u8 (B 2), .int .u8 (B 3), .int .u8 (B 4), .int .u8 (B 5), .int .u8 (B 6), .int .u8 (B 7), .int .u8 (B 8), .int .u8 (B 9), .int .u8 (B 10), .int .u8 (B 11), .int .u8 (B 12), .int .u8 (B 13), .int .u8 (B 14), .int .u8 (B 15)] 29)) (w.heap.size + 1) 29 s B := ⟨heap_alloc2_new w (.cells #[.bool s, .int .u8 (B 0), .int .u8 (B 1), .int .u8 (B 2), .int .u8 (B 3), .int .u8 (B 4), .int .u8 (B 5), .int .u8 (B 6), .int .u8 (B 7), .int .u8 (B 8), .int .u8 (B 9), .int .u8 (B 10), .int .u8 (B 11), .int .u8 (B 12), .int .u8 (B 13), .int .u8 (B 14), .int .u8 (B 15)] 25) (.cells #[.bool s, .int .u8 (B 0), .int .u8 (B 1), .int .u8 (B 2), .int .u8 (B 3), .int .u8 (B 4), .int .u8 (B 5), .int .u8 (B 6), .int .u8 (B 7), .int .u8 (B 8), .int .u8 (B 9), .int .u8 (B 10), .int .u8 (B 11), .int .u8 (B 12), .int .u8 (B 13), .int .u8 (B 14), .int .u8 (B 15)] 29)⟩
  have HZ := Lib.hid HZ
  unfold adV
  go_enter Tryd.func11, Tryd.ntmps11
  go_wp2_with fail
  exact bodyPost_ret (v := adV s B) (results_ad1 _ _ Tryd.underlying29 info_rad5 rfl _ _ (w.heap.size + 1) rfl HZ.out.part) rfl (.mk rfl (Below.all (Below.all (Below.refl _ _) _) _))

set_option maxRecDepth 20000 in
set_option maxHeartbeats 8000000 in
theorem docspf_any (s : Bool) (B : Nat → Int) (n : Int) (w : World) : Calls Tryd.prog 12 #[pfV s B n] w (RetAt w (pfV s B n)) := by
  have HD := fun w => docsaddr_any s B w
  unfold adV pfV at *
  go_enter Tryd.func12, Tryd.ntmps12
  go_wp2_with fail
  refine wp_region_tail 6 (by kernel_rfl) (by kernel_rfl) ?_
  simp only [List.take_succ_cons, List.take_zero, List.drop_succ_cons, List.drop_zero]
  repeat go_big_quiet_step ((go_at_call 11; exact later_call (HD _)))
  refine wpQuiet_nil ?_
  intro x
  have HP : PfBox x.world (w.heap.size + 1) 37 false (fun _ => 0) 0 := ⟨(x.below.block _ (by simp)).trans (heap_alloc2_new w (.cells #[.bool s, .int .u8 (B 0), .int .u8 (B 1), .int .u8 (B 2), .int .u8 (B 3), .int .u8 (B 4), .int .u8 (B 5), .int .u8 (B 6), .int .u8 (B 7), .int .u8 (B 8), .int .u8 (B 9), .int .u8 (B 10), .int .u8 (B 11), .int .u8 (B 12), .int .u8 (B 13), .int .u8 (B 14), .int .u8 (B 15), .int .i64 n] 33) (.cells #[.bool false, .int .u8 ((fun _ => 0) 0), .int .u8 ((fun _ => 0) 1), .int .u8 ((fun _ => 0) 2), .int .u8 ((fun _ => 0) 3), .int .u8 ((fun _ => 0) 4), .int .u8 ((fun _ => 0) 5), .int .u8 ((fun _ => 0) 6), .int .u8 ((fun _ => 0) 7), .int .u8 ((fun _ => 0) 8), .int .u8 ((fun _ => 0) 9), .int .u8 ((fun _ => 0) 10), .int .u8 ((fun _ => 0) 11), .int .u8 ((fun _ => 0) 12), .int .u8 ((fun _ => 0) 13), .int .u8 ((fun _ => 0) 14), .int .u8 ((fun _ => 0) 15), .int .i64 0] 37))⟩
  have hrr := HP.row
  have HPh := Lib.hid HP.heap
  have HB1 := Lib.hid (show Below w.heap.size w x.world from Below.lat (Below.all (Below.all (Below.refl _ _) _) _))
  clear HP
  go_wp2_with fail
  exact bodyPost_ret (v := pfV s B n) (results_pf1 _ _ Tryd.underlying37 info_rpf rfl _ _ (w.heap.size + 1) rfl (partOf_set2 HPh.out)) rfl (.mk rfl (below_setRow HB1.out (by omega) _))
end Go.Proofs.YtcadpcppnllhnaaDoor
