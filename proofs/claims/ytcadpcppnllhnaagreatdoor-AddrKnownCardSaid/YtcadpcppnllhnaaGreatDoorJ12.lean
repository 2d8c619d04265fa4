/- Walk of the law AddrBack. -/
import Derived.Test.YtcadpcppnllhnaaGreatDoorJ11
import Derived.Test.YtcadpcppnllhnaaGreatDoorJ10
import Derived.Test.YtcadpcppnllhnaaGreatDoorJ5
set_option linter.unusedSimpArgs false
set_option linter.unusedVariables false
namespace Go.Proofs.YtcadpcppnllhnaaGreatDoor
open Go.RowKit

theorem eqL_same (l : List Int) : eqL l l = true := (eqL_iff l l).2 rfl
theorem from_back {s : Bool} {B : Nat → Int} (hr : rightB s B = true) : fromV (adBytes s B) = .tuple #[adV s B, .int .i64 0] := by
  have hl := adBytes_len s B
  have hg := adBytes_get s B
  cases s
  · have hl4 : (adBytes false B).length = 4 := hl
    rw [fromV_4 hl4]
    have e : ∀ i, i < 16 → fromB (adBytes false B) i = B i := fun i hi => by
      by_cases h : i < 4
      · exact hg i h
      · rw [fromB_hi hl4 i (by omega), rightB_four.1 hr i (by omega) hi]
    rw [ad_congr e]
  · have hl16 : (adBytes true B).length = 16 := hl
    rw [fromV_16 hl16]
    have e : ∀ i, i < 16 → fromB (adBytes true B) i = B i := fun i hi => hg i hi
    rw [ad_congr e]

set_option maxRecDepth 20000 in
set_option maxHeartbeats 4000000 in
theorem back_any (s : Bool) (B : Nat → Int) (t : Bool) (A : Nat → Int) (m n : Int) (hB : U8 B) (hA : U8 A) (hm0 : -9223372036854775808 ≤ m) (hm1 : m ≤ 9223372036854775807) (hn0 : -9223372036854775808 ≤ n) (hn1 : n ≤ 9223372036854775807) (w : World) (henv : Env w) :
    Calls Tryz.prog 5 #[adV s B, adV t A, .int .i64 m, .int .i64 n] w (RetAt w (.bool true)) := by
  have HE := Lib.hid henv
  have HB := Lib.hid (show Below w.heap.size w ((w.alloc (.cells #[.bool s, .int .u8 (B 0), .int .u8 (B 1), .int .u8 (B 2), .int .u8 (B 3), .int .u8 (B 4), .int .u8 (B 5), .int .u8 (B 6), .int .u8 (B 7), .int .u8 (B 8), .int .u8 (B 9), .int .u8 (B 10), .int .u8 (B 11), .int .u8 (B 12), .int .u8 (B 13), .int .u8 (B 14), .int .u8 (B 15)] 26)).alloc (.cells #[.bool t, .int .u8 (A 0), .int .u8 (A 1), .int .u8 (A 2), .int .u8 (A 3), .int .u8 (A 4), .int .u8 (A 5), .int .u8 (A 6), .int .u8 (A 7), .int .u8 (A 8), .int .u8 (A 9), .int .u8 (A 10), .int .u8 (A 11), .int .u8 (A 12), .int .u8 (A 13), .int .u8 (A 14), .int .u8 (A 15)] 26)) from Below.all (Below.all (Below.refl _ _) _) _)
  have HCX : Hid (((w.alloc (.cells #[.bool s, .int .u8 (B 0), .int .u8 (B 1), .int .u8 (B 2), .int .u8 (B 3), .int .u8 (B 4), .int .u8 (B 5), .int .u8 (B 6), .int .u8 (B 7), .int .u8 (B 8), .int .u8 (B 9), .int .u8 (B 10), .int .u8 (B 11), .int .u8 (B 12), .int .u8 (B 13), .int .u8 (B 14), .int .u8 (B 15)] 26)).alloc (.cells #[.bool t, .int .u8 (A 0), .int .u8 (A 1), .int .u8 (A 2), .int .u8 (A 3), .int .u8 (A 4), .int .u8 (A 5), .int .u8 (A 6), .int .u8 (A 7), .int .u8 (A 8), .int .u8 (A 9), .int .u8 (A 10), .int .u8 (A 11), .int .u8 (A 12), .int .u8 (A 13), .int .u8 (A 14), .int .u8 (A 15)] 26)).heap[w.heap.size]? = some (.cells #[.bool s, .int .u8 (B 0), .int .u8 (B 1), .int .u8 (B 2), .int .u8 (B 3), .int .u8 (B 4), .int .u8 (B 5), .int .u8 (B 6), .int .u8 (B 7), .int .u8 (B 8), .int .u8 (B 9), .int .u8 (B 10), .int .u8 (B 11), .int .u8 (B 12), .int .u8 (B 13), .int .u8 (B 14), .int .u8 (B 15)] 26 (0, 0))) := Lib.hid (heap_alloc2_old w (.cells #[.bool s, .int .u8 (B 0), .int .u8 (B 1), .int .u8 (B 2), .int .u8 (B 3), .int .u8 (B 4), .int .u8 (B 5), .int .u8 (B 6), .int .u8 (B 7), .int .u8 (B 8), .int .u8 (B 9), .int .u8 (B 10), .int .u8 (B 11), .int .u8 (B 12), .int .u8 (B 13), .int .u8 (B 14), .int .u8 (B 15)] 26) (.cells #[.bool t, .int .u8 (A 0), .int .u8 (A 1), .int .u8 (A 2), .int .u8 (A 3), .int .u8 (A 4), .int .u8 (A 5), .int .u8 (A 6), .int .u8 (A 7), .int .u8 (A 8), .int .u8 (A 9), .int .u8 (A 10), .int .u8 (A 11), .int .u8 (A 12), .int .u8 (A 13), .int .u8 (A 14), .int .u8 (A 15)] 26))
  have HCY : Hid (((w.alloc (.cells #[.bool s, .int .u8 (B 0), .int .u8 (B 1), .int .u8 (B 2), .int .u8 (B 3), .int .u8 (B 4), .int .u8 (B 5), .int .u8 (B 6), .int .u8 (B 7), .int .u8 (B 8), .int .u8 (B 9), .int .u8 (B 10), .int .u8 (B 11), .int .u8 (B 12), .int .u8 (B 13), .int .u8 (B 14), .int .u8 (B 15)] 26)).alloc (.cells #[.bool t, .int .u8 (A 0), .int .u8 (A 1), .int .u8 (A 2), .int .u8 (A 3), .int .u8 (A 4), .int .u8 (A 5), .int .u8 (A 6), .int .u8 (A 7), .int .u8 (A 8), .int .u8 (A 9), .int .u8 (A 10), .int .u8 (A 11), .int .u8 (A 12), .int .u8 (A 13), .int .u8 (A 14), .int .u8 (A 15)] 26)).heap[w.heap.size + 1]? = some (.cells #[.bool t, .int .u8 (A 0), .int .u8 (A 1), .int .u8 (A 2), .int .u8 (A 3), .int .u8 (A 4), .int .u8 (A 5), .int .u8 (A 6), .int .u8 (A 7), .int .u8 (A 8), .int .u8 (A 9), .int .u8 (A 10), .int .u8 (A 11), .int .u8 (A 12), .int .u8 (A 13), .int .u8 (A 14), .int .u8 (A 15)] 26 (0, 0))) := Lib.hid (heap_alloc2_new w (.cells #[.bool s, .int .u8 (B 0), .int .u8 (B 1), .int .u8 (B 2), .int .u8 (B 3), .int .u8 (B 4), .int .u8 (B 5), .int .u8 (B 6), .int .u8 (B 7), .int .u8 (B 8), .int .u8 (B 9), .int .u8 (B 10), .int .u8 (B 11), .int .u8 (B 12), .int .u8 (B 13), .int .u8 (B 14), .int .u8 (B 15)] 26) (.cells #[.bool t, .int .u8 (A 0), .int .u8 (A 1), .int .u8 (A 2), .int .u8 (A 3), .int .u8 (A 4), .int .u8 (A 5), .int .u8 (A 6), .int .u8 (A 7), .int .u8 (A 8), .int .u8 (A 9), .int .u8 (A 10), .int .u8 (A 11), .int .u8 (A 12), .int .u8 (A 13), .int .u8 (A 14), .int .u8 (A 15)] 26))
  have HD1 : Hid (∀ w, Calls Tryz.prog 17 #[adV s B] w (RetAt w (adV s B))) := Lib.hid fun w => docsaddr_any s B w
  have HD2 : Hid (∀ w, Calls Tryz.prog 17 #[adV t A] w (RetAt w (adV t A))) := Lib.hid fun w => docsaddr_any t A w
  have HR1 : Hid (∀ w, Calls Tryz.prog 19 #[adV s B] w (RetAt w (.bool (rightB s B)))) := Lib.hid fun w => rright_any s B w
  have HR2 : Hid (∀ w, Calls Tryz.prog 19 #[adV t A] w (RetAt w (.bool (rightB t A)))) := Lib.hid fun w => rright_any t A w
  have HT1 : Hid (∀ w, Env w → Calls Tryz.prog 10 #[adV s B] w (RetAt w (.string ⟨(adText s B).toArray⟩))) := Lib.hid fun w h => text_any s B hB w h
  have HT2 : Hid (∀ w, Env w → Calls Tryz.prog 10 #[adV t A] w (RetAt w (.string ⟨(adText t A).toArray⟩))) := Lib.hid fun w h => text_any t A hA w h
  have HPA : Hid (rightB s B = true → ∀ w, Env w → Calls Tryz.prog 13 #[.string ⟨(adText s B).toArray⟩] w (RetAt w (.tuple #[adV s B, .int .i64 0]))) := Lib.hid fun h w he => by
    have := parse_any ⟨(adText s B).toArray⟩ w (by have := adText_max s B hB; simp [ByteArray.size]; omega) he
    rwa [show parseL (⟨(adText s B).toArray⟩ : ByteArray).data.toList = parseL (adText s B) from rfl, back_value hB h] at this
  have HBY : Hid (∀ w, Calls Tryz.prog 7 #[adV s B] w (NewBytes w (adBytes s B))) := Lib.hid fun w => bytes_any s B w
  have HBU : Hid (∀ v ∈ adBytes s B, 0 ≤ v ∧ v < 256) := Lib.hid fun v hv => by
    unfold adBytes at hv
    obtain ⟨i, -, rfl⟩ := List.mem_map.1 hv
    exact hB i
  have HFR : Hid (rightB s B = true → ∀ o c w, Reads w o (adBytes s B).length c (adBytes s B) → Calls Tryz.prog 20 #[.slice o (adBytes s B).length c] w (RetAt w (.tuple #[adV s B, .int .i64 0]))) := Lib.hid fun h o c w hr => by
    have := from_any o _ c _ w hr (by rw [adBytes_len]; cases s <;> decide)
    rwa [from_back h] at this
  have HCM : Hid (∀ w, Calls Tryz.prog 21 #[adV s B, adV t A] w (RetAt w (.int .i64 (adCmp s B t A)))) := Lib.hid fun w => cmp_any s B t A hB hA w
  have HTX : Hid (rightB s B = true → rightB t A = true → (adText s B == adText t A) = (s == t && eqL [B 0, B 1, B 2, B 3, B 4, B 5, B 6, B 7, B 8, B 9, B 10, B 11, B 12, B 13, B 14, B 15] [A 0, A 1, A 2, A 3, A 4, A 5, A 6, A 7, A 8, A 9, A 10, A 11, A 12, A 13, A 14, A 15])) := Lib.hid fun h1 h2 => text_iff hB hA h1 h2
  have HCX0 : Hid ((adCmp s B t A == 0) = (s == t && eqL [B 0, B 1, B 2, B 3, B 4, B 5, B 6, B 7, B 8, B 9, B 10, B 11, B 12, B 13, B 14, B 15] [A 0, A 1, A 2, A 3, A 4, A 5, A 6, A 7, A 8, A 9, A 10, A 11, A 12, A 13, A 14, A 15])) := Lib.hid (cmp_iff s B t A)
  have he1 := eqL_same [B 0, B 1, B 2, B 3, B 4, B 5, B 6, B 7, B 8, B 9, B 10, B 11, B 12, B 13, B 14, B 15]
  generalize hr1 : rightB s B = r1 at *
  generalize hr2 : rightB t A = r2 at *
  have HR1E := Lib.hid hr1
  have HR2E := Lib.hid hr2
  have HU1 := Lib.hid hB
  have HU2 := Lib.hid hA
  generalize adText s B = T1 at *
  generalize adText t A = T2 at *
  generalize adBytes s B = L at *
  generalize adCmp s B t A = cm at *
  clear hr1 hr2 hB hA henv
  unfold adV at *
  go_enter Tryz.func5, Tryz.ntmps5
  go_wp2_with fail
  generalize (w.alloc (.cells #[.bool s, .int .u8 (B 0), .int .u8 (B 1), .int .u8 (B 2), .int .u8 (B 3), .int .u8 (B 4), .int .u8 (B 5), .int .u8 (B 6), .int .u8 (B 7), .int .u8 (B 8), .int .u8 (B 9), .int .u8 (B 10), .int .u8 (B 11), .int .u8 (B 12), .int .u8 (B 13), .int .u8 (B 14), .int .u8 (B 15)] 26)).alloc (.cells #[.bool t, .int .u8 (A 0), .int .u8 (A 1), .int .u8 (A 2), .int .u8 (A 3), .int .u8 (A 4), .int .u8 (A 5), .int .u8 (A 6), .int .u8 (A 7), .int .u8 (A 8), .int .u8 (A 9), .int .u8 (A 10), .int .u8 (A 11), .int .u8 (A 12), .int .u8 (A 13), .int .u8 (A 14), .int .u8 (A 15)] 26) = w1 at *
  -- walk
  -- walk
  -- walk
  -- walk
  -- walk
  -- walk
  -- walk
  -- walk
  -- walk
  -- walk
  -- walk
  -- walk
  -- walk
  -- walk
  cases r1
  · skip
    refine Calls.mono (HD1.out _) ?_
    rintro e' w1 ⟨rfl, hb⟩
    have HB1 : Hid (Below w.heap.size w w1) := Lib.hid (Below.via (HB.out) hb)
    have HCX := Lib.hid (cell_up hb HCX.out)
    have HCY := Lib.hid (cell_up hb HCY.out)
    clear hb
    go_wp2_with fail
    refine Calls.mono (HR1.out _) ?_
    rintro e' w2 ⟨rfl, hb⟩
    have HB2 : Hid (Below w.heap.size w w2) := Lib.hid (Below.via (HB1.out) hb)
    have HCX := Lib.hid (cell_up hb HCX.out)
    have HCY := Lib.hid (cell_up hb HCY.out)
    clear hb
    go_wp2_with fail
    refine Calls.mono (works_any _ (HE.out.below HB2.out)) ?_
    rintro e' w3 ⟨rfl, hb⟩
    have HB3 : Hid (Below w.heap.size w w3) := Lib.hid (Below.via (HB2.out) hb)
    have HCX := Lib.hid (cell_up hb HCX.out)
    have HCY := Lib.hid (cell_up hb HCY.out)
    clear hb
    go_wp2_with fail
    go_ret
    exact .mk rfl HB3.out
  · skip
    refine Calls.mono (HD1.out _) ?_
    rintro e' w1 ⟨rfl, hb⟩
    have HB1 : Hid (Below w.heap.size w w1) := Lib.hid (Below.via (HB.out) hb)
    have HCX := Lib.hid (cell_up hb HCX.out)
    have HCY := Lib.hid (cell_up hb HCY.out)
    clear hb
    go_wp2_with fail
    refine Calls.mono (HR1.out _) ?_
    rintro e' w2 ⟨rfl, hb⟩
    have HB2 : Hid (Below w.heap.size w w2) := Lib.hid (Below.via (HB1.out) hb)
    have HCX := Lib.hid (cell_up hb HCX.out)
    have HCY := Lib.hid (cell_up hb HCY.out)
    clear hb
    have hpY : partOf w2 (w.heap.size + 1) 0 17 = #[.bool t, .int .u8 (A 0), .int .u8 (A 1), .int .u8 (A 2), .int .u8 (A 3), .int .u8 (A 4), .int .u8 (A 5), .int .u8 (A 6), .int .u8 (A 7), .int .u8 (A 8), .int .u8 (A 9), .int .u8 (A 10), .int .u8 (A 11), .int .u8 (A 12), .int .u8 (A 13), .int .u8 (A 14), .int .u8 (A 15)] := by rw [partOf_row _ _ _ _ _ _ _ HCY.out]; simp
    have hqY := (Array.getElem?_eq_some_iff.1 HCY.out).1
    go_wp2_with fail
    clear hpY hqY
    refine Calls.mono (HD2.out _) ?_
    rintro e' w3 ⟨rfl, hb⟩
    have HB3 : Hid (Below w.heap.size w w3) := Lib.hid (Below.via (HB2.out) hb)
    have HCX := Lib.hid (cell_up hb HCX.out)
    have HCY := Lib.hid (cell_up hb HCY.out)
    clear hb
    go_wp2_with fail
    refine Calls.mono (HR2.out _) ?_
    rintro e' w4 ⟨rfl, hb⟩
    have HB4 : Hid (Below w.heap.size w w4) := Lib.hid (Below.via (HB3.out) hb)
    have HCX := Lib.hid (cell_up hb HCX.out)
    have HCY := Lib.hid (cell_up hb HCY.out)
    clear hb
    cases r2
    · skip
      go_wp2_with fail
      refine Calls.mono (works_any _ (HE.out.below HB4.out)) ?_
      rintro e' w5 ⟨rfl, hb⟩
      have HB5 : Hid (Below w.heap.size w w5) := Lib.hid (Below.via (HB4.out) hb)
      have HCX := Lib.hid (cell_up hb HCX.out)
      have HCY := Lib.hid (cell_up hb HCY.out)
      clear hb
      go_wp2_with fail
      go_ret
      exact .mk rfl HB5.out
    · skip
      have hpX : partOf w4 w.heap.size 0 17 = #[.bool s, .int .u8 (B 0), .int .u8 (B 1), .int .u8 (B 2), .int .u8 (B 3), .int .u8 (B 4), .int .u8 (B 5), .int .u8 (B 6), .int .u8 (B 7), .int .u8 (B 8), .int .u8 (B 9), .int .u8 (B 10), .int .u8 (B 11), .int .u8 (B 12), .int .u8 (B 13), .int .u8 (B 14), .int .u8 (B 15)] := by rw [partOf_row _ _ _ _ _ _ _ HCX.out]; simp
      have hqX := (Array.getElem?_eq_some_iff.1 HCX.out).1
      have hpY : partOf w4 (w.heap.size + 1) 0 17 = #[.bool t, .int .u8 (A 0), .int .u8 (A 1), .int .u8 (A 2), .int .u8 (A 3), .int .u8 (A 4), .int .u8 (A 5), .int .u8 (A 6), .int .u8 (A 7), .int .u8 (A 8), .int .u8 (A 9), .int .u8 (A 10), .int .u8 (A 11), .int .u8 (A 12), .int .u8 (A 13), .int .u8 (A 14), .int .u8 (A 15)] := by rw [partOf_row _ _ _ _ _ _ _ HCY.out]; simp
      have hqY := (Array.getElem?_eq_some_iff.1 HCY.out).1
      go_wp2_with fail
      have HPA2 := Lib.hid (HPA.out (by trivial))
      have HFR2 := Lib.hid (HFR.out (by trivial))
      have HTX2 := Lib.hid (HTX.out (by trivial) (by trivial))
      clear HPA HFR HTX hpX hqX hpY hqY HD1 HD2 HR1 HR2
      refine Calls.mono (HT1.out _ (HE.out.below HB4.out)) ?_
      rintro e' w5 ⟨rfl, hb⟩
      have HB5 : Hid (Below w.heap.size w w5) := Lib.hid (Below.via (HB4.out) hb)
      have HCX := Lib.hid (cell_up hb HCX.out)
      have HCY := Lib.hid (cell_up hb HCY.out)
      clear hb
      go_wp2_with fail
      refine Calls.mono (HPA2.out _ (HE.out.below HB5.out)) ?_
      rintro e' w6 ⟨rfl, hb⟩
      have HB6 : Hid (Below w.heap.size w w6) := Lib.hid (Below.via (HB5.out) hb)
      have HCX := Lib.hid (cell_up hb HCX.out)
      have HCY := Lib.hid (cell_up hb HCY.out)
      clear hb
      have HB7 : Hid (Below w.heap.size w (w6.alloc (.cells #[.bool s, .int .u8 (B 0), .int .u8 (B 1), .int .u8 (B 2), .int .u8 (B 3), .int .u8 (B 4), .int .u8 (B 5), .int .u8 (B 6), .int .u8 (B 7), .int .u8 (B 8), .int .u8 (B 9), .int .u8 (B 10), .int .u8 (B 11), .int .u8 (B 12), .int .u8 (B 13), .int .u8 (B 14), .int .u8 (B 15)] 26))) := Lib.hid (Below.all (HB6.out) _)
      have HCX := Lib.hid (cell_up (Below.all (Below.refl _ _) (.cells #[.bool s, .int .u8 (B 0), .int .u8 (B 1), .int .u8 (B 2), .int .u8 (B 3), .int .u8 (B 4), .int .u8 (B 5), .int .u8 (B 6), .int .u8 (B 7), .int .u8 (B 8), .int .u8 (B 9), .int .u8 (B 10), .int .u8 (B 11), .int .u8 (B 12), .int .u8 (B 13), .int .u8 (B 14), .int .u8 (B 15)] 26)) HCX.out)
      have HCY := Lib.hid (cell_up (Below.all (Below.refl _ _) (.cells #[.bool s, .int .u8 (B 0), .int .u8 (B 1), .int .u8 (B 2), .int .u8 (B 3), .int .u8 (B 4), .int .u8 (B 5), .int .u8 (B 6), .int .u8 (B 7), .int .u8 (B 8), .int .u8 (B 9), .int .u8 (B 10), .int .u8 (B 11), .int .u8 (B 12), .int .u8 (B 13), .int .u8 (B 14), .int .u8 (B 15)] 26)) HCY.out)
      have HCC : Hid ((w6.alloc (.cells #[.bool s, .int .u8 (B 0), .int .u8 (B 1), .int .u8 (B 2), .int .u8 (B 3), .int .u8 (B 4), .int .u8 (B 5), .int .u8 (B 6), .int .u8 (B 7), .int .u8 (B 8), .int .u8 (B 9), .int .u8 (B 10), .int .u8 (B 11), .int .u8 (B 12), .int .u8 (B 13), .int .u8 (B 14), .int .u8 (B 15)] 26)).heap[w6.heap.size]? = some (.cells #[.bool s, .int .u8 (B 0), .int .u8 (B 1), .int .u8 (B 2), .int .u8 (B 3), .int .u8 (B 4), .int .u8 (B 5), .int .u8 (B 6), .int .u8 (B 7), .int .u8 (B 8), .int .u8 (B 9), .int .u8 (B 10), .int .u8 (B 11), .int .u8 (B 12), .int .u8 (B 13), .int .u8 (B 14), .int .u8 (B 15)] 26 (0, 0))) := Lib.hid (heap_alloc_new w6 _)
      have hpX : partOf (w6.alloc (.cells #[.bool s, .int .u8 (B 0), .int .u8 (B 1), .int .u8 (B 2), .int .u8 (B 3), .int .u8 (B 4), .int .u8 (B 5), .int .u8 (B 6), .int .u8 (B 7), .int .u8 (B 8), .int .u8 (B 9), .int .u8 (B 10), .int .u8 (B 11), .int .u8 (B 12), .int .u8 (B 13), .int .u8 (B 14), .int .u8 (B 15)] 26)) w.heap.size 0 17 = #[.bool s, .int .u8 (B 0), .int .u8 (B 1), .int .u8 (B 2), .int .u8 (B 3), .int .u8 (B 4), .int .u8 (B 5), .int .u8 (B 6), .int .u8 (B 7), .int .u8 (B 8), .int .u8 (B 9), .int .u8 (B 10), .int .u8 (B 11), .int .u8 (B 12), .int .u8 (B 13), .int .u8 (B 14), .int .u8 (B 15)] := by rw [partOf_row _ _ _ _ _ _ _ HCX.out]; simp
      have hqX := (Array.getElem?_eq_some_iff.1 HCX.out).1
      go_wp2_with fail
      generalize hW7 : w6.alloc (.cells #[.bool s, .int .u8 (B 0), .int .u8 (B 1), .int .u8 (B 2), .int .u8 (B 3), .int .u8 (B 4), .int .u8 (B 5), .int .u8 (B 6), .int .u8 (B 7), .int .u8 (B 8), .int .u8 (B 9), .int .u8 (B 10), .int .u8 (B 11), .int .u8 (B 12), .int .u8 (B 13), .int .u8 (B 14), .int .u8 (B 15)] 26) = v7 at *
      clear hW7
      clear hpX hqX
      refine Calls.mono (HBY.out _) ?_
      rintro e' w8 ⟨oa, cap, rfl, ho, hb⟩
      have HB8 : Hid (Below w.heap.size w w8) := Lib.hid (Below.via (HB7.out) hb)
      have HCX := Lib.hid (cell_up hb HCX.out)
      have HCY := Lib.hid (cell_up hb HCY.out)
      have HCC := Lib.hid (cell_up hb HCC.out)
      have HRD := Lib.hid (Owns.reads ho HBU.out)
      clear hb
      clear ho
      go_wp2_with fail
      refine Calls.mono (HFR2.out _ _ _ HRD.out) ?_
      rintro e' w9 ⟨rfl, hb⟩
      have HB9 : Hid (Below w.heap.size w w9) := Lib.hid (Below.via (HB8.out) hb)
      have HCX := Lib.hid (cell_up hb HCX.out)
      have HCY := Lib.hid (cell_up hb HCY.out)
      have HCC := Lib.hid (cell_up hb HCC.out)
      clear hb
      clear HRD
      have HB10 : Hid (Below w.heap.size w (w9.alloc (.cells #[.bool s, .int .u8 (B 0), .int .u8 (B 1), .int .u8 (B 2), .int .u8 (B 3), .int .u8 (B 4), .int .u8 (B 5), .int .u8 (B 6), .int .u8 (B 7), .int .u8 (B 8), .int .u8 (B 9), .int .u8 (B 10), .int .u8 (B 11), .int .u8 (B 12), .int .u8 (B 13), .int .u8 (B 14), .int .u8 (B 15)] 26))) := Lib.hid (Below.all (HB9.out) _)
      have HCX := Lib.hid (cell_up (Below.all (Below.refl _ _) (.cells #[.bool s, .int .u8 (B 0), .int .u8 (B 1), .int .u8 (B 2), .int .u8 (B 3), .int .u8 (B 4), .int .u8 (B 5), .int .u8 (B 6), .int .u8 (B 7), .int .u8 (B 8), .int .u8 (B 9), .int .u8 (B 10), .int .u8 (B 11), .int .u8 (B 12), .int .u8 (B 13), .int .u8 (B 14), .int .u8 (B 15)] 26)) HCX.out)
      have HCY := Lib.hid (cell_up (Below.all (Below.refl _ _) (.cells #[.bool s, .int .u8 (B 0), .int .u8 (B 1), .int .u8 (B 2), .int .u8 (B 3), .int .u8 (B 4), .int .u8 (B 5), .int .u8 (B 6), .int .u8 (B 7), .int .u8 (B 8), .int .u8 (B 9), .int .u8 (B 10), .int .u8 (B 11), .int .u8 (B 12), .int .u8 (B 13), .int .u8 (B 14), .int .u8 (B 15)] 26)) HCY.out)
      have HCC := Lib.hid (cell_up (Below.all (Below.refl _ _) (.cells #[.bool s, .int .u8 (B 0), .int .u8 (B 1), .int .u8 (B 2), .int .u8 (B 3), .int .u8 (B 4), .int .u8 (B 5), .int .u8 (B 6), .int .u8 (B 7), .int .u8 (B 8), .int .u8 (B 9), .int .u8 (B 10), .int .u8 (B 11), .int .u8 (B 12), .int .u8 (B 13), .int .u8 (B 14), .int .u8 (B 15)] 26)) HCC.out)
      have HCD : Hid ((w9.alloc (.cells #[.bool s, .int .u8 (B 0), .int .u8 (B 1), .int .u8 (B 2), .int .u8 (B 3), .int .u8 (B 4), .int .u8 (B 5), .int .u8 (B 6), .int .u8 (B 7), .int .u8 (B 8), .int .u8 (B 9), .int .u8 (B 10), .int .u8 (B 11), .int .u8 (B 12), .int .u8 (B 13), .int .u8 (B 14), .int .u8 (B 15)] 26)).heap[w9.heap.size]? = some (.cells #[.bool s, .int .u8 (B 0), .int .u8 (B 1), .int .u8 (B 2), .int .u8 (B 3), .int .u8 (B 4), .int .u8 (B 5), .int .u8 (B 6), .int .u8 (B 7), .int .u8 (B 8), .int .u8 (B 9), .int .u8 (B 10), .int .u8 (B 11), .int .u8 (B 12), .int .u8 (B 13), .int .u8 (B 14), .int .u8 (B 15)] 26 (0, 0))) := Lib.hid (heap_alloc_new w9 _)
      have hpX : partOf (w9.alloc (.cells #[.bool s, .int .u8 (B 0), .int .u8 (B 1), .int .u8 (B 2), .int .u8 (B 3), .int .u8 (B 4), .int .u8 (B 5), .int .u8 (B 6), .int .u8 (B 7), .int .u8 (B 8), .int .u8 (B 9), .int .u8 (B 10), .int .u8 (B 11), .int .u8 (B 12), .int .u8 (B 13), .int .u8 (B 14), .int .u8 (B 15)] 26)) w.heap.size 0 17 = #[.bool s, .int .u8 (B 0), .int .u8 (B 1), .int .u8 (B 2), .int .u8 (B 3), .int .u8 (B 4), .int .u8 (B 5), .int .u8 (B 6), .int .u8 (B 7), .int .u8 (B 8), .int .u8 (B 9), .int .u8 (B 10), .int .u8 (B 11), .int .u8 (B 12), .int .u8 (B 13), .int .u8 (B 14), .int .u8 (B 15)] := by rw [partOf_row _ _ _ _ _ _ _ HCX.out]; simp
      have hqX := (Array.getElem?_eq_some_iff.1 HCX.out).1
      have hpY : partOf (w9.alloc (.cells #[.bool s, .int .u8 (B 0), .int .u8 (B 1), .int .u8 (B 2), .int .u8 (B 3), .int .u8 (B 4), .int .u8 (B 5), .int .u8 (B 6), .int .u8 (B 7), .int .u8 (B 8), .int .u8 (B 9), .int .u8 (B 10), .int .u8 (B 11), .int .u8 (B 12), .int .u8 (B 13), .int .u8 (B 14), .int .u8 (B 15)] 26)) (w.heap.size + 1) 0 17 = #[.bool t, .int .u8 (A 0), .int .u8 (A 1), .int .u8 (A 2), .int .u8 (A 3), .int .u8 (A 4), .int .u8 (A 5), .int .u8 (A 6), .int .u8 (A 7), .int .u8 (A 8), .int .u8 (A 9), .int .u8 (A 10), .int .u8 (A 11), .int .u8 (A 12), .int .u8 (A 13), .int .u8 (A 14), .int .u8 (A 15)] := by rw [partOf_row _ _ _ _ _ _ _ HCY.out]; simp
      have hqY := (Array.getElem?_eq_some_iff.1 HCY.out).1
      have hpC : partOf (w9.alloc (.cells #[.bool s, .int .u8 (B 0), .int .u8 (B 1), .int .u8 (B 2), .int .u8 (B 3), .int .u8 (B 4), .int .u8 (B 5), .int .u8 (B 6), .int .u8 (B 7), .int .u8 (B 8), .int .u8 (B 9), .int .u8 (B 10), .int .u8 (B 11), .int .u8 (B 12), .int .u8 (B 13), .int .u8 (B 14), .int .u8 (B 15)] 26)) w6.heap.size 0 17 = #[.bool s, .int .u8 (B 0), .int .u8 (B 1), .int .u8 (B 2), .int .u8 (B 3), .int .u8 (B 4), .int .u8 (B 5), .int .u8 (B 6), .int .u8 (B 7), .int .u8 (B 8), .int .u8 (B 9), .int .u8 (B 10), .int .u8 (B 11), .int .u8 (B 12), .int .u8 (B 13), .int .u8 (B 14), .int .u8 (B 15)] := by rw [partOf_row _ _ _ _ _ _ _ HCC.out]; simp
      have hqC := (Array.getElem?_eq_some_iff.1 HCC.out).1
      have hpD : partOf (w9.alloc (.cells #[.bool s, .int .u8 (B 0), .int .u8 (B 1), .int .u8 (B 2), .int .u8 (B 3), .int .u8 (B 4), .int .u8 (B 5), .int .u8 (B 6), .int .u8 (B 7), .int .u8 (B 8), .int .u8 (B 9), .int .u8 (B 10), .int .u8 (B 11), .int .u8 (B 12), .int .u8 (B 13), .int .u8 (B 14), .int .u8 (B 15)] 26)) w9.heap.size 0 17 = #[.bool s, .int .u8 (B 0), .int .u8 (B 1), .int .u8 (B 2), .int .u8 (B 3), .int .u8 (B 4), .int .u8 (B 5), .int .u8 (B 6), .int .u8 (B 7), .int .u8 (B 8), .int .u8 (B 9), .int .u8 (B 10), .int .u8 (B 11), .int .u8 (B 12), .int .u8 (B 13), .int .u8 (B 14), .int .u8 (B 15)] := by rw [partOf_row _ _ _ _ _ _ _ HCD.out]; simp
      have hqD := (Array.getElem?_eq_some_iff.1 HCD.out).1
      go_wp2_with fail
      generalize hW10 : w9.alloc (.cells #[.bool s, .int .u8 (B 0), .int .u8 (B 1), .int .u8 (B 2), .int .u8 (B 3), .int .u8 (B 4), .int .u8 (B 5), .int .u8 (B 6), .int .u8 (B 7), .int .u8 (B 8), .int .u8 (B 9), .int .u8 (B 10), .int .u8 (B 11), .int .u8 (B 12), .int .u8 (B 13), .int .u8 (B 14), .int .u8 (B 15)] 26) = v10 at *
      clear hW10
      have hT := HTX2.out
      have hC := HCX0.out
      generalize hE : (s == t && eqL [B 0, B 1, B 2, B 3, B 4, B 5, B 6, B 7, B 8, B 9, B 10, B 11, B 12, B 13, B 14, B 15] [A 0, A 1, A 2, A 3, A 4, A 5, A 6, A 7, A 8, A 9, A 10, A 11, A 12, A 13, A 14, A 15]) = eb at hT hC
      have hee : (eb == eb) = true := by simp
      have hss : (s == s) = true := by simp
      clear HTX2 HCX0
      have HL0 := Lib.hid (fun (x : Later v10) => HT1.out x.world (Env.later (HE.out.below HB10.out) x))
      have HL1 := Lib.hid (fun (x : Later v10) => HT2.out x.world (Env.later (HE.out.below HB10.out) x))
      have HL2 := Lib.hid (fun (x : Later v10) => HCM.out x.world)
      refine wp_region_later (by kernel_rfl) (by kernel_rfl) ?_
      repeat go_big_quiet_step (fail)
      go_big_quiet_step ((go_at_call 10; exact later_call (HL0.out _)))
      repeat go_big_quiet_step (fail)
      go_big_quiet_step ((go_at_call 10; exact later_call (HL1.out _)))
      repeat go_big_quiet_step (fail)
      go_big_quiet_step ((go_at_call 21; exact later_call (HL2.out _)))
      repeat go_big_quiet_step (fail)
      refine wpQuiet_nil ?_
      intro x
      have hb := x.below
      generalize x.world = w11 at *
      have HB11 : Hid (Below w.heap.size w w11) := Lib.hid (Below.via (HB10.out) hb)
      have HCX := Lib.hid (cell_up hb HCX.out)
      have HCY := Lib.hid (cell_up hb HCY.out)
      have HCC := Lib.hid (cell_up hb HCC.out)
      have HCD := Lib.hid (cell_up hb HCD.out)
      clear hb HL0 HL1 HL2 x
      clear hT hC hE hee
      clear hpX hqX hpY hqY hpC hqC hpD hqD
      go_wp2_with fail
      have hpX : partOf w11 w.heap.size 0 17 = #[.bool s, .int .u8 (B 0), .int .u8 (B 1), .int .u8 (B 2), .int .u8 (B 3), .int .u8 (B 4), .int .u8 (B 5), .int .u8 (B 6), .int .u8 (B 7), .int .u8 (B 8), .int .u8 (B 9), .int .u8 (B 10), .int .u8 (B 11), .int .u8 (B 12), .int .u8 (B 13), .int .u8 (B 14), .int .u8 (B 15)] := by rw [partOf_row _ _ _ _ _ _ _ HCX.out]; simp
      have hqX := (Array.getElem?_eq_some_iff.1 HCX.out).1
      have hpY : partOf w11 (w.heap.size + 1) 0 17 = #[.bool t, .int .u8 (A 0), .int .u8 (A 1), .int .u8 (A 2), .int .u8 (A 3), .int .u8 (A 4), .int .u8 (A 5), .int .u8 (A 6), .int .u8 (A 7), .int .u8 (A 8), .int .u8 (A 9), .int .u8 (A 10), .int .u8 (A 11), .int .u8 (A 12), .int .u8 (A 13), .int .u8 (A 14), .int .u8 (A 15)] := by rw [partOf_row _ _ _ _ _ _ _ HCY.out]; simp
      have hqY := (Array.getElem?_eq_some_iff.1 HCY.out).1
      clear hpX hqX hpY hqY
      obtain ⟨P, pn, Q, qn, S, sn, TP, hq, HF⟩ : ∃ P pn Q qn S sn TP hq, BackF s B t A m n P pn Q qn S sn TP hq := ⟨_, _, _, _, _, _, _, _, back_facts s B t A m n HU1.out HU2.out HR1E.out HR2E.out hm0 hm1 hn0 hn1⟩
      have HF1 := Lib.hid HF.f1
      have HF2 := Lib.hid HF.f2
      have HF3 := Lib.hid HF.f3
      have HF4 := Lib.hid HF.f4
      have HF5 := Lib.hid HF.f5
      have HF6 := Lib.hid HF.f6
      have HF7 := Lib.hid HF.f7
      have HF8 := Lib.hid HF.f8
      have HF9 := Lib.hid HF.f9
      have HF10 := Lib.hid HF.f10
      have HF11 := Lib.hid HF.f11
      have HF12 := Lib.hid HF.f12
      have HF13 := Lib.hid HF.f13
      clear HF HU1 HU2 HR1E HR2E HBY HBU HPA2 HFR2 HCM HT1 HT2
      unfold adV pfV at HF1 HF2 HF3 HF4 HF5 HF6 HF7 HF8 HF9 HF10 HF11 HF12 HF13
      refine wp_region_fresh 6 (.cells #[.bool false, .int .u8 ((fun _ => 0) 0), .int .u8 ((fun _ => 0) 1), .int .u8 ((fun _ => 0) 2), .int .u8 ((fun _ => 0) 3), .int .u8 ((fun _ => 0) 4), .int .u8 ((fun _ => 0) 5), .int .u8 ((fun _ => 0) 6), .int .u8 ((fun _ => 0) 7), .int .u8 ((fun _ => 0) 8), .int .u8 ((fun _ => 0) 9), .int .u8 ((fun _ => 0) 10), .int .u8 ((fun _ => 0) 11), .int .u8 ((fun _ => 0) 12), .int .u8 ((fun _ => 0) 13), .int .u8 ((fun _ => 0) 14), .int .u8 ((fun _ => 0) 15), .int .i64 0] 33) (.cells #[.bool false, .int .u8 ((fun _ => 0) 0), .int .u8 ((fun _ => 0) 1), .int .u8 ((fun _ => 0) 2), .int .u8 ((fun _ => 0) 3), .int .u8 ((fun _ => 0) 4), .int .u8 ((fun _ => 0) 5), .int .u8 ((fun _ => 0) 6), .int .u8 ((fun _ => 0) 7), .int .u8 ((fun _ => 0) 8), .int .u8 ((fun _ => 0) 9), .int .u8 ((fun _ => 0) 10), .int .u8 ((fun _ => 0) 11), .int .u8 ((fun _ => 0) 12), .int .u8 ((fun _ => 0) 13), .int .u8 ((fun _ => 0) 14), .int .u8 ((fun _ => 0) 15), .int .i64 0] 33) (by kernel_rfl) (by kernel_rfl) rfl rfl rfl rfl (by decide) (by kernel_rfl) ⟨fun _ => rfl, fun _ _ => by kernel_rfl⟩ ⟨fun _ => rfl, fun _ _ => by kernel_rfl⟩ ?_
      apply Exists.intro
      refine ⟨fun wx hbx => ?_, ?_⟩
      · skip
        have HCX := Lib.hid (cell_up hbx HCX.out)
        have HCY := Lib.hid (cell_up hbx HCY.out)
        have hpX : partOf wx w.heap.size 0 17 = #[.bool s, .int .u8 (B 0), .int .u8 (B 1), .int .u8 (B 2), .int .u8 (B 3), .int .u8 (B 4), .int .u8 (B 5), .int .u8 (B 6), .int .u8 (B 7), .int .u8 (B 8), .int .u8 (B 9), .int .u8 (B 10), .int .u8 (B 11), .int .u8 (B 12), .int .u8 (B 13), .int .u8 (B 14), .int .u8 (B 15)] := by rw [partOf_row _ _ _ _ _ _ _ HCX.out]; simp
        have hqX := (Array.getElem?_eq_some_iff.1 HCX.out).1
        have hpY : partOf wx (w.heap.size + 1) 0 17 = #[.bool t, .int .u8 (A 0), .int .u8 (A 1), .int .u8 (A 2), .int .u8 (A 3), .int .u8 (A 4), .int .u8 (A 5), .int .u8 (A 6), .int .u8 (A 7), .int .u8 (A 8), .int .u8 (A 9), .int .u8 (A 10), .int .u8 (A 11), .int .u8 (A 12), .int .u8 (A 13), .int .u8 (A 14), .int .u8 (A 15)] := by rw [partOf_row _ _ _ _ _ _ _ HCY.out]; simp
        have hqY := (Array.getElem?_eq_some_iff.1 HCY.out).1
        simp only [List.take_succ_cons, List.take_zero]
        repeat go_big_quiet_step (fail)
        go_big_quiet_step ((go_at_call 9; exact later_call (HF1.out _)))
        repeat go_big_quiet_step (fail)
        go_big_quiet_step ((go_at_call 9; exact later_call (HF2.out _)))
        repeat go_big_quiet_step (fail)
        exact wpQuiet_nil rfl
      intro gp gq wn hbn hgp hgq hgne hcp hcq
      simp only [List.drop_succ_cons, List.drop_zero]
      have q1 := (Array.getElem?_eq_some_iff.1 HCX.out).1
      have q2 := (Array.getElem?_eq_some_iff.1 HCY.out).1
      have HBn : Hid (Below w.heap.size w wn) := Lib.hid (Below.via (HB11.out) hbn)
      have hcx := cell_up hbn HCX.out
      have hcy := cell_up hbn HCY.out
      have hsz := (HB11.out).size
      have hfP : rowFree wn gp 18 = true := by rw [rowFree_row _ _ _ _ _ hcp]; rfl
      have hcq1 := (setRow_other wn gp gq #[.bool s, .int .u8 (P 0), .int .u8 (P 1), .int .u8 (P 2), .int .u8 (P 3), .int .u8 (P 4), .int .u8 (P 5), .int .u8 (P 6), .int .u8 (P 7), .int .u8 (P 8), .int .u8 (P 9), .int .u8 (P 10), .int .u8 (P 11), .int .u8 (P 12), .int .u8 (P 13), .int .u8 (P 14), .int .u8 (P 15), .int .i64 pn] (Ne.symm hgne)).trans hcq
      have hfQ : rowFree (wn.setRow gp #[.bool s, .int .u8 (P 0), .int .u8 (P 1), .int .u8 (P 2), .int .u8 (P 3), .int .u8 (P 4), .int .u8 (P 5), .int .u8 (P 6), .int .u8 (P 7), .int .u8 (P 8), .int .u8 (P 9), .int .u8 (P 10), .int .u8 (P 11), .int .u8 (P 12), .int .u8 (P 13), .int .u8 (P 14), .int .u8 (P 15), .int .i64 pn]) gq 18 = true := by rw [rowFree_row _ _ _ _ _ hcq1]; rfl
      have HCP : Hid (((wn.setRow gp #[.bool s, .int .u8 (P 0), .int .u8 (P 1), .int .u8 (P 2), .int .u8 (P 3), .int .u8 (P 4), .int .u8 (P 5), .int .u8 (P 6), .int .u8 (P 7), .int .u8 (P 8), .int .u8 (P 9), .int .u8 (P 10), .int .u8 (P 11), .int .u8 (P 12), .int .u8 (P 13), .int .u8 (P 14), .int .u8 (P 15), .int .i64 pn]).setRow gq #[.bool t, .int .u8 (Q 0), .int .u8 (Q 1), .int .u8 (Q 2), .int .u8 (Q 3), .int .u8 (Q 4), .int .u8 (Q 5), .int .u8 (Q 6), .int .u8 (Q 7), .int .u8 (Q 8), .int .u8 (Q 9), .int .u8 (Q 10), .int .u8 (Q 11), .int .u8 (Q 12), .int .u8 (Q 13), .int .u8 (Q 14), .int .u8 (Q 15), .int .i64 qn]).heap[gp]? = some (.cells #[.bool s, .int .u8 (P 0), .int .u8 (P 1), .int .u8 (P 2), .int .u8 (P 3), .int .u8 (P 4), .int .u8 (P 5), .int .u8 (P 6), .int .u8 (P 7), .int .u8 (P 8), .int .u8 (P 9), .int .u8 (P 10), .int .u8 (P 11), .int .u8 (P 12), .int .u8 (P 13), .int .u8 (P 14), .int .u8 (P 15), .int .i64 pn] 33 (0, 0))) := Lib.hid ((setRow_other _ gq gp _ hgne).trans (setRow_heap _ _ _ _ _ _ hcp))
      have HCQ : Hid (((wn.setRow gp #[.bool s, .int .u8 (P 0), .int .u8 (P 1), .int .u8 (P 2), .int .u8 (P 3), .int .u8 (P 4), .int .u8 (P 5), .int .u8 (P 6), .int .u8 (P 7), .int .u8 (P 8), .int .u8 (P 9), .int .u8 (P 10), .int .u8 (P 11), .int .u8 (P 12), .int .u8 (P 13), .int .u8 (P 14), .int .u8 (P 15), .int .i64 pn]).setRow gq #[.bool t, .int .u8 (Q 0), .int .u8 (Q 1), .int .u8 (Q 2), .int .u8 (Q 3), .int .u8 (Q 4), .int .u8 (Q 5), .int .u8 (Q 6), .int .u8 (Q 7), .int .u8 (Q 8), .int .u8 (Q 9), .int .u8 (Q 10), .int .u8 (Q 11), .int .u8 (Q 12), .int .u8 (Q 13), .int .u8 (Q 14), .int .u8 (Q 15), .int .i64 qn]).heap[gq]? = some (.cells #[.bool t, .int .u8 (Q 0), .int .u8 (Q 1), .int .u8 (Q 2), .int .u8 (Q 3), .int .u8 (Q 4), .int .u8 (Q 5), .int .u8 (Q 6), .int .u8 (Q 7), .int .u8 (Q 8), .int .u8 (Q 9), .int .u8 (Q 10), .int .u8 (Q 11), .int .u8 (Q 12), .int .u8 (Q 13), .int .u8 (Q 14), .int .u8 (Q 15), .int .i64 qn] 33 (0, 0))) := Lib.hid (setRow_heap _ _ _ _ _ _ hcq1)
      have HCX : Hid (((wn.setRow gp #[.bool s, .int .u8 (P 0), .int .u8 (P 1), .int .u8 (P 2), .int .u8 (P 3), .int .u8 (P 4), .int .u8 (P 5), .int .u8 (P 6), .int .u8 (P 7), .int .u8 (P 8), .int .u8 (P 9), .int .u8 (P 10), .int .u8 (P 11), .int .u8 (P 12), .int .u8 (P 13), .int .u8 (P 14), .int .u8 (P 15), .int .i64 pn]).setRow gq #[.bool t, .int .u8 (Q 0), .int .u8 (Q 1), .int .u8 (Q 2), .int .u8 (Q 3), .int .u8 (Q 4), .int .u8 (Q 5), .int .u8 (Q 6), .int .u8 (Q 7), .int .u8 (Q 8), .int .u8 (Q 9), .int .u8 (Q 10), .int .u8 (Q 11), .int .u8 (Q 12), .int .u8 (Q 13), .int .u8 (Q 14), .int .u8 (Q 15), .int .i64 qn]).heap[w.heap.size]? = some (.cells #[.bool s, .int .u8 (B 0), .int .u8 (B 1), .int .u8 (B 2), .int .u8 (B 3), .int .u8 (B 4), .int .u8 (B 5), .int .u8 (B 6), .int .u8 (B 7), .int .u8 (B 8), .int .u8 (B 9), .int .u8 (B 10), .int .u8 (B 11), .int .u8 (B 12), .int .u8 (B 13), .int .u8 (B 14), .int .u8 (B 15)] 26 (0, 0))) := Lib.hid ((setRow_other _ gq _ _ (by omega)).trans ((setRow_other _ gp _ _ (by omega)).trans hcx))
      have HCY : Hid (((wn.setRow gp #[.bool s, .int .u8 (P 0), .int .u8 (P 1), .int .u8 (P 2), .int .u8 (P 3), .int .u8 (P 4), .int .u8 (P 5), .int .u8 (P 6), .int .u8 (P 7), .int .u8 (P 8), .int .u8 (P 9), .int .u8 (P 10), .int .u8 (P 11), .int .u8 (P 12), .int .u8 (P 13), .int .u8 (P 14), .int .u8 (P 15), .int .i64 pn]).setRow gq #[.bool t, .int .u8 (Q 0), .int .u8 (Q 1), .int .u8 (Q 2), .int .u8 (Q 3), .int .u8 (Q 4), .int .u8 (Q 5), .int .u8 (Q 6), .int .u8 (Q 7), .int .u8 (Q 8), .int .u8 (Q 9), .int .u8 (Q 10), .int .u8 (Q 11), .int .u8 (Q 12), .int .u8 (Q 13), .int .u8 (Q 14), .int .u8 (Q 15), .int .i64 qn]).heap[w.heap.size + 1]? = some (.cells #[.bool t, .int .u8 (A 0), .int .u8 (A 1), .int .u8 (A 2), .int .u8 (A 3), .int .u8 (A 4), .int .u8 (A 5), .int .u8 (A 6), .int .u8 (A 7), .int .u8 (A 8), .int .u8 (A 9), .int .u8 (A 10), .int .u8 (A 11), .int .u8 (A 12), .int .u8 (A 13), .int .u8 (A 14), .int .u8 (A 15)] 26 (0, 0))) := Lib.hid ((setRow_other _ gq _ _ (by omega)).trans ((setRow_other _ gp _ _ (by omega)).trans hcy))
      have HB7b : Hid (Below w.heap.size w ((wn.setRow gp #[.bool s, .int .u8 (P 0), .int .u8 (P 1), .int .u8 (P 2), .int .u8 (P 3), .int .u8 (P 4), .int .u8 (P 5), .int .u8 (P 6), .int .u8 (P 7), .int .u8 (P 8), .int .u8 (P 9), .int .u8 (P 10), .int .u8 (P 11), .int .u8 (P 12), .int .u8 (P 13), .int .u8 (P 14), .int .u8 (P 15), .int .i64 pn]).setRow gq #[.bool t, .int .u8 (Q 0), .int .u8 (Q 1), .int .u8 (Q 2), .int .u8 (Q 3), .int .u8 (Q 4), .int .u8 (Q 5), .int .u8 (Q 6), .int .u8 (Q 7), .int .u8 (Q 8), .int .u8 (Q 9), .int .u8 (Q 10), .int .u8 (Q 11), .int .u8 (Q 12), .int .u8 (Q 13), .int .u8 (Q 14), .int .u8 (Q 15), .int .i64 qn])) := Lib.hid (below_setRow (below_setRow HBn.out (by omega) _) (by omega) _)
      clear hcx hcy hcp hcq hcq1 HBn hbn
      have hpP : partOf ((wn.setRow gp #[.bool s, .int .u8 (P 0), .int .u8 (P 1), .int .u8 (P 2), .int .u8 (P 3), .int .u8 (P 4), .int .u8 (P 5), .int .u8 (P 6), .int .u8 (P 7), .int .u8 (P 8), .int .u8 (P 9), .int .u8 (P 10), .int .u8 (P 11), .int .u8 (P 12), .int .u8 (P 13), .int .u8 (P 14), .int .u8 (P 15), .int .i64 pn]).setRow gq #[.bool t, .int .u8 (Q 0), .int .u8 (Q 1), .int .u8 (Q 2), .int .u8 (Q 3), .int .u8 (Q 4), .int .u8 (Q 5), .int .u8 (Q 6), .int .u8 (Q 7), .int .u8 (Q 8), .int .u8 (Q 9), .int .u8 (Q 10), .int .u8 (Q 11), .int .u8 (Q 12), .int .u8 (Q 13), .int .u8 (Q 14), .int .u8 (Q 15), .int .i64 qn]) gp 0 18 = #[.bool s, .int .u8 (P 0), .int .u8 (P 1), .int .u8 (P 2), .int .u8 (P 3), .int .u8 (P 4), .int .u8 (P 5), .int .u8 (P 6), .int .u8 (P 7), .int .u8 (P 8), .int .u8 (P 9), .int .u8 (P 10), .int .u8 (P 11), .int .u8 (P 12), .int .u8 (P 13), .int .u8 (P 14), .int .u8 (P 15), .int .i64 pn] := by rw [partOf_row _ _ _ _ _ _ _ HCP.out]; simp
      have hqP := (Array.getElem?_eq_some_iff.1 HCP.out).1
      simp only [Act.put, ptrTo, List.setIfInBounds_toArray, List.set_cons_succ, List.set_cons_zero]
      go_wp2_with fail
      generalize hWm : (wn.setRow gp #[.bool s, .int .u8 (P 0), .int .u8 (P 1), .int .u8 (P 2), .int .u8 (P 3), .int .u8 (P 4), .int .u8 (P 5), .int .u8 (P 6), .int .u8 (P 7), .int .u8 (P 8), .int .u8 (P 9), .int .u8 (P 10), .int .u8 (P 11), .int .u8 (P 12), .int .u8 (P 13), .int .u8 (P 14), .int .u8 (P 15), .int .i64 pn]).setRow gq #[.bool t, .int .u8 (Q 0), .int .u8 (Q 1), .int .u8 (Q 2), .int .u8 (Q 3), .int .u8 (Q 4), .int .u8 (Q 5), .int .u8 (Q 6), .int .u8 (Q 7), .int .u8 (Q 8), .int .u8 (Q 9), .int .u8 (Q 10), .int .u8 (Q 11), .int .u8 (Q 12), .int .u8 (Q 13), .int .u8 (Q 14), .int .u8 (Q 15), .int .i64 qn] = wm at *
      clear hWm
      clear hpP hqP
      refine Calls.mono (HF3.out _ (HE.out.below HB7b.out)) ?_
      rintro e' w12 ⟨rfl, hb⟩
      have HB12 : Hid (Below w.heap.size w w12) := Lib.hid (Below.via (HB7b.out) hb)
      have HCX := Lib.hid (cell_up hb HCX.out)
      have HCY := Lib.hid (cell_up hb HCY.out)
      have HCP := Lib.hid (cell_up hb HCP.out)
      have HCQ := Lib.hid (cell_up hb HCQ.out)
      clear hb
      go_wp2_with fail
      refine Calls.mono (HF4.out _ (HE.out.below HB12.out)) ?_
      rintro e' w13 ⟨rfl, hb⟩
      have HB13 : Hid (Below w.heap.size w w13) := Lib.hid (Below.via (HB12.out) hb)
      have HCX := Lib.hid (cell_up hb HCX.out)
      have HCY := Lib.hid (cell_up hb HCY.out)
      have HCP := Lib.hid (cell_up hb HCP.out)
      have HCQ := Lib.hid (cell_up hb HCQ.out)
      clear hb
      have he2 := eqL_same [P 0, P 1, P 2, P 3, P 4, P 5, P 6, P 7, P 8, P 9, P 10, P 11, P 12, P 13, P 14, P 15]
      have HB14 : Hid (Below w.heap.size w (w13.alloc (.cells #[.bool s, .int .u8 (P 0), .int .u8 (P 1), .int .u8 (P 2), .int .u8 (P 3), .int .u8 (P 4), .int .u8 (P 5), .int .u8 (P 6), .int .u8 (P 7), .int .u8 (P 8), .int .u8 (P 9), .int .u8 (P 10), .int .u8 (P 11), .int .u8 (P 12), .int .u8 (P 13), .int .u8 (P 14), .int .u8 (P 15), .int .i64 pn] 33))) := Lib.hid (Below.all (HB13.out) _)
      have HCX := Lib.hid (cell_up (Below.all (Below.refl _ _) (.cells #[.bool s, .int .u8 (P 0), .int .u8 (P 1), .int .u8 (P 2), .int .u8 (P 3), .int .u8 (P 4), .int .u8 (P 5), .int .u8 (P 6), .int .u8 (P 7), .int .u8 (P 8), .int .u8 (P 9), .int .u8 (P 10), .int .u8 (P 11), .int .u8 (P 12), .int .u8 (P 13), .int .u8 (P 14), .int .u8 (P 15), .int .i64 pn] 33)) HCX.out)
      have HCY := Lib.hid (cell_up (Below.all (Below.refl _ _) (.cells #[.bool s, .int .u8 (P 0), .int .u8 (P 1), .int .u8 (P 2), .int .u8 (P 3), .int .u8 (P 4), .int .u8 (P 5), .int .u8 (P 6), .int .u8 (P 7), .int .u8 (P 8), .int .u8 (P 9), .int .u8 (P 10), .int .u8 (P 11), .int .u8 (P 12), .int .u8 (P 13), .int .u8 (P 14), .int .u8 (P 15), .int .i64 pn] 33)) HCY.out)
      have HCP := Lib.hid (cell_up (Below.all (Below.refl _ _) (.cells #[.bool s, .int .u8 (P 0), .int .u8 (P 1), .int .u8 (P 2), .int .u8 (P 3), .int .u8 (P 4), .int .u8 (P 5), .int .u8 (P 6), .int .u8 (P 7), .int .u8 (P 8), .int .u8 (P 9), .int .u8 (P 10), .int .u8 (P 11), .int .u8 (P 12), .int .u8 (P 13), .int .u8 (P 14), .int .u8 (P 15), .int .i64 pn] 33)) HCP.out)
      have HCQ := Lib.hid (cell_up (Below.all (Below.refl _ _) (.cells #[.bool s, .int .u8 (P 0), .int .u8 (P 1), .int .u8 (P 2), .int .u8 (P 3), .int .u8 (P 4), .int .u8 (P 5), .int .u8 (P 6), .int .u8 (P 7), .int .u8 (P 8), .int .u8 (P 9), .int .u8 (P 10), .int .u8 (P 11), .int .u8 (P 12), .int .u8 (P 13), .int .u8 (P 14), .int .u8 (P 15), .int .i64 pn] 33)) HCQ.out)
      have HCR : Hid ((w13.alloc (.cells #[.bool s, .int .u8 (P 0), .int .u8 (P 1), .int .u8 (P 2), .int .u8 (P 3), .int .u8 (P 4), .int .u8 (P 5), .int .u8 (P 6), .int .u8 (P 7), .int .u8 (P 8), .int .u8 (P 9), .int .u8 (P 10), .int .u8 (P 11), .int .u8 (P 12), .int .u8 (P 13), .int .u8 (P 14), .int .u8 (P 15), .int .i64 pn] 33)).heap[w13.heap.size]? = some (.cells #[.bool s, .int .u8 (P 0), .int .u8 (P 1), .int .u8 (P 2), .int .u8 (P 3), .int .u8 (P 4), .int .u8 (P 5), .int .u8 (P 6), .int .u8 (P 7), .int .u8 (P 8), .int .u8 (P 9), .int .u8 (P 10), .int .u8 (P 11), .int .u8 (P 12), .int .u8 (P 13), .int .u8 (P 14), .int .u8 (P 15), .int .i64 pn] 33 (0, 0))) := Lib.hid (heap_alloc_new w13 _)
      go_wp2_with fail
      generalize hW14 : w13.alloc (.cells #[.bool s, .int .u8 (P 0), .int .u8 (P 1), .int .u8 (P 2), .int .u8 (P 3), .int .u8 (P 4), .int .u8 (P 5), .int .u8 (P 6), .int .u8 (P 7), .int .u8 (P 8), .int .u8 (P 9), .int .u8 (P 10), .int .u8 (P 11), .int .u8 (P 12), .int .u8 (P 13), .int .u8 (P 14), .int .u8 (P 15), .int .i64 pn] 33) = v14 at *
      clear hW14
      have hqq : (hq == hq) = true := by simp
      by_cases hle : qn ≤ pn
      · skip
        have HF8b := HF8.out
        simp only [decide_eq_true hle, Bool.true_and] at HF8b
        have HF8c := Lib.hid HF8b
        clear HF8b
        have hpX : partOf v14 w.heap.size 0 17 = #[.bool s, .int .u8 (B 0), .int .u8 (B 1), .int .u8 (B 2), .int .u8 (B 3), .int .u8 (B 4), .int .u8 (B 5), .int .u8 (B 6), .int .u8 (B 7), .int .u8 (B 8), .int .u8 (B 9), .int .u8 (B 10), .int .u8 (B 11), .int .u8 (B 12), .int .u8 (B 13), .int .u8 (B 14), .int .u8 (B 15)] := by rw [partOf_row _ _ _ _ _ _ _ HCX.out]; simp
        have hqX := (Array.getElem?_eq_some_iff.1 HCX.out).1
        have hpP : partOf v14 gp 0 18 = #[.bool s, .int .u8 (P 0), .int .u8 (P 1), .int .u8 (P 2), .int .u8 (P 3), .int .u8 (P 4), .int .u8 (P 5), .int .u8 (P 6), .int .u8 (P 7), .int .u8 (P 8), .int .u8 (P 9), .int .u8 (P 10), .int .u8 (P 11), .int .u8 (P 12), .int .u8 (P 13), .int .u8 (P 14), .int .u8 (P 15), .int .i64 pn] := by rw [partOf_row _ _ _ _ _ _ _ HCP.out]; simp
        have hqP := (Array.getElem?_eq_some_iff.1 HCP.out).1
        have hpQ : partOf v14 gq 0 18 = #[.bool t, .int .u8 (Q 0), .int .u8 (Q 1), .int .u8 (Q 2), .int .u8 (Q 3), .int .u8 (Q 4), .int .u8 (Q 5), .int .u8 (Q 6), .int .u8 (Q 7), .int .u8 (Q 8), .int .u8 (Q 9), .int .u8 (Q 10), .int .u8 (Q 11), .int .u8 (Q 12), .int .u8 (Q 13), .int .u8 (Q 14), .int .u8 (Q 15), .int .i64 qn] := by rw [partOf_row _ _ _ _ _ _ _ HCQ.out]; simp
        have hqQ := (Array.getElem?_eq_some_iff.1 HCQ.out).1
        have hpR : partOf v14 w13.heap.size 0 18 = #[.bool s, .int .u8 (P 0), .int .u8 (P 1), .int .u8 (P 2), .int .u8 (P 3), .int .u8 (P 4), .int .u8 (P 5), .int .u8 (P 6), .int .u8 (P 7), .int .u8 (P 8), .int .u8 (P 9), .int .u8 (P 10), .int .u8 (P 11), .int .u8 (P 12), .int .u8 (P 13), .int .u8 (P 14), .int .u8 (P 15), .int .i64 pn] := by rw [partOf_row _ _ _ _ _ _ _ HCR.out]; simp
        have hqR := (Array.getElem?_eq_some_iff.1 HCR.out).1
        have haP : partOf v14 gp 0 17 = #[.bool s, .int .u8 (P 0), .int .u8 (P 1), .int .u8 (P 2), .int .u8 (P 3), .int .u8 (P 4), .int .u8 (P 5), .int .u8 (P 6), .int .u8 (P 7), .int .u8 (P 8), .int .u8 (P 9), .int .u8 (P 10), .int .u8 (P 11), .int .u8 (P 12), .int .u8 (P 13), .int .u8 (P 14), .int .u8 (P 15)] := by rw [partOf_row _ _ _ _ _ _ _ HCP.out]; simp
        have hlP : (v14).cell? ⟨gp, 17, none⟩ = some (.int .i64 pn) := by rw [cell_of_row _ _ _ _ _ _ HCP.out]; rfl
        have hlQ : (v14).cell? ⟨gq, 17, none⟩ = some (.int .i64 qn) := by rw [cell_of_row _ _ _ _ _ _ HCQ.out]; rfl
        have HL0 := Lib.hid (fun (x : Later v14) => HF5.out x.world)
        have HL1 := Lib.hid (fun (x : Later v14) => HF6.out x.world)
        have HL2 := Lib.hid (fun (x : Later v14) => HF7.out x.world)
        have HL3 := Lib.hid (fun (x : Later v14) => HF8c.out x.world)
        have HL4 := Lib.hid (fun (x : Later v14) => HF9.out x.world)
        refine wp_region_later (by kernel_rfl) (by kernel_rfl) ?_
        repeat go_big_quiet_step (fail)
        go_big_quiet_step ((go_at_call 23; exact later_call (HL0.out _)))
        repeat go_big_quiet_step (fail)
        go_big_quiet_step ((go_at_call 24; exact later_call (HL1.out _)))
        repeat go_big_quiet_step (fail)
        go_big_quiet_step ((go_at_call 25; exact later_call (HL2.out _)))
        repeat go_big_quiet_step (fail)
        go_big_quiet_step ((go_at_call 25; exact later_call (HL3.out _)))
        repeat go_big_quiet_step (fail)
        go_big_quiet_step ((go_at_call 24; exact later_call (HL4.out _)))
        repeat go_big_quiet_step (fail)
        refine wpQuiet_nil ?_
        intro x
        have hb := x.below
        generalize x.world = w15 at *
        have HB15 : Hid (Below w.heap.size w w15) := Lib.hid (Below.via (HB14.out) hb)
        have HCX := Lib.hid (cell_up hb HCX.out)
        have HCY := Lib.hid (cell_up hb HCY.out)
        have HCP := Lib.hid (cell_up hb HCP.out)
        have HCQ := Lib.hid (cell_up hb HCQ.out)
        have HCR := Lib.hid (cell_up hb HCR.out)
        clear hb HL0 HL1 HL2 HL3 HL4 x
        clear hpX hqX hpP hqP hpQ hqQ hpR hqR
        clear haP hlP hlQ
        have hpX : partOf w15 w.heap.size 0 17 = #[.bool s, .int .u8 (B 0), .int .u8 (B 1), .int .u8 (B 2), .int .u8 (B 3), .int .u8 (B 4), .int .u8 (B 5), .int .u8 (B 6), .int .u8 (B 7), .int .u8 (B 8), .int .u8 (B 9), .int .u8 (B 10), .int .u8 (B 11), .int .u8 (B 12), .int .u8 (B 13), .int .u8 (B 14), .int .u8 (B 15)] := by rw [partOf_row _ _ _ _ _ _ _ HCX.out]; simp
        have hqX := (Array.getElem?_eq_some_iff.1 HCX.out).1
        go_wp2_with fail
        clear hpX hqX
        refine Calls.mono (HF10.out _) ?_
        rintro e' w16 ⟨rfl, hb⟩
        have HB16 : Hid (Below w.heap.size w w16) := Lib.hid (Below.via (HB15.out) hb)
        have HCX := Lib.hid (cell_up hb HCX.out)
        have HCY := Lib.hid (cell_up hb HCY.out)
        have HCP := Lib.hid (cell_up hb HCP.out)
        have HCQ := Lib.hid (cell_up hb HCQ.out)
        have HCR := Lib.hid (cell_up hb HCR.out)
        clear hb
        have HB17 : Hid (Below w.heap.size w (w16.alloc (.cells #[.bool s, .int .u8 (S 0), .int .u8 (S 1), .int .u8 (S 2), .int .u8 (S 3), .int .u8 (S 4), .int .u8 (S 5), .int .u8 (S 6), .int .u8 (S 7), .int .u8 (S 8), .int .u8 (S 9), .int .u8 (S 10), .int .u8 (S 11), .int .u8 (S 12), .int .u8 (S 13), .int .u8 (S 14), .int .u8 (S 15), .int .i64 sn] 33))) := Lib.hid (Below.all (HB16.out) _)
        have HCX := Lib.hid (cell_up (Below.all (Below.refl _ _) (.cells #[.bool s, .int .u8 (S 0), .int .u8 (S 1), .int .u8 (S 2), .int .u8 (S 3), .int .u8 (S 4), .int .u8 (S 5), .int .u8 (S 6), .int .u8 (S 7), .int .u8 (S 8), .int .u8 (S 9), .int .u8 (S 10), .int .u8 (S 11), .int .u8 (S 12), .int .u8 (S 13), .int .u8 (S 14), .int .u8 (S 15), .int .i64 sn] 33)) HCX.out)
        have HCY := Lib.hid (cell_up (Below.all (Below.refl _ _) (.cells #[.bool s, .int .u8 (S 0), .int .u8 (S 1), .int .u8 (S 2), .int .u8 (S 3), .int .u8 (S 4), .int .u8 (S 5), .int .u8 (S 6), .int .u8 (S 7), .int .u8 (S 8), .int .u8 (S 9), .int .u8 (S 10), .int .u8 (S 11), .int .u8 (S 12), .int .u8 (S 13), .int .u8 (S 14), .int .u8 (S 15), .int .i64 sn] 33)) HCY.out)
        have HCP := Lib.hid (cell_up (Below.all (Below.refl _ _) (.cells #[.bool s, .int .u8 (S 0), .int .u8 (S 1), .int .u8 (S 2), .int .u8 (S 3), .int .u8 (S 4), .int .u8 (S 5), .int .u8 (S 6), .int .u8 (S 7), .int .u8 (S 8), .int .u8 (S 9), .int .u8 (S 10), .int .u8 (S 11), .int .u8 (S 12), .int .u8 (S 13), .int .u8 (S 14), .int .u8 (S 15), .int .i64 sn] 33)) HCP.out)
        have HCQ := Lib.hid (cell_up (Below.all (Below.refl _ _) (.cells #[.bool s, .int .u8 (S 0), .int .u8 (S 1), .int .u8 (S 2), .int .u8 (S 3), .int .u8 (S 4), .int .u8 (S 5), .int .u8 (S 6), .int .u8 (S 7), .int .u8 (S 8), .int .u8 (S 9), .int .u8 (S 10), .int .u8 (S 11), .int .u8 (S 12), .int .u8 (S 13), .int .u8 (S 14), .int .u8 (S 15), .int .i64 sn] 33)) HCQ.out)
        have HCR := Lib.hid (cell_up (Below.all (Below.refl _ _) (.cells #[.bool s, .int .u8 (S 0), .int .u8 (S 1), .int .u8 (S 2), .int .u8 (S 3), .int .u8 (S 4), .int .u8 (S 5), .int .u8 (S 6), .int .u8 (S 7), .int .u8 (S 8), .int .u8 (S 9), .int .u8 (S 10), .int .u8 (S 11), .int .u8 (S 12), .int .u8 (S 13), .int .u8 (S 14), .int .u8 (S 15), .int .i64 sn] 33)) HCR.out)
        have HCS : Hid ((w16.alloc (.cells #[.bool s, .int .u8 (S 0), .int .u8 (S 1), .int .u8 (S 2), .int .u8 (S 3), .int .u8 (S 4), .int .u8 (S 5), .int .u8 (S 6), .int .u8 (S 7), .int .u8 (S 8), .int .u8 (S 9), .int .u8 (S 10), .int .u8 (S 11), .int .u8 (S 12), .int .u8 (S 13), .int .u8 (S 14), .int .u8 (S 15), .int .i64 sn] 33)).heap[w16.heap.size]? = some (.cells #[.bool s, .int .u8 (S 0), .int .u8 (S 1), .int .u8 (S 2), .int .u8 (S 3), .int .u8 (S 4), .int .u8 (S 5), .int .u8 (S 6), .int .u8 (S 7), .int .u8 (S 8), .int .u8 (S 9), .int .u8 (S 10), .int .u8 (S 11), .int .u8 (S 12), .int .u8 (S 13), .int .u8 (S 14), .int .u8 (S 15), .int .i64 sn] 33 (0, 0))) := Lib.hid (heap_alloc_new w16 _)
        go_wp2_with fail
        generalize hW17 : w16.alloc (.cells #[.bool s, .int .u8 (S 0), .int .u8 (S 1), .int .u8 (S 2), .int .u8 (S 3), .int .u8 (S 4), .int .u8 (S 5), .int .u8 (S 6), .int .u8 (S 7), .int .u8 (S 8), .int .u8 (S 9), .int .u8 (S 10), .int .u8 (S 11), .int .u8 (S 12), .int .u8 (S 13), .int .u8 (S 14), .int .u8 (S 15), .int .i64 sn] 33) = v17 at *
        clear hW17
        by_cases hmn : n ≤ m
        · skip
          have HF11b := Lib.hid (HF11.out hmn)
          by_cases hst : s = t
          · skip
            subst hst
            have HF12b := HF12.out
            simp only [pfEq, b16, beq_self_eq_true, Bool.true_and] at HF12b
            generalize hE : (eqL [S 0, S 1, S 2, S 3, S 4, S 5, S 6, S 7, S 8, S 9, S 10, S 11, S 12, S 13, S 14, S 15] [Q 0, Q 1, Q 2, Q 3, Q 4, Q 5, Q 6, Q 7, Q 8, Q 9, Q 10, Q 11, Q 12, Q 13, Q 14, Q 15] && sn == qn) = e at HF12b
            have hE2 : (s == s && eqL [S 0, S 1, S 2, S 3, S 4, S 5, S 6, S 7, S 8, S 9, S 10, S 11, S 12, S 13, S 14, S 15] [Q 0, Q 1, Q 2, Q 3, Q 4, Q 5, Q 6, Q 7, Q 8, Q 9, Q 10, Q 11, Q 12, Q 13, Q 14, Q 15] && sn == qn) = e := by rw [hss, Bool.true_and]; exact hE
            have hee : (e == e) = true := by simp
            have HF12c := Lib.hid HF12b
            clear HF12b
            cases s
            · skip
              have hpP : partOf v17 gp 0 18 = #[.bool false, .int .u8 (P 0), .int .u8 (P 1), .int .u8 (P 2), .int .u8 (P 3), .int .u8 (P 4), .int .u8 (P 5), .int .u8 (P 6), .int .u8 (P 7), .int .u8 (P 8), .int .u8 (P 9), .int .u8 (P 10), .int .u8 (P 11), .int .u8 (P 12), .int .u8 (P 13), .int .u8 (P 14), .int .u8 (P 15), .int .i64 pn] := by rw [partOf_row _ _ _ _ _ _ _ HCP.out]; simp
              have hqP := (Array.getElem?_eq_some_iff.1 HCP.out).1
              have hpS : partOf v17 w16.heap.size 0 18 = #[.bool false, .int .u8 (S 0), .int .u8 (S 1), .int .u8 (S 2), .int .u8 (S 3), .int .u8 (S 4), .int .u8 (S 5), .int .u8 (S 6), .int .u8 (S 7), .int .u8 (S 8), .int .u8 (S 9), .int .u8 (S 10), .int .u8 (S 11), .int .u8 (S 12), .int .u8 (S 13), .int .u8 (S 14), .int .u8 (S 15), .int .i64 sn] := by rw [partOf_row _ _ _ _ _ _ _ HCS.out]; simp
              have hqS := (Array.getElem?_eq_some_iff.1 HCS.out).1
              have hpQ : partOf v17 gq 0 18 = #[.bool false, .int .u8 (Q 0), .int .u8 (Q 1), .int .u8 (Q 2), .int .u8 (Q 3), .int .u8 (Q 4), .int .u8 (Q 5), .int .u8 (Q 6), .int .u8 (Q 7), .int .u8 (Q 8), .int .u8 (Q 9), .int .u8 (Q 10), .int .u8 (Q 11), .int .u8 (Q 12), .int .u8 (Q 13), .int .u8 (Q 14), .int .u8 (Q 15), .int .i64 qn] := by rw [partOf_row _ _ _ _ _ _ _ HCQ.out]; simp
              have hqQ := (Array.getElem?_eq_some_iff.1 HCQ.out).1
              have hpX : partOf v17 w.heap.size 0 17 = #[.bool false, .int .u8 (B 0), .int .u8 (B 1), .int .u8 (B 2), .int .u8 (B 3), .int .u8 (B 4), .int .u8 (B 5), .int .u8 (B 6), .int .u8 (B 7), .int .u8 (B 8), .int .u8 (B 9), .int .u8 (B 10), .int .u8 (B 11), .int .u8 (B 12), .int .u8 (B 13), .int .u8 (B 14), .int .u8 (B 15)] := by rw [partOf_row _ _ _ _ _ _ _ HCX.out]; simp
              have hqX := (Array.getElem?_eq_some_iff.1 HCX.out).1
              have hpY : partOf v17 (w.heap.size + 1) 0 17 = #[.bool false, .int .u8 (A 0), .int .u8 (A 1), .int .u8 (A 2), .int .u8 (A 3), .int .u8 (A 4), .int .u8 (A 5), .int .u8 (A 6), .int .u8 (A 7), .int .u8 (A 8), .int .u8 (A 9), .int .u8 (A 10), .int .u8 (A 11), .int .u8 (A 12), .int .u8 (A 13), .int .u8 (A 14), .int .u8 (A 15)] := by rw [partOf_row _ _ _ _ _ _ _ HCY.out]; simp
              have hqY := (Array.getElem?_eq_some_iff.1 HCY.out).1
              have hsX : (v17).cell? ⟨w.heap.size, 0, none⟩ = some (.bool false) := by rw [cell_of_row _ _ _ _ _ _ HCX.out]; rfl
              have hsY : (v17).cell? ⟨w.heap.size + 1, 0, none⟩ = some (.bool false) := by rw [cell_of_row _ _ _ _ _ _ HCY.out]; rfl
              have HL0 := Lib.hid (fun (x : Later v17) => HF11b.out x.world)
              have HL1 := Lib.hid (fun (x : Later v17) => HF12c.out x.world)
              have HL2 := Lib.hid (fun (x : Later v17) => HF10.out x.world)
              refine wp_region_later (by kernel_rfl) (by kernel_rfl) ?_
              repeat go_big_quiet_step (fail)
              go_big_quiet_step ((go_at_call 25; exact later_call (HL0.out _)))
              repeat go_big_quiet_step (fail)
              go_big_quiet_step ((go_at_call 24; exact later_call (HL1.out _)))
              repeat go_big_quiet_step (fail)
              go_big_quiet_step ((go_at_call 9; exact later_call (HL2.out _)))
              repeat go_big_quiet_step (fail)
              refine wpQuiet_nil ?_
              intro x
              have hb := x.below
              generalize x.world = w18 at *
              have HB18 : Hid (Below w.heap.size w w18) := Lib.hid (Below.via (HB17.out) hb)
              have HCX := Lib.hid (cell_up hb HCX.out)
              have HCY := Lib.hid (cell_up hb HCY.out)
              have HCP := Lib.hid (cell_up hb HCP.out)
              have HCQ := Lib.hid (cell_up hb HCQ.out)
              have HCR := Lib.hid (cell_up hb HCR.out)
              have HCS := Lib.hid (cell_up hb HCS.out)
              clear hb HL0 HL1 HL2 x
              clear hpP hqP hpS hqS hpQ hqQ hpX hqX hpY hqY
              clear hsX hsY
              try clear hE
              try clear hE2
              go_wp2_with fail
              have hpP : partOf w18 gp 0 18 = #[.bool false, .int .u8 (P 0), .int .u8 (P 1), .int .u8 (P 2), .int .u8 (P 3), .int .u8 (P 4), .int .u8 (P 5), .int .u8 (P 6), .int .u8 (P 7), .int .u8 (P 8), .int .u8 (P 9), .int .u8 (P 10), .int .u8 (P 11), .int .u8 (P 12), .int .u8 (P 13), .int .u8 (P 14), .int .u8 (P 15), .int .i64 pn] := by rw [partOf_row _ _ _ _ _ _ _ HCP.out]; simp
              have hqP := (Array.getElem?_eq_some_iff.1 HCP.out).1
              have haP : partOf w18 gp 0 17 = #[.bool false, .int .u8 (P 0), .int .u8 (P 1), .int .u8 (P 2), .int .u8 (P 3), .int .u8 (P 4), .int .u8 (P 5), .int .u8 (P 6), .int .u8 (P 7), .int .u8 (P 8), .int .u8 (P 9), .int .u8 (P 10), .int .u8 (P 11), .int .u8 (P 12), .int .u8 (P 13), .int .u8 (P 14), .int .u8 (P 15)] := by rw [partOf_row _ _ _ _ _ _ _ HCP.out]; simp
              have HL0 := Lib.hid (fun (x : Later w18) => HF13.out x.world)
              have HL1 := Lib.hid (fun (x : Later w18) => works_any x.world (Env.later (HE.out.below HB18.out) x))
              refine wp_region_later (by kernel_rfl) (by kernel_rfl) ?_
              repeat go_big_quiet_step (fail)
              go_big_quiet_step ((go_at_call 9; exact later_call (HL0.out _)))
              repeat go_big_quiet_step (fail)
              go_big_quiet_step ((go_at_call 12; exact later_call (HL1.out _)))
              repeat go_big_quiet_step (fail)
              refine wpQuiet_nil ?_
              intro x
              have hb := x.below
              generalize x.world = w19 at *
              have HB19 : Hid (Below w.heap.size w w19) := Lib.hid (Below.via (HB18.out) hb)
              have HCX := Lib.hid (cell_up hb HCX.out)
              have HCY := Lib.hid (cell_up hb HCY.out)
              have HCP := Lib.hid (cell_up hb HCP.out)
              have HCQ := Lib.hid (cell_up hb HCQ.out)
              have HCR := Lib.hid (cell_up hb HCR.out)
              have HCS := Lib.hid (cell_up hb HCS.out)
              clear hb HL0 HL1 x
              clear hpP hqP
              clear haP
              go_wp2_with fail
              go_ret
              exact .mk rfl HB19.out
            · skip
              have hpP : partOf v17 gp 0 18 = #[.bool true, .int .u8 (P 0), .int .u8 (P 1), .int .u8 (P 2), .int .u8 (P 3), .int .u8 (P 4), .int .u8 (P 5), .int .u8 (P 6), .int .u8 (P 7), .int .u8 (P 8), .int .u8 (P 9), .int .u8 (P 10), .int .u8 (P 11), .int .u8 (P 12), .int .u8 (P 13), .int .u8 (P 14), .int .u8 (P 15), .int .i64 pn] := by rw [partOf_row _ _ _ _ _ _ _ HCP.out]; simp
              have hqP := (Array.getElem?_eq_some_iff.1 HCP.out).1
              have hpS : partOf v17 w16.heap.size 0 18 = #[.bool true, .int .u8 (S 0), .int .u8 (S 1), .int .u8 (S 2), .int .u8 (S 3), .int .u8 (S 4), .int .u8 (S 5), .int .u8 (S 6), .int .u8 (S 7), .int .u8 (S 8), .int .u8 (S 9), .int .u8 (S 10), .int .u8 (S 11), .int .u8 (S 12), .int .u8 (S 13), .int .u8 (S 14), .int .u8 (S 15), .int .i64 sn] := by rw [partOf_row _ _ _ _ _ _ _ HCS.out]; simp
              have hqS := (Array.getElem?_eq_some_iff.1 HCS.out).1
              have hpQ : partOf v17 gq 0 18 = #[.bool true, .int .u8 (Q 0), .int .u8 (Q 1), .int .u8 (Q 2), .int .u8 (Q 3), .int .u8 (Q 4), .int .u8 (Q 5), .int .u8 (Q 6), .int .u8 (Q 7), .int .u8 (Q 8), .int .u8 (Q 9), .int .u8 (Q 10), .int .u8 (Q 11), .int .u8 (Q 12), .int .u8 (Q 13), .int .u8 (Q 14), .int .u8 (Q 15), .int .i64 qn] := by rw [partOf_row _ _ _ _ _ _ _ HCQ.out]; simp
              have hqQ := (Array.getElem?_eq_some_iff.1 HCQ.out).1
              have hpX : partOf v17 w.heap.size 0 17 = #[.bool true, .int .u8 (B 0), .int .u8 (B 1), .int .u8 (B 2), .int .u8 (B 3), .int .u8 (B 4), .int .u8 (B 5), .int .u8 (B 6), .int .u8 (B 7), .int .u8 (B 8), .int .u8 (B 9), .int .u8 (B 10), .int .u8 (B 11), .int .u8 (B 12), .int .u8 (B 13), .int .u8 (B 14), .int .u8 (B 15)] := by rw [partOf_row _ _ _ _ _ _ _ HCX.out]; simp
              have hqX := (Array.getElem?_eq_some_iff.1 HCX.out).1
              have hpY : partOf v17 (w.heap.size + 1) 0 17 = #[.bool true, .int .u8 (A 0), .int .u8 (A 1), .int .u8 (A 2), .int .u8 (A 3), .int .u8 (A 4), .int .u8 (A 5), .int .u8 (A 6), .int .u8 (A 7), .int .u8 (A 8), .int .u8 (A 9), .int .u8 (A 10), .int .u8 (A 11), .int .u8 (A 12), .int .u8 (A 13), .int .u8 (A 14), .int .u8 (A 15)] := by rw [partOf_row _ _ _ _ _ _ _ HCY.out]; simp
              have hqY := (Array.getElem?_eq_some_iff.1 HCY.out).1
              have hsX : (v17).cell? ⟨w.heap.size, 0, none⟩ = some (.bool true) := by rw [cell_of_row _ _ _ _ _ _ HCX.out]; rfl
              have hsY : (v17).cell? ⟨w.heap.size + 1, 0, none⟩ = some (.bool true) := by rw [cell_of_row _ _ _ _ _ _ HCY.out]; rfl
              have HL0 := Lib.hid (fun (x : Later v17) => HF11b.out x.world)
              have HL1 := Lib.hid (fun (x : Later v17) => HF12c.out x.world)
              have HL2 := Lib.hid (fun (x : Later v17) => HF10.out x.world)
              refine wp_region_later (by kernel_rfl) (by kernel_rfl) ?_
              repeat go_big_quiet_step (fail)
              go_big_quiet_step ((go_at_call 25; exact later_call (HL0.out _)))
              repeat go_big_quiet_step (fail)
              go_big_quiet_step ((go_at_call 24; exact later_call (HL1.out _)))
              repeat go_big_quiet_step (fail)
              go_big_quiet_step ((go_at_call 9; exact later_call (HL2.out _)))
              repeat go_big_quiet_step (fail)
              refine wpQuiet_nil ?_
              intro x
              have hb := x.below
              generalize x.world = w18 at *
              have HB18 : Hid (Below w.heap.size w w18) := Lib.hid (Below.via (HB17.out) hb)
              have HCX := Lib.hid (cell_up hb HCX.out)
              have HCY := Lib.hid (cell_up hb HCY.out)
              have HCP := Lib.hid (cell_up hb HCP.out)
              have HCQ := Lib.hid (cell_up hb HCQ.out)
              have HCR := Lib.hid (cell_up hb HCR.out)
              have HCS := Lib.hid (cell_up hb HCS.out)
              clear hb HL0 HL1 HL2 x
              clear hpP hqP hpS hqS hpQ hqQ hpX hqX hpY hqY
              clear hsX hsY
              try clear hE
              try clear hE2
              go_wp2_with fail
              have hpP : partOf w18 gp 0 18 = #[.bool true, .int .u8 (P 0), .int .u8 (P 1), .int .u8 (P 2), .int .u8 (P 3), .int .u8 (P 4), .int .u8 (P 5), .int .u8 (P 6), .int .u8 (P 7), .int .u8 (P 8), .int .u8 (P 9), .int .u8 (P 10), .int .u8 (P 11), .int .u8 (P 12), .int .u8 (P 13), .int .u8 (P 14), .int .u8 (P 15), .int .i64 pn] := by rw [partOf_row _ _ _ _ _ _ _ HCP.out]; simp
              have hqP := (Array.getElem?_eq_some_iff.1 HCP.out).1
              have haP : partOf w18 gp 0 17 = #[.bool true, .int .u8 (P 0), .int .u8 (P 1), .int .u8 (P 2), .int .u8 (P 3), .int .u8 (P 4), .int .u8 (P 5), .int .u8 (P 6), .int .u8 (P 7), .int .u8 (P 8), .int .u8 (P 9), .int .u8 (P 10), .int .u8 (P 11), .int .u8 (P 12), .int .u8 (P 13), .int .u8 (P 14), .int .u8 (P 15)] := by rw [partOf_row _ _ _ _ _ _ _ HCP.out]; simp
              have HL0 := Lib.hid (fun (x : Later w18) => HF13.out x.world)
              have HL1 := Lib.hid (fun (x : Later w18) => works_any x.world (Env.later (HE.out.below HB18.out) x))
              refine wp_region_later (by kernel_rfl) (by kernel_rfl) ?_
              repeat go_big_quiet_step (fail)
              go_big_quiet_step ((go_at_call 9; exact later_call (HL0.out _)))
              repeat go_big_quiet_step (fail)
              go_big_quiet_step ((go_at_call 12; exact later_call (HL1.out _)))
              repeat go_big_quiet_step (fail)
              refine wpQuiet_nil ?_
              intro x
              have hb := x.below
              generalize x.world = w19 at *
              have HB19 : Hid (Below w.heap.size w w19) := Lib.hid (Below.via (HB18.out) hb)
              have HCX := Lib.hid (cell_up hb HCX.out)
              have HCY := Lib.hid (cell_up hb HCY.out)
              have HCP := Lib.hid (cell_up hb HCP.out)
              have HCQ := Lib.hid (cell_up hb HCQ.out)
              have HCR := Lib.hid (cell_up hb HCR.out)
              have HCS := Lib.hid (cell_up hb HCS.out)
              clear hb HL0 HL1 x
              clear hpP hqP
              clear haP
              go_wp2_with fail
              go_ret
              exact .mk rfl HB19.out
          · skip
            have hsb : (s == t) = false := by simpa using hst
            have HF12b := HF12.out
            simp only [hsb, Bool.false_and] at HF12b
            have HF12c := Lib.hid HF12b
            clear HF12b
            clear hsb
            cases s
            · skip
              obtain rfl : t = true := by cases t <;> first | rfl | exact absurd rfl hst
              have hpP : partOf v17 gp 0 18 = #[.bool false, .int .u8 (P 0), .int .u8 (P 1), .int .u8 (P 2), .int .u8 (P 3), .int .u8 (P 4), .int .u8 (P 5), .int .u8 (P 6), .int .u8 (P 7), .int .u8 (P 8), .int .u8 (P 9), .int .u8 (P 10), .int .u8 (P 11), .int .u8 (P 12), .int .u8 (P 13), .int .u8 (P 14), .int .u8 (P 15), .int .i64 pn] := by rw [partOf_row _ _ _ _ _ _ _ HCP.out]; simp
              have hqP := (Array.getElem?_eq_some_iff.1 HCP.out).1
              have hpS : partOf v17 w16.heap.size 0 18 = #[.bool false, .int .u8 (S 0), .int .u8 (S 1), .int .u8 (S 2), .int .u8 (S 3), .int .u8 (S 4), .int .u8 (S 5), .int .u8 (S 6), .int .u8 (S 7), .int .u8 (S 8), .int .u8 (S 9), .int .u8 (S 10), .int .u8 (S 11), .int .u8 (S 12), .int .u8 (S 13), .int .u8 (S 14), .int .u8 (S 15), .int .i64 sn] := by rw [partOf_row _ _ _ _ _ _ _ HCS.out]; simp
              have hqS := (Array.getElem?_eq_some_iff.1 HCS.out).1
              have hpQ : partOf v17 gq 0 18 = #[.bool true, .int .u8 (Q 0), .int .u8 (Q 1), .int .u8 (Q 2), .int .u8 (Q 3), .int .u8 (Q 4), .int .u8 (Q 5), .int .u8 (Q 6), .int .u8 (Q 7), .int .u8 (Q 8), .int .u8 (Q 9), .int .u8 (Q 10), .int .u8 (Q 11), .int .u8 (Q 12), .int .u8 (Q 13), .int .u8 (Q 14), .int .u8 (Q 15), .int .i64 qn] := by rw [partOf_row _ _ _ _ _ _ _ HCQ.out]; simp
              have hqQ := (Array.getElem?_eq_some_iff.1 HCQ.out).1
              have hpX : partOf v17 w.heap.size 0 17 = #[.bool false, .int .u8 (B 0), .int .u8 (B 1), .int .u8 (B 2), .int .u8 (B 3), .int .u8 (B 4), .int .u8 (B 5), .int .u8 (B 6), .int .u8 (B 7), .int .u8 (B 8), .int .u8 (B 9), .int .u8 (B 10), .int .u8 (B 11), .int .u8 (B 12), .int .u8 (B 13), .int .u8 (B 14), .int .u8 (B 15)] := by rw [partOf_row _ _ _ _ _ _ _ HCX.out]; simp
              have hqX := (Array.getElem?_eq_some_iff.1 HCX.out).1
              have hpY : partOf v17 (w.heap.size + 1) 0 17 = #[.bool true, .int .u8 (A 0), .int .u8 (A 1), .int .u8 (A 2), .int .u8 (A 3), .int .u8 (A 4), .int .u8 (A 5), .int .u8 (A 6), .int .u8 (A 7), .int .u8 (A 8), .int .u8 (A 9), .int .u8 (A 10), .int .u8 (A 11), .int .u8 (A 12), .int .u8 (A 13), .int .u8 (A 14), .int .u8 (A 15)] := by rw [partOf_row _ _ _ _ _ _ _ HCY.out]; simp
              have hqY := (Array.getElem?_eq_some_iff.1 HCY.out).1
              have hsX : (v17).cell? ⟨w.heap.size, 0, none⟩ = some (.bool false) := by rw [cell_of_row _ _ _ _ _ _ HCX.out]; rfl
              have hsY : (v17).cell? ⟨w.heap.size + 1, 0, none⟩ = some (.bool true) := by rw [cell_of_row _ _ _ _ _ _ HCY.out]; rfl
              have HL0 := Lib.hid (fun (x : Later v17) => HF11b.out x.world)
              have HL1 := Lib.hid (fun (x : Later v17) => HF12c.out x.world)
              refine wp_region_later (by kernel_rfl) (by kernel_rfl) ?_
              repeat go_big_quiet_step (fail)
              go_big_quiet_step ((go_at_call 25; exact later_call (HL0.out _)))
              repeat go_big_quiet_step (fail)
              go_big_quiet_step ((go_at_call 24; exact later_call (HL1.out _)))
              repeat go_big_quiet_step (fail)
              refine wpQuiet_nil ?_
              intro x
              have hb := x.below
              generalize x.world = w18 at *
              have HB18 : Hid (Below w.heap.size w w18) := Lib.hid (Below.via (HB17.out) hb)
              have HCX := Lib.hid (cell_up hb HCX.out)
              have HCY := Lib.hid (cell_up hb HCY.out)
              have HCP := Lib.hid (cell_up hb HCP.out)
              have HCQ := Lib.hid (cell_up hb HCQ.out)
              have HCR := Lib.hid (cell_up hb HCR.out)
              have HCS := Lib.hid (cell_up hb HCS.out)
              clear hb HL0 HL1 x
              clear hpP hqP hpS hqS hpQ hqQ hpX hqX hpY hqY
              clear hsX hsY
              try clear hE
              try clear hE2
              go_wp2_with fail
              have hpP : partOf w18 gp 0 18 = #[.bool false, .int .u8 (P 0), .int .u8 (P 1), .int .u8 (P 2), .int .u8 (P 3), .int .u8 (P 4), .int .u8 (P 5), .int .u8 (P 6), .int .u8 (P 7), .int .u8 (P 8), .int .u8 (P 9), .int .u8 (P 10), .int .u8 (P 11), .int .u8 (P 12), .int .u8 (P 13), .int .u8 (P 14), .int .u8 (P 15), .int .i64 pn] := by rw [partOf_row _ _ _ _ _ _ _ HCP.out]; simp
              have hqP := (Array.getElem?_eq_some_iff.1 HCP.out).1
              have haP : partOf w18 gp 0 17 = #[.bool false, .int .u8 (P 0), .int .u8 (P 1), .int .u8 (P 2), .int .u8 (P 3), .int .u8 (P 4), .int .u8 (P 5), .int .u8 (P 6), .int .u8 (P 7), .int .u8 (P 8), .int .u8 (P 9), .int .u8 (P 10), .int .u8 (P 11), .int .u8 (P 12), .int .u8 (P 13), .int .u8 (P 14), .int .u8 (P 15)] := by rw [partOf_row _ _ _ _ _ _ _ HCP.out]; simp
              have HL0 := Lib.hid (fun (x : Later w18) => HF13.out x.world)
              have HL1 := Lib.hid (fun (x : Later w18) => works_any x.world (Env.later (HE.out.below HB18.out) x))
              refine wp_region_later (by kernel_rfl) (by kernel_rfl) ?_
              repeat go_big_quiet_step (fail)
              go_big_quiet_step ((go_at_call 9; exact later_call (HL0.out _)))
              repeat go_big_quiet_step (fail)
              go_big_quiet_step ((go_at_call 12; exact later_call (HL1.out _)))
              repeat go_big_quiet_step (fail)
              refine wpQuiet_nil ?_
              intro x
              have hb := x.below
              generalize x.world = w19 at *
              have HB19 : Hid (Below w.heap.size w w19) := Lib.hid (Below.via (HB18.out) hb)
              have HCX := Lib.hid (cell_up hb HCX.out)
              have HCY := Lib.hid (cell_up hb HCY.out)
              have HCP := Lib.hid (cell_up hb HCP.out)
              have HCQ := Lib.hid (cell_up hb HCQ.out)
              have HCR := Lib.hid (cell_up hb HCR.out)
              have HCS := Lib.hid (cell_up hb HCS.out)
              clear hb HL0 HL1 x
              clear hpP hqP
              clear haP
              go_wp2_with fail
              go_ret
              exact .mk rfl HB19.out
            · skip
              obtain rfl : t = false := by cases t <;> first | rfl | exact absurd rfl hst
              have hpP : partOf v17 gp 0 18 = #[.bool true, .int .u8 (P 0), .int .u8 (P 1), .int .u8 (P 2), .int .u8 (P 3), .int .u8 (P 4), .int .u8 (P 5), .int .u8 (P 6), .int .u8 (P 7), .int .u8 (P 8), .int .u8 (P 9), .int .u8 (P 10), .int .u8 (P 11), .int .u8 (P 12), .int .u8 (P 13), .int .u8 (P 14), .int .u8 (P 15), .int .i64 pn] := by rw [partOf_row _ _ _ _ _ _ _ HCP.out]; simp
              have hqP := (Array.getElem?_eq_some_iff.1 HCP.out).1
              have hpS : partOf v17 w16.heap.size 0 18 = #[.bool true, .int .u8 (S 0), .int .u8 (S 1), .int .u8 (S 2), .int .u8 (S 3), .int .u8 (S 4), .int .u8 (S 5), .int .u8 (S 6), .int .u8 (S 7), .int .u8 (S 8), .int .u8 (S 9), .int .u8 (S 10), .int .u8 (S 11), .int .u8 (S 12), .int .u8 (S 13), .int .u8 (S 14), .int .u8 (S 15), .int .i64 sn] := by rw [partOf_row _ _ _ _ _ _ _ HCS.out]; simp
              have hqS := (Array.getElem?_eq_some_iff.1 HCS.out).1
              have hpQ : partOf v17 gq 0 18 = #[.bool false, .int .u8 (Q 0), .int .u8 (Q 1), .int .u8 (Q 2), .int .u8 (Q 3), .int .u8 (Q 4), .int .u8 (Q 5), .int .u8 (Q 6), .int .u8 (Q 7), .int .u8 (Q 8), .int .u8 (Q 9), .int .u8 (Q 10), .int .u8 (Q 11), .int .u8 (Q 12), .int .u8 (Q 13), .int .u8 (Q 14), .int .u8 (Q 15), .int .i64 qn] := by rw [partOf_row _ _ _ _ _ _ _ HCQ.out]; simp
              have hqQ := (Array.getElem?_eq_some_iff.1 HCQ.out).1
              have hpX : partOf v17 w.heap.size 0 17 = #[.bool true, .int .u8 (B 0), .int .u8 (B 1), .int .u8 (B 2), .int .u8 (B 3), .int .u8 (B 4), .int .u8 (B 5), .int .u8 (B 6), .int .u8 (B 7), .int .u8 (B 8), .int .u8 (B 9), .int .u8 (B 10), .int .u8 (B 11), .int .u8 (B 12), .int .u8 (B 13), .int .u8 (B 14), .int .u8 (B 15)] := by rw [partOf_row _ _ _ _ _ _ _ HCX.out]; simp
              have hqX := (Array.getElem?_eq_some_iff.1 HCX.out).1
              have hpY : partOf v17 (w.heap.size + 1) 0 17 = #[.bool false, .int .u8 (A 0), .int .u8 (A 1), .int .u8 (A 2), .int .u8 (A 3), .int .u8 (A 4), .int .u8 (A 5), .int .u8 (A 6), .int .u8 (A 7), .int .u8 (A 8), .int .u8 (A 9), .int .u8 (A 10), .int .u8 (A 11), .int .u8 (A 12), .int .u8 (A 13), .int .u8 (A 14), .int .u8 (A 15)] := by rw [partOf_row _ _ _ _ _ _ _ HCY.out]; simp
              have hqY := (Array.getElem?_eq_some_iff.1 HCY.out).1
              have hsX : (v17).cell? ⟨w.heap.size, 0, none⟩ = some (.bool true) := by rw [cell_of_row _ _ _ _ _ _ HCX.out]; rfl
              have hsY : (v17).cell? ⟨w.heap.size + 1, 0, none⟩ = some (.bool false) := by rw [cell_of_row _ _ _ _ _ _ HCY.out]; rfl
              have HL0 := Lib.hid (fun (x : Later v17) => HF11b.out x.world)
              have HL1 := Lib.hid (fun (x : Later v17) => HF12c.out x.world)
              refine wp_region_later (by kernel_rfl) (by kernel_rfl) ?_
              repeat go_big_quiet_step (fail)
              go_big_quiet_step ((go_at_call 25; exact later_call (HL0.out _)))
              repeat go_big_quiet_step (fail)
              go_big_quiet_step ((go_at_call 24; exact later_call (HL1.out _)))
              repeat go_big_quiet_step (fail)
              refine wpQuiet_nil ?_
              intro x
              have hb := x.below
              generalize x.world = w18 at *
              have HB18 : Hid (Below w.heap.size w w18) := Lib.hid (Below.via (HB17.out) hb)
              have HCX := Lib.hid (cell_up hb HCX.out)
              have HCY := Lib.hid (cell_up hb HCY.out)
              have HCP := Lib.hid (cell_up hb HCP.out)
              have HCQ := Lib.hid (cell_up hb HCQ.out)
              have HCR := Lib.hid (cell_up hb HCR.out)
              have HCS := Lib.hid (cell_up hb HCS.out)
              clear hb HL0 HL1 x
              clear hpP hqP hpS hqS hpQ hqQ hpX hqX hpY hqY
              clear hsX hsY
              try clear hE
              try clear hE2
              go_wp2_with fail
              have hpP : partOf w18 gp 0 18 = #[.bool true, .int .u8 (P 0), .int .u8 (P 1), .int .u8 (P 2), .int .u8 (P 3), .int .u8 (P 4), .int .u8 (P 5), .int .u8 (P 6), .int .u8 (P 7), .int .u8 (P 8), .int .u8 (P 9), .int .u8 (P 10), .int .u8 (P 11), .int .u8 (P 12), .int .u8 (P 13), .int .u8 (P 14), .int .u8 (P 15), .int .i64 pn] := by rw [partOf_row _ _ _ _ _ _ _ HCP.out]; simp
              have hqP := (Array.getElem?_eq_some_iff.1 HCP.out).1
              have haP : partOf w18 gp 0 17 = #[.bool true, .int .u8 (P 0), .int .u8 (P 1), .int .u8 (P 2), .int .u8 (P 3), .int .u8 (P 4), .int .u8 (P 5), .int .u8 (P 6), .int .u8 (P 7), .int .u8 (P 8), .int .u8 (P 9), .int .u8 (P 10), .int .u8 (P 11), .int .u8 (P 12), .int .u8 (P 13), .int .u8 (P 14), .int .u8 (P 15)] := by rw [partOf_row _ _ _ _ _ _ _ HCP.out]; simp
              have HL0 := Lib.hid (fun (x : Later w18) => HF13.out x.world)
              have HL1 := Lib.hid (fun (x : Later w18) => works_any x.world (Env.later (HE.out.below HB18.out) x))
              refine wp_region_later (by kernel_rfl) (by kernel_rfl) ?_
              repeat go_big_quiet_step (fail)
              go_big_quiet_step ((go_at_call 9; exact later_call (HL0.out _)))
              repeat go_big_quiet_step (fail)
              go_big_quiet_step ((go_at_call 12; exact later_call (HL1.out _)))
              repeat go_big_quiet_step (fail)
              refine wpQuiet_nil ?_
              intro x
              have hb := x.below
              generalize x.world = w19 at *
              have HB19 : Hid (Below w.heap.size w w19) := Lib.hid (Below.via (HB18.out) hb)
              have HCX := Lib.hid (cell_up hb HCX.out)
              have HCY := Lib.hid (cell_up hb HCY.out)
              have HCP := Lib.hid (cell_up hb HCP.out)
              have HCQ := Lib.hid (cell_up hb HCQ.out)
              have HCR := Lib.hid (cell_up hb HCR.out)
              have HCS := Lib.hid (cell_up hb HCS.out)
              clear hb HL0 HL1 x
              clear hpP hqP
              clear haP
              go_wp2_with fail
              go_ret
              exact .mk rfl HB19.out
        · skip
          by_cases hst : s = t
          · skip
            subst hst
            have HF12b := HF12.out
            simp only [pfEq, b16, beq_self_eq_true, Bool.true_and] at HF12b
            generalize hE : (eqL [S 0, S 1, S 2, S 3, S 4, S 5, S 6, S 7, S 8, S 9, S 10, S 11, S 12, S 13, S 14, S 15] [Q 0, Q 1, Q 2, Q 3, Q 4, Q 5, Q 6, Q 7, Q 8, Q 9, Q 10, Q 11, Q 12, Q 13, Q 14, Q 15] && sn == qn) = e at HF12b
            have hE2 : (s == s && eqL [S 0, S 1, S 2, S 3, S 4, S 5, S 6, S 7, S 8, S 9, S 10, S 11, S 12, S 13, S 14, S 15] [Q 0, Q 1, Q 2, Q 3, Q 4, Q 5, Q 6, Q 7, Q 8, Q 9, Q 10, Q 11, Q 12, Q 13, Q 14, Q 15] && sn == qn) = e := by rw [hss, Bool.true_and]; exact hE
            have hee : (e == e) = true := by simp
            have HF12c := Lib.hid HF12b
            clear HF12b
            cases s
            · skip
              have hpP : partOf v17 gp 0 18 = #[.bool false, .int .u8 (P 0), .int .u8 (P 1), .int .u8 (P 2), .int .u8 (P 3), .int .u8 (P 4), .int .u8 (P 5), .int .u8 (P 6), .int .u8 (P 7), .int .u8 (P 8), .int .u8 (P 9), .int .u8 (P 10), .int .u8 (P 11), .int .u8 (P 12), .int .u8 (P 13), .int .u8 (P 14), .int .u8 (P 15), .int .i64 pn] := by rw [partOf_row _ _ _ _ _ _ _ HCP.out]; simp
              have hqP := (Array.getElem?_eq_some_iff.1 HCP.out).1
              have hpS : partOf v17 w16.heap.size 0 18 = #[.bool false, .int .u8 (S 0), .int .u8 (S 1), .int .u8 (S 2), .int .u8 (S 3), .int .u8 (S 4), .int .u8 (S 5), .int .u8 (S 6), .int .u8 (S 7), .int .u8 (S 8), .int .u8 (S 9), .int .u8 (S 10), .int .u8 (S 11), .int .u8 (S 12), .int .u8 (S 13), .int .u8 (S 14), .int .u8 (S 15), .int .i64 sn] := by rw [partOf_row _ _ _ _ _ _ _ HCS.out]; simp
              have hqS := (Array.getElem?_eq_some_iff.1 HCS.out).1
              have hpQ : partOf v17 gq 0 18 = #[.bool false, .int .u8 (Q 0), .int .u8 (Q 1), .int .u8 (Q 2), .int .u8 (Q 3), .int .u8 (Q 4), .int .u8 (Q 5), .int .u8 (Q 6), .int .u8 (Q 7), .int .u8 (Q 8), .int .u8 (Q 9), .int .u8 (Q 10), .int .u8 (Q 11), .int .u8 (Q 12), .int .u8 (Q 13), .int .u8 (Q 14), .int .u8 (Q 15), .int .i64 qn] := by rw [partOf_row _ _ _ _ _ _ _ HCQ.out]; simp
              have hqQ := (Array.getElem?_eq_some_iff.1 HCQ.out).1
              have hpX : partOf v17 w.heap.size 0 17 = #[.bool false, .int .u8 (B 0), .int .u8 (B 1), .int .u8 (B 2), .int .u8 (B 3), .int .u8 (B 4), .int .u8 (B 5), .int .u8 (B 6), .int .u8 (B 7), .int .u8 (B 8), .int .u8 (B 9), .int .u8 (B 10), .int .u8 (B 11), .int .u8 (B 12), .int .u8 (B 13), .int .u8 (B 14), .int .u8 (B 15)] := by rw [partOf_row _ _ _ _ _ _ _ HCX.out]; simp
              have hqX := (Array.getElem?_eq_some_iff.1 HCX.out).1
              have hpY : partOf v17 (w.heap.size + 1) 0 17 = #[.bool false, .int .u8 (A 0), .int .u8 (A 1), .int .u8 (A 2), .int .u8 (A 3), .int .u8 (A 4), .int .u8 (A 5), .int .u8 (A 6), .int .u8 (A 7), .int .u8 (A 8), .int .u8 (A 9), .int .u8 (A 10), .int .u8 (A 11), .int .u8 (A 12), .int .u8 (A 13), .int .u8 (A 14), .int .u8 (A 15)] := by rw [partOf_row _ _ _ _ _ _ _ HCY.out]; simp
              have hqY := (Array.getElem?_eq_some_iff.1 HCY.out).1
              have hsX : (v17).cell? ⟨w.heap.size, 0, none⟩ = some (.bool false) := by rw [cell_of_row _ _ _ _ _ _ HCX.out]; rfl
              have hsY : (v17).cell? ⟨w.heap.size + 1, 0, none⟩ = some (.bool false) := by rw [cell_of_row _ _ _ _ _ _ HCY.out]; rfl
              have HL0 := Lib.hid (fun (x : Later v17) => HF12c.out x.world)
              have HL1 := Lib.hid (fun (x : Later v17) => HF10.out x.world)
              refine wp_region_later (by kernel_rfl) (by kernel_rfl) ?_
              repeat go_big_quiet_step (fail)
              go_big_quiet_step ((go_at_call 24; exact later_call (HL0.out _)))
              repeat go_big_quiet_step (fail)
              go_big_quiet_step ((go_at_call 9; exact later_call (HL1.out _)))
              repeat go_big_quiet_step (fail)
              refine wpQuiet_nil ?_
              intro x
              have hb := x.below
              generalize x.world = w18 at *
              have HB18 : Hid (Below w.heap.size w w18) := Lib.hid (Below.via (HB17.out) hb)
              have HCX := Lib.hid (cell_up hb HCX.out)
              have HCY := Lib.hid (cell_up hb HCY.out)
              have HCP := Lib.hid (cell_up hb HCP.out)
              have HCQ := Lib.hid (cell_up hb HCQ.out)
              have HCR := Lib.hid (cell_up hb HCR.out)
              have HCS := Lib.hid (cell_up hb HCS.out)
              clear hb HL0 HL1 x
              clear hpP hqP hpS hqS hpQ hqQ hpX hqX hpY hqY
              clear hsX hsY
              try clear hE
              try clear hE2
              go_wp2_with fail
              have hpP : partOf w18 gp 0 18 = #[.bool false, .int .u8 (P 0), .int .u8 (P 1), .int .u8 (P 2), .int .u8 (P 3), .int .u8 (P 4), .int .u8 (P 5), .int .u8 (P 6), .int .u8 (P 7), .int .u8 (P 8), .int .u8 (P 9), .int .u8 (P 10), .int .u8 (P 11), .int .u8 (P 12), .int .u8 (P 13), .int .u8 (P 14), .int .u8 (P 15), .int .i64 pn] := by rw [partOf_row _ _ _ _ _ _ _ HCP.out]; simp
              have hqP := (Array.getElem?_eq_some_iff.1 HCP.out).1
              have haP : partOf w18 gp 0 17 = #[.bool false, .int .u8 (P 0), .int .u8 (P 1), .int .u8 (P 2), .int .u8 (P 3), .int .u8 (P 4), .int .u8 (P 5), .int .u8 (P 6), .int .u8 (P 7), .int .u8 (P 8), .int .u8 (P 9), .int .u8 (P 10), .int .u8 (P 11), .int .u8 (P 12), .int .u8 (P 13), .int .u8 (P 14), .int .u8 (P 15)] := by rw [partOf_row _ _ _ _ _ _ _ HCP.out]; simp
              have HL0 := Lib.hid (fun (x : Later w18) => HF13.out x.world)
              have HL1 := Lib.hid (fun (x : Later w18) => works_any x.world (Env.later (HE.out.below HB18.out) x))
              refine wp_region_later (by kernel_rfl) (by kernel_rfl) ?_
              repeat go_big_quiet_step (fail)
              go_big_quiet_step ((go_at_call 9; exact later_call (HL0.out _)))
              repeat go_big_quiet_step (fail)
              go_big_quiet_step ((go_at_call 12; exact later_call (HL1.out _)))
              repeat go_big_quiet_step (fail)
              refine wpQuiet_nil ?_
              intro x
              have hb := x.below
              generalize x.world = w19 at *
              have HB19 : Hid (Below w.heap.size w w19) := Lib.hid (Below.via (HB18.out) hb)
              have HCX := Lib.hid (cell_up hb HCX.out)
              have HCY := Lib.hid (cell_up hb HCY.out)
              have HCP := Lib.hid (cell_up hb HCP.out)
              have HCQ := Lib.hid (cell_up hb HCQ.out)
              have HCR := Lib.hid (cell_up hb HCR.out)
              have HCS := Lib.hid (cell_up hb HCS.out)
              clear hb HL0 HL1 x
              clear hpP hqP
              clear haP
              go_wp2_with fail
              go_ret
              exact .mk rfl HB19.out
            · skip
              have hpP : partOf v17 gp 0 18 = #[.bool true, .int .u8 (P 0), .int .u8 (P 1), .int .u8 (P 2), .int .u8 (P 3), .int .u8 (P 4), .int .u8 (P 5), .int .u8 (P 6), .int .u8 (P 7), .int .u8 (P 8), .int .u8 (P 9), .int .u8 (P 10), .int .u8 (P 11), .int .u8 (P 12), .int .u8 (P 13), .int .u8 (P 14), .int .u8 (P 15), .int .i64 pn] := by rw [partOf_row _ _ _ _ _ _ _ HCP.out]; simp
              have hqP := (Array.getElem?_eq_some_iff.1 HCP.out).1
              have hpS : partOf v17 w16.heap.size 0 18 = #[.bool true, .int .u8 (S 0), .int .u8 (S 1), .int .u8 (S 2), .int .u8 (S 3), .int .u8 (S 4), .int .u8 (S 5), .int .u8 (S 6), .int .u8 (S 7), .int .u8 (S 8), .int .u8 (S 9), .int .u8 (S 10), .int .u8 (S 11), .int .u8 (S 12), .int .u8 (S 13), .int .u8 (S 14), .int .u8 (S 15), .int .i64 sn] := by rw [partOf_row _ _ _ _ _ _ _ HCS.out]; simp
              have hqS := (Array.getElem?_eq_some_iff.1 HCS.out).1
              have hpQ : partOf v17 gq 0 18 = #[.bool true, .int .u8 (Q 0), .int .u8 (Q 1), .int .u8 (Q 2), .int .u8 (Q 3), .int .u8 (Q 4), .int .u8 (Q 5), .int .u8 (Q 6), .int .u8 (Q 7), .int .u8 (Q 8), .int .u8 (Q 9), .int .u8 (Q 10), .int .u8 (Q 11), .int .u8 (Q 12), .int .u8 (Q 13), .int .u8 (Q 14), .int .u8 (Q 15), .int .i64 qn] := by rw [partOf_row _ _ _ _ _ _ _ HCQ.out]; simp
              have hqQ := (Array.getElem?_eq_some_iff.1 HCQ.out).1
              have hpX : partOf v17 w.heap.size 0 17 = #[.bool true, .int .u8 (B 0), .int .u8 (B 1), .int .u8 (B 2), .int .u8 (B 3), .int .u8 (B 4), .int .u8 (B 5), .int .u8 (B 6), .int .u8 (B 7), .int .u8 (B 8), .int .u8 (B 9), .int .u8 (B 10), .int .u8 (B 11), .int .u8 (B 12), .int .u8 (B 13), .int .u8 (B 14), .int .u8 (B 15)] := by rw [partOf_row _ _ _ _ _ _ _ HCX.out]; simp
              have hqX := (Array.getElem?_eq_some_iff.1 HCX.out).1
              have hpY : partOf v17 (w.heap.size + 1) 0 17 = #[.bool true, .int .u8 (A 0), .int .u8 (A 1), .int .u8 (A 2), .int .u8 (A 3), .int .u8 (A 4), .int .u8 (A 5), .int .u8 (A 6), .int .u8 (A 7), .int .u8 (A 8), .int .u8 (A 9), .int .u8 (A 10), .int .u8 (A 11), .int .u8 (A 12), .int .u8 (A 13), .int .u8 (A 14), .int .u8 (A 15)] := by rw [partOf_row _ _ _ _ _ _ _ HCY.out]; simp
              have hqY := (Array.getElem?_eq_some_iff.1 HCY.out).1
              have hsX : (v17).cell? ⟨w.heap.size, 0, none⟩ = some (.bool true) := by rw [cell_of_row _ _ _ _ _ _ HCX.out]; rfl
              have hsY : (v17).cell? ⟨w.heap.size + 1, 0, none⟩ = some (.bool true) := by rw [cell_of_row _ _ _ _ _ _ HCY.out]; rfl
              have HL0 := Lib.hid (fun (x : Later v17) => HF12c.out x.world)
              have HL1 := Lib.hid (fun (x : Later v17) => HF10.out x.world)
              refine wp_region_later (by kernel_rfl) (by kernel_rfl) ?_
              repeat go_big_quiet_step (fail)
              go_big_quiet_step ((go_at_call 24; exact later_call (HL0.out _)))
              repeat go_big_quiet_step (fail)
              go_big_quiet_step ((go_at_call 9; exact later_call (HL1.out _)))
              repeat go_big_quiet_step (fail)
              refine wpQuiet_nil ?_
              intro x
              have hb := x.below
              generalize x.world = w18 at *
              have HB18 : Hid (Below w.heap.size w w18) := Lib.hid (Below.via (HB17.out) hb)
              have HCX := Lib.hid (cell_up hb HCX.out)
              have HCY := Lib.hid (cell_up hb HCY.out)
              have HCP := Lib.hid (cell_up hb HCP.out)
              have HCQ := Lib.hid (cell_up hb HCQ.out)
              have HCR := Lib.hid (cell_up hb HCR.out)
              have HCS := Lib.hid (cell_up hb HCS.out)
              clear hb HL0 HL1 x
              clear hpP hqP hpS hqS hpQ hqQ hpX hqX hpY hqY
              clear hsX hsY
              try clear hE
              try clear hE2
              go_wp2_with fail
              have hpP : partOf w18 gp 0 18 = #[.bool true, .int .u8 (P 0), .int .u8 (P 1), .int .u8 (P 2), .int .u8 (P 3), .int .u8 (P 4), .int .u8 (P 5), .int .u8 (P 6), .int .u8 (P 7), .int .u8 (P 8), .int .u8 (P 9), .int .u8 (P 10), .int .u8 (P 11), .int .u8 (P 12), .int .u8 (P 13), .int .u8 (P 14), .int .u8 (P 15), .int .i64 pn] := by rw [partOf_row _ _ _ _ _ _ _ HCP.out]; simp
              have hqP := (Array.getElem?_eq_some_iff.1 HCP.out).1
              have haP : partOf w18 gp 0 17 = #[.bool true, .int .u8 (P 0), .int .u8 (P 1), .int .u8 (P 2), .int .u8 (P 3), .int .u8 (P 4), .int .u8 (P 5), .int .u8 (P 6), .int .u8 (P 7), .int .u8 (P 8), .int .u8 (P 9), .int .u8 (P 10), .int .u8 (P 11), .int .u8 (P 12), .int .u8 (P 13), .int .u8 (P 14), .int .u8 (P 15)] := by rw [partOf_row _ _ _ _ _ _ _ HCP.out]; simp
              have HL0 := Lib.hid (fun (x : Later w18) => HF13.out x.world)
              have HL1 := Lib.hid (fun (x : Later w18) => works_any x.world (Env.later (HE.out.below HB18.out) x))
              refine wp_region_later (by kernel_rfl) (by kernel_rfl) ?_
              repeat go_big_quiet_step (fail)
              go_big_quiet_step ((go_at_call 9; exact later_call (HL0.out _)))
              repeat go_big_quiet_step (fail)
              go_big_quiet_step ((go_at_call 12; exact later_call (HL1.out _)))
              repeat go_big_quiet_step (fail)
              refine wpQuiet_nil ?_
              intro x
              have hb := x.below
              generalize x.world = w19 at *
              have HB19 : Hid (Below w.heap.size w w19) := Lib.hid (Below.via (HB18.out) hb)
              have HCX := Lib.hid (cell_up hb HCX.out)
              have HCY := Lib.hid (cell_up hb HCY.out)
              have HCP := Lib.hid (cell_up hb HCP.out)
              have HCQ := Lib.hid (cell_up hb HCQ.out)
              have HCR := Lib.hid (cell_up hb HCR.out)
              have HCS := Lib.hid (cell_up hb HCS.out)
              clear hb HL0 HL1 x
              clear hpP hqP
              clear haP
              go_wp2_with fail
              go_ret
              exact .mk rfl HB19.out
          · skip
            have hsb : (s == t) = false := by simpa using hst
            have HF12b := HF12.out
            simp only [hsb, Bool.false_and] at HF12b
            have HF12c := Lib.hid HF12b
            clear HF12b
            clear hsb
            cases s
            · skip
              obtain rfl : t = true := by cases t <;> first | rfl | exact absurd rfl hst
              have hpP : partOf v17 gp 0 18 = #[.bool false, .int .u8 (P 0), .int .u8 (P 1), .int .u8 (P 2), .int .u8 (P 3), .int .u8 (P 4), .int .u8 (P 5), .int .u8 (P 6), .int .u8 (P 7), .int .u8 (P 8), .int .u8 (P 9), .int .u8 (P 10), .int .u8 (P 11), .int .u8 (P 12), .int .u8 (P 13), .int .u8 (P 14), .int .u8 (P 15), .int .i64 pn] := by rw [partOf_row _ _ _ _ _ _ _ HCP.out]; simp
              have hqP := (Array.getElem?_eq_some_iff.1 HCP.out).1
              have hpS : partOf v17 w16.heap.size 0 18 = #[.bool false, .int .u8 (S 0), .int .u8 (S 1), .int .u8 (S 2), .int .u8 (S 3), .int .u8 (S 4), .int .u8 (S 5), .int .u8 (S 6), .int .u8 (S 7), .int .u8 (S 8), .int .u8 (S 9), .int .u8 (S 10), .int .u8 (S 11), .int .u8 (S 12), .int .u8 (S 13), .int .u8 (S 14), .int .u8 (S 15), .int .i64 sn] := by rw [partOf_row _ _ _ _ _ _ _ HCS.out]; simp
              have hqS := (Array.getElem?_eq_some_iff.1 HCS.out).1
              have hpQ : partOf v17 gq 0 18 = #[.bool true, .int .u8 (Q 0), .int .u8 (Q 1), .int .u8 (Q 2), .int .u8 (Q 3), .int .u8 (Q 4), .int .u8 (Q 5), .int .u8 (Q 6), .int .u8 (Q 7), .int .u8 (Q 8), .int .u8 (Q 9), .int .u8 (Q 10), .int .u8 (Q 11), .int .u8 (Q 12), .int .u8 (Q 13), .int .u8 (Q 14), .int .u8 (Q 15), .int .i64 qn] := by rw [partOf_row _ _ _ _ _ _ _ HCQ.out]; simp
              have hqQ := (Array.getElem?_eq_some_iff.1 HCQ.out).1
              have hpX : partOf v17 w.heap.size 0 17 = #[.bool false, .int .u8 (B 0), .int .u8 (B 1), .int .u8 (B 2), .int .u8 (B 3), .int .u8 (B 4), .int .u8 (B 5), .int .u8 (B 6), .int .u8 (B 7), .int .u8 (B 8), .int .u8 (B 9), .int .u8 (B 10), .int .u8 (B 11), .int .u8 (B 12), .int .u8 (B 13), .int .u8 (B 14), .int .u8 (B 15)] := by rw [partOf_row _ _ _ _ _ _ _ HCX.out]; simp
              have hqX := (Array.getElem?_eq_some_iff.1 HCX.out).1
              have hpY : partOf v17 (w.heap.size + 1) 0 17 = #[.bool true, .int .u8 (A 0), .int .u8 (A 1), .int .u8 (A 2), .int .u8 (A 3), .int .u8 (A 4), .int .u8 (A 5), .int .u8 (A 6), .int .u8 (A 7), .int .u8 (A 8), .int .u8 (A 9), .int .u8 (A 10), .int .u8 (A 11), .int .u8 (A 12), .int .u8 (A 13), .int .u8 (A 14), .int .u8 (A 15)] := by rw [partOf_row _ _ _ _ _ _ _ HCY.out]; simp
              have hqY := (Array.getElem?_eq_some_iff.1 HCY.out).1
              have hsX : (v17).cell? ⟨w.heap.size, 0, none⟩ = some (.bool false) := by rw [cell_of_row _ _ _ _ _ _ HCX.out]; rfl
              have hsY : (v17).cell? ⟨w.heap.size + 1, 0, none⟩ = some (.bool true) := by rw [cell_of_row _ _ _ _ _ _ HCY.out]; rfl
              have HL0 := Lib.hid (fun (x : Later v17) => HF12c.out x.world)
              refine wp_region_later (by kernel_rfl) (by kernel_rfl) ?_
              repeat go_big_quiet_step (fail)
              go_big_quiet_step ((go_at_call 24; exact later_call (HL0.out _)))
              repeat go_big_quiet_step (fail)
              refine wpQuiet_nil ?_
              intro x
              have hb := x.below
              generalize x.world = w18 at *
              have HB18 : Hid (Below w.heap.size w w18) := Lib.hid (Below.via (HB17.out) hb)
              have HCX := Lib.hid (cell_up hb HCX.out)
              have HCY := Lib.hid (cell_up hb HCY.out)
              have HCP := Lib.hid (cell_up hb HCP.out)
              have HCQ := Lib.hid (cell_up hb HCQ.out)
              have HCR := Lib.hid (cell_up hb HCR.out)
              have HCS := Lib.hid (cell_up hb HCS.out)
              clear hb HL0 x
              clear hpP hqP hpS hqS hpQ hqQ hpX hqX hpY hqY
              clear hsX hsY
              try clear hE
              try clear hE2
              go_wp2_with fail
              have hpP : partOf w18 gp 0 18 = #[.bool false, .int .u8 (P 0), .int .u8 (P 1), .int .u8 (P 2), .int .u8 (P 3), .int .u8 (P 4), .int .u8 (P 5), .int .u8 (P 6), .int .u8 (P 7), .int .u8 (P 8), .int .u8 (P 9), .int .u8 (P 10), .int .u8 (P 11), .int .u8 (P 12), .int .u8 (P 13), .int .u8 (P 14), .int .u8 (P 15), .int .i64 pn] := by rw [partOf_row _ _ _ _ _ _ _ HCP.out]; simp
              have hqP := (Array.getElem?_eq_some_iff.1 HCP.out).1
              have haP : partOf w18 gp 0 17 = #[.bool false, .int .u8 (P 0), .int .u8 (P 1), .int .u8 (P 2), .int .u8 (P 3), .int .u8 (P 4), .int .u8 (P 5), .int .u8 (P 6), .int .u8 (P 7), .int .u8 (P 8), .int .u8 (P 9), .int .u8 (P 10), .int .u8 (P 11), .int .u8 (P 12), .int .u8 (P 13), .int .u8 (P 14), .int .u8 (P 15)] := by rw [partOf_row _ _ _ _ _ _ _ HCP.out]; simp
              have HL0 := Lib.hid (fun (x : Later w18) => HF13.out x.world)
              have HL1 := Lib.hid (fun (x : Later w18) => works_any x.world (Env.later (HE.out.below HB18.out) x))
              refine wp_region_later (by kernel_rfl) (by kernel_rfl) ?_
              repeat go_big_quiet_step (fail)
              go_big_quiet_step ((go_at_call 9; exact later_call (HL0.out _)))
              repeat go_big_quiet_step (fail)
              go_big_quiet_step ((go_at_call 12; exact later_call (HL1.out _)))
              repeat go_big_quiet_step (fail)
              refine wpQuiet_nil ?_
              intro x
              have hb := x.below
              generalize x.world = w19 at *
              have HB19 : Hid (Below w.heap.size w w19) := Lib.hid (Below.via (HB18.out) hb)
              have HCX := Lib.hid (cell_up hb HCX.out)
              have HCY := Lib.hid (cell_up hb HCY.out)
              have HCP := Lib.hid (cell_up hb HCP.out)
              have HCQ := Lib.hid (cell_up hb HCQ.out)
              have HCR := Lib.hid (cell_up hb HCR.out)
              have HCS := Lib.hid (cell_up hb HCS.out)
              clear hb HL0 HL1 x
              clear hpP hqP
              clear haP
              go_wp2_with fail
              go_ret
              exact .mk rfl HB19.out
            · skip
              obtain rfl : t = false := by cases t <;> first | rfl | exact absurd rfl hst
              have hpP : partOf v17 gp 0 18 = #[.bool true, .int .u8 (P 0), .int .u8 (P 1), .int .u8 (P 2), .int .u8 (P 3), .int .u8 (P 4), .int .u8 (P 5), .int .u8 (P 6), .int .u8 (P 7), .int .u8 (P 8), .int .u8 (P 9), .int .u8 (P 10), .int .u8 (P 11), .int .u8 (P 12), .int .u8 (P 13), .int .u8 (P 14), .int .u8 (P 15), .int .i64 pn] := by rw [partOf_row _ _ _ _ _ _ _ HCP.out]; simp
              have hqP := (Array.getElem?_eq_some_iff.1 HCP.out).1
              have hpS : partOf v17 w16.heap.size 0 18 = #[.bool true, .int .u8 (S 0), .int .u8 (S 1), .int .u8 (S 2), .int .u8 (S 3), .int .u8 (S 4), .int .u8 (S 5), .int .u8 (S 6), .int .u8 (S 7), .int .u8 (S 8), .int .u8 (S 9), .int .u8 (S 10), .int .u8 (S 11), .int .u8 (S 12), .int .u8 (S 13), .int .u8 (S 14), .int .u8 (S 15), .int .i64 sn] := by rw [partOf_row _ _ _ _ _ _ _ HCS.out]; simp
              have hqS := (Array.getElem?_eq_some_iff.1 HCS.out).1
              have hpQ : partOf v17 gq 0 18 = #[.bool false, .int .u8 (Q 0), .int .u8 (Q 1), .int .u8 (Q 2), .int .u8 (Q 3), .int .u8 (Q 4), .int .u8 (Q 5), .int .u8 (Q 6), .int .u8 (Q 7), .int .u8 (Q 8), .int .u8 (Q 9), .int .u8 (Q 10), .int .u8 (Q 11), .int .u8 (Q 12), .int .u8 (Q 13), .int .u8 (Q 14), .int .u8 (Q 15), .int .i64 qn] := by rw [partOf_row _ _ _ _ _ _ _ HCQ.out]; simp
              have hqQ := (Array.getElem?_eq_some_iff.1 HCQ.out).1
              have hpX : partOf v17 w.heap.size 0 17 = #[.bool true, .int .u8 (B 0), .int .u8 (B 1), .int .u8 (B 2), .int .u8 (B 3), .int .u8 (B 4), .int .u8 (B 5), .int .u8 (B 6), .int .u8 (B 7), .int .u8 (B 8), .int .u8 (B 9), .int .u8 (B 10), .int .u8 (B 11), .int .u8 (B 12), .int .u8 (B 13), .int .u8 (B 14), .int .u8 (B 15)] := by rw [partOf_row _ _ _ _ _ _ _ HCX.out]; simp
              have hqX := (Array.getElem?_eq_some_iff.1 HCX.out).1
              have hpY : partOf v17 (w.heap.size + 1) 0 17 = #[.bool false, .int .u8 (A 0), .int .u8 (A 1), .int .u8 (A 2), .int .u8 (A 3), .int .u8 (A 4), .int .u8 (A 5), .int .u8 (A 6), .int .u8 (A 7), .int .u8 (A 8), .int .u8 (A 9), .int .u8 (A 10), .int .u8 (A 11), .int .u8 (A 12), .int .u8 (A 13), .int .u8 (A 14), .int .u8 (A 15)] := by rw [partOf_row _ _ _ _ _ _ _ HCY.out]; simp
              have hqY := (Array.getElem?_eq_some_iff.1 HCY.out).1
              have hsX : (v17).cell? ⟨w.heap.size, 0, none⟩ = some (.bool true) := by rw [cell_of_row _ _ _ _ _ _ HCX.out]; rfl
              have hsY : (v17).cell? ⟨w.heap.size + 1, 0, none⟩ = some (.bool false) := by rw [cell_of_row _ _ _ _ _ _ HCY.out]; rfl
              have HL0 := Lib.hid (fun (x : Later v17) => HF12c.out x.world)
              refine wp_region_later (by kernel_rfl) (by kernel_rfl) ?_
              repeat go_big_quiet_step (fail)
              go_big_quiet_step ((go_at_call 24; exact later_call (HL0.out _)))
              repeat go_big_quiet_step (fail)
              refine wpQuiet_nil ?_
              intro x
              have hb := x.below
              generalize x.world = w18 at *
              have HB18 : Hid (Below w.heap.size w w18) := Lib.hid (Below.via (HB17.out) hb)
              have HCX := Lib.hid (cell_up hb HCX.out)
              have HCY := Lib.hid (cell_up hb HCY.out)
              have HCP := Lib.hid (cell_up hb HCP.out)
              have HCQ := Lib.hid (cell_up hb HCQ.out)
              have HCR := Lib.hid (cell_up hb HCR.out)
              have HCS := Lib.hid (cell_up hb HCS.out)
              clear hb HL0 x
              clear hpP hqP hpS hqS hpQ hqQ hpX hqX hpY hqY
              clear hsX hsY
              try clear hE
              try clear hE2
              go_wp2_with fail
              have hpP : partOf w18 gp 0 18 = #[.bool true, .int .u8 (P 0), .int .u8 (P 1), .int .u8 (P 2), .int .u8 (P 3), .int .u8 (P 4), .int .u8 (P 5), .int .u8 (P 6), .int .u8 (P 7), .int .u8 (P 8), .int .u8 (P 9), .int .u8 (P 10), .int .u8 (P 11), .int .u8 (P 12), .int .u8 (P 13), .int .u8 (P 14), .int .u8 (P 15), .int .i64 pn] := by rw [partOf_row _ _ _ _ _ _ _ HCP.out]; simp
              have hqP := (Array.getElem?_eq_some_iff.1 HCP.out).1
              have haP : partOf w18 gp 0 17 = #[.bool true, .int .u8 (P 0), .int .u8 (P 1), .int .u8 (P 2), .int .u8 (P 3), .int .u8 (P 4), .int .u8 (P 5), .int .u8 (P 6), .int .u8 (P 7), .int .u8 (P 8), .int .u8 (P 9), .int .u8 (P 10), .int .u8 (P 11), .int .u8 (P 12), .int .u8 (P 13), .int .u8 (P 14), .int .u8 (P 15)] := by rw [partOf_row _ _ _ _ _ _ _ HCP.out]; simp
              have HL0 := Lib.hid (fun (x : Later w18) => HF13.out x.world)
              have HL1 := Lib.hid (fun (x : Later w18) => works_any x.world (Env.later (HE.out.below HB18.out) x))
              refine wp_region_later (by kernel_rfl) (by kernel_rfl) ?_
              repeat go_big_quiet_step (fail)
              go_big_quiet_step ((go_at_call 9; exact later_call (HL0.out _)))
              repeat go_big_quiet_step (fail)
              go_big_quiet_step ((go_at_call 12; exact later_call (HL1.out _)))
              repeat go_big_quiet_step (fail)
              refine wpQuiet_nil ?_
              intro x
              have hb := x.below
              generalize x.world = w19 at *
              have HB19 : Hid (Below w.heap.size w w19) := Lib.hid (Below.via (HB18.out) hb)
              have HCX := Lib.hid (cell_up hb HCX.out)
              have HCY := Lib.hid (cell_up hb HCY.out)
              have HCP := Lib.hid (cell_up hb HCP.out)
              have HCQ := Lib.hid (cell_up hb HCQ.out)
              have HCR := Lib.hid (cell_up hb HCR.out)
              have HCS := Lib.hid (cell_up hb HCS.out)
              clear hb HL0 HL1 x
              clear hpP hqP
              clear haP
              go_wp2_with fail
              go_ret
              exact .mk rfl HB19.out
      · skip
        have HF8b := HF8.out
        simp only [decide_eq_false hle, Bool.false_and] at HF8b
        have HF8c := Lib.hid HF8b
        clear HF8b
        have hpX : partOf v14 w.heap.size 0 17 = #[.bool s, .int .u8 (B 0), .int .u8 (B 1), .int .u8 (B 2), .int .u8 (B 3), .int .u8 (B 4), .int .u8 (B 5), .int .u8 (B 6), .int .u8 (B 7), .int .u8 (B 8), .int .u8 (B 9), .int .u8 (B 10), .int .u8 (B 11), .int .u8 (B 12), .int .u8 (B 13), .int .u8 (B 14), .int .u8 (B 15)] := by rw [partOf_row _ _ _ _ _ _ _ HCX.out]; simp
        have hqX := (Array.getElem?_eq_some_iff.1 HCX.out).1
        have hpP : partOf v14 gp 0 18 = #[.bool s, .int .u8 (P 0), .int .u8 (P 1), .int .u8 (P 2), .int .u8 (P 3), .int .u8 (P 4), .int .u8 (P 5), .int .u8 (P 6), .int .u8 (P 7), .int .u8 (P 8), .int .u8 (P 9), .int .u8 (P 10), .int .u8 (P 11), .int .u8 (P 12), .int .u8 (P 13), .int .u8 (P 14), .int .u8 (P 15), .int .i64 pn] := by rw [partOf_row _ _ _ _ _ _ _ HCP.out]; simp
        have hqP := (Array.getElem?_eq_some_iff.1 HCP.out).1
        have hpQ : partOf v14 gq 0 18 = #[.bool t, .int .u8 (Q 0), .int .u8 (Q 1), .int .u8 (Q 2), .int .u8 (Q 3), .int .u8 (Q 4), .int .u8 (Q 5), .int .u8 (Q 6), .int .u8 (Q 7), .int .u8 (Q 8), .int .u8 (Q 9), .int .u8 (Q 10), .int .u8 (Q 11), .int .u8 (Q 12), .int .u8 (Q 13), .int .u8 (Q 14), .int .u8 (Q 15), .int .i64 qn] := by rw [partOf_row _ _ _ _ _ _ _ HCQ.out]; simp
        have hqQ := (Array.getElem?_eq_some_iff.1 HCQ.out).1
        have hpR : partOf v14 w13.heap.size 0 18 = #[.bool s, .int .u8 (P 0), .int .u8 (P 1), .int .u8 (P 2), .int .u8 (P 3), .int .u8 (P 4), .int .u8 (P 5), .int .u8 (P 6), .int .u8 (P 7), .int .u8 (P 8), .int .u8 (P 9), .int .u8 (P 10), .int .u8 (P 11), .int .u8 (P 12), .int .u8 (P 13), .int .u8 (P 14), .int .u8 (P 15), .int .i64 pn] := by rw [partOf_row _ _ _ _ _ _ _ HCR.out]; simp
        have hqR := (Array.getElem?_eq_some_iff.1 HCR.out).1
        have haP : partOf v14 gp 0 17 = #[.bool s, .int .u8 (P 0), .int .u8 (P 1), .int .u8 (P 2), .int .u8 (P 3), .int .u8 (P 4), .int .u8 (P 5), .int .u8 (P 6), .int .u8 (P 7), .int .u8 (P 8), .int .u8 (P 9), .int .u8 (P 10), .int .u8 (P 11), .int .u8 (P 12), .int .u8 (P 13), .int .u8 (P 14), .int .u8 (P 15)] := by rw [partOf_row _ _ _ _ _ _ _ HCP.out]; simp
        have hlP : (v14).cell? ⟨gp, 17, none⟩ = some (.int .i64 pn) := by rw [cell_of_row _ _ _ _ _ _ HCP.out]; rfl
        have hlQ : (v14).cell? ⟨gq, 17, none⟩ = some (.int .i64 qn) := by rw [cell_of_row _ _ _ _ _ _ HCQ.out]; rfl
        have HL0 := Lib.hid (fun (x : Later v14) => HF5.out x.world)
        have HL1 := Lib.hid (fun (x : Later v14) => HF6.out x.world)
        have HL2 := Lib.hid (fun (x : Later v14) => HF7.out x.world)
        have HL3 := Lib.hid (fun (x : Later v14) => HF8c.out x.world)
        refine wp_region_later (by kernel_rfl) (by kernel_rfl) ?_
        repeat go_big_quiet_step (fail)
        go_big_quiet_step ((go_at_call 23; exact later_call (HL0.out _)))
        repeat go_big_quiet_step (fail)
        go_big_quiet_step ((go_at_call 24; exact later_call (HL1.out _)))
        repeat go_big_quiet_step (fail)
        go_big_quiet_step ((go_at_call 25; exact later_call (HL2.out _)))
        repeat go_big_quiet_step (fail)
        go_big_quiet_step ((go_at_call 25; exact later_call (HL3.out _)))
        repeat go_big_quiet_step (fail)
        refine wpQuiet_nil ?_
        intro x
        have hb := x.below
        generalize x.world = w15 at *
        have HB15 : Hid (Below w.heap.size w w15) := Lib.hid (Below.via (HB14.out) hb)
        have HCX := Lib.hid (cell_up hb HCX.out)
        have HCY := Lib.hid (cell_up hb HCY.out)
        have HCP := Lib.hid (cell_up hb HCP.out)
        have HCQ := Lib.hid (cell_up hb HCQ.out)
        have HCR := Lib.hid (cell_up hb HCR.out)
        clear hb HL0 HL1 HL2 HL3 x
        clear hpX hqX hpP hqP hpQ hqQ hpR hqR
        clear haP hlP hlQ
        have hpX : partOf w15 w.heap.size 0 17 = #[.bool s, .int .u8 (B 0), .int .u8 (B 1), .int .u8 (B 2), .int .u8 (B 3), .int .u8 (B 4), .int .u8 (B 5), .int .u8 (B 6), .int .u8 (B 7), .int .u8 (B 8), .int .u8 (B 9), .int .u8 (B 10), .int .u8 (B 11), .int .u8 (B 12), .int .u8 (B 13), .int .u8 (B 14), .int .u8 (B 15)] := by rw [partOf_row _ _ _ _ _ _ _ HCX.out]; simp
        have hqX := (Array.getElem?_eq_some_iff.1 HCX.out).1
        go_wp2_with fail
        clear hpX hqX
        refine Calls.mono (HF10.out _) ?_
        rintro e' w16 ⟨rfl, hb⟩
        have HB16 : Hid (Below w.heap.size w w16) := Lib.hid (Below.via (HB15.out) hb)
        have HCX := Lib.hid (cell_up hb HCX.out)
        have HCY := Lib.hid (cell_up hb HCY.out)
        have HCP := Lib.hid (cell_up hb HCP.out)
        have HCQ := Lib.hid (cell_up hb HCQ.out)
        have HCR := Lib.hid (cell_up hb HCR.out)
        clear hb
        have HB17 : Hid (Below w.heap.size w (w16.alloc (.cells #[.bool s, .int .u8 (S 0), .int .u8 (S 1), .int .u8 (S 2), .int .u8 (S 3), .int .u8 (S 4), .int .u8 (S 5), .int .u8 (S 6), .int .u8 (S 7), .int .u8 (S 8), .int .u8 (S 9), .int .u8 (S 10), .int .u8 (S 11), .int .u8 (S 12), .int .u8 (S 13), .int .u8 (S 14), .int .u8 (S 15), .int .i64 sn] 33))) := Lib.hid (Below.all (HB16.out) _)
        have HCX := Lib.hid (cell_up (Below.all (Below.refl _ _) (.cells #[.bool s, .int .u8 (S 0), .int .u8 (S 1), .int .u8 (S 2), .int .u8 (S 3), .int .u8 (S 4), .int .u8 (S 5), .int .u8 (S 6), .int .u8 (S 7), .int .u8 (S 8), .int .u8 (S 9), .int .u8 (S 10), .int .u8 (S 11), .int .u8 (S 12), .int .u8 (S 13), .int .u8 (S 14), .int .u8 (S 15), .int .i64 sn] 33)) HCX.out)
        have HCY := Lib.hid (cell_up (Below.all (Below.refl _ _) (.cells #[.bool s, .int .u8 (S 0), .int .u8 (S 1), .int .u8 (S 2), .int .u8 (S 3), .int .u8 (S 4), .int .u8 (S 5), .int .u8 (S 6), .int .u8 (S 7), .int .u8 (S 8), .int .u8 (S 9), .int .u8 (S 10), .int .u8 (S 11), .int .u8 (S 12), .int .u8 (S 13), .int .u8 (S 14), .int .u8 (S 15), .int .i64 sn] 33)) HCY.out)
        have HCP := Lib.hid (cell_up (Below.all (Below.refl _ _) (.cells #[.bool s, .int .u8 (S 0), .int .u8 (S 1), .int .u8 (S 2), .int .u8 (S 3), .int .u8 (S 4), .int .u8 (S 5), .int .u8 (S 6), .int .u8 (S 7), .int .u8 (S 8), .int .u8 (S 9), .int .u8 (S 10), .int .u8 (S 11), .int .u8 (S 12), .int .u8 (S 13), .int .u8 (S 14), .int .u8 (S 15), .int .i64 sn] 33)) HCP.out)
        have HCQ := Lib.hid (cell_up (Below.all (Below.refl _ _) (.cells #[.bool s, .int .u8 (S 0), .int .u8 (S 1), .int .u8 (S 2), .int .u8 (S 3), .int .u8 (S 4), .int .u8 (S 5), .int .u8 (S 6), .int .u8 (S 7), .int .u8 (S 8), .int .u8 (S 9), .int .u8 (S 10), .int .u8 (S 11), .int .u8 (S 12), .int .u8 (S 13), .int .u8 (S 14), .int .u8 (S 15), .int .i64 sn] 33)) HCQ.out)
        have HCR := Lib.hid (cell_up (Below.all (Below.refl _ _) (.cells #[.bool s, .int .u8 (S 0), .int .u8 (S 1), .int .u8 (S 2), .int .u8 (S 3), .int .u8 (S 4), .int .u8 (S 5), .int .u8 (S 6), .int .u8 (S 7), .int .u8 (S 8), .int .u8 (S 9), .int .u8 (S 10), .int .u8 (S 11), .int .u8 (S 12), .int .u8 (S 13), .int .u8 (S 14), .int .u8 (S 15), .int .i64 sn] 33)) HCR.out)
        have HCS : Hid ((w16.alloc (.cells #[.bool s, .int .u8 (S 0), .int .u8 (S 1), .int .u8 (S 2), .int .u8 (S 3), .int .u8 (S 4), .int .u8 (S 5), .int .u8 (S 6), .int .u8 (S 7), .int .u8 (S 8), .int .u8 (S 9), .int .u8 (S 10), .int .u8 (S 11), .int .u8 (S 12), .int .u8 (S 13), .int .u8 (S 14), .int .u8 (S 15), .int .i64 sn] 33)).heap[w16.heap.size]? = some (.cells #[.bool s, .int .u8 (S 0), .int .u8 (S 1), .int .u8 (S 2), .int .u8 (S 3), .int .u8 (S 4), .int .u8 (S 5), .int .u8 (S 6), .int .u8 (S 7), .int .u8 (S 8), .int .u8 (S 9), .int .u8 (S 10), .int .u8 (S 11), .int .u8 (S 12), .int .u8 (S 13), .int .u8 (S 14), .int .u8 (S 15), .int .i64 sn] 33 (0, 0))) := Lib.hid (heap_alloc_new w16 _)
        go_wp2_with fail
        generalize hW17 : w16.alloc (.cells #[.bool s, .int .u8 (S 0), .int .u8 (S 1), .int .u8 (S 2), .int .u8 (S 3), .int .u8 (S 4), .int .u8 (S 5), .int .u8 (S 6), .int .u8 (S 7), .int .u8 (S 8), .int .u8 (S 9), .int .u8 (S 10), .int .u8 (S 11), .int .u8 (S 12), .int .u8 (S 13), .int .u8 (S 14), .int .u8 (S 15), .int .i64 sn] 33) = v17 at *
        clear hW17
        by_cases hmn : n ≤ m
        · skip
          have HF11b := Lib.hid (HF11.out hmn)
          by_cases hst : s = t
          · skip
            subst hst
            have HF12b := HF12.out
            simp only [pfEq, b16, beq_self_eq_true, Bool.true_and] at HF12b
            generalize hE : (eqL [S 0, S 1, S 2, S 3, S 4, S 5, S 6, S 7, S 8, S 9, S 10, S 11, S 12, S 13, S 14, S 15] [Q 0, Q 1, Q 2, Q 3, Q 4, Q 5, Q 6, Q 7, Q 8, Q 9, Q 10, Q 11, Q 12, Q 13, Q 14, Q 15] && sn == qn) = e at HF12b
            have hE2 : (s == s && eqL [S 0, S 1, S 2, S 3, S 4, S 5, S 6, S 7, S 8, S 9, S 10, S 11, S 12, S 13, S 14, S 15] [Q 0, Q 1, Q 2, Q 3, Q 4, Q 5, Q 6, Q 7, Q 8, Q 9, Q 10, Q 11, Q 12, Q 13, Q 14, Q 15] && sn == qn) = e := by rw [hss, Bool.true_and]; exact hE
            have hee : (e == e) = true := by simp
            have HF12c := Lib.hid HF12b
            clear HF12b
            cases s
            · skip
              have hpP : partOf v17 gp 0 18 = #[.bool false, .int .u8 (P 0), .int .u8 (P 1), .int .u8 (P 2), .int .u8 (P 3), .int .u8 (P 4), .int .u8 (P 5), .int .u8 (P 6), .int .u8 (P 7), .int .u8 (P 8), .int .u8 (P 9), .int .u8 (P 10), .int .u8 (P 11), .int .u8 (P 12), .int .u8 (P 13), .int .u8 (P 14), .int .u8 (P 15), .int .i64 pn] := by rw [partOf_row _ _ _ _ _ _ _ HCP.out]; simp
              have hqP := (Array.getElem?_eq_some_iff.1 HCP.out).1
              have hpS : partOf v17 w16.heap.size 0 18 = #[.bool false, .int .u8 (S 0), .int .u8 (S 1), .int .u8 (S 2), .int .u8 (S 3), .int .u8 (S 4), .int .u8 (S 5), .int .u8 (S 6), .int .u8 (S 7), .int .u8 (S 8), .int .u8 (S 9), .int .u8 (S 10), .int .u8 (S 11), .int .u8 (S 12), .int .u8 (S 13), .int .u8 (S 14), .int .u8 (S 15), .int .i64 sn] := by rw [partOf_row _ _ _ _ _ _ _ HCS.out]; simp
              have hqS := (Array.getElem?_eq_some_iff.1 HCS.out).1
              have hpQ : partOf v17 gq 0 18 = #[.bool false, .int .u8 (Q 0), .int .u8 (Q 1), .int .u8 (Q 2), .int .u8 (Q 3), .int .u8 (Q 4), .int .u8 (Q 5), .int .u8 (Q 6), .int .u8 (Q 7), .int .u8 (Q 8), .int .u8 (Q 9), .int .u8 (Q 10), .int .u8 (Q 11), .int .u8 (Q 12), .int .u8 (Q 13), .int .u8 (Q 14), .int .u8 (Q 15), .int .i64 qn] := by rw [partOf_row _ _ _ _ _ _ _ HCQ.out]; simp
              have hqQ := (Array.getElem?_eq_some_iff.1 HCQ.out).1
              have hpX : partOf v17 w.heap.size 0 17 = #[.bool false, .int .u8 (B 0), .int .u8 (B 1), .int .u8 (B 2), .int .u8 (B 3), .int .u8 (B 4), .int .u8 (B 5), .int .u8 (B 6), .int .u8 (B 7), .int .u8 (B 8), .int .u8 (B 9), .int .u8 (B 10), .int .u8 (B 11), .int .u8 (B 12), .int .u8 (B 13), .int .u8 (B 14), .int .u8 (B 15)] := by rw [partOf_row _ _ _ _ _ _ _ HCX.out]; simp
              have hqX := (Array.getElem?_eq_some_iff.1 HCX.out).1
              have hpY : partOf v17 (w.heap.size + 1) 0 17 = #[.bool false, .int .u8 (A 0), .int .u8 (A 1), .int .u8 (A 2), .int .u8 (A 3), .int .u8 (A 4), .int .u8 (A 5), .int .u8 (A 6), .int .u8 (A 7), .int .u8 (A 8), .int .u8 (A 9), .int .u8 (A 10), .int .u8 (A 11), .int .u8 (A 12), .int .u8 (A 13), .int .u8 (A 14), .int .u8 (A 15)] := by rw [partOf_row _ _ _ _ _ _ _ HCY.out]; simp
              have hqY := (Array.getElem?_eq_some_iff.1 HCY.out).1
              have hsX : (v17).cell? ⟨w.heap.size, 0, none⟩ = some (.bool false) := by rw [cell_of_row _ _ _ _ _ _ HCX.out]; rfl
              have hsY : (v17).cell? ⟨w.heap.size + 1, 0, none⟩ = some (.bool false) := by rw [cell_of_row _ _ _ _ _ _ HCY.out]; rfl
              have HL0 := Lib.hid (fun (x : Later v17) => HF11b.out x.world)
              have HL1 := Lib.hid (fun (x : Later v17) => HF12c.out x.world)
              have HL2 := Lib.hid (fun (x : Later v17) => HF10.out x.world)
              refine wp_region_later (by kernel_rfl) (by kernel_rfl) ?_
              repeat go_big_quiet_step (fail)
              go_big_quiet_step ((go_at_call 25; exact later_call (HL0.out _)))
              repeat go_big_quiet_step (fail)
              go_big_quiet_step ((go_at_call 24; exact later_call (HL1.out _)))
              repeat go_big_quiet_step (fail)
              go_big_quiet_step ((go_at_call 9; exact later_call (HL2.out _)))
              repeat go_big_quiet_step (fail)
              refine wpQuiet_nil ?_
              intro x
              have hb := x.below
              generalize x.world = w18 at *
              have HB18 : Hid (Below w.heap.size w w18) := Lib.hid (Below.via (HB17.out) hb)
              have HCX := Lib.hid (cell_up hb HCX.out)
              have HCY := Lib.hid (cell_up hb HCY.out)
              have HCP := Lib.hid (cell_up hb HCP.out)
              have HCQ := Lib.hid (cell_up hb HCQ.out)
              have HCR := Lib.hid (cell_up hb HCR.out)
              have HCS := Lib.hid (cell_up hb HCS.out)
              clear hb HL0 HL1 HL2 x
              clear hpP hqP hpS hqS hpQ hqQ hpX hqX hpY hqY
              clear hsX hsY
              try clear hE
              try clear hE2
              go_wp2_with fail
              have hpP : partOf w18 gp 0 18 = #[.bool false, .int .u8 (P 0), .int .u8 (P 1), .int .u8 (P 2), .int .u8 (P 3), .int .u8 (P 4), .int .u8 (P 5), .int .u8 (P 6), .int .u8 (P 7), .int .u8 (P 8), .int .u8 (P 9), .int .u8 (P 10), .int .u8 (P 11), .int .u8 (P 12), .int .u8 (P 13), .int .u8 (P 14), .int .u8 (P 15), .int .i64 pn] := by rw [partOf_row _ _ _ _ _ _ _ HCP.out]; simp
              have hqP := (Array.getElem?_eq_some_iff.1 HCP.out).1
              have haP : partOf w18 gp 0 17 = #[.bool false, .int .u8 (P 0), .int .u8 (P 1), .int .u8 (P 2), .int .u8 (P 3), .int .u8 (P 4), .int .u8 (P 5), .int .u8 (P 6), .int .u8 (P 7), .int .u8 (P 8), .int .u8 (P 9), .int .u8 (P 10), .int .u8 (P 11), .int .u8 (P 12), .int .u8 (P 13), .int .u8 (P 14), .int .u8 (P 15)] := by rw [partOf_row _ _ _ _ _ _ _ HCP.out]; simp
              have HL0 := Lib.hid (fun (x : Later w18) => HF13.out x.world)
              have HL1 := Lib.hid (fun (x : Later w18) => works_any x.world (Env.later (HE.out.below HB18.out) x))
              refine wp_region_later (by kernel_rfl) (by kernel_rfl) ?_
              repeat go_big_quiet_step (fail)
              go_big_quiet_step ((go_at_call 9; exact later_call (HL0.out _)))
              repeat go_big_quiet_step (fail)
              go_big_quiet_step ((go_at_call 12; exact later_call (HL1.out _)))
              repeat go_big_quiet_step (fail)
              refine wpQuiet_nil ?_
              intro x
              have hb := x.below
              generalize x.world = w19 at *
              have HB19 : Hid (Below w.heap.size w w19) := Lib.hid (Below.via (HB18.out) hb)
              have HCX := Lib.hid (cell_up hb HCX.out)
              have HCY := Lib.hid (cell_up hb HCY.out)
              have HCP := Lib.hid (cell_up hb HCP.out)
              have HCQ := Lib.hid (cell_up hb HCQ.out)
              have HCR := Lib.hid (cell_up hb HCR.out)
              have HCS := Lib.hid (cell_up hb HCS.out)
              clear hb HL0 HL1 x
              clear hpP hqP
              clear haP
              go_wp2_with fail
              go_ret
              exact .mk rfl HB19.out
            · skip
              have hpP : partOf v17 gp 0 18 = #[.bool true, .int .u8 (P 0), .int .u8 (P 1), .int .u8 (P 2), .int .u8 (P 3), .int .u8 (P 4), .int .u8 (P 5), .int .u8 (P 6), .int .u8 (P 7), .int .u8 (P 8), .int .u8 (P 9), .int .u8 (P 10), .int .u8 (P 11), .int .u8 (P 12), .int .u8 (P 13), .int .u8 (P 14), .int .u8 (P 15), .int .i64 pn] := by rw [partOf_row _ _ _ _ _ _ _ HCP.out]; simp
              have hqP := (Array.getElem?_eq_some_iff.1 HCP.out).1
              have hpS : partOf v17 w16.heap.size 0 18 = #[.bool true, .int .u8 (S 0), .int .u8 (S 1), .int .u8 (S 2), .int .u8 (S 3), .int .u8 (S 4), .int .u8 (S 5), .int .u8 (S 6), .int .u8 (S 7), .int .u8 (S 8), .int .u8 (S 9), .int .u8 (S 10), .int .u8 (S 11), .int .u8 (S 12), .int .u8 (S 13), .int .u8 (S 14), .int .u8 (S 15), .int .i64 sn] := by rw [partOf_row _ _ _ _ _ _ _ HCS.out]; simp
              have hqS := (Array.getElem?_eq_some_iff.1 HCS.out).1
              have hpQ : partOf v17 gq 0 18 = #[.bool true, .int .u8 (Q 0), .int .u8 (Q 1), .int .u8 (Q 2), .int .u8 (Q 3), .int .u8 (Q 4), .int .u8 (Q 5), .int .u8 (Q 6), .int .u8 (Q 7), .int .u8 (Q 8), .int .u8 (Q 9), .int .u8 (Q 10), .int .u8 (Q 11), .int .u8 (Q 12), .int .u8 (Q 13), .int .u8 (Q 14), .int .u8 (Q 15), .int .i64 qn] := by rw [partOf_row _ _ _ _ _ _ _ HCQ.out]; simp
              have hqQ := (Array.getElem?_eq_some_iff.1 HCQ.out).1
              have hpX : partOf v17 w.heap.size 0 17 = #[.bool true, .int .u8 (B 0), .int .u8 (B 1), .int .u8 (B 2), .int .u8 (B 3), .int .u8 (B 4), .int .u8 (B 5), .int .u8 (B 6), .int .u8 (B 7), .int .u8 (B 8), .int .u8 (B 9), .int .u8 (B 10), .int .u8 (B 11), .int .u8 (B 12), .int .u8 (B 13), .int .u8 (B 14), .int .u8 (B 15)] := by rw [partOf_row _ _ _ _ _ _ _ HCX.out]; simp
              have hqX := (Array.getElem?_eq_some_iff.1 HCX.out).1
              have hpY : partOf v17 (w.heap.size + 1) 0 17 = #[.bool true, .int .u8 (A 0), .int .u8 (A 1), .int .u8 (A 2), .int .u8 (A 3), .int .u8 (A 4), .int .u8 (A 5), .int .u8 (A 6), .int .u8 (A 7), .int .u8 (A 8), .int .u8 (A 9), .int .u8 (A 10), .int .u8 (A 11), .int .u8 (A 12), .int .u8 (A 13), .int .u8 (A 14), .int .u8 (A 15)] := by rw [partOf_row _ _ _ _ _ _ _ HCY.out]; simp
              have hqY := (Array.getElem?_eq_some_iff.1 HCY.out).1
              have hsX : (v17).cell? ⟨w.heap.size, 0, none⟩ = some (.bool true) := by rw [cell_of_row _ _ _ _ _ _ HCX.out]; rfl
              have hsY : (v17).cell? ⟨w.heap.size + 1, 0, none⟩ = some (.bool true) := by rw [cell_of_row _ _ _ _ _ _ HCY.out]; rfl
              have HL0 := Lib.hid (fun (x : Later v17) => HF11b.out x.world)
              have HL1 := Lib.hid (fun (x : Later v17) => HF12c.out x.world)
              have HL2 := Lib.hid (fun (x : Later v17) => HF10.out x.world)
              refine wp_region_later (by kernel_rfl) (by kernel_rfl) ?_
              repeat go_big_quiet_step (fail)
              go_big_quiet_step ((go_at_call 25; exact later_call (HL0.out _)))
              repeat go_big_quiet_step (fail)
              go_big_quiet_step ((go_at_call 24; exact later_call (HL1.out _)))
              repeat go_big_quiet_step (fail)
              go_big_quiet_step ((go_at_call 9; exact later_call (HL2.out _)))
              repeat go_big_quiet_step (fail)
              refine wpQuiet_nil ?_
              intro x
              have hb := x.below
              generalize x.world = w18 at *
              have HB18 : Hid (Below w.heap.size w w18) := Lib.hid (Below.via (HB17.out) hb)
              have HCX := Lib.hid (cell_up hb HCX.out)
              have HCY := Lib.hid (cell_up hb HCY.out)
              have HCP := Lib.hid (cell_up hb HCP.out)
              have HCQ := Lib.hid (cell_up hb HCQ.out)
              have HCR := Lib.hid (cell_up hb HCR.out)
              have HCS := Lib.hid (cell_up hb HCS.out)
              clear hb HL0 HL1 HL2 x
              clear hpP hqP hpS hqS hpQ hqQ hpX hqX hpY hqY
              clear hsX hsY
              try clear hE
              try clear hE2
              go_wp2_with fail
              have hpP : partOf w18 gp 0 18 = #[.bool true, .int .u8 (P 0), .int .u8 (P 1), .int .u8 (P 2), .int .u8 (P 3), .int .u8 (P 4), .int .u8 (P 5), .int .u8 (P 6), .int .u8 (P 7), .int .u8 (P 8), .int .u8 (P 9), .int .u8 (P 10), .int .u8 (P 11), .int .u8 (P 12), .int .u8 (P 13), .int .u8 (P 14), .int .u8 (P 15), .int .i64 pn] := by rw [partOf_row _ _ _ _ _ _ _ HCP.out]; simp
              have hqP := (Array.getElem?_eq_some_iff.1 HCP.out).1
              have haP : partOf w18 gp 0 17 = #[.bool true, .int .u8 (P 0), .int .u8 (P 1), .int .u8 (P 2), .int .u8 (P 3), .int .u8 (P 4), .int .u8 (P 5), .int .u8 (P 6), .int .u8 (P 7), .int .u8 (P 8), .int .u8 (P 9), .int .u8 (P 10), .int .u8 (P 11), .int .u8 (P 12), .int .u8 (P 13), .int .u8 (P 14), .int .u8 (P 15)] := by rw [partOf_row _ _ _ _ _ _ _ HCP.out]; simp
              have HL0 := Lib.hid (fun (x : Later w18) => HF13.out x.world)
              have HL1 := Lib.hid (fun (x : Later w18) => works_any x.world (Env.later (HE.out.below HB18.out) x))
              refine wp_region_later (by kernel_rfl) (by kernel_rfl) ?_
              repeat go_big_quiet_step (fail)
              go_big_quiet_step ((go_at_call 9; exact later_call (HL0.out _)))
              repeat go_big_quiet_step (fail)
              go_big_quiet_step ((go_at_call 12; exact later_call (HL1.out _)))
              repeat go_big_quiet_step (fail)
              refine wpQuiet_nil ?_
              intro x
              have hb := x.below
              generalize x.world = w19 at *
              have HB19 : Hid (Below w.heap.size w w19) := Lib.hid (Below.via (HB18.out) hb)
              have HCX := Lib.hid (cell_up hb HCX.out)
              have HCY := Lib.hid (cell_up hb HCY.out)
              have HCP := Lib.hid (cell_up hb HCP.out)
              have HCQ := Lib.hid (cell_up hb HCQ.out)
              have HCR := Lib.hid (cell_up hb HCR.out)
              have HCS := Lib.hid (cell_up hb HCS.out)
              clear hb HL0 HL1 x
              clear hpP hqP
              clear haP
              go_wp2_with fail
              go_ret
              exact .mk rfl HB19.out
          · skip
            have hsb : (s == t) = false := by simpa using hst
            have HF12b := HF12.out
            simp only [hsb, Bool.false_and] at HF12b
            have HF12c := Lib.hid HF12b
            clear HF12b
            clear hsb
            cases s
            · skip
              obtain rfl : t = true := by cases t <;> first | rfl | exact absurd rfl hst
              have hpP : partOf v17 gp 0 18 = #[.bool false, .int .u8 (P 0), .int .u8 (P 1), .int .u8 (P 2), .int .u8 (P 3), .int .u8 (P 4), .int .u8 (P 5), .int .u8 (P 6), .int .u8 (P 7), .int .u8 (P 8), .int .u8 (P 9), .int .u8 (P 10), .int .u8 (P 11), .int .u8 (P 12), .int .u8 (P 13), .int .u8 (P 14), .int .u8 (P 15), .int .i64 pn] := by rw [partOf_row _ _ _ _ _ _ _ HCP.out]; simp
              have hqP := (Array.getElem?_eq_some_iff.1 HCP.out).1
              have hpS : partOf v17 w16.heap.size 0 18 = #[.bool false, .int .u8 (S 0), .int .u8 (S 1), .int .u8 (S 2), .int .u8 (S 3), .int .u8 (S 4), .int .u8 (S 5), .int .u8 (S 6), .int .u8 (S 7), .int .u8 (S 8), .int .u8 (S 9), .int .u8 (S 10), .int .u8 (S 11), .int .u8 (S 12), .int .u8 (S 13), .int .u8 (S 14), .int .u8 (S 15), .int .i64 sn] := by rw [partOf_row _ _ _ _ _ _ _ HCS.out]; simp
              have hqS := (Array.getElem?_eq_some_iff.1 HCS.out).1
              have hpQ : partOf v17 gq 0 18 = #[.bool true, .int .u8 (Q 0), .int .u8 (Q 1), .int .u8 (Q 2), .int .u8 (Q 3), .int .u8 (Q 4), .int .u8 (Q 5), .int .u8 (Q 6), .int .u8 (Q 7), .int .u8 (Q 8), .int .u8 (Q 9), .int .u8 (Q 10), .int .u8 (Q 11), .int .u8 (Q 12), .int .u8 (Q 13), .int .u8 (Q 14), .int .u8 (Q 15), .int .i64 qn] := by rw [partOf_row _ _ _ _ _ _ _ HCQ.out]; simp
              have hqQ := (Array.getElem?_eq_some_iff.1 HCQ.out).1
              have hpX : partOf v17 w.heap.size 0 17 = #[.bool false, .int .u8 (B 0), .int .u8 (B 1), .int .u8 (B 2), .int .u8 (B 3), .int .u8 (B 4), .int .u8 (B 5), .int .u8 (B 6), .int .u8 (B 7), .int .u8 (B 8), .int .u8 (B 9), .int .u8 (B 10), .int .u8 (B 11), .int .u8 (B 12), .int .u8 (B 13), .int .u8 (B 14), .int .u8 (B 15)] := by rw [partOf_row _ _ _ _ _ _ _ HCX.out]; simp
              have hqX := (Array.getElem?_eq_some_iff.1 HCX.out).1
              have hpY : partOf v17 (w.heap.size + 1) 0 17 = #[.bool true, .int .u8 (A 0), .int .u8 (A 1), .int .u8 (A 2), .int .u8 (A 3), .int .u8 (A 4), .int .u8 (A 5), .int .u8 (A 6), .int .u8 (A 7), .int .u8 (A 8), .int .u8 (A 9), .int .u8 (A 10), .int .u8 (A 11), .int .u8 (A 12), .int .u8 (A 13), .int .u8 (A 14), .int .u8 (A 15)] := by rw [partOf_row _ _ _ _ _ _ _ HCY.out]; simp
              have hqY := (Array.getElem?_eq_some_iff.1 HCY.out).1
              have hsX : (v17).cell? ⟨w.heap.size, 0, none⟩ = some (.bool false) := by rw [cell_of_row _ _ _ _ _ _ HCX.out]; rfl
              have hsY : (v17).cell? ⟨w.heap.size + 1, 0, none⟩ = some (.bool true) := by rw [cell_of_row _ _ _ _ _ _ HCY.out]; rfl
              have HL0 := Lib.hid (fun (x : Later v17) => HF11b.out x.world)
              have HL1 := Lib.hid (fun (x : Later v17) => HF12c.out x.world)
              refine wp_region_later (by kernel_rfl) (by kernel_rfl) ?_
              repeat go_big_quiet_step (fail)
              go_big_quiet_step ((go_at_call 25; exact later_call (HL0.out _)))
              repeat go_big_quiet_step (fail)
              go_big_quiet_step ((go_at_call 24; exact later_call (HL1.out _)))
              repeat go_big_quiet_step (fail)
              refine wpQuiet_nil ?_
              intro x
              have hb := x.below
              generalize x.world = w18 at *
              have HB18 : Hid (Below w.heap.size w w18) := Lib.hid (Below.via (HB17.out) hb)
              have HCX := Lib.hid (cell_up hb HCX.out)
              have HCY := Lib.hid (cell_up hb HCY.out)
              have HCP := Lib.hid (cell_up hb HCP.out)
              have HCQ := Lib.hid (cell_up hb HCQ.out)
              have HCR := Lib.hid (cell_up hb HCR.out)
              have HCS := Lib.hid (cell_up hb HCS.out)
              clear hb HL0 HL1 x
              clear hpP hqP hpS hqS hpQ hqQ hpX hqX hpY hqY
              clear hsX hsY
              try clear hE
              try clear hE2
              go_wp2_with fail
              have hpP : partOf w18 gp 0 18 = #[.bool false, .int .u8 (P 0), .int .u8 (P 1), .int .u8 (P 2), .int .u8 (P 3), .int .u8 (P 4), .int .u8 (P 5), .int .u8 (P 6), .int .u8 (P 7), .int .u8 (P 8), .int .u8 (P 9), .int .u8 (P 10), .int .u8 (P 11), .int .u8 (P 12), .int .u8 (P 13), .int .u8 (P 14), .int .u8 (P 15), .int .i64 pn] := by rw [partOf_row _ _ _ _ _ _ _ HCP.out]; simp
              have hqP := (Array.getElem?_eq_some_iff.1 HCP.out).1
              have haP : partOf w18 gp 0 17 = #[.bool false, .int .u8 (P 0), .int .u8 (P 1), .int .u8 (P 2), .int .u8 (P 3), .int .u8 (P 4), .int .u8 (P 5), .int .u8 (P 6), .int .u8 (P 7), .int .u8 (P 8), .int .u8 (P 9), .int .u8 (P 10), .int .u8 (P 11), .int .u8 (P 12), .int .u8 (P 13), .int .u8 (P 14), .int .u8 (P 15)] := by rw [partOf_row _ _ _ _ _ _ _ HCP.out]; simp
              have HL0 := Lib.hid (fun (x : Later w18) => HF13.out x.world)
              have HL1 := Lib.hid (fun (x : Later w18) => works_any x.world (Env.later (HE.out.below HB18.out) x))
              refine wp_region_later (by kernel_rfl) (by kernel_rfl) ?_
              repeat go_big_quiet_step (fail)
              go_big_quiet_step ((go_at_call 9; exact later_call (HL0.out _)))
              repeat go_big_quiet_step (fail)
              go_big_quiet_step ((go_at_call 12; exact later_call (HL1.out _)))
              repeat go_big_quiet_step (fail)
              refine wpQuiet_nil ?_
              intro x
              have hb := x.below
              generalize x.world = w19 at *
              have HB19 : Hid (Below w.heap.size w w19) := Lib.hid (Below.via (HB18.out) hb)
              have HCX := Lib.hid (cell_up hb HCX.out)
              have HCY := Lib.hid (cell_up hb HCY.out)
              have HCP := Lib.hid (cell_up hb HCP.out)
              have HCQ := Lib.hid (cell_up hb HCQ.out)
              have HCR := Lib.hid (cell_up hb HCR.out)
              have HCS := Lib.hid (cell_up hb HCS.out)
              clear hb HL0 HL1 x
              clear hpP hqP
              clear haP
              go_wp2_with fail
              go_ret
              exact .mk rfl HB19.out
            · skip
              obtain rfl : t = false := by cases t <;> first | rfl | exact absurd rfl hst
              have hpP : partOf v17 gp 0 18 = #[.bool true, .int .u8 (P 0), .int .u8 (P 1), .int .u8 (P 2), .int .u8 (P 3), .int .u8 (P 4), .int .u8 (P 5), .int .u8 (P 6), .int .u8 (P 7), .int .u8 (P 8), .int .u8 (P 9), .int .u8 (P 10), .int .u8 (P 11), .int .u8 (P 12), .int .u8 (P 13), .int .u8 (P 14), .int .u8 (P 15), .int .i64 pn] := by rw [partOf_row _ _ _ _ _ _ _ HCP.out]; simp
              have hqP := (Array.getElem?_eq_some_iff.1 HCP.out).1
              have hpS : partOf v17 w16.heap.size 0 18 = #[.bool true, .int .u8 (S 0), .int .u8 (S 1), .int .u8 (S 2), .int .u8 (S 3), .int .u8 (S 4), .int .u8 (S 5), .int .u8 (S 6), .int .u8 (S 7), .int .u8 (S 8), .int .u8 (S 9), .int .u8 (S 10), .int .u8 (S 11), .int .u8 (S 12), .int .u8 (S 13), .int .u8 (S 14), .int .u8 (S 15), .int .i64 sn] := by rw [partOf_row _ _ _ _ _ _ _ HCS.out]; simp
              have hqS := (Array.getElem?_eq_some_iff.1 HCS.out).1
              have hpQ : partOf v17 gq 0 18 = #[.bool false, .int .u8 (Q 0), .int .u8 (Q 1), .int .u8 (Q 2), .int .u8 (Q 3), .int .u8 (Q 4), .int .u8 (Q 5), .int .u8 (Q 6), .int .u8 (Q 7), .int .u8 (Q 8), .int .u8 (Q 9), .int .u8 (Q 10), .int .u8 (Q 11), .int .u8 (Q 12), .int .u8 (Q 13), .int .u8 (Q 14), .int .u8 (Q 15), .int .i64 qn] := by rw [partOf_row _ _ _ _ _ _ _ HCQ.out]; simp
              have hqQ := (Array.getElem?_eq_some_iff.1 HCQ.out).1
              have hpX : partOf v17 w.heap.size 0 17 = #[.bool true, .int .u8 (B 0), .int .u8 (B 1), .int .u8 (B 2), .int .u8 (B 3), .int .u8 (B 4), .int .u8 (B 5), .int .u8 (B 6), .int .u8 (B 7), .int .u8 (B 8), .int .u8 (B 9), .int .u8 (B 10), .int .u8 (B 11), .int .u8 (B 12), .int .u8 (B 13), .int .u8 (B 14), .int .u8 (B 15)] := by rw [partOf_row _ _ _ _ _ _ _ HCX.out]; simp
              have hqX := (Array.getElem?_eq_some_iff.1 HCX.out).1
              have hpY : partOf v17 (w.heap.size + 1) 0 17 = #[.bool false, .int .u8 (A 0), .int .u8 (A 1), .int .u8 (A 2), .int .u8 (A 3), .int .u8 (A 4), .int .u8 (A 5), .int .u8 (A 6), .int .u8 (A 7), .int .u8 (A 8), .int .u8 (A 9), .int .u8 (A 10), .int .u8 (A 11), .int .u8 (A 12), .int .u8 (A 13), .int .u8 (A 14), .int .u8 (A 15)] := by rw [partOf_row _ _ _ _ _ _ _ HCY.out]; simp
              have hqY := (Array.getElem?_eq_some_iff.1 HCY.out).1
              have hsX : (v17).cell? ⟨w.heap.size, 0, none⟩ = some (.bool true) := by rw [cell_of_row _ _ _ _ _ _ HCX.out]; rfl
              have hsY : (v17).cell? ⟨w.heap.size + 1, 0, none⟩ = some (.bool false) := by rw [cell_of_row _ _ _ _ _ _ HCY.out]; rfl
              have HL0 := Lib.hid (fun (x : Later v17) => HF11b.out x.world)
              have HL1 := Lib.hid (fun (x : Later v17) => HF12c.out x.world)
              refine wp_region_later (by kernel_rfl) (by kernel_rfl) ?_
              repeat go_big_quiet_step (fail)
              go_big_quiet_step ((go_at_call 25; exact later_call (HL0.out _)))
              repeat go_big_quiet_step (fail)
              go_big_quiet_step ((go_at_call 24; exact later_call (HL1.out _)))
              repeat go_big_quiet_step (fail)
              refine wpQuiet_nil ?_
              intro x
              have hb := x.below
              generalize x.world = w18 at *
              have HB18 : Hid (Below w.heap.size w w18) := Lib.hid (Below.via (HB17.out) hb)
              have HCX := Lib.hid (cell_up hb HCX.out)
              have HCY := Lib.hid (cell_up hb HCY.out)
              have HCP := Lib.hid (cell_up hb HCP.out)
              have HCQ := Lib.hid (cell_up hb HCQ.out)
              have HCR := Lib.hid (cell_up hb HCR.out)
              have HCS := Lib.hid (cell_up hb HCS.out)
              clear hb HL0 HL1 x
              clear hpP hqP hpS hqS hpQ hqQ hpX hqX hpY hqY
              clear hsX hsY
              try clear hE
              try clear hE2
              go_wp2_with fail
              have hpP : partOf w18 gp 0 18 = #[.bool true, .int .u8 (P 0), .int .u8 (P 1), .int .u8 (P 2), .int .u8 (P 3), .int .u8 (P 4), .int .u8 (P 5), .int .u8 (P 6), .int .u8 (P 7), .int .u8 (P 8), .int .u8 (P 9), .int .u8 (P 10), .int .u8 (P 11), .int .u8 (P 12), .int .u8 (P 13), .int .u8 (P 14), .int .u8 (P 15), .int .i64 pn] := by rw [partOf_row _ _ _ _ _ _ _ HCP.out]; simp
              have hqP := (Array.getElem?_eq_some_iff.1 HCP.out).1
              have haP : partOf w18 gp 0 17 = #[.bool true, .int .u8 (P 0), .int .u8 (P 1), .int .u8 (P 2), .int .u8 (P 3), .int .u8 (P 4), .int .u8 (P 5), .int .u8 (P 6), .int .u8 (P 7), .int .u8 (P 8), .int .u8 (P 9), .int .u8 (P 10), .int .u8 (P 11), .int .u8 (P 12), .int .u8 (P 13), .int .u8 (P 14), .int .u8 (P 15)] := by rw [partOf_row _ _ _ _ _ _ _ HCP.out]; simp
              have HL0 := Lib.hid (fun (x : Later w18) => HF13.out x.world)
              have HL1 := Lib.hid (fun (x : Later w18) => works_any x.world (Env.later (HE.out.below HB18.out) x))
              refine wp_region_later (by kernel_rfl) (by kernel_rfl) ?_
              repeat go_big_quiet_step (fail)
              go_big_quiet_step ((go_at_call 9; exact later_call (HL0.out _)))
              repeat go_big_quiet_step (fail)
              go_big_quiet_step ((go_at_call 12; exact later_call (HL1.out _)))
              repeat go_big_quiet_step (fail)
              refine wpQuiet_nil ?_
              intro x
              have hb := x.below
              generalize x.world = w19 at *
              have HB19 : Hid (Below w.heap.size w w19) := Lib.hid (Below.via (HB18.out) hb)
              have HCX := Lib.hid (cell_up hb HCX.out)
              have HCY := Lib.hid (cell_up hb HCY.out)
              have HCP := Lib.hid (cell_up hb HCP.out)
              have HCQ := Lib.hid (cell_up hb HCQ.out)
              have HCR := Lib.hid (cell_up hb HCR.out)
              have HCS := Lib.hid (cell_up hb HCS.out)
              clear hb HL0 HL1 x
              clear hpP hqP
              clear haP
              go_wp2_with fail
              go_ret
              exact .mk rfl HB19.out
        · skip
          by_cases hst : s = t
          · skip
            subst hst
            have HF12b := HF12.out
            simp only [pfEq, b16, beq_self_eq_true, Bool.true_and] at HF12b
            generalize hE : (eqL [S 0, S 1, S 2, S 3, S 4, S 5, S 6, S 7, S 8, S 9, S 10, S 11, S 12, S 13, S 14, S 15] [Q 0, Q 1, Q 2, Q 3, Q 4, Q 5, Q 6, Q 7, Q 8, Q 9, Q 10, Q 11, Q 12, Q 13, Q 14, Q 15] && sn == qn) = e at HF12b
            have hE2 : (s == s && eqL [S 0, S 1, S 2, S 3, S 4, S 5, S 6, S 7, S 8, S 9, S 10, S 11, S 12, S 13, S 14, S 15] [Q 0, Q 1, Q 2, Q 3, Q 4, Q 5, Q 6, Q 7, Q 8, Q 9, Q 10, Q 11, Q 12, Q 13, Q 14, Q 15] && sn == qn) = e := by rw [hss, Bool.true_and]; exact hE
            have hee : (e == e) = true := by simp
            have HF12c := Lib.hid HF12b
            clear HF12b
            cases s
            · skip
              have hpP : partOf v17 gp 0 18 = #[.bool false, .int .u8 (P 0), .int .u8 (P 1), .int .u8 (P 2), .int .u8 (P 3), .int .u8 (P 4), .int .u8 (P 5), .int .u8 (P 6), .int .u8 (P 7), .int .u8 (P 8), .int .u8 (P 9), .int .u8 (P 10), .int .u8 (P 11), .int .u8 (P 12), .int .u8 (P 13), .int .u8 (P 14), .int .u8 (P 15), .int .i64 pn] := by rw [partOf_row _ _ _ _ _ _ _ HCP.out]; simp
              have hqP := (Array.getElem?_eq_some_iff.1 HCP.out).1
              have hpS : partOf v17 w16.heap.size 0 18 = #[.bool false, .int .u8 (S 0), .int .u8 (S 1), .int .u8 (S 2), .int .u8 (S 3), .int .u8 (S 4), .int .u8 (S 5), .int .u8 (S 6), .int .u8 (S 7), .int .u8 (S 8), .int .u8 (S 9), .int .u8 (S 10), .int .u8 (S 11), .int .u8 (S 12), .int .u8 (S 13), .int .u8 (S 14), .int .u8 (S 15), .int .i64 sn] := by rw [partOf_row _ _ _ _ _ _ _ HCS.out]; simp
              have hqS := (Array.getElem?_eq_some_iff.1 HCS.out).1
              have hpQ : partOf v17 gq 0 18 = #[.bool false, .int .u8 (Q 0), .int .u8 (Q 1), .int .u8 (Q 2), .int .u8 (Q 3), .int .u8 (Q 4), .int .u8 (Q 5), .int .u8 (Q 6), .int .u8 (Q 7), .int .u8 (Q 8), .int .u8 (Q 9), .int .u8 (Q 10), .int .u8 (Q 11), .int .u8 (Q 12), .int .u8 (Q 13), .int .u8 (Q 14), .int .u8 (Q 15), .int .i64 qn] := by rw [partOf_row _ _ _ _ _ _ _ HCQ.out]; simp
              have hqQ := (Array.getElem?_eq_some_iff.1 HCQ.out).1
              have hpX : partOf v17 w.heap.size 0 17 = #[.bool false, .int .u8 (B 0), .int .u8 (B 1), .int .u8 (B 2), .int .u8 (B 3), .int .u8 (B 4), .int .u8 (B 5), .int .u8 (B 6), .int .u8 (B 7), .int .u8 (B 8), .int .u8 (B 9), .int .u8 (B 10), .int .u8 (B 11), .int .u8 (B 12), .int .u8 (B 13), .int .u8 (B 14), .int .u8 (B 15)] := by rw [partOf_row _ _ _ _ _ _ _ HCX.out]; simp
              have hqX := (Array.getElem?_eq_some_iff.1 HCX.out).1
              have hpY : partOf v17 (w.heap.size + 1) 0 17 = #[.bool false, .int .u8 (A 0), .int .u8 (A 1), .int .u8 (A 2), .int .u8 (A 3), .int .u8 (A 4), .int .u8 (A 5), .int .u8 (A 6), .int .u8 (A 7), .int .u8 (A 8), .int .u8 (A 9), .int .u8 (A 10), .int .u8 (A 11), .int .u8 (A 12), .int .u8 (A 13), .int .u8 (A 14), .int .u8 (A 15)] := by rw [partOf_row _ _ _ _ _ _ _ HCY.out]; simp
              have hqY := (Array.getElem?_eq_some_iff.1 HCY.out).1
              have hsX : (v17).cell? ⟨w.heap.size, 0, none⟩ = some (.bool false) := by rw [cell_of_row _ _ _ _ _ _ HCX.out]; rfl
              have hsY : (v17).cell? ⟨w.heap.size + 1, 0, none⟩ = some (.bool false) := by rw [cell_of_row _ _ _ _ _ _ HCY.out]; rfl
              have HL0 := Lib.hid (fun (x : Later v17) => HF12c.out x.world)
              have HL1 := Lib.hid (fun (x : Later v17) => HF10.out x.world)
              refine wp_region_later (by kernel_rfl) (by kernel_rfl) ?_
              repeat go_big_quiet_step (fail)
              go_big_quiet_step ((go_at_call 24; exact later_call (HL0.out _)))
              repeat go_big_quiet_step (fail)
              go_big_quiet_step ((go_at_call 9; exact later_call (HL1.out _)))
              repeat go_big_quiet_step (fail)
              refine wpQuiet_nil ?_
              intro x
              have hb := x.below
              generalize x.world = w18 at *
              have HB18 : Hid (Below w.heap.size w w18) := Lib.hid (Below.via (HB17.out) hb)
              have HCX := Lib.hid (cell_up hb HCX.out)
              have HCY := Lib.hid (cell_up hb HCY.out)
              have HCP := Lib.hid (cell_up hb HCP.out)
              have HCQ := Lib.hid (cell_up hb HCQ.out)
              have HCR := Lib.hid (cell_up hb HCR.out)
              have HCS := Lib.hid (cell_up hb HCS.out)
              clear hb HL0 HL1 x
              clear hpP hqP hpS hqS hpQ hqQ hpX hqX hpY hqY
              clear hsX hsY
              try clear hE
              try clear hE2
              go_wp2_with fail
              have hpP : partOf w18 gp 0 18 = #[.bool false, .int .u8 (P 0), .int .u8 (P 1), .int .u8 (P 2), .int .u8 (P 3), .int .u8 (P 4), .int .u8 (P 5), .int .u8 (P 6), .int .u8 (P 7), .int .u8 (P 8), .int .u8 (P 9), .int .u8 (P 10), .int .u8 (P 11), .int .u8 (P 12), .int .u8 (P 13), .int .u8 (P 14), .int .u8 (P 15), .int .i64 pn] := by rw [partOf_row _ _ _ _ _ _ _ HCP.out]; simp
              have hqP := (Array.getElem?_eq_some_iff.1 HCP.out).1
              have haP : partOf w18 gp 0 17 = #[.bool false, .int .u8 (P 0), .int .u8 (P 1), .int .u8 (P 2), .int .u8 (P 3), .int .u8 (P 4), .int .u8 (P 5), .int .u8 (P 6), .int .u8 (P 7), .int .u8 (P 8), .int .u8 (P 9), .int .u8 (P 10), .int .u8 (P 11), .int .u8 (P 12), .int .u8 (P 13), .int .u8 (P 14), .int .u8 (P 15)] := by rw [partOf_row _ _ _ _ _ _ _ HCP.out]; simp
              have HL0 := Lib.hid (fun (x : Later w18) => HF13.out x.world)
              have HL1 := Lib.hid (fun (x : Later w18) => works_any x.world (Env.later (HE.out.below HB18.out) x))
              refine wp_region_later (by kernel_rfl) (by kernel_rfl) ?_
              repeat go_big_quiet_step (fail)
              go_big_quiet_step ((go_at_call 9; exact later_call (HL0.out _)))
              repeat go_big_quiet_step (fail)
              go_big_quiet_step ((go_at_call 12; exact later_call (HL1.out _)))
              repeat go_big_quiet_step (fail)
              refine wpQuiet_nil ?_
              intro x
              have hb := x.below
              generalize x.world = w19 at *
              have HB19 : Hid (Below w.heap.size w w19) := Lib.hid (Below.via (HB18.out) hb)
              have HCX := Lib.hid (cell_up hb HCX.out)
              have HCY := Lib.hid (cell_up hb HCY.out)
              have HCP := Lib.hid (cell_up hb HCP.out)
              have HCQ := Lib.hid (cell_up hb HCQ.out)
              have HCR := Lib.hid (cell_up hb HCR.out)
              have HCS := Lib.hid (cell_up hb HCS.out)
              clear hb HL0 HL1 x
              clear hpP hqP
              clear haP
              go_wp2_with fail
              go_ret
              exact .mk rfl HB19.out
            · skip
              have hpP : partOf v17 gp 0 18 = #[.bool true, .int .u8 (P 0), .int .u8 (P 1), .int .u8 (P 2), .int .u8 (P 3), .int .u8 (P 4), .int .u8 (P 5), .int .u8 (P 6), .int .u8 (P 7), .int .u8 (P 8), .int .u8 (P 9), .int .u8 (P 10), .int .u8 (P 11), .int .u8 (P 12), .int .u8 (P 13), .int .u8 (P 14), .int .u8 (P 15), .int .i64 pn] := by rw [partOf_row _ _ _ _ _ _ _ HCP.out]; simp
              have hqP := (Array.getElem?_eq_some_iff.1 HCP.out).1
              have hpS : partOf v17 w16.heap.size 0 18 = #[.bool true, .int .u8 (S 0), .int .u8 (S 1), .int .u8 (S 2), .int .u8 (S 3), .int .u8 (S 4), .int .u8 (S 5), .int .u8 (S 6), .int .u8 (S 7), .int .u8 (S 8), .int .u8 (S 9), .int .u8 (S 10), .int .u8 (S 11), .int .u8 (S 12), .int .u8 (S 13), .int .u8 (S 14), .int .u8 (S 15), .int .i64 sn] := by rw [partOf_row _ _ _ _ _ _ _ HCS.out]; simp
              have hqS := (Array.getElem?_eq_some_iff.1 HCS.out).1
              have hpQ : partOf v17 gq 0 18 = #[.bool true, .int .u8 (Q 0), .int .u8 (Q 1), .int .u8 (Q 2), .int .u8 (Q 3), .int .u8 (Q 4), .int .u8 (Q 5), .int .u8 (Q 6), .int .u8 (Q 7), .int .u8 (Q 8), .int .u8 (Q 9), .int .u8 (Q 10), .int .u8 (Q 11), .int .u8 (Q 12), .int .u8 (Q 13), .int .u8 (Q 14), .int .u8 (Q 15), .int .i64 qn] := by rw [partOf_row _ _ _ _ _ _ _ HCQ.out]; simp
              have hqQ := (Array.getElem?_eq_some_iff.1 HCQ.out).1
              have hpX : partOf v17 w.heap.size 0 17 = #[.bool true, .int .u8 (B 0), .int .u8 (B 1), .int .u8 (B 2), .int .u8 (B 3), .int .u8 (B 4), .int .u8 (B 5), .int .u8 (B 6), .int .u8 (B 7), .int .u8 (B 8), .int .u8 (B 9), .int .u8 (B 10), .int .u8 (B 11), .int .u8 (B 12), .int .u8 (B 13), .int .u8 (B 14), .int .u8 (B 15)] := by rw [partOf_row _ _ _ _ _ _ _ HCX.out]; simp
              have hqX := (Array.getElem?_eq_some_iff.1 HCX.out).1
              have hpY : partOf v17 (w.heap.size + 1) 0 17 = #[.bool true, .int .u8 (A 0), .int .u8 (A 1), .int .u8 (A 2), .int .u8 (A 3), .int .u8 (A 4), .int .u8 (A 5), .int .u8 (A 6), .int .u8 (A 7), .int .u8 (A 8), .int .u8 (A 9), .int .u8 (A 10), .int .u8 (A 11), .int .u8 (A 12), .int .u8 (A 13), .int .u8 (A 14), .int .u8 (A 15)] := by rw [partOf_row _ _ _ _ _ _ _ HCY.out]; simp
              have hqY := (Array.getElem?_eq_some_iff.1 HCY.out).1
              have hsX : (v17).cell? ⟨w.heap.size, 0, none⟩ = some (.bool true) := by rw [cell_of_row _ _ _ _ _ _ HCX.out]; rfl
              have hsY : (v17).cell? ⟨w.heap.size + 1, 0, none⟩ = some (.bool true) := by rw [cell_of_row _ _ _ _ _ _ HCY.out]; rfl
              have HL0 := Lib.hid (fun (x : Later v17) => HF12c.out x.world)
              have HL1 := Lib.hid (fun (x : Later v17) => HF10.out x.world)
              refine wp_region_later (by kernel_rfl) (by kernel_rfl) ?_
              repeat go_big_quiet_step (fail)
              go_big_quiet_step ((go_at_call 24; exact later_call (HL0.out _)))
              repeat go_big_quiet_step (fail)
              go_big_quiet_step ((go_at_call 9; exact later_call (HL1.out _)))
              repeat go_big_quiet_step (fail)
              refine wpQuiet_nil ?_
              intro x
              have hb := x.below
              generalize x.world = w18 at *
              have HB18 : Hid (Below w.heap.size w w18) := Lib.hid (Below.via (HB17.out) hb)
              have HCX := Lib.hid (cell_up hb HCX.out)
              have HCY := Lib.hid (cell_up hb HCY.out)
              have HCP := Lib.hid (cell_up hb HCP.out)
              have HCQ := Lib.hid (cell_up hb HCQ.out)
              have HCR := Lib.hid (cell_up hb HCR.out)
              have HCS := Lib.hid (cell_up hb HCS.out)
              clear hb HL0 HL1 x
              clear hpP hqP hpS hqS hpQ hqQ hpX hqX hpY hqY
              clear hsX hsY
              try clear hE
              try clear hE2
              go_wp2_with fail
              have hpP : partOf w18 gp 0 18 = #[.bool true, .int .u8 (P 0), .int .u8 (P 1), .int .u8 (P 2), .int .u8 (P 3), .int .u8 (P 4), .int .u8 (P 5), .int .u8 (P 6), .int .u8 (P 7), .int .u8 (P 8), .int .u8 (P 9), .int .u8 (P 10), .int .u8 (P 11), .int .u8 (P 12), .int .u8 (P 13), .int .u8 (P 14), .int .u8 (P 15), .int .i64 pn] := by rw [partOf_row _ _ _ _ _ _ _ HCP.out]; simp
              have hqP := (Array.getElem?_eq_some_iff.1 HCP.out).1
              have haP : partOf w18 gp 0 17 = #[.bool true, .int .u8 (P 0), .int .u8 (P 1), .int .u8 (P 2), .int .u8 (P 3), .int .u8 (P 4), .int .u8 (P 5), .int .u8 (P 6), .int .u8 (P 7), .int .u8 (P 8), .int .u8 (P 9), .int .u8 (P 10), .int .u8 (P 11), .int .u8 (P 12), .int .u8 (P 13), .int .u8 (P 14), .int .u8 (P 15)] := by rw [partOf_row _ _ _ _ _ _ _ HCP.out]; simp
              have HL0 := Lib.hid (fun (x : Later w18) => HF13.out x.world)
              have HL1 := Lib.hid (fun (x : Later w18) => works_any x.world (Env.later (HE.out.below HB18.out) x))
              refine wp_region_later (by kernel_rfl) (by kernel_rfl) ?_
              repeat go_big_quiet_step (fail)
              go_big_quiet_step ((go_at_call 9; exact later_call (HL0.out _)))
              repeat go_big_quiet_step (fail)
              go_big_quiet_step ((go_at_call 12; exact later_call (HL1.out _)))
              repeat go_big_quiet_step (fail)
              refine wpQuiet_nil ?_
              intro x
              have hb := x.below
              generalize x.world = w19 at *
              have HB19 : Hid (Below w.heap.size w w19) := Lib.hid (Below.via (HB18.out) hb)
              have HCX := Lib.hid (cell_up hb HCX.out)
              have HCY := Lib.hid (cell_up hb HCY.out)
              have HCP := Lib.hid (cell_up hb HCP.out)
              have HCQ := Lib.hid (cell_up hb HCQ.out)
              have HCR := Lib.hid (cell_up hb HCR.out)
              have HCS := Lib.hid (cell_up hb HCS.out)
              clear hb HL0 HL1 x
              clear hpP hqP
              clear haP
              go_wp2_with fail
              go_ret
              exact .mk rfl HB19.out
          · skip
            have hsb : (s == t) = false := by simpa using hst
            have HF12b := HF12.out
            simp only [hsb, Bool.false_and] at HF12b
            have HF12c := Lib.hid HF12b
            clear HF12b
            clear hsb
            cases s
            · skip
              obtain rfl : t = true := by cases t <;> first | rfl | exact absurd rfl hst
              have hpP : partOf v17 gp 0 18 = #[.bool false, .int .u8 (P 0), .int .u8 (P 1), .int .u8 (P 2), .int .u8 (P 3), .int .u8 (P 4), .int .u8 (P 5), .int .u8 (P 6), .int .u8 (P 7), .int .u8 (P 8), .int .u8 (P 9), .int .u8 (P 10), .int .u8 (P 11), .int .u8 (P 12), .int .u8 (P 13), .int .u8 (P 14), .int .u8 (P 15), .int .i64 pn] := by rw [partOf_row _ _ _ _ _ _ _ HCP.out]; simp
              have hqP := (Array.getElem?_eq_some_iff.1 HCP.out).1
              have hpS : partOf v17 w16.heap.size 0 18 = #[.bool false, .int .u8 (S 0), .int .u8 (S 1), .int .u8 (S 2), .int .u8 (S 3), .int .u8 (S 4), .int .u8 (S 5), .int .u8 (S 6), .int .u8 (S 7), .int .u8 (S 8), .int .u8 (S 9), .int .u8 (S 10), .int .u8 (S 11), .int .u8 (S 12), .int .u8 (S 13), .int .u8 (S 14), .int .u8 (S 15), .int .i64 sn] := by rw [partOf_row _ _ _ _ _ _ _ HCS.out]; simp
              have hqS := (Array.getElem?_eq_some_iff.1 HCS.out).1
              have hpQ : partOf v17 gq 0 18 = #[.bool true, .int .u8 (Q 0), .int .u8 (Q 1), .int .u8 (Q 2), .int .u8 (Q 3), .int .u8 (Q 4), .int .u8 (Q 5), .int .u8 (Q 6), .int .u8 (Q 7), .int .u8 (Q 8), .int .u8 (Q 9), .int .u8 (Q 10), .int .u8 (Q 11), .int .u8 (Q 12), .int .u8 (Q 13), .int .u8 (Q 14), .int .u8 (Q 15), .int .i64 qn] := by rw [partOf_row _ _ _ _ _ _ _ HCQ.out]; simp
              have hqQ := (Array.getElem?_eq_some_iff.1 HCQ.out).1
              have hpX : partOf v17 w.heap.size 0 17 = #[.bool false, .int .u8 (B 0), .int .u8 (B 1), .int .u8 (B 2), .int .u8 (B 3), .int .u8 (B 4), .int .u8 (B 5), .int .u8 (B 6), .int .u8 (B 7), .int .u8 (B 8), .int .u8 (B 9), .int .u8 (B 10), .int .u8 (B 11), .int .u8 (B 12), .int .u8 (B 13), .int .u8 (B 14), .int .u8 (B 15)] := by rw [partOf_row _ _ _ _ _ _ _ HCX.out]; simp
              have hqX := (Array.getElem?_eq_some_iff.1 HCX.out).1
              have hpY : partOf v17 (w.heap.size + 1) 0 17 = #[.bool true, .int .u8 (A 0), .int .u8 (A 1), .int .u8 (A 2), .int .u8 (A 3), .int .u8 (A 4), .int .u8 (A 5), .int .u8 (A 6), .int .u8 (A 7), .int .u8 (A 8), .int .u8 (A 9), .int .u8 (A 10), .int .u8 (A 11), .int .u8 (A 12), .int .u8 (A 13), .int .u8 (A 14), .int .u8 (A 15)] := by rw [partOf_row _ _ _ _ _ _ _ HCY.out]; simp
              have hqY := (Array.getElem?_eq_some_iff.1 HCY.out).1
              have hsX : (v17).cell? ⟨w.heap.size, 0, none⟩ = some (.bool false) := by rw [cell_of_row _ _ _ _ _ _ HCX.out]; rfl
              have hsY : (v17).cell? ⟨w.heap.size + 1, 0, none⟩ = some (.bool true) := by rw [cell_of_row _ _ _ _ _ _ HCY.out]; rfl
              have HL0 := Lib.hid (fun (x : Later v17) => HF12c.out x.world)
              refine wp_region_later (by kernel_rfl) (by kernel_rfl) ?_
              repeat go_big_quiet_step (fail)
              go_big_quiet_step ((go_at_call 24; exact later_call (HL0.out _)))
              repeat go_big_quiet_step (fail)
              refine wpQuiet_nil ?_
              intro x
              have hb := x.below
              generalize x.world = w18 at *
              have HB18 : Hid (Below w.heap.size w w18) := Lib.hid (Below.via (HB17.out) hb)
              have HCX := Lib.hid (cell_up hb HCX.out)
              have HCY := Lib.hid (cell_up hb HCY.out)
              have HCP := Lib.hid (cell_up hb HCP.out)
              have HCQ := Lib.hid (cell_up hb HCQ.out)
              have HCR := Lib.hid (cell_up hb HCR.out)
              have HCS := Lib.hid (cell_up hb HCS.out)
              clear hb HL0 x
              clear hpP hqP hpS hqS hpQ hqQ hpX hqX hpY hqY
              clear hsX hsY
              try clear hE
              try clear hE2
              go_wp2_with fail
              have hpP : partOf w18 gp 0 18 = #[.bool false, .int .u8 (P 0), .int .u8 (P 1), .int .u8 (P 2), .int .u8 (P 3), .int .u8 (P 4), .int .u8 (P 5), .int .u8 (P 6), .int .u8 (P 7), .int .u8 (P 8), .int .u8 (P 9), .int .u8 (P 10), .int .u8 (P 11), .int .u8 (P 12), .int .u8 (P 13), .int .u8 (P 14), .int .u8 (P 15), .int .i64 pn] := by rw [partOf_row _ _ _ _ _ _ _ HCP.out]; simp
              have hqP := (Array.getElem?_eq_some_iff.1 HCP.out).1
              have haP : partOf w18 gp 0 17 = #[.bool false, .int .u8 (P 0), .int .u8 (P 1), .int .u8 (P 2), .int .u8 (P 3), .int .u8 (P 4), .int .u8 (P 5), .int .u8 (P 6), .int .u8 (P 7), .int .u8 (P 8), .int .u8 (P 9), .int .u8 (P 10), .int .u8 (P 11), .int .u8 (P 12), .int .u8 (P 13), .int .u8 (P 14), .int .u8 (P 15)] := by rw [partOf_row _ _ _ _ _ _ _ HCP.out]; simp
              have HL0 := Lib.hid (fun (x : Later w18) => HF13.out x.world)
              have HL1 := Lib.hid (fun (x : Later w18) => works_any x.world (Env.later (HE.out.below HB18.out) x))
              refine wp_region_later (by kernel_rfl) (by kernel_rfl) ?_
              repeat go_big_quiet_step (fail)
              go_big_quiet_step ((go_at_call 9; exact later_call (HL0.out _)))
              repeat go_big_quiet_step (fail)
              go_big_quiet_step ((go_at_call 12; exact later_call (HL1.out _)))
              repeat go_big_quiet_step (fail)
              refine wpQuiet_nil ?_
              intro x
              have hb := x.below
              generalize x.world = w19 at *
              have HB19 : Hid (Below w.heap.size w w19) := Lib.hid (Below.via (HB18.out) hb)
              have HCX := Lib.hid (cell_up hb HCX.out)
              have HCY := Lib.hid (cell_up hb HCY.out)
              have HCP := Lib.hid (cell_up hb HCP.out)
              have HCQ := Lib.hid (cell_up hb HCQ.out)
              have HCR := Lib.hid (cell_up hb HCR.out)
              have HCS := Lib.hid (cell_up hb HCS.out)
              clear hb HL0 HL1 x
              clear hpP hqP
              clear haP
              go_wp2_with fail
              go_ret
              exact .mk rfl HB19.out
            · skip
              obtain rfl : t = false := by cases t <;> first | rfl | exact absurd rfl hst
              have hpP : partOf v17 gp 0 18 = #[.bool true, .int .u8 (P 0), .int .u8 (P 1), .int .u8 (P 2), .int .u8 (P 3), .int .u8 (P 4), .int .u8 (P 5), .int .u8 (P 6), .int .u8 (P 7), .int .u8 (P 8), .int .u8 (P 9), .int .u8 (P 10), .int .u8 (P 11), .int .u8 (P 12), .int .u8 (P 13), .int .u8 (P 14), .int .u8 (P 15), .int .i64 pn] := by rw [partOf_row _ _ _ _ _ _ _ HCP.out]; simp
              have hqP := (Array.getElem?_eq_some_iff.1 HCP.out).1
              have hpS : partOf v17 w16.heap.size 0 18 = #[.bool true, .int .u8 (S 0), .int .u8 (S 1), .int .u8 (S 2), .int .u8 (S 3), .int .u8 (S 4), .int .u8 (S 5), .int .u8 (S 6), .int .u8 (S 7), .int .u8 (S 8), .int .u8 (S 9), .int .u8 (S 10), .int .u8 (S 11), .int .u8 (S 12), .int .u8 (S 13), .int .u8 (S 14), .int .u8 (S 15), .int .i64 sn] := by rw [partOf_row _ _ _ _ _ _ _ HCS.out]; simp
              have hqS := (Array.getElem?_eq_some_iff.1 HCS.out).1
              have hpQ : partOf v17 gq 0 18 = #[.bool false, .int .u8 (Q 0), .int .u8 (Q 1), .int .u8 (Q 2), .int .u8 (Q 3), .int .u8 (Q 4), .int .u8 (Q 5), .int .u8 (Q 6), .int .u8 (Q 7), .int .u8 (Q 8), .int .u8 (Q 9), .int .u8 (Q 10), .int .u8 (Q 11), .int .u8 (Q 12), .int .u8 (Q 13), .int .u8 (Q 14), .int .u8 (Q 15), .int .i64 qn] := by rw [partOf_row _ _ _ _ _ _ _ HCQ.out]; simp
              have hqQ := (Array.getElem?_eq_some_iff.1 HCQ.out).1
              have hpX : partOf v17 w.heap.size 0 17 = #[.bool true, .int .u8 (B 0), .int .u8 (B 1), .int .u8 (B 2), .int .u8 (B 3), .int .u8 (B 4), .int .u8 (B 5), .int .u8 (B 6), .int .u8 (B 7), .int .u8 (B 8), .int .u8 (B 9), .int .u8 (B 10), .int .u8 (B 11), .int .u8 (B 12), .int .u8 (B 13), .int .u8 (B 14), .int .u8 (B 15)] := by rw [partOf_row _ _ _ _ _ _ _ HCX.out]; simp
              have hqX := (Array.getElem?_eq_some_iff.1 HCX.out).1
              have hpY : partOf v17 (w.heap.size + 1) 0 17 = #[.bool false, .int .u8 (A 0), .int .u8 (A 1), .int .u8 (A 2), .int .u8 (A 3), .int .u8 (A 4), .int .u8 (A 5), .int .u8 (A 6), .int .u8 (A 7), .int .u8 (A 8), .int .u8 (A 9), .int .u8 (A 10), .int .u8 (A 11), .int .u8 (A 12), .int .u8 (A 13), .int .u8 (A 14), .int .u8 (A 15)] := by rw [partOf_row _ _ _ _ _ _ _ HCY.out]; simp
              have hqY := (Array.getElem?_eq_some_iff.1 HCY.out).1
              have hsX : (v17).cell? ⟨w.heap.size, 0, none⟩ = some (.bool true) := by rw [cell_of_row _ _ _ _ _ _ HCX.out]; rfl
              have hsY : (v17).cell? ⟨w.heap.size + 1, 0, none⟩ = some (.bool false) := by rw [cell_of_row _ _ _ _ _ _ HCY.out]; rfl
              have HL0 := Lib.hid (fun (x : Later v17) => HF12c.out x.world)
              refine wp_region_later (by kernel_rfl) (by kernel_rfl) ?_
              repeat go_big_quiet_step (fail)
              go_big_quiet_step ((go_at_call 24; exact later_call (HL0.out _)))
              repeat go_big_quiet_step (fail)
              refine wpQuiet_nil ?_
              intro x
              have hb := x.below
              generalize x.world = w18 at *
              have HB18 : Hid (Below w.heap.size w w18) := Lib.hid (Below.via (HB17.out) hb)
              have HCX := Lib.hid (cell_up hb HCX.out)
              have HCY := Lib.hid (cell_up hb HCY.out)
              have HCP := Lib.hid (cell_up hb HCP.out)
              have HCQ := Lib.hid (cell_up hb HCQ.out)
              have HCR := Lib.hid (cell_up hb HCR.out)
              have HCS := Lib.hid (cell_up hb HCS.out)
              clear hb HL0 x
              clear hpP hqP hpS hqS hpQ hqQ hpX hqX hpY hqY
              clear hsX hsY
              try clear hE
              try clear hE2
              go_wp2_with fail
              have hpP : partOf w18 gp 0 18 = #[.bool true, .int .u8 (P 0), .int .u8 (P 1), .int .u8 (P 2), .int .u8 (P 3), .int .u8 (P 4), .int .u8 (P 5), .int .u8 (P 6), .int .u8 (P 7), .int .u8 (P 8), .int .u8 (P 9), .int .u8 (P 10), .int .u8 (P 11), .int .u8 (P 12), .int .u8 (P 13), .int .u8 (P 14), .int .u8 (P 15), .int .i64 pn] := by rw [partOf_row _ _ _ _ _ _ _ HCP.out]; simp
              have hqP := (Array.getElem?_eq_some_iff.1 HCP.out).1
              have haP : partOf w18 gp 0 17 = #[.bool true, .int .u8 (P 0), .int .u8 (P 1), .int .u8 (P 2), .int .u8 (P 3), .int .u8 (P 4), .int .u8 (P 5), .int .u8 (P 6), .int .u8 (P 7), .int .u8 (P 8), .int .u8 (P 9), .int .u8 (P 10), .int .u8 (P 11), .int .u8 (P 12), .int .u8 (P 13), .int .u8 (P 14), .int .u8 (P 15)] := by rw [partOf_row _ _ _ _ _ _ _ HCP.out]; simp
              have HL0 := Lib.hid (fun (x : Later w18) => HF13.out x.world)
              have HL1 := Lib.hid (fun (x : Later w18) => works_any x.world (Env.later (HE.out.below HB18.out) x))
              refine wp_region_later (by kernel_rfl) (by kernel_rfl) ?_
              repeat go_big_quiet_step (fail)
              go_big_quiet_step ((go_at_call 9; exact later_call (HL0.out _)))
              repeat go_big_quiet_step (fail)
              go_big_quiet_step ((go_at_call 12; exact later_call (HL1.out _)))
              repeat go_big_quiet_step (fail)
              refine wpQuiet_nil ?_
              intro x
              have hb := x.below
              generalize x.world = w19 at *
              have HB19 : Hid (Below w.heap.size w w19) := Lib.hid (Below.via (HB18.out) hb)
              have HCX := Lib.hid (cell_up hb HCX.out)
              have HCY := Lib.hid (cell_up hb HCY.out)
              have HCP := Lib.hid (cell_up hb HCP.out)
              have HCQ := Lib.hid (cell_up hb HCQ.out)
              have HCR := Lib.hid (cell_up hb HCR.out)
              have HCS := Lib.hid (cell_up hb HCS.out)
              clear hb HL0 HL1 x
              clear hpP hqP
              clear haP
              go_wp2_with fail
              go_ret
              exact .mk rfl HB19.out
end Go.Proofs.YtcadpcppnllhnaaGreatDoor
