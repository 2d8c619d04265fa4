/- Walk of the law AddrKnown: it returns true. -/
import Derived.Test.YtcadpcppnllhnaaGreatDoorJ11
import Derived.Test.YtcadpcppnllhnaaGreatDoorJ12
import Derived.Test.YtcadpcppnllhnaaGreatDoorJ13
import Derived.Deep.RegionHeld3
import Derived.Deep.DrawnRows
import Derived.Test.YtcadpcppnllhnaaGreatDoorJ6
import Derived.Test.YtcadpcppnllhnaaGreatDoorTie
import Derived.ProofKit
import Derived.OpenShut
import Derived.LaidMore
import Derived.Lay
import Derived.SevenTiedAt
import Derived.Stop.Joined
import Derived.Stop.LaidErr
import Derived.Lib.LaidTab
import Derived.Shelf.Vars
import Derived.HandedShaped
import Derived.Lib.SmallJoins

section
set_option linter.unusedSimpArgs false
set_option linter.unusedVariables false
namespace Go.Proofs.YtcadpcppnllhnaaGreatDoor
open Go.RowKit

def isStr : Value → Bool
  | .string _ => true
  | _ => false
theorem str_at {TX : Array Value} {n i : Nat} (h : TX.size = n ∧ TX.all isStr = true) (hi : i < n) : ∃ s, TX[i]? = some (.string s) := by
  have hi' : i < TX.size := by rw [h.1]; exact hi
  have := Array.all_eq_true.1 h.2 i hi'
  rw [Array.getElem?_eq_getElem hi']
  cases hv : TX[i] <;> rw [hv] at this <;> first | exact ⟨_, rfl⟩ | exact absurd this (by simp [isStr])
theorem u8_wrap2 (n : Int) : 0 ≤ IntKind.u8.wrap n ∧ IntKind.u8.wrap n < 256 := by rw [IntKind.wrap_u8]; omega
theorem cell_up0 {w w' : World} (h : Below w.heap.size w w') {b : Nat} {cs : Array Value} {t : TypeId} (hc : w.heap[b]? = some (.cells cs t (0, 0))) : w'.heap[b]? = some (.cells cs t (0, 0)) := (h.block _ (Array.getElem?_eq_some_iff.1 hc).1).trans hc
theorem u8_zero : U8 fun _ => 0 := fun _ => ⟨Int.le_refl 0, (show (0 : Int) < 256 by decide)⟩
theorem u8_if {C : Nat → Int} (h : U8 C) (j : Nat) (v : Int) (hv : 0 ≤ v ∧ v < 256) : U8 fun i => if i = j then v else C i := fun i => by
  show 0 ≤ (if i = j then v else C i) ∧ (if i = j then v else C i) < 256
  split
  · exact hv
  · exact h i
theorem reads_ad {w : World} {b : Nat} {s : Bool} {C : Nat → Int} {t : TypeId} (h : w.heap[b]? = some (.cells #[.bool s, .int .u8 (C 0), .int .u8 (C 1), .int .u8 (C 2), .int .u8 (C 3), .int .u8 (C 4), .int .u8 (C 5), .int .u8 (C 6), .int .u8 (C 7), .int .u8 (C 8), .int .u8 (C 9), .int .u8 (C 10), .int .u8 (C 11), .int .u8 (C 12), .int .u8 (C 13), .int .u8 (C 14), .int .u8 (C 15)] t (0, 0))) (hC : U8 C) (k : Nat) (hk : k ≤ 16) : Reads w (some ⟨b, 1, none⟩) k 16 ((List.range k).map C) := by
  refine ⟨by simp, hk, by decide, fun v hv => ?_, .inr ⟨b, 1, rfl, (Array.getElem?_eq_some_iff.1 h).1, fun j hj => ?_⟩⟩
  · obtain ⟨i, -, rfl⟩ := List.mem_map.1 hv
    exact hC i
  · rw [ad_cell (fun j => cell_of_row _ _ j _ _ (0, 0) h) j (by omega)]
    simp [List.getD_eq_getElem?_getD, hj]
theorem cutBy_u8 (s : Bool) (B : Nat → Int) (n : Int) (h : U8 B) : U8 (cutBy s B n) := by
  unfold cutBy
  split
  · exact cutB_u8 h
  · exact fun _ => ⟨Int.le_refl 0, (show (0 : Int) < 256 by decide)⟩
theorem cutLen_bd (s : Bool) (B : Nat → Int) (n : Int) : 0 ≤ cutLen s B n ∧ cutLen s B n ≤ 128 := by
  unfold cutLen
  split
  · have := clampN_le s n; omega
  · omega

def kF (i : Nat) (j : Nat) : Int := ([(i : Int), (i : Int) * 7 % 256, 0, (i : Int) / 3] : List Int).getD j 0
def kO (i r : Nat) (j : Nat) : Int := if j = 4 + r then (i : Int) else kF i j

set_option maxRecDepth 100000 in
set_option maxHeartbeats 80000000 in
attribute [local go_sem ↓] Go.wp_at_zero Go.wp_at_succ in
theorem known_any (w : World) (henv : Env w) :
    Calls Tryz.prog 3 #[] w (RetAt w (.bool true)) := by
  have HE := Lib.hid henv
  clear henv
  go_enter Tryz.func3, Tryz.ntmps3
  go_wp2_with fail
  go_loopw [2] (fun u2 wr => ∃ (i : Nat) (TX : Array Value), i ≤ 39 ∧ u2 = .int .i64 i ∧ Hid (TX.size = 39 ∧ TX.all isStr = true) ∧ Hid (wr.heap[w.heap.size]? = some (.cells TX 9 (0, 0))) ∧ Hid (Below w.heap.size w wr)) (fun u2 _ => (39 : Int) - intOf u2 |>.toNat)
  case atStart =>
    refine ⟨0, _, by omega, rfl, ?_, Lib.hid (heap_alloc_new w _), Lib.hid (Below.all (Below.refl _ _) _)⟩
    exact Lib.hid ⟨rfl, by kernel_rfl⟩
  case round =>
    obtain ⟨i, TX, hi, rfl, HT, HC, HW⟩ := hrel
    by_cases hlt : i < 39
    · obtain ⟨s, hs⟩ := str_at HT.out hlt
      have hc : wr.cell? ⟨w.heap.size, i, none⟩ = some (.string s) := by rw [cell_of_row _ _ _ _ _ _ HC.out]; exact hs
      have hlt' : (i : Int) < 39 := by omega
      clear hs
      go_wp2_with fail
      refine Calls.mono (reads_any s _ (HE.out.below HW.out)) ?_
      rintro e w2 ⟨rfl, hb⟩
      have HC2 := Lib.hid (cell_up0 hb HC.out)
      have HW2 := Lib.hid (Below.via HW.out hb)
      clear hb HC HW hc
      go_wp2_with fail
      go_roundw
      case rel => exact ⟨i + 1, TX, by omega, by go_num, HT, HC2, HW2⟩
      case measure => simp [intOf]; omega
    have hlt' : ¬ ((i : Int) < 39) := by omega
    clear HT HC TX
    go_wp2_with fail
    go_loopw [3] (fun u3 wr => ∃ i : Nat, i ≤ 256 ∧ u3 = .int .i64 i ∧ Hid (Below w.heap.size w wr)) (fun u3 _ => (256 : Int) - intOf u3 |>.toNat)
    case atStart => exact ⟨0, by omega, rfl, HW⟩
    clear HW hlt hi hlt'
    generalize (i : Int) = i39 at *
    case round =>
      obtain ⟨i, hi, rfl, HW⟩ := hrel
      by_cases hlt : i < 256
      rotate_left
      · obtain rfl : i = 256 := by omega
        have hz1 := prefixes_any false (fun _ => 0) (-9223372036854775808) false (fun _ => 0) 9223372036854775807 false (fun _ => 0) (-9223372036854775808) u8_zero u8_zero u8_zero (by decide) (by decide) (by decide) (by decide) (by decide) (by decide)
        have HZ := Lib.hid hz1
        clear hz1 hlt hi
        unfold adV pfV at HZ
        go_wp2_with fail
        refine Calls.mono (HZ.out _ (HE.out.below HW.out)) ?_
        rintro e w2 ⟨rfl, hb⟩
        have HW2 := Lib.hid (Below.via HW.out hb)
        clear hb HW
        go_wp2_with fail
        refine Calls.mono (works_any _ (HE.out.below HW2.out)) ?_
        rintro e w3 ⟨rfl, hb⟩
        have HW3 := Lib.hid (Below.via HW2.out hb)
        clear hb HW2
        go_wp2_with fail
        go_ret
        exact .mk rfl HW3.out
      have hlt' : (i : Int) < 256 := by omega
      have HX0 := Lib.hid (AdBox.made0 wr 26 true)
      have HW0 := Lib.hid (Below.all HW.out (.cells #[.bool true, .int .u8 0, .int .u8 0, .int .u8 0, .int .u8 0, .int .u8 0, .int .u8 0, .int .u8 0, .int .u8 0, .int .u8 0, .int .u8 0, .int .u8 0, .int .u8 0, .int .u8 0, .int .u8 0, .int .u8 0, .int .u8 0] 26))
      have HL := Lib.hid HW.out.size
      go_wp2_with fail
      clear HW
      generalize wr.alloc (.cells #[.bool true, .int .u8 0, .int .u8 0, .int .u8 0, .int .u8 0, .int .u8 0, .int .u8 0, .int .u8 0, .int .u8 0, .int .u8 0, .int .u8 0, .int .u8 0, .int .u8 0, .int .u8 0, .int .u8 0, .int .u8 0, .int .u8 0] 26) = w1 at *
      generalize wr.heap.size = b4 at *
      go_loopw [5] (fun u5 wr => ∃ (k : Nat) (C : Nat → Int), k ≤ 8 ∧ u5 = .int .i64 k ∧ Hid (U8 C) ∧ Hid (AdBox wr b4 26 true C) ∧ Hid (Below w.heap.size w wr)) (fun u5 _ => (8 : Int) - intOf u5 |>.toNat)
      case atStart => exact ⟨0, fun _ => 0, by omega, rfl, Lib.hid u8_zero, HX0, HW0⟩
      clear HX0 HW0
      case round =>
        obtain ⟨k, C, hk, rfl, HU, HX, HW⟩ := hrel
        by_cases hk8 : k < 8
        · have hk8' : (k : Int) < 8 := by omega
          have e1 : Int.tmod (i : Int) 2 = ((i % 2 : Nat) : Int) := by rw [Int.tmod_eq_emod_of_nonneg (by omega)]; omega
          have hj : 2 * k + i % 2 < 16 := by omega
          have hm2 : i % 2 < 2 := by omega
          have hfr := HX.out.free (1 + (2 * k + i % 2))
          have hcl := HX.out.cell (2 * k + i % 2) hj
          generalize i % 2 = r at *
          have hLb := HL.out
          have HS : Hid (∀ v, 0 ≤ v ∧ v < 256 → U8 fun n => if n = 2 * k + r then v else C n) := Lib.hid fun v hv => u8_if HU.out _ v hv
          go_wp2_with fail
          all_goals first
            | exact ⟨⟨k + 1, C, by omega, by go_num, HU, HX, HW⟩, by simp [intOf]; omega⟩
            | exact ⟨⟨k + 1, _, by omega, by go_num, Lib.hid (HS.out _ ⟨by omega, by omega⟩), Lib.hid (HX.out.set (2 * k + r) hj _), Lib.hid (HW.out.setCell (by simp only; omega) _)⟩, by simp [intOf]; omega⟩
        obtain rfl : k = 8 := by omega
        clear hk8 hk
        have e12 : Int.tmod (i : Int) 12 = ((i % 12 : Nat) : Int) := by rw [Int.tmod_eq_emod_of_nonneg (by omega)]; omega
        have hr12 : i % 12 < 12 := by omega
        generalize i % 12 = r at *
        have hFU : U8 (kF i) := fun j => by
          rcases j with _ | _ | _ | _ | j
          · exact ⟨by show (0 : Int) ≤ i; omega, by show (i : Int) < 256; omega⟩
          · exact ⟨by show (0 : Int) ≤ (i : Int) * 7 % 256; omega, by show (i : Int) * 7 % 256 < 256; omega⟩
          · exact ⟨Int.le_refl 0, (show (0 : Int) < 256 by decide)⟩
          · exact ⟨by show (0 : Int) ≤ (i : Int) / 3; omega, by show (i : Int) / 3 < 256; omega⟩
          · exact ⟨Int.le_refl 0, (show (0 : Int) < 256 by decide)⟩
        have HB5 : AdBox ((wr.alloc (.cells #[.bool false, .int .u8 (i : Int), .int .u8 ((i : Int) * 7 % 256), .int .u8 0, .int .u8 ((i : Int) / 3), .int .u8 0, .int .u8 0, .int .u8 0, .int .u8 0, .int .u8 0, .int .u8 0, .int .u8 0, .int .u8 0, .int .u8 0, .int .u8 0, .int .u8 0, .int .u8 0] 26)).alloc (.cells #[.bool false, .int .u8 (i : Int), .int .u8 ((i : Int) * 7 % 256), .int .u8 0, .int .u8 ((i : Int) / 3), .int .u8 0, .int .u8 0, .int .u8 0, .int .u8 0, .int .u8 0, .int .u8 0, .int .u8 0, .int .u8 0, .int .u8 0, .int .u8 0, .int .u8 0, .int .u8 0] 26)) wr.heap.size 26 false (kF i) := ⟨heap_alloc2_old wr (.cells #[.bool false, .int .u8 (i : Int), .int .u8 ((i : Int) * 7 % 256), .int .u8 0, .int .u8 ((i : Int) / 3), .int .u8 0, .int .u8 0, .int .u8 0, .int .u8 0, .int .u8 0, .int .u8 0, .int .u8 0, .int .u8 0, .int .u8 0, .int .u8 0, .int .u8 0, .int .u8 0] 26) (.cells #[.bool false, .int .u8 (i : Int), .int .u8 ((i : Int) * 7 % 256), .int .u8 0, .int .u8 ((i : Int) / 3), .int .u8 0, .int .u8 0, .int .u8 0, .int .u8 0, .int .u8 0, .int .u8 0, .int .u8 0, .int .u8 0, .int .u8 0, .int .u8 0, .int .u8 0, .int .u8 0] 26)⟩
        have HB6 : AdBox ((wr.alloc (.cells #[.bool false, .int .u8 (i : Int), .int .u8 ((i : Int) * 7 % 256), .int .u8 0, .int .u8 ((i : Int) / 3), .int .u8 0, .int .u8 0, .int .u8 0, .int .u8 0, .int .u8 0, .int .u8 0, .int .u8 0, .int .u8 0, .int .u8 0, .int .u8 0, .int .u8 0, .int .u8 0] 26)).alloc (.cells #[.bool false, .int .u8 (i : Int), .int .u8 ((i : Int) * 7 % 256), .int .u8 0, .int .u8 ((i : Int) / 3), .int .u8 0, .int .u8 0, .int .u8 0, .int .u8 0, .int .u8 0, .int .u8 0, .int .u8 0, .int .u8 0, .int .u8 0, .int .u8 0, .int .u8 0, .int .u8 0] 26)) (wr.heap.size + 1) 26 false (kF i) := ⟨heap_alloc2_new wr (.cells #[.bool false, .int .u8 (i : Int), .int .u8 ((i : Int) * 7 % 256), .int .u8 0, .int .u8 ((i : Int) / 3), .int .u8 0, .int .u8 0, .int .u8 0, .int .u8 0, .int .u8 0, .int .u8 0, .int .u8 0, .int .u8 0, .int .u8 0, .int .u8 0, .int .u8 0, .int .u8 0] 26) (.cells #[.bool false, .int .u8 (i : Int), .int .u8 ((i : Int) * 7 % 256), .int .u8 0, .int .u8 ((i : Int) / 3), .int .u8 0, .int .u8 0, .int .u8 0, .int .u8 0, .int .u8 0, .int .u8 0, .int .u8 0, .int .u8 0, .int .u8 0, .int .u8 0, .int .u8 0, .int .u8 0] 26)⟩
        have hfr : ((wr.alloc (.cells #[.bool false, .int .u8 (i : Int), .int .u8 ((i : Int) * 7 % 256), .int .u8 0, .int .u8 ((i : Int) / 3), .int .u8 0, .int .u8 0, .int .u8 0, .int .u8 0, .int .u8 0, .int .u8 0, .int .u8 0, .int .u8 0, .int .u8 0, .int .u8 0, .int .u8 0, .int .u8 0] 26)).alloc (.cells #[.bool false, .int .u8 (i : Int), .int .u8 ((i : Int) * 7 % 256), .int .u8 0, .int .u8 ((i : Int) / 3), .int .u8 0, .int .u8 0, .int .u8 0, .int .u8 0, .int .u8 0, .int .u8 0, .int .u8 0, .int .u8 0, .int .u8 0, .int .u8 0, .int .u8 0, .int .u8 0] 26)).frozen? ⟨wr.heap.size + 1, 1 + (4 + r), none⟩ = false := HB6.free (1 + (4 + r))
        have hcl : ((wr.alloc (.cells #[.bool false, .int .u8 (i : Int), .int .u8 ((i : Int) * 7 % 256), .int .u8 0, .int .u8 ((i : Int) / 3), .int .u8 0, .int .u8 0, .int .u8 0, .int .u8 0, .int .u8 0, .int .u8 0, .int .u8 0, .int .u8 0, .int .u8 0, .int .u8 0, .int .u8 0, .int .u8 0] 26)).alloc (.cells #[.bool false, .int .u8 (i : Int), .int .u8 ((i : Int) * 7 % 256), .int .u8 0, .int .u8 ((i : Int) / 3), .int .u8 0, .int .u8 0, .int .u8 0, .int .u8 0, .int .u8 0, .int .u8 0, .int .u8 0, .int .u8 0, .int .u8 0, .int .u8 0, .int .u8 0, .int .u8 0] 26)).cell? ⟨wr.heap.size + 1, 1 + (4 + r), none⟩ = some (.int .u8 ((kF i) (4 + r))) := HB6.cell (4 + r) (by omega)
        have hL2 := HL.out
        have hL4 := HX.out.lt
        have hL3 := HW.out.size
        have hset : (List.set ([.bool false, .int .u8 (i : Int), .int .u8 ((i : Int) * 7 % 256), .int .u8 0, .int .u8 ((i : Int) / 3), .int .u8 0, .int .u8 0, .int .u8 0, .int .u8 0, .int .u8 0, .int .u8 0, .int .u8 0, .int .u8 0, .int .u8 0, .int .u8 0, .int .u8 0, .int .u8 0] : List Value) (1 + (4 + r)) (.int .u8 (i : Int))).toArray = #[.bool false, .int .u8 ((kO i r) 0), .int .u8 ((kO i r) 1), .int .u8 ((kO i r) 2), .int .u8 ((kO i r) 3), .int .u8 ((kO i r) 4), .int .u8 ((kO i r) 5), .int .u8 ((kO i r) 6), .int .u8 ((kO i r) 7), .int .u8 ((kO i r) 8), .int .u8 ((kO i r) 9), .int .u8 ((kO i r) 10), .int .u8 ((kO i r) 11), .int .u8 ((kO i r) 12), .int .u8 ((kO i r) 13), .int .u8 ((kO i r) 14), .int .u8 ((kO i r) 15)] := by
          clear hfr hcl HB5 HB6
          rcases r with _ | _ | _ | _ | _ | _ | _ | _ | _ | _ | _ | _ | r
          all_goals first | rfl | omega
        have HALL : ∃ (F O : Nat → Int), Hid (U8 F) ∧ Hid (U8 O) ∧ Hid (AdBox ((wr.alloc (.cells #[.bool false, .int .u8 (i : Int), .int .u8 ((i : Int) * 7 % 256), .int .u8 0, .int .u8 ((i : Int) / 3), .int .u8 0, .int .u8 0, .int .u8 0, .int .u8 0, .int .u8 0, .int .u8 0, .int .u8 0, .int .u8 0, .int .u8 0, .int .u8 0, .int .u8 0, .int .u8 0] 26)).alloc (.cells (List.set ([.bool false, .int .u8 (i : Int), .int .u8 ((i : Int) * 7 % 256), .int .u8 0, .int .u8 ((i : Int) / 3), .int .u8 0, .int .u8 0, .int .u8 0, .int .u8 0, .int .u8 0, .int .u8 0, .int .u8 0, .int .u8 0, .int .u8 0, .int .u8 0, .int .u8 0, .int .u8 0] : List Value) (1 + (4 + r)) (.int .u8 (i : Int))).toArray 26)) b4 26 true C) ∧ Hid (AdBox ((wr.alloc (.cells #[.bool false, .int .u8 (i : Int), .int .u8 ((i : Int) * 7 % 256), .int .u8 0, .int .u8 ((i : Int) / 3), .int .u8 0, .int .u8 0, .int .u8 0, .int .u8 0, .int .u8 0, .int .u8 0, .int .u8 0, .int .u8 0, .int .u8 0, .int .u8 0, .int .u8 0, .int .u8 0] 26)).alloc (.cells (List.set ([.bool false, .int .u8 (i : Int), .int .u8 ((i : Int) * 7 % 256), .int .u8 0, .int .u8 ((i : Int) / 3), .int .u8 0, .int .u8 0, .int .u8 0, .int .u8 0, .int .u8 0, .int .u8 0, .int .u8 0, .int .u8 0, .int .u8 0, .int .u8 0, .int .u8 0, .int .u8 0] : List Value) (1 + (4 + r)) (.int .u8 (i : Int))).toArray 26)) wr.heap.size 26 false F) ∧ Hid (AdBox ((wr.alloc (.cells #[.bool false, .int .u8 (i : Int), .int .u8 ((i : Int) * 7 % 256), .int .u8 0, .int .u8 ((i : Int) / 3), .int .u8 0, .int .u8 0, .int .u8 0, .int .u8 0, .int .u8 0, .int .u8 0, .int .u8 0, .int .u8 0, .int .u8 0, .int .u8 0, .int .u8 0, .int .u8 0] 26)).alloc (.cells (List.set ([.bool false, .int .u8 (i : Int), .int .u8 ((i : Int) * 7 % 256), .int .u8 0, .int .u8 ((i : Int) / 3), .int .u8 0, .int .u8 0, .int .u8 0, .int .u8 0, .int .u8 0, .int .u8 0, .int .u8 0, .int .u8 0, .int .u8 0, .int .u8 0, .int .u8 0, .int .u8 0] : List Value) (1 + (4 + r)) (.int .u8 (i : Int))).toArray 26)) (wr.heap.size + 1) 26 false O) ∧ Hid (Below w.heap.size w ((wr.alloc (.cells #[.bool false, .int .u8 (i : Int), .int .u8 ((i : Int) * 7 % 256), .int .u8 0, .int .u8 ((i : Int) / 3), .int .u8 0, .int .u8 0, .int .u8 0, .int .u8 0, .int .u8 0, .int .u8 0, .int .u8 0, .int .u8 0, .int .u8 0, .int .u8 0, .int .u8 0, .int .u8 0] 26)).alloc (.cells (List.set ([.bool false, .int .u8 (i : Int), .int .u8 ((i : Int) * 7 % 256), .int .u8 0, .int .u8 ((i : Int) / 3), .int .u8 0, .int .u8 0, .int .u8 0, .int .u8 0, .int .u8 0, .int .u8 0, .int .u8 0, .int .u8 0, .int .u8 0, .int .u8 0, .int .u8 0, .int .u8 0] : List Value) (1 + (4 + r)) (.int .u8 (i : Int))).toArray 26))) :=
          ⟨(kF i), kO i r, Lib.hid hFU, Lib.hid (u8_if hFU _ _ ⟨by omega, by omega⟩), Lib.hid ((HX.out.alloc _).alloc _), Lib.hid ⟨heap_alloc2_old wr (.cells #[.bool false, .int .u8 (i : Int), .int .u8 ((i : Int) * 7 % 256), .int .u8 0, .int .u8 ((i : Int) / 3), .int .u8 0, .int .u8 0, .int .u8 0, .int .u8 0, .int .u8 0, .int .u8 0, .int .u8 0, .int .u8 0, .int .u8 0, .int .u8 0, .int .u8 0, .int .u8 0] 26) (.cells (List.set ([.bool false, .int .u8 (i : Int), .int .u8 ((i : Int) * 7 % 256), .int .u8 0, .int .u8 ((i : Int) / 3), .int .u8 0, .int .u8 0, .int .u8 0, .int .u8 0, .int .u8 0, .int .u8 0, .int .u8 0, .int .u8 0, .int .u8 0, .int .u8 0, .int .u8 0, .int .u8 0] : List Value) (1 + (4 + r)) (.int .u8 (i : Int))).toArray 26)⟩, Lib.hid ⟨(heap_alloc2_new wr (.cells #[.bool false, .int .u8 (i : Int), .int .u8 ((i : Int) * 7 % 256), .int .u8 0, .int .u8 ((i : Int) / 3), .int .u8 0, .int .u8 0, .int .u8 0, .int .u8 0, .int .u8 0, .int .u8 0, .int .u8 0, .int .u8 0, .int .u8 0, .int .u8 0, .int .u8 0, .int .u8 0] 26) (.cells (List.set ([.bool false, .int .u8 (i : Int), .int .u8 ((i : Int) * 7 % 256), .int .u8 0, .int .u8 ((i : Int) / 3), .int .u8 0, .int .u8 0, .int .u8 0, .int .u8 0, .int .u8 0, .int .u8 0, .int .u8 0, .int .u8 0, .int .u8 0, .int .u8 0, .int .u8 0, .int .u8 0] : List Value) (1 + (4 + r)) (.int .u8 (i : Int))).toArray 26)).trans (by rw [hset])⟩, Lib.hid (Below.all (Below.all HW.out _) _)⟩
        clear HB5 HB6 HX HW hFU hset
        have HALL2 := Lib.hid HALL
        clear HALL
        go_wp2_with fail
        obtain ⟨F, O, HFU, HOU, HX, HF, HO, HW⟩ := HALL2.out
        clear HALL2 hfr hcl e12
        generalize ((wr.alloc (.cells #[.bool false, .int .u8 (i : Int), .int .u8 ((i : Int) * 7 % 256), .int .u8 0, .int .u8 ((i : Int) / 3), .int .u8 0, .int .u8 0, .int .u8 0, .int .u8 0, .int .u8 0, .int .u8 0, .int .u8 0, .int .u8 0, .int .u8 0, .int .u8 0, .int .u8 0, .int .u8 0] 26)).alloc (.cells (List.set ([.bool false, .int .u8 (i : Int), .int .u8 ((i : Int) * 7 % 256), .int .u8 0, .int .u8 ((i : Int) / 3), .int .u8 0, .int .u8 0, .int .u8 0, .int .u8 0, .int .u8 0, .int .u8 0, .int .u8 0, .int .u8 0, .int .u8 0, .int .u8 0, .int .u8 0, .int .u8 0] : List Value) (1 + (4 + r)) (.int .u8 (i : Int))).toArray 26)) = wz at *
        have hn5 : wr.heap.size ≠ b4 := by omega
        generalize wr.heap.size = b5 at *
        clear hL2 hL3 hL4 HL hn5
        have HCX := Lib.hid HX.out.heap
        have HCF := Lib.hid HF.out.heap
        have HCO := Lib.hid HO.out.heap
        clear HX HF HO
        obtain ⟨n1, e130, e130b⟩ : ∃ c : Nat, Int.tmod (i : Int) 130 = c ∧ c < 130 := ⟨i % 130, by rw [Int.tmod_eq_emod_of_nonneg (by omega)]; omega, by omega⟩
        obtain ⟨c2, e34, e34b⟩ : ∃ c : Int, Int.tmod (i : Int) 34 = c ∧ (0 ≤ c ∧ c < 34) := ⟨_, rfl, by rw [Int.tmod_eq_emod_of_nonneg (by omega)]; omega⟩
        obtain ⟨c3, e40, e40b⟩ : ∃ c : Int, Int.tmod (i : Int) 40 = c ∧ (0 ≤ c ∧ c < 40) := ⟨_, rfl, by rw [Int.tmod_eq_emod_of_nonneg (by omega)]; omega⟩
        obtain ⟨c4, w40, w40b⟩ : ∃ c : Int, IntKind.i64.wrap (c3 - 3) = c ∧ c = c3 - 3 := ⟨_, rfl, IntWalk.i64_in _ (by omega)⟩
        obtain ⟨c5, e33, e33b⟩ : ∃ c : Int, Int.tmod (i : Int) 33 = c ∧ (0 ≤ c ∧ c < 33) := ⟨_, rfl, by rw [Int.tmod_eq_emod_of_nonneg (by omega)]; omega⟩
        obtain ⟨c6, e18, e18b⟩ : ∃ c : Int, Int.tmod (i : Int) 18 = c ∧ (0 ≤ c ∧ c < 18) := ⟨_, rfl, by rw [Int.tmod_eq_emod_of_nonneg (by omega)]; omega⟩
        obtain ⟨k, e17, e17b⟩ : ∃ c : Nat, Int.tmod c6 17 = c ∧ c < 17 := ⟨(c6 % 17).toNat, by rw [Int.tmod_eq_emod_of_nonneg (by omega)]; omega, by omega⟩
        obtain ⟨d1, e133, e133b⟩ : ∃ c : Int, Int.tmod (i : Int) 133 = c ∧ (0 ≤ c ∧ c < 133) := ⟨_, rfl, by rw [Int.tmod_eq_emod_of_nonneg (by omega)]; omega⟩
        obtain ⟨d4, w133, w133b⟩ : ∃ c : Int, IntKind.i64.wrap (d1 - 2) = c ∧ c = d1 - 2 := ⟨_, rfl, IntWalk.i64_in _ (by omega)⟩
        obtain ⟨d2, e36, e36b⟩ : ∃ c : Int, Int.tmod (i : Int) 36 = c ∧ (0 ≤ c ∧ c < 36) := ⟨_, rfl, by rw [Int.tmod_eq_emod_of_nonneg (by omega)]; omega⟩
        obtain ⟨d5, w36, w36b⟩ : ∃ c : Int, IntKind.i64.wrap (d2 - 2) = c ∧ c = d2 - 2 := ⟨_, rfl, IntWalk.i64_in _ (by omega)⟩
        obtain ⟨d6, w37, w37b⟩ : ∃ c : Int, IntKind.i64.wrap (d2 - 1) = c ∧ c = d2 - 1 := ⟨_, rfl, IntWalk.i64_in _ (by omega)⟩
        obtain ⟨d3, e2, e2b⟩ : ∃ c : Int, Int.tdiv (i : Int) 2 = c ∧ (0 ≤ c ∧ c < 256) := ⟨_, rfl, by rw [Int.tdiv_eq_ediv_of_nonneg (by omega)]; omega⟩
        have hwq : wrap64 d3 = d3 := IntWalk.wrap64_in _ (by omega)
        have HK1 : Hid (∀ w, Env w → Calls Tryz.prog 5 #[adV true C, adV false F, .int .i64 (n1 : Int), .int .i64 c2] w (RetAt w (.bool true))) := Lib.hid fun w h => back_any true C false F n1 c2 HU.out HFU.out (by omega) (by omega) (by omega) (by omega) w h
        have HK2 : Hid (∀ w, Env w → Calls Tryz.prog 5 #[adV false F, adV false F, .int .i64 c4, .int .i64 c5] w (RetAt w (.bool true))) := Lib.hid fun w h => back_any false F false F c4 c5 HFU.out HFU.out (by omega) (by omega) (by omega) (by omega) w h
        have HBY : Hid (∀ w, Calls Tryz.prog 7 #[adV false F] w (NewBytes w (adBytes false F))) := Lib.hid fun w => bytes_any false F w
        have HBU := Lib.hid (adBytes_u8 HFU.out false)
        have HT1 : Hid (∀ oa n c l w, Reads w oa n c l → Env w → Calls Tryz.prog 6 #[adV false O, adV true C, .slice oa n c] w (RetAt w (.bool true))) := Lib.hid fun oa n c l w hr h => tells_any false O true C oa n c l HOU.out HU.out w hr h
        have HT2 : Hid (∀ oa n c l w, Reads w oa n c l → Env w → Calls Tryz.prog 6 #[adV true C, adV false F, .slice oa n c] w (RetAt w (.bool true))) := Lib.hid fun oa n c l w hr h => tells_any true C false F oa n c l HU.out HFU.out w hr h
        have HCU : Hid (∀ w, Calls Tryz.prog 9 #[adV true C, .int .i64 d3] w (RetAt w (pfV (cutSix true C) (cutBy true C d3) (cutLen true C d3)))) := Lib.hid fun w => cut_any true C d3 HU.out (by omega) (by omega) w
        have hcl := cutLen_bd true C d3
        have HP1 : Hid (∀ w, Env w → Calls Tryz.prog 8 #[adV true C, .int .i64 d4, pfV true C (n1 : Int), pfV (cutSix true C) (cutBy true C d3) (cutLen true C d3)] w (RetAt w (.bool true))) := Lib.hid fun w h => prefixes_any true C d4 true C n1 _ _ _ HU.out HU.out (cutBy_u8 true C d3 HU.out) (by omega) (by omega) (by omega) (by omega) (by omega) (by omega) w h
        have HP2 : Hid (∀ w, Env w → Calls Tryz.prog 8 #[adV false O, .int .i64 d5, pfV false F d6, pfV false O (i : Int)] w (RetAt w (.bool true))) := Lib.hid fun w h => prefixes_any false O d5 false F d6 false O i HOU.out HFU.out HOU.out (by omega) (by omega) (by omega) (by omega) (by omega) (by omega) w h
        have HTX : Hid (∀ w, Env w → Calls Tryz.prog 10 #[adV true C] w (RetAt w (.string ⟨(adText true C).toArray⟩))) := Lib.hid fun w h => text_any true C HU.out w h
        have htl := adText_max true C HU.out
        have HDG := Lib.hid (fun w => digits10_dec n1 (by omega) w)
        have hdl := decDigits_small n1 (by omega)
        have HRD := Lib.hid reads_any
        have hk16 : k ≤ 16 := by omega
        have HMS := Lib.hid (fun (w1 : World) (h : w1.heap[b4]? = some (.cells #[.bool true, .int .u8 (C 0), .int .u8 (C 1), .int .u8 (C 2), .int .u8 (C 3), .int .u8 (C 4), .int .u8 (C 5), .int .u8 (C 6), .int .u8 (C 7), .int .u8 (C 8), .int .u8 (C 9), .int .u8 (C 10), .int .u8 (C 11), .int .u8 (C 12), .int .u8 (C 13), .int .u8 (C 14), .int .u8 (C 15)] 26 (0, 0))) => reads_ad h HU.out k hk16)
        generalize cutSix true C = cs at *
        generalize cutBy true C d3 = cB at *
        generalize cutLen true C d3 = cn at *
        generalize adText true C = T at *
        generalize Lib.decDigits n1 = D at *
        generalize adBytes false F = LB at *
        generalize (List.range k).map C = LK at *
        have hl1 : T.length + 1 ≤ 9223372036854775807 := by omega
        have hl2 : (T.length : Int) + 1 ≤ 9223372036854775807 := by omega
        have hl3 : T.length + 1 + D.length ≤ 9223372036854775807 := by omega
        have hl4 : (T.length : Int) + 1 + (D.length : Int) ≤ 9223372036854775807 := by omega
        have hk17 : (k : Int) ≤ 16 := by omega
        clear e34b e40b w40b e33b e18b e133b w133b e36b w36b w37b e2b hcl
        unfold adV at HK1 HK2 HBY HT1 HT2 HCU HP1 HP2 HTX
        unfold pfV at HCU HP1 HP2
        have HOW := Lib.hid (Owns.nil wz 0 1)
        have HS0 : Hid ((fun w' => (partOf w' (b4) 0 17 = #[.bool true, .int .u8 (C 0), .int .u8 (C 1), .int .u8 (C 2), .int .u8 (C 3), .int .u8 (C 4), .int .u8 (C 5), .int .u8 (C 6), .int .u8 (C 7), .int .u8 (C 8), .int .u8 (C 9), .int .u8 (C 10), .int .u8 (C 11), .int .u8 (C 12), .int .u8 (C 13), .int .u8 (C 14), .int .u8 (C 15)] ∧ partOf w' (b5) 0 17 = #[.bool false, .int .u8 (F 0), .int .u8 (F 1), .int .u8 (F 2), .int .u8 (F 3), .int .u8 (F 4), .int .u8 (F 5), .int .u8 (F 6), .int .u8 (F 7), .int .u8 (F 8), .int .u8 (F 9), .int .u8 (F 10), .int .u8 (F 11), .int .u8 (F 12), .int .u8 (F 13), .int .u8 (F 14), .int .u8 (F 15)] ∧ partOf w' (b5 + 1) 0 17 = #[.bool false, .int .u8 (O 0), .int .u8 (O 1), .int .u8 (O 2), .int .u8 (O 3), .int .u8 (O 4), .int .u8 (O 5), .int .u8 (O 6), .int .u8 (O 7), .int .u8 (O 8), .int .u8 (O 9), .int .u8 (O 10), .int .u8 (O 11), .int .u8 (O 12), .int .u8 (O 13), .int .u8 (O 14), .int .u8 (O 15)]) ∧ Kept w w' [(b4, Obj.cells #[.bool true, .int .u8 (C 0), .int .u8 (C 1), .int .u8 (C 2), .int .u8 (C 3), .int .u8 (C 4), .int .u8 (C 5), .int .u8 (C 6), .int .u8 (C 7), .int .u8 (C 8), .int .u8 (C 9), .int .u8 (C 10), .int .u8 (C 11), .int .u8 (C 12), .int .u8 (C 13), .int .u8 (C 14), .int .u8 (C 15)] 26 (0, 0)), (b5, Obj.cells #[.bool false, .int .u8 (F 0), .int .u8 (F 1), .int .u8 (F 2), .int .u8 (F 3), .int .u8 (F 4), .int .u8 (F 5), .int .u8 (F 6), .int .u8 (F 7), .int .u8 (F 8), .int .u8 (F 9), .int .u8 (F 10), .int .u8 (F 11), .int .u8 (F 12), .int .u8 (F 13), .int .u8 (F 14), .int .u8 (F 15)] 26 (0, 0)), (b5 + 1, Obj.cells #[.bool false, .int .u8 (O 0), .int .u8 (O 1), .int .u8 (O 2), .int .u8 (O 3), .int .u8 (O 4), .int .u8 (O 5), .int .u8 (O 6), .int .u8 (O 7), .int .u8 (O 8), .int .u8 (O 9), .int .u8 (O 10), .int .u8 (O 11), .int .u8 (O 12), .int .u8 (O 13), .int .u8 (O 14), .int .u8 (O 15)] 26 (0, 0))] 0 none 0 0 []) wz) := Lib.hid (by
          have h1 : Kept w wz [(b4, Obj.cells #[.bool true, .int .u8 (C 0), .int .u8 (C 1), .int .u8 (C 2), .int .u8 (C 3), .int .u8 (C 4), .int .u8 (C 5), .int .u8 (C 6), .int .u8 (C 7), .int .u8 (C 8), .int .u8 (C 9), .int .u8 (C 10), .int .u8 (C 11), .int .u8 (C 12), .int .u8 (C 13), .int .u8 (C 14), .int .u8 (C 15)] 26 (0, 0)), (b5, Obj.cells #[.bool false, .int .u8 (F 0), .int .u8 (F 1), .int .u8 (F 2), .int .u8 (F 3), .int .u8 (F 4), .int .u8 (F 5), .int .u8 (F 6), .int .u8 (F 7), .int .u8 (F 8), .int .u8 (F 9), .int .u8 (F 10), .int .u8 (F 11), .int .u8 (F 12), .int .u8 (F 13), .int .u8 (F 14), .int .u8 (F 15)] 26 (0, 0)), (b5 + 1, Obj.cells #[.bool false, .int .u8 (O 0), .int .u8 (O 1), .int .u8 (O 2), .int .u8 (O 3), .int .u8 (O 4), .int .u8 (O 5), .int .u8 (O 6), .int .u8 (O 7), .int .u8 (O 8), .int .u8 (O 9), .int .u8 (O 10), .int .u8 (O 11), .int .u8 (O 12), .int .u8 (O 13), .int .u8 (O 14), .int .u8 (O 15)] 26 (0, 0))] 0 none 0 0 [] := ⟨HW.out, fun p hp => by
            simp only [List.mem_cons, List.not_mem_nil, or_false] at hp
            rcases hp with rfl | rfl | rfl
            · exact HCX.out
            · exact HCF.out
            · exact HCO.out
            , HOW.out⟩
          exact ⟨⟨h1.ad 0 _ rfl, h1.ad 1 _ rfl, h1.ad 2 _ rfl⟩, h1⟩)
        have KS : Hid (∀ ua ub : World, (fun w' => (partOf w' (b4) 0 17 = #[.bool true, .int .u8 (C 0), .int .u8 (C 1), .int .u8 (C 2), .int .u8 (C 3), .int .u8 (C 4), .int .u8 (C 5), .int .u8 (C 6), .int .u8 (C 7), .int .u8 (C 8), .int .u8 (C 9), .int .u8 (C 10), .int .u8 (C 11), .int .u8 (C 12), .int .u8 (C 13), .int .u8 (C 14), .int .u8 (C 15)] ∧ partOf w' (b5) 0 17 = #[.bool false, .int .u8 (F 0), .int .u8 (F 1), .int .u8 (F 2), .int .u8 (F 3), .int .u8 (F 4), .int .u8 (F 5), .int .u8 (F 6), .int .u8 (F 7), .int .u8 (F 8), .int .u8 (F 9), .int .u8 (F 10), .int .u8 (F 11), .int .u8 (F 12), .int .u8 (F 13), .int .u8 (F 14), .int .u8 (F 15)] ∧ partOf w' (b5 + 1) 0 17 = #[.bool false, .int .u8 (O 0), .int .u8 (O 1), .int .u8 (O 2), .int .u8 (O 3), .int .u8 (O 4), .int .u8 (O 5), .int .u8 (O 6), .int .u8 (O 7), .int .u8 (O 8), .int .u8 (O 9), .int .u8 (O 10), .int .u8 (O 11), .int .u8 (O 12), .int .u8 (O 13), .int .u8 (O 14), .int .u8 (O 15)]) ∧ Kept w w' [(b4, Obj.cells #[.bool true, .int .u8 (C 0), .int .u8 (C 1), .int .u8 (C 2), .int .u8 (C 3), .int .u8 (C 4), .int .u8 (C 5), .int .u8 (C 6), .int .u8 (C 7), .int .u8 (C 8), .int .u8 (C 9), .int .u8 (C 10), .int .u8 (C 11), .int .u8 (C 12), .int .u8 (C 13), .int .u8 (C 14), .int .u8 (C 15)] 26 (0, 0)), (b5, Obj.cells #[.bool false, .int .u8 (F 0), .int .u8 (F 1), .int .u8 (F 2), .int .u8 (F 3), .int .u8 (F 4), .int .u8 (F 5), .int .u8 (F 6), .int .u8 (F 7), .int .u8 (F 8), .int .u8 (F 9), .int .u8 (F 10), .int .u8 (F 11), .int .u8 (F 12), .int .u8 (F 13), .int .u8 (F 14), .int .u8 (F 15)] 26 (0, 0)), (b5 + 1, Obj.cells #[.bool false, .int .u8 (O 0), .int .u8 (O 1), .int .u8 (O 2), .int .u8 (O 3), .int .u8 (O 4), .int .u8 (O 5), .int .u8 (O 6), .int .u8 (O 7), .int .u8 (O 8), .int .u8 (O 9), .int .u8 (O 10), .int .u8 (O 11), .int .u8 (O 12), .int .u8 (O 13), .int .u8 (O 14), .int .u8 (O 15)] 26 (0, 0))] 0 none 0 0 []) ua → Below ua.heap.size ua ub → (fun w' => (partOf w' (b4) 0 17 = #[.bool true, .int .u8 (C 0), .int .u8 (C 1), .int .u8 (C 2), .int .u8 (C 3), .int .u8 (C 4), .int .u8 (C 5), .int .u8 (C 6), .int .u8 (C 7), .int .u8 (C 8), .int .u8 (C 9), .int .u8 (C 10), .int .u8 (C 11), .int .u8 (C 12), .int .u8 (C 13), .int .u8 (C 14), .int .u8 (C 15)] ∧ partOf w' (b5) 0 17 = #[.bool false, .int .u8 (F 0), .int .u8 (F 1), .int .u8 (F 2), .int .u8 (F 3), .int .u8 (F 4), .int .u8 (F 5), .int .u8 (F 6), .int .u8 (F 7), .int .u8 (F 8), .int .u8 (F 9), .int .u8 (F 10), .int .u8 (F 11), .int .u8 (F 12), .int .u8 (F 13), .int .u8 (F 14), .int .u8 (F 15)] ∧ partOf w' (b5 + 1) 0 17 = #[.bool false, .int .u8 (O 0), .int .u8 (O 1), .int .u8 (O 2), .int .u8 (O 3), .int .u8 (O 4), .int .u8 (O 5), .int .u8 (O 6), .int .u8 (O 7), .int .u8 (O 8), .int .u8 (O 9), .int .u8 (O 10), .int .u8 (O 11), .int .u8 (O 12), .int .u8 (O 13), .int .u8 (O 14), .int .u8 (O 15)]) ∧ Kept w w' [(b4, Obj.cells #[.bool true, .int .u8 (C 0), .int .u8 (C 1), .int .u8 (C 2), .int .u8 (C 3), .int .u8 (C 4), .int .u8 (C 5), .int .u8 (C 6), .int .u8 (C 7), .int .u8 (C 8), .int .u8 (C 9), .int .u8 (C 10), .int .u8 (C 11), .int .u8 (C 12), .int .u8 (C 13), .int .u8 (C 14), .int .u8 (C 15)] 26 (0, 0)), (b5, Obj.cells #[.bool false, .int .u8 (F 0), .int .u8 (F 1), .int .u8 (F 2), .int .u8 (F 3), .int .u8 (F 4), .int .u8 (F 5), .int .u8 (F 6), .int .u8 (F 7), .int .u8 (F 8), .int .u8 (F 9), .int .u8 (F 10), .int .u8 (F 11), .int .u8 (F 12), .int .u8 (F 13), .int .u8 (F 14), .int .u8 (F 15)] 26 (0, 0)), (b5 + 1, Obj.cells #[.bool false, .int .u8 (O 0), .int .u8 (O 1), .int .u8 (O 2), .int .u8 (O 3), .int .u8 (O 4), .int .u8 (O 5), .int .u8 (O 6), .int .u8 (O 7), .int .u8 (O 8), .int .u8 (O 9), .int .u8 (O 10), .int .u8 (O 11), .int .u8 (O 12), .int .u8 (O 13), .int .u8 (O 14), .int .u8 (O 15)] 26 (0, 0))] 0 none 0 0 []) ub) := Lib.hid (fun ua ub h hb => by have h1 := h.2.go hb; exact ⟨⟨h1.ad 0 _ rfl, h1.ad 1 _ rfl, h1.ad 2 _ rfl⟩, h1⟩)
        have RS : Hid (∀ ua : World, (fun w' => (partOf w' (b4) 0 17 = #[.bool true, .int .u8 (C 0), .int .u8 (C 1), .int .u8 (C 2), .int .u8 (C 3), .int .u8 (C 4), .int .u8 (C 5), .int .u8 (C 6), .int .u8 (C 7), .int .u8 (C 8), .int .u8 (C 9), .int .u8 (C 10), .int .u8 (C 11), .int .u8 (C 12), .int .u8 (C 13), .int .u8 (C 14), .int .u8 (C 15)] ∧ partOf w' (b5) 0 17 = #[.bool false, .int .u8 (F 0), .int .u8 (F 1), .int .u8 (F 2), .int .u8 (F 3), .int .u8 (F 4), .int .u8 (F 5), .int .u8 (F 6), .int .u8 (F 7), .int .u8 (F 8), .int .u8 (F 9), .int .u8 (F 10), .int .u8 (F 11), .int .u8 (F 12), .int .u8 (F 13), .int .u8 (F 14), .int .u8 (F 15)] ∧ partOf w' (b5 + 1) 0 17 = #[.bool false, .int .u8 (O 0), .int .u8 (O 1), .int .u8 (O 2), .int .u8 (O 3), .int .u8 (O 4), .int .u8 (O 5), .int .u8 (O 6), .int .u8 (O 7), .int .u8 (O 8), .int .u8 (O 9), .int .u8 (O 10), .int .u8 (O 11), .int .u8 (O 12), .int .u8 (O 13), .int .u8 (O 14), .int .u8 (O 15)]) ∧ Kept w w' [(b4, Obj.cells #[.bool true, .int .u8 (C 0), .int .u8 (C 1), .int .u8 (C 2), .int .u8 (C 3), .int .u8 (C 4), .int .u8 (C 5), .int .u8 (C 6), .int .u8 (C 7), .int .u8 (C 8), .int .u8 (C 9), .int .u8 (C 10), .int .u8 (C 11), .int .u8 (C 12), .int .u8 (C 13), .int .u8 (C 14), .int .u8 (C 15)] 26 (0, 0)), (b5, Obj.cells #[.bool false, .int .u8 (F 0), .int .u8 (F 1), .int .u8 (F 2), .int .u8 (F 3), .int .u8 (F 4), .int .u8 (F 5), .int .u8 (F 6), .int .u8 (F 7), .int .u8 (F 8), .int .u8 (F 9), .int .u8 (F 10), .int .u8 (F 11), .int .u8 (F 12), .int .u8 (F 13), .int .u8 (F 14), .int .u8 (F 15)] 26 (0, 0)), (b5 + 1, Obj.cells #[.bool false, .int .u8 (O 0), .int .u8 (O 1), .int .u8 (O 2), .int .u8 (O 3), .int .u8 (O 4), .int .u8 (O 5), .int .u8 (O 6), .int .u8 (O 7), .int .u8 (O 8), .int .u8 (O 9), .int .u8 (O 10), .int .u8 (O 11), .int .u8 (O 12), .int .u8 (O 13), .int .u8 (O 14), .int .u8 (O 15)] 26 (0, 0))] 0 none 0 0 []) ua → Reads ua (some ⟨b4, 1, none⟩) k 16 LK) := Lib.hid (fun ua h => HMS.out ua (h.2.at 0 _ rfl))
        have RE : Hid (∀ ua : World, (fun w' => (partOf w' (b4) 0 17 = #[.bool true, .int .u8 (C 0), .int .u8 (C 1), .int .u8 (C 2), .int .u8 (C 3), .int .u8 (C 4), .int .u8 (C 5), .int .u8 (C 6), .int .u8 (C 7), .int .u8 (C 8), .int .u8 (C 9), .int .u8 (C 10), .int .u8 (C 11), .int .u8 (C 12), .int .u8 (C 13), .int .u8 (C 14), .int .u8 (C 15)] ∧ partOf w' (b5) 0 17 = #[.bool false, .int .u8 (F 0), .int .u8 (F 1), .int .u8 (F 2), .int .u8 (F 3), .int .u8 (F 4), .int .u8 (F 5), .int .u8 (F 6), .int .u8 (F 7), .int .u8 (F 8), .int .u8 (F 9), .int .u8 (F 10), .int .u8 (F 11), .int .u8 (F 12), .int .u8 (F 13), .int .u8 (F 14), .int .u8 (F 15)] ∧ partOf w' (b5 + 1) 0 17 = #[.bool false, .int .u8 (O 0), .int .u8 (O 1), .int .u8 (O 2), .int .u8 (O 3), .int .u8 (O 4), .int .u8 (O 5), .int .u8 (O 6), .int .u8 (O 7), .int .u8 (O 8), .int .u8 (O 9), .int .u8 (O 10), .int .u8 (O 11), .int .u8 (O 12), .int .u8 (O 13), .int .u8 (O 14), .int .u8 (O 15)]) ∧ Kept w w' [(b4, Obj.cells #[.bool true, .int .u8 (C 0), .int .u8 (C 1), .int .u8 (C 2), .int .u8 (C 3), .int .u8 (C 4), .int .u8 (C 5), .int .u8 (C 6), .int .u8 (C 7), .int .u8 (C 8), .int .u8 (C 9), .int .u8 (C 10), .int .u8 (C 11), .int .u8 (C 12), .int .u8 (C 13), .int .u8 (C 14), .int .u8 (C 15)] 26 (0, 0)), (b5, Obj.cells #[.bool false, .int .u8 (F 0), .int .u8 (F 1), .int .u8 (F 2), .int .u8 (F 3), .int .u8 (F 4), .int .u8 (F 5), .int .u8 (F 6), .int .u8 (F 7), .int .u8 (F 8), .int .u8 (F 9), .int .u8 (F 10), .int .u8 (F 11), .int .u8 (F 12), .int .u8 (F 13), .int .u8 (F 14), .int .u8 (F 15)] 26 (0, 0)), (b5 + 1, Obj.cells #[.bool false, .int .u8 (O 0), .int .u8 (O 1), .int .u8 (O 2), .int .u8 (O 3), .int .u8 (O 4), .int .u8 (O 5), .int .u8 (O 6), .int .u8 (O 7), .int .u8 (O 8), .int .u8 (O 9), .int .u8 (O 10), .int .u8 (O 11), .int .u8 (O 12), .int .u8 (O 13), .int .u8 (O 14), .int .u8 (O 15)] 26 (0, 0))] 0 none 0 0 []) ua → Env ua) := Lib.hid (fun ua h => HE.out.below h.2.below)
        generalize hQ : Exit.then _ _ = Q
        have HQ := Lib.hid hQ
        clear hQ
        go_region_held3 (fun w' => (partOf w' (b4) 0 17 = #[.bool true, .int .u8 (C 0), .int .u8 (C 1), .int .u8 (C 2), .int .u8 (C 3), .int .u8 (C 4), .int .u8 (C 5), .int .u8 (C 6), .int .u8 (C 7), .int .u8 (C 8), .int .u8 (C 9), .int .u8 (C 10), .int .u8 (C 11), .int .u8 (C 12), .int .u8 (C 13), .int .u8 (C 14), .int .u8 (C 15)] ∧ partOf w' (b5) 0 17 = #[.bool false, .int .u8 (F 0), .int .u8 (F 1), .int .u8 (F 2), .int .u8 (F 3), .int .u8 (F 4), .int .u8 (F 5), .int .u8 (F 6), .int .u8 (F 7), .int .u8 (F 8), .int .u8 (F 9), .int .u8 (F 10), .int .u8 (F 11), .int .u8 (F 12), .int .u8 (F 13), .int .u8 (F 14), .int .u8 (F 15)] ∧ partOf w' (b5 + 1) 0 17 = #[.bool false, .int .u8 (O 0), .int .u8 (O 1), .int .u8 (O 2), .int .u8 (O 3), .int .u8 (O 4), .int .u8 (O 5), .int .u8 (O 6), .int .u8 (O 7), .int .u8 (O 8), .int .u8 (O 9), .int .u8 (O 10), .int .u8 (O 11), .int .u8 (O 12), .int .u8 (O 13), .int .u8 (O 14), .int .u8 (O 15)]) ∧ Kept w w' [(b4, Obj.cells #[.bool true, .int .u8 (C 0), .int .u8 (C 1), .int .u8 (C 2), .int .u8 (C 3), .int .u8 (C 4), .int .u8 (C 5), .int .u8 (C 6), .int .u8 (C 7), .int .u8 (C 8), .int .u8 (C 9), .int .u8 (C 10), .int .u8 (C 11), .int .u8 (C 12), .int .u8 (C 13), .int .u8 (C 14), .int .u8 (C 15)] 26 (0, 0)), (b5, Obj.cells #[.bool false, .int .u8 (F 0), .int .u8 (F 1), .int .u8 (F 2), .int .u8 (F 3), .int .u8 (F 4), .int .u8 (F 5), .int .u8 (F 6), .int .u8 (F 7), .int .u8 (F 8), .int .u8 (F 9), .int .u8 (F 10), .int .u8 (F 11), .int .u8 (F 12), .int .u8 (F 13), .int .u8 (F 14), .int .u8 (F 15)] 26 (0, 0)), (b5 + 1, Obj.cells #[.bool false, .int .u8 (O 0), .int .u8 (O 1), .int .u8 (O 2), .int .u8 (O 3), .int .u8 (O 4), .int .u8 (O 5), .int .u8 (O 6), .int .u8 (O 7), .int .u8 (O 8), .int .u8 (O 9), .int .u8 (O 10), .int .u8 (O 11), .int .u8 (O 12), .int .u8 (O 13), .int .u8 (O 14), .int .u8 (O 15)] 26 (0, 0))] 0 none 0 0 [])
          (first | (with_reducible exact KS.out _ _ HS0.out (Below.refl _ _).drew) | (with_reducible exact KS.out _ _ (by assumption) hb))
          (first
          | (go_at_call 5; (with_reducible refine Calls.mono (HK1.out _ (RE.out _ (by assumption))) ?_); rintro en w' ⟨rfl, hb⟩)
          | (go_at_call 5; (with_reducible refine Calls.mono (HK2.out _ (RE.out _ (by assumption))) ?_); rintro en w' ⟨rfl, hb⟩)
          | (go_at_call 7; (with_reducible refine Calls.mono (HBY.out _) ?_); rintro en w' ⟨o86, c86, rfl, ho86, hb⟩; have R86 := ho86.reads HBU.out)
          | (go_at_call 6; (with_reducible refine Calls.mono (HT1.out o86 _ c86 LB _ R86 (RE.out _ (by assumption))) ?_); rintro en w' ⟨rfl, hb⟩)
          | (go_at_call 6; (with_reducible refine Calls.mono (HT2.out _ _ _ LK _ (RS.out _ (by assumption)) (RE.out _ (by assumption))) ?_); rintro en w' ⟨rfl, hb⟩)
          )
        have hS : Kept w w' [(b4, Obj.cells #[.bool true, .int .u8 (C 0), .int .u8 (C 1), .int .u8 (C 2), .int .u8 (C 3), .int .u8 (C 4), .int .u8 (C 5), .int .u8 (C 6), .int .u8 (C 7), .int .u8 (C 8), .int .u8 (C 9), .int .u8 (C 10), .int .u8 (C 11), .int .u8 (C 12), .int .u8 (C 13), .int .u8 (C 14), .int .u8 (C 15)] 26 (0, 0)), (b5, Obj.cells #[.bool false, .int .u8 (F 0), .int .u8 (F 1), .int .u8 (F 2), .int .u8 (F 3), .int .u8 (F 4), .int .u8 (F 5), .int .u8 (F 6), .int .u8 (F 7), .int .u8 (F 8), .int .u8 (F 9), .int .u8 (F 10), .int .u8 (F 11), .int .u8 (F 12), .int .u8 (F 13), .int .u8 (F 14), .int .u8 (F 15)] 26 (0, 0)), (b5 + 1, Obj.cells #[.bool false, .int .u8 (O 0), .int .u8 (O 1), .int .u8 (O 2), .int .u8 (O 3), .int .u8 (O 4), .int .u8 (O 5), .int .u8 (O 6), .int .u8 (O 7), .int .u8 (O 8), .int .u8 (O 9), .int .u8 (O 10), .int .u8 (O 11), .int .u8 (O 12), .int .u8 (O 13), .int .u8 (O 14), .int .u8 (O 15)] 26 (0, 0))] 0 none 0 0 [] := (show (fun w' => (partOf w' (b4) 0 17 = #[.bool true, .int .u8 (C 0), .int .u8 (C 1), .int .u8 (C 2), .int .u8 (C 3), .int .u8 (C 4), .int .u8 (C 5), .int .u8 (C 6), .int .u8 (C 7), .int .u8 (C 8), .int .u8 (C 9), .int .u8 (C 10), .int .u8 (C 11), .int .u8 (C 12), .int .u8 (C 13), .int .u8 (C 14), .int .u8 (C 15)] ∧ partOf w' (b5) 0 17 = #[.bool false, .int .u8 (F 0), .int .u8 (F 1), .int .u8 (F 2), .int .u8 (F 3), .int .u8 (F 4), .int .u8 (F 5), .int .u8 (F 6), .int .u8 (F 7), .int .u8 (F 8), .int .u8 (F 9), .int .u8 (F 10), .int .u8 (F 11), .int .u8 (F 12), .int .u8 (F 13), .int .u8 (F 14), .int .u8 (F 15)] ∧ partOf w' (b5 + 1) 0 17 = #[.bool false, .int .u8 (O 0), .int .u8 (O 1), .int .u8 (O 2), .int .u8 (O 3), .int .u8 (O 4), .int .u8 (O 5), .int .u8 (O 6), .int .u8 (O 7), .int .u8 (O 8), .int .u8 (O 9), .int .u8 (O 10), .int .u8 (O 11), .int .u8 (O 12), .int .u8 (O 13), .int .u8 (O 14), .int .u8 (O 15)]) ∧ Kept w w' [(b4, Obj.cells #[.bool true, .int .u8 (C 0), .int .u8 (C 1), .int .u8 (C 2), .int .u8 (C 3), .int .u8 (C 4), .int .u8 (C 5), .int .u8 (C 6), .int .u8 (C 7), .int .u8 (C 8), .int .u8 (C 9), .int .u8 (C 10), .int .u8 (C 11), .int .u8 (C 12), .int .u8 (C 13), .int .u8 (C 14), .int .u8 (C 15)] 26 (0, 0)), (b5, Obj.cells #[.bool false, .int .u8 (F 0), .int .u8 (F 1), .int .u8 (F 2), .int .u8 (F 3), .int .u8 (F 4), .int .u8 (F 5), .int .u8 (F 6), .int .u8 (F 7), .int .u8 (F 8), .int .u8 (F 9), .int .u8 (F 10), .int .u8 (F 11), .int .u8 (F 12), .int .u8 (F 13), .int .u8 (F 14), .int .u8 (F 15)] 26 (0, 0)), (b5 + 1, Obj.cells #[.bool false, .int .u8 (O 0), .int .u8 (O 1), .int .u8 (O 2), .int .u8 (O 3), .int .u8 (O 4), .int .u8 (O 5), .int .u8 (O 6), .int .u8 (O 7), .int .u8 (O 8), .int .u8 (O 9), .int .u8 (O 10), .int .u8 (O 11), .int .u8 (O 12), .int .u8 (O 13), .int .u8 (O 14), .int .u8 (O 15)] 26 (0, 0))] 0 none 0 0 []) w' by assumption).2
        have HB1 : Hid (Below w.heap.size w w') := Lib.hid hS.below
        have HCX := Lib.hid (hS.at 0 _ rfl)
        have HCF := Lib.hid (hS.at 1 _ rfl)
        have HCO := Lib.hid (hS.at 2 _ rfl)
        rw [← HQ.out]
        clear hS HS0 KS RS RE HQ HK1 HK2 HBY HT1 HT2 HOW HMS HBU e34 e40 w40 e33 e18 e17
        generalize w' = w2 at *
        go_wp2_with fail
        have hpX : partOf w2 b4 0 17 = #[.bool true, .int .u8 (C 0), .int .u8 (C 1), .int .u8 (C 2), .int .u8 (C 3), .int .u8 (C 4), .int .u8 (C 5), .int .u8 (C 6), .int .u8 (C 7), .int .u8 (C 8), .int .u8 (C 9), .int .u8 (C 10), .int .u8 (C 11), .int .u8 (C 12), .int .u8 (C 13), .int .u8 (C 14), .int .u8 (C 15)] := by rw [partOf_row _ _ _ _ _ _ _ HCX.out]; simp
        have hqX := (Array.getElem?_eq_some_iff.1 HCX.out).1
        have hpF : partOf w2 b5 0 17 = #[.bool false, .int .u8 (F 0), .int .u8 (F 1), .int .u8 (F 2), .int .u8 (F 3), .int .u8 (F 4), .int .u8 (F 5), .int .u8 (F 6), .int .u8 (F 7), .int .u8 (F 8), .int .u8 (F 9), .int .u8 (F 10), .int .u8 (F 11), .int .u8 (F 12), .int .u8 (F 13), .int .u8 (F 14), .int .u8 (F 15)] := by rw [partOf_row _ _ _ _ _ _ _ HCF.out]; simp
        have hqF := (Array.getElem?_eq_some_iff.1 HCF.out).1
        have hpO : partOf w2 (b5 + 1) 0 17 = #[.bool false, .int .u8 (O 0), .int .u8 (O 1), .int .u8 (O 2), .int .u8 (O 3), .int .u8 (O 4), .int .u8 (O 5), .int .u8 (O 6), .int .u8 (O 7), .int .u8 (O 8), .int .u8 (O 9), .int .u8 (O 10), .int .u8 (O 11), .int .u8 (O 12), .int .u8 (O 13), .int .u8 (O 14), .int .u8 (O 15)] := by rw [partOf_row _ _ _ _ _ _ _ HCO.out]; simp
        have hqO := (Array.getElem?_eq_some_iff.1 HCO.out).1
        have HL0 := Lib.hid (fun (x : Later w2) => HCU.out x.world)
        have HL1 := Lib.hid (fun (x : Later w2) => HP1.out x.world (Env.later (HE.out.below HB1.out) x))
        have HL2 := Lib.hid (fun (x : Later w2) => HP2.out x.world (Env.later (HE.out.below HB1.out) x))
        have HL3 := Lib.hid (fun (x : Later w2) => HTX.out x.world (Env.later (HE.out.below HB1.out) x))
        have HL4 := Lib.hid (fun (x : Later w2) => HDG.out x.world)
        have HL5 := Lib.hid (fun (x : Later w2) => fun s => HRD.out s x.world (Env.later (HE.out.below HB1.out) x))
        refine wp_region_later (by kernel_rfl) (by kernel_rfl) ?_
        repeat go_big_quiet_step (fail)
        go_big_quiet_step ((go_at_call 9; exact later_call (HL0.out _)))
        repeat go_big_quiet_step (fail)
        go_big_quiet_step ((go_at_call 8; exact later_call (HL1.out _)))
        repeat go_big_quiet_step (fail)
        go_big_quiet_step ((go_at_call 8; exact later_call (HL2.out _)))
        repeat go_big_quiet_step (fail)
        go_big_quiet_step ((go_at_call 10; exact later_call (HL3.out _)))
        repeat go_big_quiet_step (fail)
        go_big_quiet_step ((go_at_call 11; exact later_call (HL4.out _)))
        repeat go_big_quiet_step (fail)
        go_big_quiet_step ((go_at_call 4; exact later_call (HL5.out _ _)))
        repeat go_big_quiet_step (fail)
        refine wpQuiet_nil ?_
        intro x
        have hb := x.below
        generalize x.world = w3 at *
        have HB3 : Hid (Below w.heap.size w w3) := Lib.hid (Below.via (HB1.out) hb)
        have HCX := Lib.hid (cell_up hb HCX.out)
        have HCF := Lib.hid (cell_up hb HCF.out)
        have HCO := Lib.hid (cell_up hb HCO.out)
        clear hb HL0 HL1 HL2 HL3 HL4 HL5 x
        clear hpX hqX hpF hqF hpO hqO
        clear hwq e130 e133 w133 e36 w36 w37 e2 hl1 hl2 hl3 hl4
        go_wp2_with fail
        go_roundw
        case rel => exact ⟨i + 1, by omega, by go_num, HB3⟩
        case measure => simp [intOf]; omega
end Go.Proofs.YtcadpcppnllhnaaGreatDoor
end

/- What the rows' condition on package variables gives the walks (Env); a world that meets it. -/
section
set_option linter.unusedSimpArgs false
set_option linter.unusedVariables false
namespace Go.Proofs.YtcadpcppnllhnaaGreatDoor
open Go.ChangeShapes Go.WideShapes Go.ChangeAt Go.RowKit

/-- The variables that each row lists. -/
def seatLaid : List (String × DataW Unit) := [("math/bits.deBruijn32tab", Rows.laid_math_bits_deBruijn32tab), ("math/bits.deBruijn64tab", Rows.laid_math_bits_deBruijn64tab), ("internal/strconv.uint64pow10", Rows.laid_internal_strconv_uint64pow10), ("unicode/utf8.acceptRanges", Rows.laid_unicode_utf8_acceptRanges), ("strconv.ErrRange", Rows.laid_strconv_ErrRange), ("strconv.ErrSyntax", Rows.laid_strconv_ErrSyntax), ("unicode/utf8.first", Rows.laid_unicode_utf8_first)]

/-- The numbers of math/bits' second table. -/
def bits64 : List Int := [0, 1, 56, 2, 57, 49, 28, 3, 61, 58, 42, 50, 38, 29, 17, 4, 62, 47, 59, 36, 45, 43, 51, 22, 53, 39, 33, 30, 24, 18, 12, 5, 63, 55, 48, 27, 60, 41, 37, 16, 46, 35, 44, 21, 52, 32, 23, 11, 54, 26, 40, 15, 34, 20, 31, 10, 25, 14, 19, 9, 13, 8, 7, 6]
theorem bits64_is : (Rows.laid_math_bits_deBruijn64tab : DataW Unit) = Lib.tabData .u8 bits64 := by kernel_rfl
theorem pow10_is : (Rows.laid_internal_strconv_uint64pow10 : DataW Unit) = Lib.tabData .u64 Lib.pow10Tab := by kernel_rfl

theorem star_is : "*" ++ "errors.errorString" = "*errors.errorString" := by decide
theorem row_err (u : TypeId) (h : Tryz.prog.typeName? 3 u = some "*errors.errorString") : u = 153 :=
  typeName_ptr_named (nm := "errors.errorString") (by rw [star_is]; kernel_rfl) (by kernel_rfl) (by decide) u (by rw [star_is]; exact h)

/-- What the condition gives. -/
theorem env_of_laid {W : World} (h : laidMetH Tryz.prog seatLaid W) (hs : W.ShapedOpen Tryz.prog) : Env W := by
  rw [MakeChecks.laidMetH_plain _ _ _ (by kernel_rfl)] at h
  have h1 := h.tail
  have h2 := h1.tail
  have h4 := h2.tail.tail
  have h5 := h4.tail
  obtain ⟨a4, s4, hv4, -⟩ := laid_sentinel h4 (g := 3) (ti := 96) (tp := 153) (te := 155) (ts := 9) (by kernel_rfl) (by kernel_rfl) Tryz.underlying96 row_err Tryz.underlying153 Tryz.underlying155 rfl rfl Tryz.underlying9 (by kernel_rfl) (by kernel_rfl)
  obtain ⟨a5, s5, hv5, -⟩ := laid_sentinel h5 (g := 2) (ti := 96) (tp := 153) (te := 155) (ts := 9) (by kernel_rfl) (by kernel_rfl) Tryz.underlying96 row_err Tryz.underlying153 Tryz.underlying155 rfl rfl Tryz.underlying9 (by kernel_rfl) (by kernel_rfl)
  rw [bits64_is] at h1
  rw [pow10_is] at h2
  have ht1 := Lib.tabIs_of_head (g := 5) (t := 152) (e := 5) (n := 64) (by kernel_rfl) (by kernel_rfl) Tryz.underlying152 Tryz.underlying5 (by kernel_rfl) (by kernel_rfl) h1
  have ht2 := Lib.tabIs_of_head (g := 1) (t := 126) (e := 74) (n := 20) (by kernel_rfl) (by kernel_rfl) Tryz.underlying126 Tryz.underlying74 (by kernel_rfl) (by kernel_rfl) h2
  refine ⟨cell_of_shapedOpen_int (zero := #[.int .i64 0]) (t := 3) hs (of_decide_eq_true (by kernel_rfl)) (by kernel_rfl) rfl (by kernel_rfl) (by kernel_rfl) Tryz.underlying3, ⟨153, .pointer (some a5), ?_⟩, ⟨153, .pointer (some a4), ?_⟩, ht2, ?_⟩
  · simpa using World.var?_cell (g := 2) (by kernel_rfl) hv5 0
  · simpa using World.var?_cell (g := 3) (by kernel_rfl) hv4 0
  · exact Lib.TabIs.cell ht1 (by kernel_rfl) 15 (by decide)

/-- 'returnsInHanded_of_change_and', the world's shape kept for the contract. -/
theorem handed_shaped {H : Type} {enc : TypeId × Value → H} {a : Assume} {C : Checked} {os : Os} {f : FuncId} {fn : Func} {s : ChangeSpec} {conds : List PathCond} {apart fresh handsOn again : Bool} {X : World → Array Value → Prop}
    (hX : ∀ (w w' : World) (args : Array Value), w.heap = w'.heap → X w args → X w' args)
    (own : ownKnob C.prog.godebug = none) (started : os.Started) (noInit : C.prog.inits.idxOf? f = none) (hfn : C.prog.funcs[f]? = some fn)
    (witness : ∃ (w : World) (tape : Tape) (i : Input), w.os = os ∧ (w.forCall tape i).Shaped C.prog ∧ i.vars = [] ∧ Input.okWide C.prog (w.forCall tape i) .any w.heap.size f i ∧
      ((s.pre enc C.prog fn conds apart (w.forCall tape i).memory i.args ∧ X (w.forCall tape i).memory i.args) ∧ sizedMet enc C.prog fn (OpenSpec.ofChange s) apart (w.forCall tape i).memory i.args) ∧ a.holds C.prog (lone (Frame.enter C.prog f i.args .normal) [] (w.forCall tape i)))
    (contract : ∀ (W : World) (base : Nat) (args : Array Value) (ds gs : List (DataW H)) (before : List MemPlace),
      (∀ (j : Nat) t v, fn.params[j]? = some t → args[j]? = some v → Value.okWide C.prog W .any base t v) →
      DataW.Whole enc C.prog fn.params.toList s.vars apart W args.toList ds gs before → X W args → W.ShapedOpen C.prog →
      Calls C.prog f args W fun e W' => ∃ v, e = .returned v ∧ s.post enc C.prog fn apart fresh handsOn again W args v W') :
    ReturnsInHanded a C os f .any (fun w args => (s.pre enc C.prog fn conds apart w args ∧ X w args) ∧ sizedMet enc C.prog fn (OpenSpec.ofChange s) apart w args) (s.post enc C.prog fn apart fresh handsOn again) := by
  refine returnsInHanded_of_calls own started noInit witness ?_
  intro w tape i _ hsh _ hok hpre hholds
  obtain ⟨_, _, _, fn', hfn', _, _, _, _, hval⟩ := hok
  have e : fn' = fn := Option.some.inj (hfn'.symm.trans hfn)
  subst e
  obtain ⟨⟨⟨ds, gs, before, hw, hc⟩, hx⟩, hz⟩ := hpre
  have hw' := DataW.Whole.of_heap (w' := w.forCall tape i) (by rfl) hw
  refine (contract (w.forCall tape i) w.heap.size i.args ds gs before hval hw' (hX _ _ _ (by rfl) hx) hsh).mono fun e W' ⟨v, he, hp⟩ => ?_
  subst he
  exact ChangeSpec.post_blind hp

theorem own : ownKnob Tryz.prog.godebug = none := by kernel_rfl
theorem laidOut : laidOutB Tryz.prog = true := by kernel_rfl
theorem laid_met (os : Os) (args : Array Value) : laidMetH Tryz.prog seatLaid ((World.laidAll Tryz.prog os seatLaid).forCall (fun _ _ => 0) ⟨#[], args, []⟩).memory := by
  rw [MakeChecks.laidMetH_plain _ _ _ (by kernel_rfl)]
  exact laidMet_laidAll _ (by kernel_rfl) (by kernel_rfl)
end Go.Proofs.YtcadpcppnllhnaaGreatDoor
end
