/- Walks over bytes: the reference's From; both Cmp. -/
import Derived.Test.YtcadpcppnllhnaaDoorAddrZa
import Derived.Lib.BytesEntry
import Derived.Laws.Externs
set_option linter.unusedSimpArgs false
set_option linter.unusedVariables false
namespace Go.Proofs.YtcadpcppnllhnaaDoor
open Go.RowKit

set_option maxRecDepth 20000 in
set_option maxHeartbeats 8000000 in
theorem rfrom_16 (A : Option Addr) (c : Nat) (l : List Int) (w : World) (hr : Reads w A 16 c l) : Calls Tryd.prog 14 #[.slice A 16 c] w (RetAt w (.tuple #[adV true (fromB l), .int .i64 0])) := by
  have HFL := Lib.hid (fun i (hi : 16 ≤ i) => fromB_hi hr.len i hi)
  obtain ⟨g, off, rfl, hgl, -⟩ := hr.here (by omega)
  have HB := Lib.hid (show Below w.heap.size w ((w.alloc (.cells #[.bool false, .int .u8 ((fun _ => (0 : Int)) 0), .int .u8 ((fun _ => (0 : Int)) 1), .int .u8 ((fun _ => (0 : Int)) 2), .int .u8 ((fun _ => (0 : Int)) 3), .int .u8 ((fun _ => (0 : Int)) 4), .int .u8 ((fun _ => (0 : Int)) 5), .int .u8 ((fun _ => (0 : Int)) 6), .int .u8 ((fun _ => (0 : Int)) 7), .int .u8 ((fun _ => (0 : Int)) 8), .int .u8 ((fun _ => (0 : Int)) 9), .int .u8 ((fun _ => (0 : Int)) 10), .int .u8 ((fun _ => (0 : Int)) 11), .int .u8 ((fun _ => (0 : Int)) 12), .int .u8 ((fun _ => (0 : Int)) 13), .int .u8 ((fun _ => (0 : Int)) 14), .int .u8 ((fun _ => (0 : Int)) 15)] 29)).alloc (.cells #[.bool true, .int .u8 ((fun _ => (0 : Int)) 0), .int .u8 ((fun _ => (0 : Int)) 1), .int .u8 ((fun _ => (0 : Int)) 2), .int .u8 ((fun _ => (0 : Int)) 3), .int .u8 ((fun _ => (0 : Int)) 4), .int .u8 ((fun _ => (0 : Int)) 5), .int .u8 ((fun _ => (0 : Int)) 6), .int .u8 ((fun _ => (0 : Int)) 7), .int .u8 ((fun _ => (0 : Int)) 8), .int .u8 ((fun _ => (0 : Int)) 9), .int .u8 ((fun _ => (0 : Int)) 10), .int .u8 ((fun _ => (0 : Int)) 11), .int .u8 ((fun _ => (0 : Int)) 12), .int .u8 ((fun _ => (0 : Int)) 13), .int .u8 ((fun _ => (0 : Int)) 14), .int .u8 ((fun _ => (0 : Int)) 15)] 29)) from Below.all (Below.all (Below.refl _ _) _) _)
  have HX : Hid (AdBox ((w.alloc (.cells #[.bool false, .int .u8 ((fun _ => (0 : Int)) 0), .int .u8 ((fun _ => (0 : Int)) 1), .int .u8 ((fun _ => (0 : Int)) 2), .int .u8 ((fun _ => (0 : Int)) 3), .int .u8 ((fun _ => (0 : Int)) 4), .int .u8 ((fun _ => (0 : Int)) 5), .int .u8 ((fun _ => (0 : Int)) 6), .int .u8 ((fun _ => (0 : Int)) 7), .int .u8 ((fun _ => (0 : Int)) 8), .int .u8 ((fun _ => (0 : Int)) 9), .int .u8 ((fun _ => (0 : Int)) 10), .int .u8 ((fun _ => (0 : Int)) 11), .int .u8 ((fun _ => (0 : Int)) 12), .int .u8 ((fun _ => (0 : Int)) 13), .int .u8 ((fun _ => (0 : Int)) 14), .int .u8 ((fun _ => (0 : Int)) 15)] 29)).alloc (.cells #[.bool true, .int .u8 ((fun _ => (0 : Int)) 0), .int .u8 ((fun _ => (0 : Int)) 1), .int .u8 ((fun _ => (0 : Int)) 2), .int .u8 ((fun _ => (0 : Int)) 3), .int .u8 ((fun _ => (0 : Int)) 4), .int .u8 ((fun _ => (0 : Int)) 5), .int .u8 ((fun _ => (0 : Int)) 6), .int .u8 ((fun _ => (0 : Int)) 7), .int .u8 ((fun _ => (0 : Int)) 8), .int .u8 ((fun _ => (0 : Int)) 9), .int .u8 ((fun _ => (0 : Int)) 10), .int .u8 ((fun _ => (0 : Int)) 11), .int .u8 ((fun _ => (0 : Int)) 12), .int .u8 ((fun _ => (0 : Int)) 13), .int .u8 ((fun _ => (0 : Int)) 14), .int .u8 ((fun _ => (0 : Int)) 15)] 29)) w.heap.size 29 false fun _ => 0) := Lib.hid ⟨heap_alloc2_old w (.cells #[.bool false, .int .u8 ((fun _ => (0 : Int)) 0), .int .u8 ((fun _ => (0 : Int)) 1), .int .u8 ((fun _ => (0 : Int)) 2), .int .u8 ((fun _ => (0 : Int)) 3), .int .u8 ((fun _ => (0 : Int)) 4), .int .u8 ((fun _ => (0 : Int)) 5), .int .u8 ((fun _ => (0 : Int)) 6), .int .u8 ((fun _ => (0 : Int)) 7), .int .u8 ((fun _ => (0 : Int)) 8), .int .u8 ((fun _ => (0 : Int)) 9), .int .u8 ((fun _ => (0 : Int)) 10), .int .u8 ((fun _ => (0 : Int)) 11), .int .u8 ((fun _ => (0 : Int)) 12), .int .u8 ((fun _ => (0 : Int)) 13), .int .u8 ((fun _ => (0 : Int)) 14), .int .u8 ((fun _ => (0 : Int)) 15)] 29) (.cells #[.bool true, .int .u8 ((fun _ => (0 : Int)) 0), .int .u8 ((fun _ => (0 : Int)) 1), .int .u8 ((fun _ => (0 : Int)) 2), .int .u8 ((fun _ => (0 : Int)) 3), .int .u8 ((fun _ => (0 : Int)) 4), .int .u8 ((fun _ => (0 : Int)) 5), .int .u8 ((fun _ => (0 : Int)) 6), .int .u8 ((fun _ => (0 : Int)) 7), .int .u8 ((fun _ => (0 : Int)) 8), .int .u8 ((fun _ => (0 : Int)) 9), .int .u8 ((fun _ => (0 : Int)) 10), .int .u8 ((fun _ => (0 : Int)) 11), .int .u8 ((fun _ => (0 : Int)) 12), .int .u8 ((fun _ => (0 : Int)) 13), .int .u8 ((fun _ => (0 : Int)) 14), .int .u8 ((fun _ => (0 : Int)) 15)] 29)⟩
  have HY : Hid (AdBox ((w.alloc (.cells #[.bool false, .int .u8 ((fun _ => (0 : Int)) 0), .int .u8 ((fun _ => (0 : Int)) 1), .int .u8 ((fun _ => (0 : Int)) 2), .int .u8 ((fun _ => (0 : Int)) 3), .int .u8 ((fun _ => (0 : Int)) 4), .int .u8 ((fun _ => (0 : Int)) 5), .int .u8 ((fun _ => (0 : Int)) 6), .int .u8 ((fun _ => (0 : Int)) 7), .int .u8 ((fun _ => (0 : Int)) 8), .int .u8 ((fun _ => (0 : Int)) 9), .int .u8 ((fun _ => (0 : Int)) 10), .int .u8 ((fun _ => (0 : Int)) 11), .int .u8 ((fun _ => (0 : Int)) 12), .int .u8 ((fun _ => (0 : Int)) 13), .int .u8 ((fun _ => (0 : Int)) 14), .int .u8 ((fun _ => (0 : Int)) 15)] 29)).alloc (.cells #[.bool true, .int .u8 ((fun _ => (0 : Int)) 0), .int .u8 ((fun _ => (0 : Int)) 1), .int .u8 ((fun _ => (0 : Int)) 2), .int .u8 ((fun _ => (0 : Int)) 3), .int .u8 ((fun _ => (0 : Int)) 4), .int .u8 ((fun _ => (0 : Int)) 5), .int .u8 ((fun _ => (0 : Int)) 6), .int .u8 ((fun _ => (0 : Int)) 7), .int .u8 ((fun _ => (0 : Int)) 8), .int .u8 ((fun _ => (0 : Int)) 9), .int .u8 ((fun _ => (0 : Int)) 10), .int .u8 ((fun _ => (0 : Int)) 11), .int .u8 ((fun _ => (0 : Int)) 12), .int .u8 ((fun _ => (0 : Int)) 13), .int .u8 ((fun _ => (0 : Int)) 14), .int .u8 ((fun _ => (0 : Int)) 15)] 29)) (w.heap.size + 1) 29 true fun _ => 0) := Lib.hid ⟨heap_alloc2_new w (.cells #[.bool false, .int .u8 ((fun _ => (0 : Int)) 0), .int .u8 ((fun _ => (0 : Int)) 1), .int .u8 ((fun _ => (0 : Int)) 2), .int .u8 ((fun _ => (0 : Int)) 3), .int .u8 ((fun _ => (0 : Int)) 4), .int .u8 ((fun _ => (0 : Int)) 5), .int .u8 ((fun _ => (0 : Int)) 6), .int .u8 ((fun _ => (0 : Int)) 7), .int .u8 ((fun _ => (0 : Int)) 8), .int .u8 ((fun _ => (0 : Int)) 9), .int .u8 ((fun _ => (0 : Int)) 10), .int .u8 ((fun _ => (0 : Int)) 11), .int .u8 ((fun _ => (0 : Int)) 12), .int .u8 ((fun _ => (0 : Int)) 13), .int .u8 ((fun _ => (0 : Int)) 14), .int .u8 ((fun _ => (0 : Int)) 15)] 29) (.cells #[.bool true, .int .u8 ((fun _ => (0 : Int)) 0), .int .u8 ((fun _ => (0 : Int)) 1), .int .u8 ((fun _ => (0 : Int)) 2), .int .u8 ((fun _ => (0 : Int)) 3), .int .u8 ((fun _ => (0 : Int)) 4), .int .u8 ((fun _ => (0 : Int)) 5), .int .u8 ((fun _ => (0 : Int)) 6), .int .u8 ((fun _ => (0 : Int)) 7), .int .u8 ((fun _ => (0 : Int)) 8), .int .u8 ((fun _ => (0 : Int)) 9), .int .u8 ((fun _ => (0 : Int)) 10), .int .u8 ((fun _ => (0 : Int)) 11), .int .u8 ((fun _ => (0 : Int)) 12), .int .u8 ((fun _ => (0 : Int)) 13), .int .u8 ((fun _ => (0 : Int)) 14), .int .u8 ((fun _ => (0 : Int)) 15)] 29)⟩
  have HR2 := Lib.hid ((hr.alloc (.cells #[.bool false, .int .u8 ((fun _ => (0 : Int)) 0), .int .u8 ((fun _ => (0 : Int)) 1), .int .u8 ((fun _ => (0 : Int)) 2), .int .u8 ((fun _ => (0 : Int)) 3), .int .u8 ((fun _ => (0 : Int)) 4), .int .u8 ((fun _ => (0 : Int)) 5), .int .u8 ((fun _ => (0 : Int)) 6), .int .u8 ((fun _ => (0 : Int)) 7), .int .u8 ((fun _ => (0 : Int)) 8), .int .u8 ((fun _ => (0 : Int)) 9), .int .u8 ((fun _ => (0 : Int)) 10), .int .u8 ((fun _ => (0 : Int)) 11), .int .u8 ((fun _ => (0 : Int)) 12), .int .u8 ((fun _ => (0 : Int)) 13), .int .u8 ((fun _ => (0 : Int)) 14), .int .u8 ((fun _ => (0 : Int)) 15)] 29)).alloc (.cells #[.bool true, .int .u8 ((fun _ => (0 : Int)) 0), .int .u8 ((fun _ => (0 : Int)) 1), .int .u8 ((fun _ => (0 : Int)) 2), .int .u8 ((fun _ => (0 : Int)) 3), .int .u8 ((fun _ => (0 : Int)) 4), .int .u8 ((fun _ => (0 : Int)) 5), .int .u8 ((fun _ => (0 : Int)) 6), .int .u8 ((fun _ => (0 : Int)) 7), .int .u8 ((fun _ => (0 : Int)) 8), .int .u8 ((fun _ => (0 : Int)) 9), .int .u8 ((fun _ => (0 : Int)) 10), .int .u8 ((fun _ => (0 : Int)) 11), .int .u8 ((fun _ => (0 : Int)) 12), .int .u8 ((fun _ => (0 : Int)) 13), .int .u8 ((fun _ => (0 : Int)) 14), .int .u8 ((fun _ => (0 : Int)) 15)] 29))
  clear hr
  go_enter Tryd.func14, Tryd.ntmps14
  go_wp2_with fail
  generalize (w.alloc (.cells #[.bool false, .int .u8 ((fun _ => (0 : Int)) 0), .int .u8 ((fun _ => (0 : Int)) 1), .int .u8 ((fun _ => (0 : Int)) 2), .int .u8 ((fun _ => (0 : Int)) 3), .int .u8 ((fun _ => (0 : Int)) 4), .int .u8 ((fun _ => (0 : Int)) 5), .int .u8 ((fun _ => (0 : Int)) 6), .int .u8 ((fun _ => (0 : Int)) 7), .int .u8 ((fun _ => (0 : Int)) 8), .int .u8 ((fun _ => (0 : Int)) 9), .int .u8 ((fun _ => (0 : Int)) 10), .int .u8 ((fun _ => (0 : Int)) 11), .int .u8 ((fun _ => (0 : Int)) 12), .int .u8 ((fun _ => (0 : Int)) 13), .int .u8 ((fun _ => (0 : Int)) 14), .int .u8 ((fun _ => (0 : Int)) 15)] 29)).alloc (.cells #[.bool true, .int .u8 ((fun _ => (0 : Int)) 0), .int .u8 ((fun _ => (0 : Int)) 1), .int .u8 ((fun _ => (0 : Int)) 2), .int .u8 ((fun _ => (0 : Int)) 3), .int .u8 ((fun _ => (0 : Int)) 4), .int .u8 ((fun _ => (0 : Int)) 5), .int .u8 ((fun _ => (0 : Int)) 6), .int .u8 ((fun _ => (0 : Int)) 7), .int .u8 ((fun _ => (0 : Int)) 8), .int .u8 ((fun _ => (0 : Int)) 9), .int .u8 ((fun _ => (0 : Int)) 10), .int .u8 ((fun _ => (0 : Int)) 11), .int .u8 ((fun _ => (0 : Int)) 12), .int .u8 ((fun _ => (0 : Int)) 13), .int .u8 ((fun _ => (0 : Int)) 14), .int .u8 ((fun _ => (0 : Int)) 15)] 29) = w1 at *
  go_loopw [5] (fun u5 wr => ∃ k : Nat, k ≤ 16 ∧ u5 = .int .i64 k ∧ Hid (AdBox wr w.heap.size 29 false fun _ => 0) ∧ Hid (AdBox wr (w.heap.size + 1) 29 true (fun j => if j < k then fromB l j else 0)) ∧ Hid (Reads wr (some ⟨g, off, none⟩) 16 c l) ∧ Hid (Below w.heap.size w wr)) (fun u5 _ => (16 : Int) - intOf u5 |>.toNat)
  case atStart => exact ⟨0, by omega, rfl, HX, Lib.hid (HY.out.congr fun i _ => by simp), HR2, HB⟩
  case round =>
    obtain ⟨k, hk, rfl, HX, HY, HR, HW⟩ := hrel
    by_cases hlt : k < 16
    · obtain ⟨g', off', hA, hg, hc⟩ := HR.out.here (by omega)
      obtain ⟨rfl, rfl⟩ : g = g' ∧ off = off' := by simpa using hA
      have hcl := hc k hlt
      have hle := HR.out.le
      have hcx := HY.out.cell k (by omega)
      have hfx := HY.out.free (1 + k)
      have HV : Hid (l.getD k 0 = fromB l k) := Lib.hid rfl
      clear hc hA
      generalize l.getD k 0 = x at *
      go_wp2_with fail
      go_roundw
      case rel =>
        refine ⟨k + 1, by omega, by go_num, Lib.hid (HX.out.other _ _ (by simp only; omega)), Lib.hid ((HY.out.set k (by omega) x).congr fun i hi => ?_), Lib.hid (HR.out.other (fun a ha => by cases ha; simp only; omega) _), Lib.hid (HW.out.setCell (by simp only; omega) _)⟩
        by_cases e : i = k
        · subst e; simp [HV.out]
        · simp only [if_neg e]
          by_cases h : i < k
          · rw [if_pos h, if_pos (by omega)]
          · rw [if_neg h, if_neg (by omega)]
      case measure => simp [intOf]; omega
    · obtain rfl : k = 16 := by omega
      have HZ := HY.out.congr (C := fromB l) fun i hi => by
        by_cases h : i < 16
        · rw [if_pos h]
        · rw [if_neg h, HFL.out i (by omega)]
      have hpp := HZ.part
      have hrr := HX.out.row
      have HH := Lib.hid HX.out.heap
      clear HZ
      go_wp2_with fail
      exact bodyPost_ret (v := .tuple #[adV true (fromB l), .int .i64 0]) (results_ad2 _ _ Tryd.underlying29 info_rad5 rfl _ _ w.heap.size (.int .i64 0) rfl rfl (partOf_set2 HH.out)) rfl (.mk rfl (below_setRow HW.out (Nat.le_refl _) _))

set_option maxRecDepth 20000 in
set_option maxHeartbeats 8000000 in
theorem rfrom_4 (A : Option Addr) (c : Nat) (l : List Int) (w : World) (hr : Reads w A 4 c l) : Calls Tryd.prog 14 #[.slice A 4 c] w (RetAt w (.tuple #[adV false (fromB l), .int .i64 0])) := by
  have HFL := Lib.hid (fun i (hi : 4 ≤ i) => fromB_hi hr.len i hi)
  obtain ⟨g, off, rfl, hgl, -⟩ := hr.here (by omega)
  have HB := Lib.hid (show Below w.heap.size w ((w.alloc (.cells #[.bool false, .int .u8 ((fun _ => (0 : Int)) 0), .int .u8 ((fun _ => (0 : Int)) 1), .int .u8 ((fun _ => (0 : Int)) 2), .int .u8 ((fun _ => (0 : Int)) 3), .int .u8 ((fun _ => (0 : Int)) 4), .int .u8 ((fun _ => (0 : Int)) 5), .int .u8 ((fun _ => (0 : Int)) 6), .int .u8 ((fun _ => (0 : Int)) 7), .int .u8 ((fun _ => (0 : Int)) 8), .int .u8 ((fun _ => (0 : Int)) 9), .int .u8 ((fun _ => (0 : Int)) 10), .int .u8 ((fun _ => (0 : Int)) 11), .int .u8 ((fun _ => (0 : Int)) 12), .int .u8 ((fun _ => (0 : Int)) 13), .int .u8 ((fun _ => (0 : Int)) 14), .int .u8 ((fun _ => (0 : Int)) 15)] 29)).alloc (.cells #[.bool false, .int .u8 ((fun _ => (0 : Int)) 0), .int .u8 ((fun _ => (0 : Int)) 1), .int .u8 ((fun _ => (0 : Int)) 2), .int .u8 ((fun _ => (0 : Int)) 3), .int .u8 ((fun _ => (0 : Int)) 4), .int .u8 ((fun _ => (0 : Int)) 5), .int .u8 ((fun _ => (0 : Int)) 6), .int .u8 ((fun _ => (0 : Int)) 7), .int .u8 ((fun _ => (0 : Int)) 8), .int .u8 ((fun _ => (0 : Int)) 9), .int .u8 ((fun _ => (0 : Int)) 10), .int .u8 ((fun _ => (0 : Int)) 11), .int .u8 ((fun _ => (0 : Int)) 12), .int .u8 ((fun _ => (0 : Int)) 13), .int .u8 ((fun _ => (0 : Int)) 14), .int .u8 ((fun _ => (0 : Int)) 15)] 29)) from Below.all (Below.all (Below.refl _ _) _) _)
  have HX : Hid (AdBox ((w.alloc (.cells #[.bool false, .int .u8 ((fun _ => (0 : Int)) 0), .int .u8 ((fun _ => (0 : Int)) 1), .int .u8 ((fun _ => (0 : Int)) 2), .int .u8 ((fun _ => (0 : Int)) 3), .int .u8 ((fun _ => (0 : Int)) 4), .int .u8 ((fun _ => (0 : Int)) 5), .int .u8 ((fun _ => (0 : Int)) 6), .int .u8 ((fun _ => (0 : Int)) 7), .int .u8 ((fun _ => (0 : Int)) 8), .int .u8 ((fun _ => (0 : Int)) 9), .int .u8 ((fun _ => (0 : Int)) 10), .int .u8 ((fun _ => (0 : Int)) 11), .int .u8 ((fun _ => (0 : Int)) 12), .int .u8 ((fun _ => (0 : Int)) 13), .int .u8 ((fun _ => (0 : Int)) 14), .int .u8 ((fun _ => (0 : Int)) 15)] 29)).alloc (.cells #[.bool false, .int .u8 ((fun _ => (0 : Int)) 0), .int .u8 ((fun _ => (0 : Int)) 1), .int .u8 ((fun _ => (0 : Int)) 2), .int .u8 ((fun _ => (0 : Int)) 3), .int .u8 ((fun _ => (0 : Int)) 4), .int .u8 ((fun _ => (0 : Int)) 5), .int .u8 ((fun _ => (0 : Int)) 6), .int .u8 ((fun _ => (0 : Int)) 7), .int .u8 ((fun _ => (0 : Int)) 8), .int .u8 ((fun _ => (0 : Int)) 9), .int .u8 ((fun _ => (0 : Int)) 10), .int .u8 ((fun _ => (0 : Int)) 11), .int .u8 ((fun _ => (0 : Int)) 12), .int .u8 ((fun _ => (0 : Int)) 13), .int .u8 ((fun _ => (0 : Int)) 14), .int .u8 ((fun _ => (0 : Int)) 15)] 29)) w.heap.size 29 false fun _ => 0) := Lib.hid ⟨heap_alloc2_old w (.cells #[.bool false, .int .u8 ((fun _ => (0 : Int)) 0), .int .u8 ((fun _ => (0 : Int)) 1), .int .u8 ((fun _ => (0 : Int)) 2), .int .u8 ((fun _ => (0 : Int)) 3), .int .u8 ((fun _ => (0 : Int)) 4), .int .u8 ((fun _ => (0 : Int)) 5), .int .u8 ((fun _ => (0 : Int)) 6), .int .u8 ((fun _ => (0 : Int)) 7), .int .u8 ((fun _ => (0 : Int)) 8), .int .u8 ((fun _ => (0 : Int)) 9), .int .u8 ((fun _ => (0 : Int)) 10), .int .u8 ((fun _ => (0 : Int)) 11), .int .u8 ((fun _ => (0 : Int)) 12), .int .u8 ((fun _ => (0 : Int)) 13), .int .u8 ((fun _ => (0 : Int)) 14), .int .u8 ((fun _ => (0 : Int)) 15)] 29) (.cells #[.bool false, .int .u8 ((fun _ => (0 : Int)) 0), .int .u8 ((fun _ => (0 : Int)) 1), .int .u8 ((fun _ => (0 : Int)) 2), .int .u8 ((fun _ => (0 : Int)) 3), .int .u8 ((fun _ => (0 : Int)) 4), .int .u8 ((fun _ => (0 : Int)) 5), .int .u8 ((fun _ => (0 : Int)) 6), .int .u8 ((fun _ => (0 : Int)) 7), .int .u8 ((fun _ => (0 : Int)) 8), .int .u8 ((fun _ => (0 : Int)) 9), .int .u8 ((fun _ => (0 : Int)) 10), .int .u8 ((fun _ => (0 : Int)) 11), .int .u8 ((fun _ => (0 : Int)) 12), .int .u8 ((fun _ => (0 : Int)) 13), .int .u8 ((fun _ => (0 : Int)) 14), .int .u8 ((fun _ => (0 : Int)) 15)] 29)⟩
  have HY : Hid (AdBox ((w.alloc (.cells #[.bool false, .int .u8 ((fun _ => (0 : Int)) 0), .int .u8 ((fun _ => (0 : Int)) 1), .int .u8 ((fun _ => (0 : Int)) 2), .int .u8 ((fun _ => (0 : Int)) 3), .int .u8 ((fun _ => (0 : Int)) 4), .int .u8 ((fun _ => (0 : Int)) 5), .int .u8 ((fun _ => (0 : Int)) 6), .int .u8 ((fun _ => (0 : Int)) 7), .int .u8 ((fun _ => (0 : Int)) 8), .int .u8 ((fun _ => (0 : Int)) 9), .int .u8 ((fun _ => (0 : Int)) 10), .int .u8 ((fun _ => (0 : Int)) 11), .int .u8 ((fun _ => (0 : Int)) 12), .int .u8 ((fun _ => (0 : Int)) 13), .int .u8 ((fun _ => (0 : Int)) 14), .int .u8 ((fun _ => (0 : Int)) 15)] 29)).alloc (.cells #[.bool false, .int .u8 ((fun _ => (0 : Int)) 0), .int .u8 ((fun _ => (0 : Int)) 1), .int .u8 ((fun _ => (0 : Int)) 2), .int .u8 ((fun _ => (0 : Int)) 3), .int .u8 ((fun _ => (0 : Int)) 4), .int .u8 ((fun _ => (0 : Int)) 5), .int .u8 ((fun _ => (0 : Int)) 6), .int .u8 ((fun _ => (0 : Int)) 7), .int .u8 ((fun _ => (0 : Int)) 8), .int .u8 ((fun _ => (0 : Int)) 9), .int .u8 ((fun _ => (0 : Int)) 10), .int .u8 ((fun _ => (0 : Int)) 11), .int .u8 ((fun _ => (0 : Int)) 12), .int .u8 ((fun _ => (0 : Int)) 13), .int .u8 ((fun _ => (0 : Int)) 14), .int .u8 ((fun _ => (0 : Int)) 15)] 29)) (w.heap.size + 1) 29 false fun _ => 0) := Lib.hid ⟨heap_alloc2_new w (.cells #[.bool false, .int .u8 ((fun _ => (0 : Int)) 0), .int .u8 ((fun _ => (0 : Int)) 1), .int .u8 ((fun _ => (0 : Int)) 2), .int .u8 ((fun _ => (0 : Int)) 3), .int .u8 ((fun _ => (0 : Int)) 4), .int .u8 ((fun _ => (0 : Int)) 5), .int .u8 ((fun _ => (0 : Int)) 6), .int .u8 ((fun _ => (0 : Int)) 7), .int .u8 ((fun _ => (0 : Int)) 8), .int .u8 ((fun _ => (0 : Int)) 9), .int .u8 ((fun _ => (0 : Int)) 10), .int .u8 ((fun _ => (0 : Int)) 11), .int .u8 ((fun _ => (0 : Int)) 12), .int .u8 ((fun _ => (0 : Int)) 13), .int .u8 ((fun _ => (0 : Int)) 14), .int .u8 ((fun _ => (0 : Int)) 15)] 29) (.cells #[.bool false, .int .u8 ((fun _ => (0 : Int)) 0), .int .u8 ((fun _ => (0 : Int)) 1), .int .u8 ((fun _ => (0 : Int)) 2), .int .u8 ((fun _ => (0 : Int)) 3), .int .u8 ((fun _ => (0 : Int)) 4), .int .u8 ((fun _ => (0 : Int)) 5), .int .u8 ((fun _ => (0 : Int)) 6), .int .u8 ((fun _ => (0 : Int)) 7), .int .u8 ((fun _ => (0 : Int)) 8), .int .u8 ((fun _ => (0 : Int)) 9), .int .u8 ((fun _ => (0 : Int)) 10), .int .u8 ((fun _ => (0 : Int)) 11), .int .u8 ((fun _ => (0 : Int)) 12), .int .u8 ((fun _ => (0 : Int)) 13), .int .u8 ((fun _ => (0 : Int)) 14), .int .u8 ((fun _ => (0 : Int)) 15)] 29)⟩
  have HR2 := Lib.hid ((hr.alloc (.cells #[.bool false, .int .u8 ((fun _ => (0 : Int)) 0), .int .u8 ((fun _ => (0 : Int)) 1), .int .u8 ((fun _ => (0 : Int)) 2), .int .u8 ((fun _ => (0 : Int)) 3), .int .u8 ((fun _ => (0 : Int)) 4), .int .u8 ((fun _ => (0 : Int)) 5), .int .u8 ((fun _ => (0 : Int)) 6), .int .u8 ((fun _ => (0 : Int)) 7), .int .u8 ((fun _ => (0 : Int)) 8), .int .u8 ((fun _ => (0 : Int)) 9), .int .u8 ((fun _ => (0 : Int)) 10), .int .u8 ((fun _ => (0 : Int)) 11), .int .u8 ((fun _ => (0 : Int)) 12), .int .u8 ((fun _ => (0 : Int)) 13), .int .u8 ((fun _ => (0 : Int)) 14), .int .u8 ((fun _ => (0 : Int)) 15)] 29)).alloc (.cells #[.bool false, .int .u8 ((fun _ => (0 : Int)) 0), .int .u8 ((fun _ => (0 : Int)) 1), .int .u8 ((fun _ => (0 : Int)) 2), .int .u8 ((fun _ => (0 : Int)) 3), .int .u8 ((fun _ => (0 : Int)) 4), .int .u8 ((fun _ => (0 : Int)) 5), .int .u8 ((fun _ => (0 : Int)) 6), .int .u8 ((fun _ => (0 : Int)) 7), .int .u8 ((fun _ => (0 : Int)) 8), .int .u8 ((fun _ => (0 : Int)) 9), .int .u8 ((fun _ => (0 : Int)) 10), .int .u8 ((fun _ => (0 : Int)) 11), .int .u8 ((fun _ => (0 : Int)) 12), .int .u8 ((fun _ => (0 : Int)) 13), .int .u8 ((fun _ => (0 : Int)) 14), .int .u8 ((fun _ => (0 : Int)) 15)] 29))
  clear hr
  go_enter Tryd.func14, Tryd.ntmps14
  go_wp2_with fail
  generalize (w.alloc (.cells #[.bool false, .int .u8 ((fun _ => (0 : Int)) 0), .int .u8 ((fun _ => (0 : Int)) 1), .int .u8 ((fun _ => (0 : Int)) 2), .int .u8 ((fun _ => (0 : Int)) 3), .int .u8 ((fun _ => (0 : Int)) 4), .int .u8 ((fun _ => (0 : Int)) 5), .int .u8 ((fun _ => (0 : Int)) 6), .int .u8 ((fun _ => (0 : Int)) 7), .int .u8 ((fun _ => (0 : Int)) 8), .int .u8 ((fun _ => (0 : Int)) 9), .int .u8 ((fun _ => (0 : Int)) 10), .int .u8 ((fun _ => (0 : Int)) 11), .int .u8 ((fun _ => (0 : Int)) 12), .int .u8 ((fun _ => (0 : Int)) 13), .int .u8 ((fun _ => (0 : Int)) 14), .int .u8 ((fun _ => (0 : Int)) 15)] 29)).alloc (.cells #[.bool false, .int .u8 ((fun _ => (0 : Int)) 0), .int .u8 ((fun _ => (0 : Int)) 1), .int .u8 ((fun _ => (0 : Int)) 2), .int .u8 ((fun _ => (0 : Int)) 3), .int .u8 ((fun _ => (0 : Int)) 4), .int .u8 ((fun _ => (0 : Int)) 5), .int .u8 ((fun _ => (0 : Int)) 6), .int .u8 ((fun _ => (0 : Int)) 7), .int .u8 ((fun _ => (0 : Int)) 8), .int .u8 ((fun _ => (0 : Int)) 9), .int .u8 ((fun _ => (0 : Int)) 10), .int .u8 ((fun _ => (0 : Int)) 11), .int .u8 ((fun _ => (0 : Int)) 12), .int .u8 ((fun _ => (0 : Int)) 13), .int .u8 ((fun _ => (0 : Int)) 14), .int .u8 ((fun _ => (0 : Int)) 15)] 29) = w1 at *
  go_loopw [5] (fun u5 wr => ∃ k : Nat, k ≤ 4 ∧ u5 = .int .i64 k ∧ Hid (AdBox wr w.heap.size 29 false fun _ => 0) ∧ Hid (AdBox wr (w.heap.size + 1) 29 false (fun j => if j < k then fromB l j else 0)) ∧ Hid (Reads wr (some ⟨g, off, none⟩) 4 c l) ∧ Hid (Below w.heap.size w wr)) (fun u5 _ => (4 : Int) - intOf u5 |>.toNat)
  case atStart => exact ⟨0, by omega, rfl, HX, Lib.hid (HY.out.congr fun i _ => by simp), HR2, HB⟩
  case round =>
    obtain ⟨k, hk, rfl, HX, HY, HR, HW⟩ := hrel
    by_cases hlt : k < 4
    · obtain ⟨g', off', hA, hg, hc⟩ := HR.out.here (by omega)
      obtain ⟨rfl, rfl⟩ : g = g' ∧ off = off' := by simpa using hA
      have hcl := hc k hlt
      have hle := HR.out.le
      have hcx := HY.out.cell k (by omega)
      have hfx := HY.out.free (1 + k)
      have HV : Hid (l.getD k 0 = fromB l k) := Lib.hid rfl
      clear hc hA
      generalize l.getD k 0 = x at *
      go_wp2_with fail
      go_roundw
      case rel =>
        refine ⟨k + 1, by omega, by go_num, Lib.hid (HX.out.other _ _ (by simp only; omega)), Lib.hid ((HY.out.set k (by omega) x).congr fun i hi => ?_), Lib.hid (HR.out.other (fun a ha => by cases ha; simp only; omega) _), Lib.hid (HW.out.setCell (by simp only; omega) _)⟩
        by_cases e : i = k
        · subst e; simp [HV.out]
        · simp only [if_neg e]
          by_cases h : i < k
          · rw [if_pos h, if_pos (by omega)]
          · rw [if_neg h, if_neg (by omega)]
      case measure => simp [intOf]; omega
    · obtain rfl : k = 4 := by omega
      have HZ := HY.out.congr (C := fromB l) fun i hi => by
        by_cases h : i < 4
        · rw [if_pos h]
        · rw [if_neg h, HFL.out i (by omega)]
      have hpp := HZ.part
      have hrr := HX.out.row
      have HH := Lib.hid HX.out.heap
      clear HZ
      go_wp2_with fail
      exact bodyPost_ret (v := .tuple #[adV false (fromB l), .int .i64 0]) (results_ad2 _ _ Tryd.underlying29 info_rad5 rfl _ _ w.heap.size (.int .i64 0) rfl rfl (partOf_set2 HH.out)) rfl (.mk rfl (below_setRow HW.out (Nat.le_refl _) _))

set_option maxRecDepth 20000 in
set_option maxHeartbeats 8000000 in
theorem rfrom_no (A : Option Addr) (n c : Nat) (l : List Int) (w : World) (hr : Reads w A n c l) (hm : n ≤ 1000000) (h16 : n ≠ 16) (h4 : n ≠ 4) : Calls Tryd.prog 14 #[.slice A n c] w (RetAt w (fromV l)) := by
  rw [fromV_no (by rw [hr.len]; exact h16) (by rw [hr.len]; exact h4)]
  have HB := Lib.hid (show Below w.heap.size w ((w.alloc (.cells #[.bool false, .int .u8 ((fun _ => (0 : Int)) 0), .int .u8 ((fun _ => (0 : Int)) 1), .int .u8 ((fun _ => (0 : Int)) 2), .int .u8 ((fun _ => (0 : Int)) 3), .int .u8 ((fun _ => (0 : Int)) 4), .int .u8 ((fun _ => (0 : Int)) 5), .int .u8 ((fun _ => (0 : Int)) 6), .int .u8 ((fun _ => (0 : Int)) 7), .int .u8 ((fun _ => (0 : Int)) 8), .int .u8 ((fun _ => (0 : Int)) 9), .int .u8 ((fun _ => (0 : Int)) 10), .int .u8 ((fun _ => (0 : Int)) 11), .int .u8 ((fun _ => (0 : Int)) 12), .int .u8 ((fun _ => (0 : Int)) 13), .int .u8 ((fun _ => (0 : Int)) 14), .int .u8 ((fun _ => (0 : Int)) 15)] 29)).alloc (.cells #[.bool false, .int .u8 ((fun _ => (0 : Int)) 0), .int .u8 ((fun _ => (0 : Int)) 1), .int .u8 ((fun _ => (0 : Int)) 2), .int .u8 ((fun _ => (0 : Int)) 3), .int .u8 ((fun _ => (0 : Int)) 4), .int .u8 ((fun _ => (0 : Int)) 5), .int .u8 ((fun _ => (0 : Int)) 6), .int .u8 ((fun _ => (0 : Int)) 7), .int .u8 ((fun _ => (0 : Int)) 8), .int .u8 ((fun _ => (0 : Int)) 9), .int .u8 ((fun _ => (0 : Int)) 10), .int .u8 ((fun _ => (0 : Int)) 11), .int .u8 ((fun _ => (0 : Int)) 12), .int .u8 ((fun _ => (0 : Int)) 13), .int .u8 ((fun _ => (0 : Int)) 14), .int .u8 ((fun _ => (0 : Int)) 15)] 29)) from Below.all (Below.all (Below.refl _ _) _) _)
  have HX : AdBox ((w.alloc (.cells #[.bool false, .int .u8 ((fun _ => (0 : Int)) 0), .int .u8 ((fun _ => (0 : Int)) 1), .int .u8 ((fun _ => (0 : Int)) 2), .int .u8 ((fun _ => (0 : Int)) 3), .int .u8 ((fun _ => (0 : Int)) 4), .int .u8 ((fun _ => (0 : Int)) 5), .int .u8 ((fun _ => (0 : Int)) 6), .int .u8 ((fun _ => (0 : Int)) 7), .int .u8 ((fun _ => (0 : Int)) 8), .int .u8 ((fun _ => (0 : Int)) 9), .int .u8 ((fun _ => (0 : Int)) 10), .int .u8 ((fun _ => (0 : Int)) 11), .int .u8 ((fun _ => (0 : Int)) 12), .int .u8 ((fun _ => (0 : Int)) 13), .int .u8 ((fun _ => (0 : Int)) 14), .int .u8 ((fun _ => (0 : Int)) 15)] 29)).alloc (.cells #[.bool false, .int .u8 ((fun _ => (0 : Int)) 0), .int .u8 ((fun _ => (0 : Int)) 1), .int .u8 ((fun _ => (0 : Int)) 2), .int .u8 ((fun _ => (0 : Int)) 3), .int .u8 ((fun _ => (0 : Int)) 4), .int .u8 ((fun _ => (0 : Int)) 5), .int .u8 ((fun _ => (0 : Int)) 6), .int .u8 ((fun _ => (0 : Int)) 7), .int .u8 ((fun _ => (0 : Int)) 8), .int .u8 ((fun _ => (0 : Int)) 9), .int .u8 ((fun _ => (0 : Int)) 10), .int .u8 ((fun _ => (0 : Int)) 11), .int .u8 ((fun _ => (0 : Int)) 12), .int .u8 ((fun _ => (0 : Int)) 13), .int .u8 ((fun _ => (0 : Int)) 14), .int .u8 ((fun _ => (0 : Int)) 15)] 29)) w.heap.size 29 false fun _ => 0 := ⟨heap_alloc2_old w (.cells #[.bool false, .int .u8 ((fun _ => (0 : Int)) 0), .int .u8 ((fun _ => (0 : Int)) 1), .int .u8 ((fun _ => (0 : Int)) 2), .int .u8 ((fun _ => (0 : Int)) 3), .int .u8 ((fun _ => (0 : Int)) 4), .int .u8 ((fun _ => (0 : Int)) 5), .int .u8 ((fun _ => (0 : Int)) 6), .int .u8 ((fun _ => (0 : Int)) 7), .int .u8 ((fun _ => (0 : Int)) 8), .int .u8 ((fun _ => (0 : Int)) 9), .int .u8 ((fun _ => (0 : Int)) 10), .int .u8 ((fun _ => (0 : Int)) 11), .int .u8 ((fun _ => (0 : Int)) 12), .int .u8 ((fun _ => (0 : Int)) 13), .int .u8 ((fun _ => (0 : Int)) 14), .int .u8 ((fun _ => (0 : Int)) 15)] 29) (.cells #[.bool false, .int .u8 ((fun _ => (0 : Int)) 0), .int .u8 ((fun _ => (0 : Int)) 1), .int .u8 ((fun _ => (0 : Int)) 2), .int .u8 ((fun _ => (0 : Int)) 3), .int .u8 ((fun _ => (0 : Int)) 4), .int .u8 ((fun _ => (0 : Int)) 5), .int .u8 ((fun _ => (0 : Int)) 6), .int .u8 ((fun _ => (0 : Int)) 7), .int .u8 ((fun _ => (0 : Int)) 8), .int .u8 ((fun _ => (0 : Int)) 9), .int .u8 ((fun _ => (0 : Int)) 10), .int .u8 ((fun _ => (0 : Int)) 11), .int .u8 ((fun _ => (0 : Int)) 12), .int .u8 ((fun _ => (0 : Int)) 13), .int .u8 ((fun _ => (0 : Int)) 14), .int .u8 ((fun _ => (0 : Int)) 15)] 29)⟩
  have HX := Lib.hid HX
  have hn1 : ((n : Int) == 16) = false := by simp; omega
  have hn2 : ¬ ((n : Int) = 4) := by omega
  have hn3 : ¬ ((n : Int) = 16) := by omega
  have hn5 : ((n : Int) != 16) = true := by simp; omega
  have hn6 : ((n : Int) != 4) = true := by simp; omega
  clear hr
  go_enter Tryd.func14, Tryd.ntmps14
  go_wp2_with fail
  exact bodyPost_ret (v := .tuple #[adV false fun _ => 0, .int .i64 2]) (results_ad2 _ _ Tryd.underlying29 info_rad5 rfl _ _ w.heap.size (.int .i64 2) rfl rfl HX.out.part) rfl (.mk rfl HB.out)

/-- Numbers, ordered. -/
def cmpI : List Int → List Int → Int
  | x :: xs, y :: ys => if x < y then -1 else if y < x then 1 else cmpI xs ys
  | _, _ => 0
def adCmp (s : Bool) (B : Nat → Int) (t : Bool) (A : Nat → Int) : Int := if s = t then cmpI (b16 B) (b16 A) else if s = true then 1 else -1
theorem cmpI_bytes : ∀ (xs ys : List Int), xs.length = ys.length → (∀ x ∈ xs, 0 ≤ x ∧ x < 256) → (∀ y ∈ ys, 0 ≤ y ∧ y < 256) → Lib.compareBytes (Lib.bytesOf xs) (Lib.bytesOf ys) = cmpI xs ys
  | [], [], _, _, _ => rfl
  | [], _ :: _, h, _, _ => by simp at h
  | _ :: _, [], h, _, _ => by simp at h
  | x :: xs, y :: ys, h, hx, hy => by
    have ih := cmpI_bytes xs ys (by simpa using h) (fun z hz => hx z (by simp [hz])) (fun z hz => hy z (by simp [hz]))
    obtain ⟨h1, h2⟩ := hx x (by simp)
    obtain ⟨h3, h4⟩ := hy y (by simp)
    have e : ∀ a b : Int, 0 ≤ a → a < 256 → 0 ≤ b → b < 256 → (a.toNat.toUInt8 < b.toNat.toUInt8 ↔ a < b) := fun a b a0 a1 b0 b1 => by
      rw [UInt8.lt_iff_toNat_lt]
      simp only [Nat.toUInt8, UInt8.toNat_ofNat']
      omega
    show (if x.toNat.toUInt8 < y.toNat.toUInt8 then (-1 : Int) else if y.toNat.toUInt8 < x.toNat.toUInt8 then 1 else Lib.compareBytes (Lib.bytesOf xs) (Lib.bytesOf ys)) = _
    rw [ih]
    simp only [e x y h1 h2 h3 h4, e y x h3 h4 h1 h2, cmpI]
theorem b16_u8 {B : Nat → Int} (h : U8 B) : ∀ x ∈ b16 B, 0 ≤ x ∧ x < 256 := by
  intro x hx
  simp only [b16, List.mem_cons, List.mem_nil_iff, or_false] at hx
  rcases hx with rfl | rfl | rfl | rfl | rfl | rfl | rfl | rfl | rfl | rfl | rfl | rfl | rfl | rfl | rfl | rfl <;> exact h _

theorem b16_at {B : Nat → Int} {j : Nat} {x : Int} (h : (b16 B)[j]? = some x) : j < 16 ∧ x = B j := by
  have hj : j < 16 := by
    have := (List.getElem?_eq_some_iff.1 h).1
    exact this
  rw [b16_get B j hj] at h
  exact ⟨hj, (Option.some.inj h).symm⟩
/-- The model's entry, at two slices. -/
theorem run_compareSlices {P : Program} (w : World) (b1 o1 c1 b2 o2 c2 : Nat) (xs ys : List Int) (h1 : ∀ j x, xs[j]? = some x → w.cell? ⟨b1, o1 + j, none⟩ = some (.int .u8 x)) (h2 : ∀ j x, ys[j]? = some x → w.cell? ⟨b2, o2 + j, none⟩ = some (.int .u8 x)) :
    (Extern.BytealgCompare.compare #[.slice (some ⟨b1, o1, none⟩) xs.length c1, .slice (some ⟨b2, o2, none⟩) ys.length c2]).run P w = .ok (.int .i64 (Lib.compareBytes (Lib.bytesOf xs) (Lib.bytesOf ys))) w := by
  have l1 := Lib.run_loadBytesX (P := P) w xs ⟨b1, o1, none⟩ .empty (fun j x hj => by rw [Addr.add_lit]; exact h1 j x hj)
  have l2 := Lib.run_loadBytesX (P := P) w ys ⟨b2, o2, none⟩ .empty (fun j x hj => by rw [Addr.add_lit]; exact h2 j x hj)
  change Sem.run P (do pure (goInt (Extern.BytealgCompare.cmp (← Extern.Bytes.bytesOf (.slice (some ⟨b1, o1, none⟩) xs.length c1)) (← Extern.Bytes.bytesOf (.slice (some ⟨b2, o2, none⟩) ys.length c2))))) w = _
  simp only [Extern.Bytes.bytesOf, Sem.run_bind, l1, l2, Sem.run_pure, Result.andThen]
  rw [Lib.cmp_eq]
  simp [goInt]

theorem rfrom_any (A : Option Addr) (n c : Nat) (l : List Int) (w : World) (hr : Reads w A n c l) (hm : n ≤ 1000000) : Calls Tryd.prog 14 #[.slice A n c] w (RetAt w (fromV l)) := by
  by_cases h16 : n = 16
  · rw [fromV_16 (by rw [hr.len]; exact h16)]; subst h16; exact rfrom_16 A c l w hr
  · by_cases h4 : n = 4
    · rw [fromV_4 (by rw [hr.len]; exact h4)]; subst h4; exact rfrom_4 A c l w hr
    · exact rfrom_no A n c l w hr hm h16 h4

set_option maxRecDepth 100000 in
set_option maxHeartbeats 4000000 in
theorem compare_any (b1 o1 c1 b2 o2 c2 n : Nat) (xs ys : List Int) (w : World) (hx : xs.length = n) (hy : ys.length = n) (h1 : ∀ j x, xs[j]? = some x → w.cell? ⟨b1, o1 + j, none⟩ = some (.int .u8 x)) (h2 : ∀ j x, ys[j]? = some x → w.cell? ⟨b2, o2 + j, none⟩ = some (.int .u8 x)) (u1 : ∀ x ∈ xs, 0 ≤ x ∧ x < 256) (u2 : ∀ x ∈ ys, 0 ≤ x ∧ x < 256) :
    Calls Tryd.prog 50 #[.slice (some ⟨b1, o1, none⟩) n c1, .slice (some ⟨b2, o2, none⟩) n c2] w (fun e w' => e = .returned (.int .i64 (cmpI xs ys)) ∧ w = w') := by
  have hrun := run_compareSlices (P := Tryd.prog) w b1 o1 c1 b2 o2 c2 xs ys h1 h2
  rw [cmpI_bytes xs ys (hx.trans hy.symm) u1 u2, hx, hy] at hrun
  clear h1 h2 u1 u2 hx hy
  go_enter Tryd.func50, Tryd.ntmps50
  go_wp2
  rw [run_callFunc_extern Tryd.func62 (by kernel_rfl) (by kernel_rfl) (by kernel_rfl) (e := Extern.BytealgCompare.compare) (by kernel_rfl), hrun]
  simp only [Result.andThen]
  rw [Oper.upon_value]
  go_wp2
  go_ret
  exact ⟨rfl, rfl⟩
end Go.Proofs.YtcadpcppnllhnaaDoor
