/- Walks over prefixes: Cut. -/
import Derived.Test.YtcadpcppnllhnaaDoorPfPlain
import Derived.Test.YtcadpcppnllhnaaDoorAddrBox
set_option linter.unusedSimpArgs false
set_option linter.unusedVariables false
namespace Go.Proofs.YtcadpcppnllhnaaDoor
open Go.RowKit

theorem and_all : ∀ x : Fin 256, bits BinOp.and IntKind.u8 (x.1 : Int) 0 = keepI 0 (x.1 : Int) ∧ bits BinOp.and IntKind.u8 (x.1 : Int) 128 = keepI 1 (x.1 : Int) ∧ bits BinOp.and IntKind.u8 (x.1 : Int) 192 = keepI 2 (x.1 : Int) ∧
    bits BinOp.and IntKind.u8 (x.1 : Int) 224 = keepI 3 (x.1 : Int) ∧ bits BinOp.and IntKind.u8 (x.1 : Int) 240 = keepI 4 (x.1 : Int) ∧ bits BinOp.and IntKind.u8 (x.1 : Int) 248 = keepI 5 (x.1 : Int) ∧
    bits BinOp.and IntKind.u8 (x.1 : Int) 252 = keepI 6 (x.1 : Int) ∧ bits BinOp.and IntKind.u8 (x.1 : Int) 254 = keepI 7 (x.1 : Int) ∧ bits BinOp.and IntKind.u8 (x.1 : Int) 255 = keepI 8 (x.1 : Int) := by decide +kernel
theorem and_cut (m k : Nat) {B : Nat → Int} (hB : U8 B) : ((m : Int) - 8 * k ≤ 0 → bits BinOp.and IntKind.u8 (B k) 0 = cutB m B k) ∧ ((m : Int) - 8 * k = 1 → bits BinOp.and IntKind.u8 (B k) 128 = cutB m B k) ∧
    ((m : Int) - 8 * k = 2 → bits BinOp.and IntKind.u8 (B k) 192 = cutB m B k) ∧ ((m : Int) - 8 * k = 3 → bits BinOp.and IntKind.u8 (B k) 224 = cutB m B k) ∧ ((m : Int) - 8 * k = 4 → bits BinOp.and IntKind.u8 (B k) 240 = cutB m B k) ∧
    ((m : Int) - 8 * k = 5 → bits BinOp.and IntKind.u8 (B k) 248 = cutB m B k) ∧ ((m : Int) - 8 * k = 6 → bits BinOp.and IntKind.u8 (B k) 252 = cutB m B k) ∧ ((m : Int) - 8 * k = 7 → bits BinOp.and IntKind.u8 (B k) 254 = cutB m B k) ∧
    ((m : Int) - 8 * k = 8 → bits BinOp.and IntKind.u8 (B k) 255 = cutB m B k) ∧ (8 < (m : Int) - 8 * k → bits BinOp.and IntKind.u8 (B k) 255 = cutB m B k) := by
  have hb := hB k
  obtain ⟨x, hx⟩ : ∃ x : Fin 256, (x.1 : Int) = B k := ⟨⟨(B k).toNat, by omega⟩, by simp; omega⟩
  obtain ⟨h0, h1, h2, h3, h4, h5, h6, h7, h8⟩ := and_all x
  rw [hx] at h0 h1 h2 h3 h4 h5 h6 h7 h8
  unfold cutB
  refine ⟨fun h => ?_, fun h => ?_, fun h => ?_, fun h => ?_, fun h => ?_, fun h => ?_, fun h => ?_, fun h => ?_, fun h => ?_, fun h => ?_⟩
  · rw [h0, show keepAt m k = 0 by unfold keepAt; omega]
  · rw [h1, show keepAt m k = 1 by unfold keepAt; omega]
  · rw [h2, show keepAt m k = 2 by unfold keepAt; omega]
  · rw [h3, show keepAt m k = 3 by unfold keepAt; omega]
  · rw [h4, show keepAt m k = 4 by unfold keepAt; omega]
  · rw [h5, show keepAt m k = 5 by unfold keepAt; omega]
  · rw [h6, show keepAt m k = 6 by unfold keepAt; omega]
  · rw [h7, show keepAt m k = 7 by unfold keepAt; omega]
  · rw [h8, show keepAt m k = 8 by unfold keepAt; omega]
  · rw [h8, show keepAt m k = 8 by unfold keepAt; omega]
theorem ad_next {w : World} {b : Nat} {t : TypeId} {six : Bool} {m k : Nat} {B : Nat → Int} (h : AdBox w b t six (fun j => if j < k then cutB m B j else B j)) (hk : k < 16) {v : Int} (hv : v = cutB m B k) :
    AdBox (w.setCell ⟨b, 1 + k, none⟩ (.int .u8 v)).drew b t six (fun j => if j < k + 1 then cutB m B j else B j) :=
  ((h.set k hk v).below (Below.refl _ _).drew).congr fun i _ => by
    by_cases e : i = k
    · subst e; simp [hv]
    · by_cases h : i < k
      · simp only [if_neg e, if_pos h, if_pos (show i < k + 1 by omega)]
      · simp only [if_neg e, if_neg h, if_neg (show ¬ i < k + 1 by omega)]
theorem results_pf1 {fn : Func} {p : Tmp} (t : TypeId) (fs : Array Field) (hu : Tryd.prog.underlying t = some (.struct fs)) (hi : (Tryd.prog.info? t).map (·.size) = some 18)
    (h : fn.results = #[.cell p t]) (tmps : Array Value) (w : World) (b : Nat) {six : Bool} {B : Nat → Int} {n : Int}
    (hp : tmps.getD p undef = .pointer (some ⟨b, 0, none⟩)) (hc : partOf w b 0 18 = #[.bool six, .int .u8 (B 0), .int .u8 (B 1), .int .u8 (B 2), .int .u8 (B 3), .int .u8 (B 4), .int .u8 (B 5), .int .u8 (B 6), .int .u8 (B 7), .int .u8 (B 8), .int .u8 (B 9), .int .u8 (B 10), .int .u8 (B 11), .int .u8 (B 12), .int .u8 (B 13), .int .u8 (B 14), .int .u8 (B 15), .int .i64 n]) : (results fn tmps).run Tryd.prog w = .ok (pfV six B n) w :=
  results_part1 h tmps w b 18 _ hu rfl hi hp _ hc rfl
theorem info_pf : (Tryd.prog.info? 33).map (·.size) = some 18 := by kernel_rfl
theorem info_rpf : (Tryd.prog.info? 37).map (·.size) = some 18 := by kernel_rfl
theorem partOf_set2 {w : World} {b n : Nat} {cs cs' : Array Value} {t : TypeId} {fr : Nat × Nat} (h : w.heap[b]? = some (.cells cs t fr)) (hs : cs'.size = n := by rfl) : partOf (w.setRow b cs') b 0 n = cs' := by
  rw [partOf_row _ _ _ _ _ _ _ (setRow_heap _ _ _ _ _ _ h)]; subst hs; simp

set_option maxRecDepth 20000 in
set_option maxHeartbeats 8000000 in
theorem cut_right (six : Bool) (B : Nat → Int) (n : Int) (hB : U8 B) (hr : rightB six B = true) (hn0 : -9223372036854775808 ≤ n) (hn1 : n ≤ 9223372036854775807) (w : World) :
    Calls Tryd.prog 26 #[adV six B, .int .i64 n] w (RetAt w (pfV six (cutB (clampN six n) B) (clampN six n : Int))) := by
  have HR := Lib.hid (fun w => right_any six B w)
  have HS := Lib.hid (fun w => size_any six B w)
  have HB := Lib.hid hB
  have hC : (n ≤ 0 ∧ clampN six n = 0) ∨ (0 < n ∧ n ≤ 8 * sizeZ six ∧ n = clampN six n) ∨ (8 * sizeZ six < n ∧ 8 * sizeZ six = clampN six n) := by unfold clampN sizeZ; split <;> omega
  have hcl := clampN_le six n
  have hz0 : 4 ≤ sizeZ six := by unfold sizeZ; split <;> omega
  have hz1 : sizeZ six ≤ 16 := by unfold sizeZ; split <;> omega
  rw [hr] at HR
  clear hB hr
  generalize sizeZ six = z at *
  generalize clampN six n = m at *
  unfold adV at *
  go_enter Tryd.func26, Tryd.ntmps26
  go_wp2_with fail
  refine Calls.mono (HR.out _) ?_
  rintro e w1 ⟨rfl, hb1⟩
  have hX := (hb1.block w.heap.size (by simp; omega)).trans (heap_alloc2_old w (.cells #[.bool six, .int .u8 (B 0), .int .u8 (B 1), .int .u8 (B 2), .int .u8 (B 3), .int .u8 (B 4), .int .u8 (B 5), .int .u8 (B 6), .int .u8 (B 7), .int .u8 (B 8), .int .u8 (B 9), .int .u8 (B 10), .int .u8 (B 11), .int .u8 (B 12), .int .u8 (B 13), .int .u8 (B 14), .int .u8 (B 15)] 25) _)
  have HP : Hid (PfBox w1 (w.heap.size + 1) 33 false (fun _ => 0) 0) := Lib.hid ⟨(hb1.block _ (by simp)).trans (heap_alloc2_new w (.cells #[.bool six, .int .u8 (B 0), .int .u8 (B 1), .int .u8 (B 2), .int .u8 (B 3), .int .u8 (B 4), .int .u8 (B 5), .int .u8 (B 6), .int .u8 (B 7), .int .u8 (B 8), .int .u8 (B 9), .int .u8 (B 10), .int .u8 (B 11), .int .u8 (B 12), .int .u8 (B 13), .int .u8 (B 14), .int .u8 (B 15)] 25) (.cells #[.bool false, .int .u8 ((fun _ => 0) 0), .int .u8 ((fun _ => 0) 1), .int .u8 ((fun _ => 0) 2), .int .u8 ((fun _ => 0) 3), .int .u8 ((fun _ => 0) 4), .int .u8 ((fun _ => 0) 5), .int .u8 ((fun _ => 0) 6), .int .u8 ((fun _ => 0) 7), .int .u8 ((fun _ => 0) 8), .int .u8 ((fun _ => 0) 9), .int .u8 ((fun _ => 0) 10), .int .u8 ((fun _ => 0) 11), .int .u8 ((fun _ => 0) 12), .int .u8 ((fun _ => 0) 13), .int .u8 ((fun _ => 0) 14), .int .u8 ((fun _ => 0) 15), .int .i64 0] 33))⟩
  have hA := (AdBox.mk hX).part
  have HB1 := Lib.hid (Below.via (Below.all (Below.all (Below.refl w.heap.size w) _) _) hb1)
  have HX := Lib.hid (AdBox.mk hX)
  clear hX hb1
  go_wp2_with fail
  refine Calls.mono (HS.out _) ?_
  rintro e w2 ⟨rfl, hb2⟩
  have HX2 := Lib.hid (HX.out.below hb2)
  have HP2 := Lib.hid (HP.out.below hb2)
  have HB2 := Lib.hid (Below.via HB1.out hb2)
  clear hA hb2 HX HP HB1
  have hcase : (n ≤ 0 ∧ m = 0) ∨ (0 < n ∧ n ≤ 8 * z ∧ n = m) ∨ (8 * z < n ∧ 8 * z = m) := hC
  clear hC
  rcases hcase with ⟨h1, hm0⟩ | ⟨h1, h2, rfl⟩ | ⟨h1, h2⟩
  all_goals
    try have HM0 := Lib.hid hm0
    try clear hm0
    try have h8 : ¬ (8 * z < n) := by omega
    try have h8' : 0 < 8 * z := by omega
    go_wp2_with fail
    try rw [h2]
    go_loopw [17] (fun u17 wr => ∃ k : Nat, k ≤ 16 ∧ u17 = .int .i64 k ∧ Hid (AdBox wr w.heap.size 25 six (fun j => if j < k then cutB m B j else B j)) ∧ Hid (PfBox wr (w.heap.size + 1) 33 false (fun _ => 0) 0) ∧ Hid (Below w.heap.size w wr)) (fun u17 _ => (16 : Int) - intOf u17 |>.toNat)
    case atStart => exact ⟨0, by omega, rfl, Lib.hid (HX2.out.congr fun i _ => by simp), HP2, HB2⟩
    case round =>
      obtain ⟨k, hk, rfl, HX, HP, HB3⟩ := hrel
      by_cases hlt : k < 16
      · have hcx := HX.out.cell k hlt
        rw [if_neg (by omega)] at hcx
        have hfx := HX.out.free (1 + k)
        try have hm0 := HM0.out
        have hks : (m : Int) - 8 * k ≤ 0 ∨ (m : Int) - 8 * k = 1 ∨ (m : Int) - 8 * k = 2 ∨ (m : Int) - 8 * k = 3 ∨ (m : Int) - 8 * k = 4 ∨ (m : Int) - 8 * k = 5 ∨ (m : Int) - 8 * k = 6 ∨ (m : Int) - 8 * k = 7 ∨ (m : Int) - 8 * k = 8 ∨ 8 < (m : Int) - 8 * k := by omega
        rcases hks with h3 | h3 | h3 | h3 | h3 | h3 | h3 | h3 | h3 | h3
        all_goals first
          | (exfalso; omega)
          | skip
        all_goals
          try have h4 : ¬ (8 < (m : Int) - 8 * k) := by omega
          try have h5 : 0 < (m : Int) - 8 * k := by omega
          go_wp2_with fail
          try rw [h3]
          go_region
          go_wp2_with fail
          go_roundw
          case rel =>
            refine ⟨k + 1, by omega, by go_num, Lib.hid (ad_next HX.out hlt ?_), Lib.hid ((HP.out.other _ _ (by simp)).below (Below.refl _ _).drew), Lib.hid (HB3.out.setCell (Nat.le_refl _) _).drew⟩
            first
              | exact (and_cut m k HB.out).1 h3
              | exact (and_cut m k HB.out).2.1 h3
              | exact (and_cut m k HB.out).2.2.1 h3
              | exact (and_cut m k HB.out).2.2.2.1 h3
              | exact (and_cut m k HB.out).2.2.2.2.1 h3
              | exact (and_cut m k HB.out).2.2.2.2.2.1 h3
              | exact (and_cut m k HB.out).2.2.2.2.2.2.1 h3
              | exact (and_cut m k HB.out).2.2.2.2.2.2.2.1 h3
              | exact (and_cut m k HB.out).2.2.2.2.2.2.2.2.1 h3
              | exact (and_cut m k HB.out).2.2.2.2.2.2.2.2.2 h3
          case measure => simp [intOf]; omega
      · obtain rfl : k = 16 := by omega
        have HY := HX.out.congr (C := cutB m B) fun i hi => by rw [if_pos hi]
        have hpp := HY.part
        have hrr := HP.out.row
        have HPh := Lib.hid HP.out.heap
        clear HY
        go_wp2_with fail
        refine bodyPost_ret (v := pfV six (cutB m B) _) (results_pf1 _ _ Tryd.underlying33 info_pf rfl _ _ (w.heap.size + 1) rfl (partOf_set2 HPh.out)) rfl (.mk ?_ (below_setRow HB3.out (by omega) _))
        first
          | rfl
          | (rw [HM0.out]; rfl)
end Go.Proofs.YtcadpcppnllhnaaDoor
