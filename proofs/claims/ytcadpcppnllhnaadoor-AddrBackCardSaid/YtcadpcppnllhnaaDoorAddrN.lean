/- Walks over texts: an address's groups, and its longest row of noughts. -/
import Derived.Test.YtcadpcppnllhnaaDoorAddrBox
import Derived.Test.YtcadpcppnllhnaaDoorTextPlain
import Derived.Laws.BitsAllLaws
import Derived.Deep.LoopGhost
import Derived.WalkMore
set_option linter.unusedSimpArgs false
set_option linter.unusedVariables false
namespace Go.Proofs.YtcadpcppnllhnaaDoor
open Go.RowKit

/-- A group's number. -/
def grpI (B : Nat → Int) (k : Nat) : Int := B (2 * k) * 256 + B (2 * k + 1)
theorem grpI_bd {B : Nat → Int} (hB : U8 B) (k : Nat) : 0 ≤ grpI B k ∧ grpI B k < 65536 := by
  have h1 := hB (2 * k)
  have h2 := hB (2 * k + 1)
  unfold grpI; omega

theorem or_mul2 (a b i m : Nat) (hm : m = 2 ^ i) (h : a < m) : (b * m) ||| a = b * m + a := by
  subst hm
  rw [← Nat.shiftLeft_eq, Nat.shiftLeft_add_eq_or_of_lt h]
theorem or_byte (x y : Int) (h0 : 0 ≤ x) (h1 : x < 256) (h2 : 0 ≤ y) (h3 : y < 256) : bits BinOp.or IntKind.u64 (x * 256) y = x * 256 + y := by
  obtain ⟨n, rfl⟩ := Int.eq_ofNat_of_zero_le h0
  obtain ⟨m, rfl⟩ := Int.eq_ofNat_of_zero_le h2
  rw [show ((n : Int) * 256) = ((n * 256 : Nat) : Int) by omega, u64_or_nat (n * 256) m (by omega) (by omega), or_mul2 m n 8 256 (by decide) (by omega)]
  omega

set_option maxRecDepth 20000 in
set_option maxHeartbeats 8000000 in
theorem group_any (six : Bool) (B : Nat → Int) (hB : U8 B) (k : Nat) (hk : k < 8) (w : World) : Calls Tryd.prog 46 #[adV six B, .int .i64 (k : Int)] w (RetAt w (.int .u64 (grpI B k))) := by
  have HX : AdBox (w.alloc (.cells #[.bool six, .int .u8 (B 0), .int .u8 (B 1), .int .u8 (B 2), .int .u8 (B 3), .int .u8 (B 4), .int .u8 (B 5), .int .u8 (B 6), .int .u8 (B 7), .int .u8 (B 8), .int .u8 (B 9), .int .u8 (B 10), .int .u8 (B 11), .int .u8 (B 12), .int .u8 (B 13), .int .u8 (B 14), .int .u8 (B 15)] 25)) w.heap.size 25 six B := AdBox.made w _ six B
  have HB := Lib.hid (Below.all (Below.refl w.heap.size w) (.cells #[.bool six, .int .u8 (B 0), .int .u8 (B 1), .int .u8 (B 2), .int .u8 (B 3), .int .u8 (B 4), .int .u8 (B 5), .int .u8 (B 6), .int .u8 (B 7), .int .u8 (B 8), .int .u8 (B 9), .int .u8 (B 10), .int .u8 (B 11), .int .u8 (B 12), .int .u8 (B 13), .int .u8 (B 14), .int .u8 (B 15)] 25))
  have hcx := HX.cell (2 * k) (by omega)
  have hcy := HX.cell (2 * k + 1) (by omega)
  have hx := hB (2 * k)
  have hy := hB (2 * k + 1)
  have HG : Hid (grpI B k = B (2 * k) * 256 + B (2 * k + 1)) := Lib.hid rfl
  clear HX
  unfold adV
  go_enter Tryd.func46, Tryd.ntmps46
  go_wp2_with fail
  generalize w.alloc (.cells #[.bool six, .int .u8 (B 0), .int .u8 (B 1), .int .u8 (B 2), .int .u8 (B 3), .int .u8 (B 4), .int .u8 (B 5), .int .u8 (B 6), .int .u8 (B 7), .int .u8 (B 8), .int .u8 (B 9), .int .u8 (B 10), .int .u8 (B 11), .int .u8 (B 12), .int .u8 (B 13), .int .u8 (B 14), .int .u8 (B 15)] 25) = w1 at *
  generalize B (2 * k) = x at *
  generalize B (2 * k + 1) = y at *
  go_region
  go_wp2_with fail
  go_ret
  exact .mk (by rw [or_byte x y hx.1 hx.2 hy.1 hy.2, HG.out]; rfl) HB.out.drew

set_option maxRecDepth 20000 in
set_option maxHeartbeats 8000000 in
theorem rgroup_any (six : Bool) (B : Nat → Int) (hB : U8 B) (k : Nat) (hk : k < 8) (w : World) : Calls Tryd.prog 49 #[adV six B, .int .i64 (k : Int)] w (RetAt w (.int .i64 (grpI B k))) := by
  have HX : AdBox (w.alloc (.cells #[.bool six, .int .u8 (B 0), .int .u8 (B 1), .int .u8 (B 2), .int .u8 (B 3), .int .u8 (B 4), .int .u8 (B 5), .int .u8 (B 6), .int .u8 (B 7), .int .u8 (B 8), .int .u8 (B 9), .int .u8 (B 10), .int .u8 (B 11), .int .u8 (B 12), .int .u8 (B 13), .int .u8 (B 14), .int .u8 (B 15)] 29)) w.heap.size 29 six B := AdBox.made w _ six B
  have HB := Lib.hid (Below.all (Below.refl w.heap.size w) (.cells #[.bool six, .int .u8 (B 0), .int .u8 (B 1), .int .u8 (B 2), .int .u8 (B 3), .int .u8 (B 4), .int .u8 (B 5), .int .u8 (B 6), .int .u8 (B 7), .int .u8 (B 8), .int .u8 (B 9), .int .u8 (B 10), .int .u8 (B 11), .int .u8 (B 12), .int .u8 (B 13), .int .u8 (B 14), .int .u8 (B 15)] 29))
  have hcx := HX.cell (2 * k) (by omega)
  have hcy := HX.cell (2 * k + 1) (by omega)
  have hx := hB (2 * k)
  have hy := hB (2 * k + 1)
  have HG : Hid (grpI B k = B (2 * k) * 256 + B (2 * k + 1)) := Lib.hid rfl
  clear HX
  unfold adV
  go_enter Tryd.func49, Tryd.ntmps49
  go_wp2_with fail
  generalize w.alloc (.cells #[.bool six, .int .u8 (B 0), .int .u8 (B 1), .int .u8 (B 2), .int .u8 (B 3), .int .u8 (B 4), .int .u8 (B 5), .int .u8 (B 6), .int .u8 (B 7), .int .u8 (B 8), .int .u8 (B 9), .int .u8 (B 10), .int .u8 (B 11), .int .u8 (B 12), .int .u8 (B 13), .int .u8 (B 14), .int .u8 (B 15)] 29) = w1 at *
  generalize B (2 * k) = x at *
  generalize B (2 * k + 1) = y at *
  go_region
  go_wp2_with fail
  go_ret
  exact .mk (by rw [HG.out]; rfl) HB.out.drew

set_option maxRecDepth 20000 in
set_option maxHeartbeats 8000000 in
theorem noughts_any (six : Bool) (B : Nat → Int) (hB : U8 B) (z : Nat → Bool) (hz : ∀ k, k < 8 → z k = (grpI B k == 0)) (w : World) :
    Calls Tryd.prog 47 #[adV six B] w (RetAt w (.tuple #[.int .i64 ((noughtsZ z).1 : Nat), .int .i64 ((noughtsZ z).2 : Nat)])) := by
  have HX : Hid (AdBox (w.alloc (.cells #[.bool six, .int .u8 (B 0), .int .u8 (B 1), .int .u8 (B 2), .int .u8 (B 3), .int .u8 (B 4), .int .u8 (B 5), .int .u8 (B 6), .int .u8 (B 7), .int .u8 (B 8), .int .u8 (B 9), .int .u8 (B 10), .int .u8 (B 11), .int .u8 (B 12), .int .u8 (B 13), .int .u8 (B 14), .int .u8 (B 15)] 25)) w.heap.size 25 six B) := Lib.hid (AdBox.made w _ six B)
  have HB := Lib.hid (Below.all (Below.refl w.heap.size w) (.cells #[.bool six, .int .u8 (B 0), .int .u8 (B 1), .int .u8 (B 2), .int .u8 (B 3), .int .u8 (B 4), .int .u8 (B 5), .int .u8 (B 6), .int .u8 (B 7), .int .u8 (B 8), .int .u8 (B 9), .int .u8 (B 10), .int .u8 (B 11), .int .u8 (B 12), .int .u8 (B 13), .int .u8 (B 14), .int .u8 (B 15)] 25))
  have HG := Lib.hid (fun k hk w => group_any six B hB k hk w)
  have HZ := Lib.hid hz
  clear hB hz
  unfold adV at *
  go_enter Tryd.func47, Tryd.ntmps47
  go_wp2_with fail
  generalize w.alloc (.cells #[.bool six, .int .u8 (B 0), .int .u8 (B 1), .int .u8 (B 2), .int .u8 (B 3), .int .u8 (B 4), .int .u8 (B 5), .int .u8 (B 6), .int .u8 (B 7), .int .u8 (B 8), .int .u8 (B 9), .int .u8 (B 10), .int .u8 (B 11), .int .u8 (B 12), .int .u8 (B 13), .int .u8 (B 14), .int .u8 (B 15)] 25) = w1 at *
  go_step3
  go_wp2_with fail
  go_step3
  go_wp2_with fail
  go_loopg [2, 3, 4] 8 (fun g u2 u3 u4 wr => ∃ (i f t : Nat), i + g = 8 ∧ f ≤ t ∧ t ≤ 8 ∧ u2 = .int .i64 f ∧ u3 = .int .i64 t ∧ u4 = .int .i64 i ∧ Hid (nrows z (8 - i) i (f, t) = noughtsZ z) ∧ Hid (AdBox wr w.heap.size 25 six B) ∧ Hid (Below w.heap.size w wr))
  case atStart => exact ⟨0, 0, 0, by omega, by omega, by omega, rfl, rfl, rfl, Lib.hid rfl, HX, HB⟩
  case round =>
    obtain ⟨i, f, t, hi, hft, ht, rfl, rfl, rfl, HN, HX, HW⟩ := hrel
    by_cases hlt : i < 8
    · have HN2 : Hid (nrows z (7 - i) (i + 1) (nrow z i (8 - i) i (f, t)) = noughtsZ z) := Lib.hid (by rw [← HN.out, show nrows z (8 - i) i (f, t) = nrows z (7 - i + 1) i (f, t) by rw [show 8 - i = 7 - i + 1 by omega]]; rfl)
      have hd : decide ((i : Int) < 8) = true := by simp; omega
      go_wp2_with fail
      clear hd
      go_loopg [2, 3, 5] (8 - i) (fun h u2 u3 u5 wr => ∃ (n f t : Nat), n + h = 8 ∧ i ≤ n ∧ f ≤ t ∧ t ≤ 8 ∧ u2 = .int .i64 f ∧ u3 = .int .i64 t ∧ u5 = .int .i64 n ∧ Hid (nrows z (7 - i) (i + 1) (nrow z i (8 - n) n (f, t)) = noughtsZ z) ∧ Hid (AdBox wr w.heap.size 25 six B) ∧ Hid (Below w.heap.size w wr))
      case atStart => exact ⟨i, f, t, by omega, by omega, hft, ht, rfl, rfl, rfl, HN2, HX, HW⟩
      case round =>
        obtain ⟨n, f, t, hn, hin, hft, ht, rfl, rfl, rfl, HN, HX, HW⟩ := hrel
        by_cases hlt2 : n < 8
        · have hpp := HX.out.part
          have HGn := Lib.hid (HG.out n hlt2)
          have hzn := HZ.out n hlt2
          have HS : Hid (nrow z i (8 - n) n (f, t) = if z n then nrow z i (8 - (n + 1)) (n + 1) (if 2 ≤ n + 1 - i ∧ t - f < n + 1 - i then (i, n + 1) else (f, t)) else (f, t)) := Lib.hid (by rw [show 8 - n = 8 - (n + 1) + 1 by omega]; rfl)
          generalize grpI B n = g at *
          go_wp2_with fail
          refine Calls.mono (HGn.out _) ?_
          rintro e w2 ⟨rfl, hb2⟩
          have HX2 := Lib.hid (HX.out.below hb2)
          have HW2 := Lib.hid (Below.via HW.out hb2)
          clear hpp hb2 HX HW
          by_cases hg : g = 0
          · have hzt : z n = true := by rw [hzn, hg]; rfl
            subst hg
            rw [hzt, if_pos rfl] at HS
            have HS2 := HS.out
            clear HS hzn hzt HGn
            by_cases h2 : 2 ≤ n + 1 - i
            · have h2' : (2 : Int) ≤ n + 1 - i := by omega
              by_cases h3 : t - f < n + 1 - i
              · have h3' : (t : Int) - f < n + 1 - i := by omega
                rw [if_pos ⟨h2, h3⟩] at HS2
                have HS3 := Lib.hid HS2
                clear HS2 h2 h3
                go_wp2_with fail
                go_roundg (8 - (n + 1))
                case measure => omega
                case rel => exact ⟨n + 1, i, n + 1, by omega, by omega, by omega, by omega, rfl, by go_num, by go_num, Lib.hid (by rw [← HS3.out]; exact HN.out), HX2, HW2⟩
              · have h3' : ¬ ((n : Int) + 1 - i > t - f) := by omega
                have h3'' : ¬ ((t : Int) - f < n + 1 - i) := by omega
                rw [if_neg (fun h => h3 h.2)] at HS2
                have HS3 := Lib.hid HS2
                clear HS2 h2 h3
                go_wp2_with fail
                go_roundg (8 - (n + 1))
                case measure => omega
                case rel => exact ⟨n + 1, f, t, by omega, by omega, by omega, by omega, rfl, rfl, by go_num, Lib.hid (by rw [← HS3.out]; exact HN.out), HX2, HW2⟩
            · have h2' : ¬ ((2 : Int) ≤ n + 1 - i) := by omega
              rw [if_neg (fun h => h2 h.1)] at HS2
              have HS3 := Lib.hid HS2
              clear HS2 h2
              go_wp2_with fail
              go_roundg (8 - (n + 1))
              case measure => omega
              case rel => exact ⟨n + 1, f, t, by omega, by omega, by omega, by omega, rfl, rfl, by go_num, Lib.hid (by rw [← HS3.out]; exact HN.out), HX2, HW2⟩
          · have hzt : z n = false := by rw [hzn]; simpa using hg
            rw [hzt, if_neg (by simp)] at HS
            clear hzn hzt HGn
            go_wp2_with fail
            go_roundg (8 - (i + 1))
            case measure => omega
            case rel => exact ⟨i + 1, f, t, by omega, by omega, by omega, rfl, rfl, by go_num, Lib.hid (by rw [← HN.out, HS.out, show 8 - (i + 1) = 7 - i by omega]), HX2, HW2⟩
        · obtain rfl : n = 8 := by omega
          have HN3 : Hid (nrows z (7 - i) (i + 1) (f, t) = noughtsZ z) := HN
          go_wp2_with fail
          go_roundg (8 - (i + 1))
          case measure => omega
          case rel => exact ⟨i + 1, f, t, by omega, by omega, by omega, rfl, rfl, by go_num, Lib.hid (by rw [← HN3.out, show 8 - (i + 1) = 7 - i by omega]), HX, HW⟩
    · obtain rfl : i = 8 := by omega
      have HN3 : Hid ((f, t) = noughtsZ z) := HN
      go_wp2_with fail
      go_ret2
      exact .mk (by rw [← HN3.out]; rfl) HW.out
end Go.Proofs.YtcadpcppnllhnaaDoor
