/- Walks over texts: an address's groups, and its longest row of noughts. -/
import Derived.Test.YtcadpcppnllhnaaGreatDoorJ2
import Derived.Test.YtcadpcppnllhnaaGreatDoorJ5
import Derived.Laws.BitsAllLaws
import Derived.Deep.LoopGhost
import Derived.WalkMore
import Derived.Test.YtcadpcppnllhnaaGreatDoorJ4
import Derived.Test.YtcadpcppnllhnaaGreatDoorJ1
import Derived.IntWalk
import Derived.WalkSpells
import Derived.ShutString
import Derived.Deep.QuietTactic
import Derived.BigQuiet
import Derived.Lib.AtoiAllCases
import Derived.Lib.AppendIntMem
import Derived.StillTailTactics
import Derived.RegionTactic
import Derived.BigRegion
import Derived.Lib.ParseIntBMem
import Derived.Laws.Closers25
import Derived.Laws.Closers25b
import Derived.BigCall
import Derived.BigGuard

section
set_option linter.unusedSimpArgs false
set_option linter.unusedVariables false
namespace Go.Proofs.YtcadpcppnllhnaaGreatDoor
open Go.RowKit

/-- A group's number. -/
def grpI (B : Nat → Int) (k : Nat) : Int := B (2 * k) * 256 + B (2 * k + 1)
theorem grpI_bd {B : Nat → Int} (hB : U8 B) (k : Nat) : 0 ≤ grpI B k ∧ grpI B k < 65536 := by
  have h1 := hB (2 * k)
  have h2 := hB (2 * k + 1)
  unfold grpI; omega

theorem or_mul2 (a b i m : Nat) (hm : m = 2 ^ i) (h : a < m) : (b * m) ||| a = b * m + a := by
  subst hm
  rw [← Nat.shiftLeft_eq, Nat.shiftLeft_add_eq_or_of_lt h]
theorem or_byte (x y : Int) (h0 : 0 ≤ x) (h1 : x < 256) (h2 : 0 ≤ y) (h3 : y < 256) : bits BinOp.or IntKind.u64 (x * 256) y = x * 256 + y := by
  obtain ⟨n, rfl⟩ := Int.eq_ofNat_of_zero_le h0
  obtain ⟨m, rfl⟩ := Int.eq_ofNat_of_zero_le h2
  rw [show ((n : Int) * 256) = ((n * 256 : Nat) : Int) by omega, u64_or_nat (n * 256) m (by omega) (by omega), or_mul2 m n 8 256 (by decide) (by omega)]
  omega

set_option maxRecDepth 20000 in
set_option maxHeartbeats 8000000 in
theorem group_any (six : Bool) (B : Nat → Int) (hB : U8 B) (k : Nat) (hk : k < 8) (w : World) : Calls Tryz.prog 44 #[adV six B, .int .i64 (k : Int)] w (RetAt w (.int .u64 (grpI B k))) := by
  have HX : AdBox (w.alloc (.cells #[.bool six, .int .u8 (B 0), .int .u8 (B 1), .int .u8 (B 2), .int .u8 (B 3), .int .u8 (B 4), .int .u8 (B 5), .int .u8 (B 6), .int .u8 (B 7), .int .u8 (B 8), .int .u8 (B 9), .int .u8 (B 10), .int .u8 (B 11), .int .u8 (B 12), .int .u8 (B 13), .int .u8 (B 14), .int .u8 (B 15)] 26)) w.heap.size 26 six B := AdBox.made w _ six B
  have HB := Lib.hid (Below.all (Below.refl w.heap.size w) (.cells #[.bool six, .int .u8 (B 0), .int .u8 (B 1), .int .u8 (B 2), .int .u8 (B 3), .int .u8 (B 4), .int .u8 (B 5), .int .u8 (B 6), .int .u8 (B 7), .int .u8 (B 8), .int .u8 (B 9), .int .u8 (B 10), .int .u8 (B 11), .int .u8 (B 12), .int .u8 (B 13), .int .u8 (B 14), .int .u8 (B 15)] 26))
  have hcx := HX.cell (2 * k) (by omega)
  have hcy := HX.cell (2 * k + 1) (by omega)
  have hx := hB (2 * k)
  have hy := hB (2 * k + 1)
  have HG : Hid (grpI B k = B (2 * k) * 256 + B (2 * k + 1)) := Lib.hid rfl
  clear HX
  unfold adV
  go_enter Tryz.func44, Tryz.ntmps44
  go_wp2_with fail
  generalize w.alloc (.cells #[.bool six, .int .u8 (B 0), .int .u8 (B 1), .int .u8 (B 2), .int .u8 (B 3), .int .u8 (B 4), .int .u8 (B 5), .int .u8 (B 6), .int .u8 (B 7), .int .u8 (B 8), .int .u8 (B 9), .int .u8 (B 10), .int .u8 (B 11), .int .u8 (B 12), .int .u8 (B 13), .int .u8 (B 14), .int .u8 (B 15)] 26) = w1 at *
  generalize B (2 * k) = x at *
  generalize B (2 * k + 1) = y at *
  go_region
  go_wp2_with fail
  go_ret
  exact .mk (by rw [or_byte x y hx.1 hx.2 hy.1 hy.2, HG.out]; rfl) HB.out.drew

set_option maxRecDepth 20000 in
set_option maxHeartbeats 8000000 in
theorem rgroup_any (six : Bool) (B : Nat → Int) (hB : U8 B) (k : Nat) (hk : k < 8) (w : World) : Calls Tryz.prog 56 #[adV six B, .int .i64 (k : Int)] w (RetAt w (.int .i64 (grpI B k))) := by
  have HX : AdBox (w.alloc (.cells #[.bool six, .int .u8 (B 0), .int .u8 (B 1), .int .u8 (B 2), .int .u8 (B 3), .int .u8 (B 4), .int .u8 (B 5), .int .u8 (B 6), .int .u8 (B 7), .int .u8 (B 8), .int .u8 (B 9), .int .u8 (B 10), .int .u8 (B 11), .int .u8 (B 12), .int .u8 (B 13), .int .u8 (B 14), .int .u8 (B 15)] 41)) w.heap.size 41 six B := AdBox.made w _ six B
  have HB := Lib.hid (Below.all (Below.refl w.heap.size w) (.cells #[.bool six, .int .u8 (B 0), .int .u8 (B 1), .int .u8 (B 2), .int .u8 (B 3), .int .u8 (B 4), .int .u8 (B 5), .int .u8 (B 6), .int .u8 (B 7), .int .u8 (B 8), .int .u8 (B 9), .int .u8 (B 10), .int .u8 (B 11), .int .u8 (B 12), .int .u8 (B 13), .int .u8 (B 14), .int .u8 (B 15)] 41))
  have hcx := HX.cell (2 * k) (by omega)
  have hcy := HX.cell (2 * k + 1) (by omega)
  have hx := hB (2 * k)
  have hy := hB (2 * k + 1)
  have HG : Hid (grpI B k = B (2 * k) * 256 + B (2 * k + 1)) := Lib.hid rfl
  clear HX
  unfold adV
  go_enter Tryz.func56, Tryz.ntmps56
  go_wp2_with fail
  generalize w.alloc (.cells #[.bool six, .int .u8 (B 0), .int .u8 (B 1), .int .u8 (B 2), .int .u8 (B 3), .int .u8 (B 4), .int .u8 (B 5), .int .u8 (B 6), .int .u8 (B 7), .int .u8 (B 8), .int .u8 (B 9), .int .u8 (B 10), .int .u8 (B 11), .int .u8 (B 12), .int .u8 (B 13), .int .u8 (B 14), .int .u8 (B 15)] 41) = w1 at *
  generalize B (2 * k) = x at *
  generalize B (2 * k + 1) = y at *
  go_region
  go_wp2_with fail
  go_ret
  exact .mk (by rw [HG.out]; rfl) HB.out.drew

set_option maxRecDepth 20000 in
set_option maxHeartbeats 8000000 in
theorem noughts_any (six : Bool) (B : Nat → Int) (hB : U8 B) (z : Nat → Bool) (hz : ∀ k, k < 8 → z k = (grpI B k == 0)) (w : World) :
    Calls Tryz.prog 45 #[adV six B] w (RetAt w (.tuple #[.int .i64 ((noughtsZ z).1 : Nat), .int .i64 ((noughtsZ z).2 : Nat)])) := by
  have HX : Hid (AdBox (w.alloc (.cells #[.bool six, .int .u8 (B 0), .int .u8 (B 1), .int .u8 (B 2), .int .u8 (B 3), .int .u8 (B 4), .int .u8 (B 5), .int .u8 (B 6), .int .u8 (B 7), .int .u8 (B 8), .int .u8 (B 9), .int .u8 (B 10), .int .u8 (B 11), .int .u8 (B 12), .int .u8 (B 13), .int .u8 (B 14), .int .u8 (B 15)] 26)) w.heap.size 26 six B) := Lib.hid (AdBox.made w _ six B)
  have HB := Lib.hid (Below.all (Below.refl w.heap.size w) (.cells #[.bool six, .int .u8 (B 0), .int .u8 (B 1), .int .u8 (B 2), .int .u8 (B 3), .int .u8 (B 4), .int .u8 (B 5), .int .u8 (B 6), .int .u8 (B 7), .int .u8 (B 8), .int .u8 (B 9), .int .u8 (B 10), .int .u8 (B 11), .int .u8 (B 12), .int .u8 (B 13), .int .u8 (B 14), .int .u8 (B 15)] 26))
  have HG := Lib.hid (fun k hk w => group_any six B hB k hk w)
  have HZ := Lib.hid hz
  clear hB hz
  unfold adV at *
  go_enter Tryz.func45, Tryz.ntmps45
  go_wp2_with fail
  generalize w.alloc (.cells #[.bool six, .int .u8 (B 0), .int .u8 (B 1), .int .u8 (B 2), .int .u8 (B 3), .int .u8 (B 4), .int .u8 (B 5), .int .u8 (B 6), .int .u8 (B 7), .int .u8 (B 8), .int .u8 (B 9), .int .u8 (B 10), .int .u8 (B 11), .int .u8 (B 12), .int .u8 (B 13), .int .u8 (B 14), .int .u8 (B 15)] 26) = w1 at *
  go_step3
  go_wp2_with fail
  go_step3
  go_wp2_with fail
  go_loopg [2, 3, 4] 8 (fun g u2 u3 u4 wr => ∃ (i f t : Nat), i + g = 8 ∧ f ≤ t ∧ t ≤ 8 ∧ u2 = .int .i64 f ∧ u3 = .int .i64 t ∧ u4 = .int .i64 i ∧ Hid (nrows z (8 - i) i (f, t) = noughtsZ z) ∧ Hid (AdBox wr w.heap.size 26 six B) ∧ Hid (Below w.heap.size w wr))
  case atStart => exact ⟨0, 0, 0, by omega, by omega, by omega, rfl, rfl, rfl, Lib.hid rfl, HX, HB⟩
  case round =>
    obtain ⟨i, f, t, hi, hft, ht, rfl, rfl, rfl, HN, HX, HW⟩ := hrel
    by_cases hlt : i < 8
    · have HN2 : Hid (nrows z (7 - i) (i + 1) (nrow z i (8 - i) i (f, t)) = noughtsZ z) := Lib.hid (by rw [← HN.out, show nrows z (8 - i) i (f, t) = nrows z (7 - i + 1) i (f, t) by rw [show 8 - i = 7 - i + 1 by omega]]; rfl)
      have hd : decide ((i : Int) < 8) = true := by simp; omega
      go_wp2_with fail
      clear hd
      go_loopg [2, 3, 5] (8 - i) (fun h u2 u3 u5 wr => ∃ (n f t : Nat), n + h = 8 ∧ i ≤ n ∧ f ≤ t ∧ t ≤ 8 ∧ u2 = .int .i64 f ∧ u3 = .int .i64 t ∧ u5 = .int .i64 n ∧ Hid (nrows z (7 - i) (i + 1) (nrow z i (8 - n) n (f, t)) = noughtsZ z) ∧ Hid (AdBox wr w.heap.size 26 six B) ∧ Hid (Below w.heap.size w wr))
      case atStart => exact ⟨i, f, t, by omega, by omega, hft, ht, rfl, rfl, rfl, HN2, HX, HW⟩
      case round =>
        obtain ⟨n, f, t, hn, hin, hft, ht, rfl, rfl, rfl, HN, HX, HW⟩ := hrel
        by_cases hlt2 : n < 8
        · have hpp := HX.out.part
          have HGn := Lib.hid (HG.out n hlt2)
          have hzn := HZ.out n hlt2
          have HS : Hid (nrow z i (8 - n) n (f, t) = if z n then nrow z i (8 - (n + 1)) (n + 1) (if 2 ≤ n + 1 - i ∧ t - f < n + 1 - i then (i, n + 1) else (f, t)) else (f, t)) := Lib.hid (by rw [show 8 - n = 8 - (n + 1) + 1 by omega]; rfl)
          generalize grpI B n = g at *
          go_wp2_with fail
          refine Calls.mono (HGn.out _) ?_
          rintro e w2 ⟨rfl, hb2⟩
          have HX2 := Lib.hid (HX.out.below hb2)
          have HW2 := Lib.hid (Below.via HW.out hb2)
          clear hpp hb2 HX HW
          by_cases hg : g = 0
          · have hzt : z n = true := by rw [hzn, hg]; rfl
            subst hg
            rw [hzt, if_pos rfl] at HS
            have HS2 := HS.out
            clear HS hzn hzt HGn
            by_cases h2 : 2 ≤ n + 1 - i
            · have h2' : (2 : Int) ≤ n + 1 - i := by omega
              by_cases h3 : t - f < n + 1 - i
              · have h3' : (t : Int) - f < n + 1 - i := by omega
                rw [if_pos ⟨h2, h3⟩] at HS2
                have HS3 := Lib.hid HS2
                clear HS2 h2 h3
                go_wp2_with fail
                go_roundg (8 - (n + 1))
                case measure => omega
                case rel => exact ⟨n + 1, i, n + 1, by omega, by omega, by omega, by omega, rfl, by go_num, by go_num, Lib.hid (by rw [← HS3.out]; exact HN.out), HX2, HW2⟩
              · have h3' : ¬ ((n : Int) + 1 - i > t - f) := by omega
                have h3'' : ¬ ((t : Int) - f < n + 1 - i) := by omega
                rw [if_neg (fun h => h3 h.2)] at HS2
                have HS3 := Lib.hid HS2
                clear HS2 h2 h3
                go_wp2_with fail
                go_roundg (8 - (n + 1))
                case measure => omega
                case rel => exact ⟨n + 1, f, t, by omega, by omega, by omega, by omega, rfl, rfl, by go_num, Lib.hid (by rw [← HS3.out]; exact HN.out), HX2, HW2⟩
            · have h2' : ¬ ((2 : Int) ≤ n + 1 - i) := by omega
              rw [if_neg (fun h => h2 h.1)] at HS2
              have HS3 := Lib.hid HS2
              clear HS2 h2
              go_wp2_with fail
              go_roundg (8 - (n + 1))
              case measure => omega
              case rel => exact ⟨n + 1, f, t, by omega, by omega, by omega, by omega, rfl, rfl, by go_num, Lib.hid (by rw [← HS3.out]; exact HN.out), HX2, HW2⟩
          · have hzt : z n = false := by rw [hzn]; simpa using hg
            rw [hzt, if_neg (by simp)] at HS
            clear hzn hzt HGn
            go_wp2_with fail
            go_roundg (8 - (i + 1))
            case measure => omega
            case rel => exact ⟨i + 1, f, t, by omega, by omega, by omega, rfl, rfl, by go_num, Lib.hid (by rw [← HN.out, HS.out, show 8 - (i + 1) = 7 - i by omega]), HX2, HW2⟩
        · obtain rfl : n = 8 := by omega
          have HN3 : Hid (nrows z (7 - i) (i + 1) (f, t) = noughtsZ z) := HN
          go_wp2_with fail
          go_roundg (8 - (i + 1))
          case measure => omega
          case rel => exact ⟨i + 1, f, t, by omega, by omega, by omega, rfl, rfl, by go_num, Lib.hid (by rw [← HN3.out, show 8 - (i + 1) = 7 - i by omega]), HX, HW⟩
    · obtain rfl : i = 8 := by omega
      have HN3 : Hid ((f, t) = noughtsZ z) := HN
      go_wp2_with fail
      go_ret2
      exact .mk (by rw [← HN3.out]; rfl) HW.out
end Go.Proofs.YtcadpcppnllhnaaGreatDoor
end

/- Walks over texts: strconv.FormatUint at base 16. -/
section
set_option linter.unusedSimpArgs false
set_option linter.unusedVariables false
namespace Go.Proofs.YtcadpcppnllhnaaGreatDoor
open Go.RowKit

theorem w64_1 : IntKind.u64.wrap (-16) = 18446744073709551600 := by decide
theorem w64_2 : bits BinOp.and IntKind.u64 16 18446744073709551600 = 16 := by kernel_rfl
theorem w64_3 : IntKind.u64.wrap (16 * 285870213051353865) = 4573923408821661840 := by decide
theorem w64_4 : (4573923408821661840 : Int) / 288230376151711744 = 15 := by decide

set_option maxRecDepth 20000 in
set_option maxHeartbeats 8000000 in
theorem tz64_16 (w : World) (hb : w.cell? ⟨5, 15, none⟩ = some (.int .u8 4)) : Calls Tryz.prog 107 #[.int .u64 16] w (fun e w' => e = .returned (.int .i64 4) ∧ w = w') := by
  have h1 := w64_1
  have h2 := w64_2
  have h3 := w64_3
  have h4 := w64_4
  go_enter Tryz.func107, Tryz.ntmps107
  go_wp2_with fail
  go_ret
  exact ⟨rfl, rfl⟩

set_option maxRecDepth 20000 in
set_option maxHeartbeats 8000000 in
theorem tz_16 (w : World) (hb : w.cell? ⟨5, 15, none⟩ = some (.int .u8 4)) : Calls Tryz.prog 91 #[.int .u64 16] w (fun e w' => e = .returned (.int .i64 4) ∧ w = w') := by
  go_enter Tryz.func91, Tryz.ntmps91
  go_wp2_with fail
  refine Calls.mono (tz64_16 w hb) ?_
  rintro e w2 ⟨rfl, rfl⟩
  go_wp2_with fail
  go_ret
  exact ⟨rfl, rfl⟩

theorem p2_16 (w : World) : Calls Tryz.prog 90 #[.int .i64 16] w (fun e w' => e = .returned (.bool true) ∧ w = w') := by
  have h1 : bits BinOp.and IntKind.i64 16 15 = 0 := by kernel_rfl
  go_enter Tryz.func90, Tryz.ntmps90
  go_wp2_with fail
  go_ret
  exact ⟨rfl, rfl⟩
end Go.Proofs.YtcadpcppnllhnaaGreatDoor
end

/- Walks over texts: the library's variables, Number, Digits, decimal. -/
section
set_option linter.unusedSimpArgs false
set_option linter.unusedVariables false
namespace Go.Proofs.YtcadpcppnllhnaaGreatDoor
open Go.RowKit

/-- The library's variables that the texts read. -/
structure Env (w : World) : Prop where
  len : ∃ m, w.cell? ⟨0, 0, none⟩ = some (.int .i64 m)
  syn : ∃ te pe, w.cell? ⟨2, 0, none⟩ = some (.iface te pe)
  rng : ∃ te pe, w.cell? ⟨3, 0, none⟩ = some (.iface te pe)
  tab : Lib.TabIs Tryz.prog w "internal/strconv.uint64pow10" .u64 Lib.pow10Tab
  bits : w.cell? ⟨5, 15, none⟩ = some (.int .u8 4)
theorem Env.below {w w' : World} (h : Env w) (hb : Below w.heap.size w w') : Env w' := by
  obtain ⟨m, hm⟩ := h.len
  obtain ⟨t1, p1, h1⟩ := h.syn
  obtain ⟨t2, p2, h2⟩ := h.rng
  exact ⟨⟨m, (hb.cell (p := ⟨_, _, none⟩) (World.block_lt_of_cell? w _ hm)).trans hm⟩, ⟨t1, p1, (hb.cell (p := ⟨_, _, none⟩) (World.block_lt_of_cell? w _ h1)).trans h1⟩,
    ⟨t2, p2, (hb.cell (p := ⟨_, _, none⟩) (World.block_lt_of_cell? w _ h2)).trans h2⟩, Joins.tab_stays (g := 1) (by kernel_rfl) h.tab hb (Nat.le_refl _), (hb.cell (p := ⟨_, _, none⟩) (World.block_lt_of_cell? w _ h.bits)).trans h.bits⟩
theorem Env.later {w : World} (h : Env w) (x : Later w) : Env x.world := h.below x.below

theorem dec_mk3 {p : Prop} [Decidable p] {b : Bool} (h : b = true ↔ p) : b = decide p := by rw [Bool.eq_iff_iff, h]; simp
theorem take_snoc8 (s : ByteArray) (k : Nat) (h : k < s.size) : s.data.toList.take (k + 1) = s.data.toList.take k ++ [s[k]] := by
  rw [List.take_succ_eq_append_getElem (by simpa using h)]; rfl
theorem drop_cons8 (s : ByteArray) (k : Nat) (h : k < s.size) : s.data.toList.drop k = s[k] :: s.data.toList.drop (k + 1) := by
  rw [List.drop_eq_getElem_cons (by simpa using h)]; rfl

/-- 's[k]', the byte behind a letter of one's own: lay it ahead of the walk. -/
theorem index_byte (s : ByteArray) (k : Nat) (h : k < s.size) (c : Nat) (hc : s[k].toNat = c) (w : World) : (Instr.index 9 (.string s) (.int .i64 (k : Int))).run Tryz.prog w = .ok (.int .u8 (c : Int)) w := by
  rw [run_index_string w 9 s .i64 k Tryz.underlying9, dif_pos (by omega)]
  simp only [Int.toNat_natCast, hc]

/-- What the reference's Number answers. -/
def numV (o : Option Nat) : Value := match o with
  | some n => .tuple #[.int .i64 n, .bool true]
  | none => .tuple #[.int .i64 0, .bool false]

theorem numV_some {o : Option Nat} {n : Nat} (h : o = some n) (m : Int) (hm : m = n) : Value.tuple #[.int .i64 m, .bool true] = numV o := by rw [h, hm]; rfl
theorem numV_none {o : Option Nat} (h : o = none) : Value.tuple #[.int .i64 0, .bool false] = numV o := by rw [h]; rfl

set_option maxHeartbeats 4000000 in
theorem number_any (s : ByteArray) (base most : Nat) (w : World) (hs : s.size ≤ 1000) (hb : base ≤ 16) (hm : most ≤ 65536) (hm1 : 1 ≤ most) :
    Calls Tryz.prog 50 #[.string s, .int .i64 base, .int .i64 most] w (RetAt w (numV (numberL base most s.data.toList))) := by
  go_enter Tryz.func50, Tryz.ntmps50
  go_wp2_with fail
  go_loopw [8, 9] (fun u8 u9 wr => ∃ k n : Nat, k ≤ s.size ∧ u9 = .int .i64 k ∧ u8 = .int .i64 n ∧ n < most ∧ Hid (numL base most 0 (s.data.toList.take k) = some n) ∧ wr = w) (fun _ u9 _ => (s.size : Int) - intOf u9 |>.toNat)
  case atStart => exact ⟨0, 0, Nat.zero_le _, rfl, rfl, by omega, Lib.hid rfl, rfl⟩
  case round =>
    obtain ⟨k, n, hk, rfl, rfl, hn, HN, rfl⟩ := hrel
    by_cases hlt : k < s.size
    · have hts := take_snoc8 s k hlt
      have HT : Hid (numL base most 0 (s.data.toList.take (k + 1)) = if base ≤ digitN s[k] ∨ most ≤ n * base + digitN s[k] then none else some (n * base + digitN s[k])) := Lib.hid (by
        rw [hts, numL_append, HN.out]
        simp only [Option.bind, numL])
      have HR : Hid (base ≤ digitN s[k] ∨ most ≤ n * base + digitN s[k] → numberL base most s.data.toList = none) := Lib.hid (fun h => by
        have hne : s.data.toList ≠ [] := fun e => by
          have h0 := congrArg List.length e
          rw [Array.length_toList, ByteArray.size_data] at h0
          simp only [List.length_nil] at h0
          omega
        rw [numberL, if_neg hne]
        have e : s.data.toList = s.data.toList.take (k + 1) ++ s.data.toList.drop (k + 1) := (List.take_append_drop _ _).symm
        rw [e, numL_append, HT.out, if_pos h]; rfl)
      clear hts
      have hD : digitN s[k] = if 65 ≤ s[k].toNat ∧ s[k].toNat ≤ 70 then s[k].toNat - 55 else if 97 ≤ s[k].toNat ∧ s[k].toNat ≤ 102 then s[k].toNat - 87 else if 48 ≤ s[k].toNat ∧ s[k].toNat ≤ 57 then s[k].toNat - 48 else 99 := rfl
      have c1 : s[k].toNat < 256 := s[k].toNat_lt
      have hix := index_byte s k hlt _ rfl
      generalize digitN s[k] = D at *
      generalize s[k].toNat = c at *
      have hmul : n * base ≤ 65536 * 16 := Nat.mul_le_mul (by omega) hb
      have hmi : ((n * base : Nat) : Int) = (n : Int) * base := by push_cast; rfl
      have m0 : (0 : Int) ≤ (n : Int) * base := by rw [← hmi]; omega
      have m1 : (n : Int) * base ≤ 1048576 := by rw [← hmi]; omega
      rcases (show c < 48 ∨ (48 ≤ c ∧ c ≤ 57) ∨ (58 ≤ c ∧ c ≤ 64) ∨ (65 ≤ c ∧ c ≤ 70) ∨ (71 ≤ c ∧ c ≤ 96) ∨ (97 ≤ c ∧ c ≤ 102) ∨ 103 ≤ c by omega) with h | ⟨h, h'⟩ | ⟨h, h'⟩ | ⟨h, h'⟩ | ⟨h, h'⟩ | ⟨h, h'⟩ | h
      · have hv : D = 99 := by rw [hD]; (repeat' split) <;> omega
        have HV := Lib.hid hv
        have HMI := Lib.hid hmi
        clear hD hv hmi
        go_wp2_with fail
        all_goals first
          | (go_ret2; exact .mk (numV_none (HR.out (by have := HV.out; have := HMI.out; omega))) (Below.refl _ _))
          | (have hnf : ¬ (base ≤ D ∨ most ≤ n * base + D) := by (have := HV.out; have := HMI.out; omega)
             go_roundw
             case rel => exact ⟨k + 1, n * base + D, by omega, by go_num, val_int (by have := HV.out; have := HMI.out; omega), by omega, Lib.hid (by rw [HT.out, if_neg hnf]), trivial⟩
             case measure => simp [intOf]; omega)
      · have hv : D = c - 48 := by rw [hD]; (repeat' split) <;> omega
        have HV := Lib.hid hv
        have HMI := Lib.hid hmi
        clear hD hv hmi
        go_wp2_with fail
        all_goals first
          | (go_ret2; exact .mk (numV_none (HR.out (by have := HV.out; have := HMI.out; omega))) (Below.refl _ _))
          | (have hnf : ¬ (base ≤ D ∨ most ≤ n * base + D) := by (have := HV.out; have := HMI.out; omega)
             go_roundw
             case rel => exact ⟨k + 1, n * base + D, by omega, by go_num, val_int (by have := HV.out; have := HMI.out; omega), by omega, Lib.hid (by rw [HT.out, if_neg hnf]), trivial⟩
             case measure => simp [intOf]; omega)
      · have hv : D = 99 := by rw [hD]; (repeat' split) <;> omega
        have HV := Lib.hid hv
        have HMI := Lib.hid hmi
        clear hD hv hmi
        go_wp2_with fail
        all_goals first
          | (go_ret2; exact .mk (numV_none (HR.out (by have := HV.out; have := HMI.out; omega))) (Below.refl _ _))
          | (have hnf : ¬ (base ≤ D ∨ most ≤ n * base + D) := by (have := HV.out; have := HMI.out; omega)
             go_roundw
             case rel => exact ⟨k + 1, n * base + D, by omega, by go_num, val_int (by have := HV.out; have := HMI.out; omega), by omega, Lib.hid (by rw [HT.out, if_neg hnf]), trivial⟩
             case measure => simp [intOf]; omega)
      · have hv : D = c - 55 := by rw [hD]; (repeat' split) <;> omega
        have HV := Lib.hid hv
        have HMI := Lib.hid hmi
        clear hD hv hmi
        go_wp2_with fail
        all_goals first
          | (go_ret2; exact .mk (numV_none (HR.out (by have := HV.out; have := HMI.out; omega))) (Below.refl _ _))
          | (have hnf : ¬ (base ≤ D ∨ most ≤ n * base + D) := by (have := HV.out; have := HMI.out; omega)
             go_roundw
             case rel => exact ⟨k + 1, n * base + D, by omega, by go_num, val_int (by have := HV.out; have := HMI.out; omega), by omega, Lib.hid (by rw [HT.out, if_neg hnf]), trivial⟩
             case measure => simp [intOf]; omega)
      · have hv : D = 99 := by rw [hD]; (repeat' split) <;> omega
        have HV := Lib.hid hv
        have HMI := Lib.hid hmi
        clear hD hv hmi
        go_wp2_with fail
        all_goals first
          | (go_ret2; exact .mk (numV_none (HR.out (by have := HV.out; have := HMI.out; omega))) (Below.refl _ _))
          | (have hnf : ¬ (base ≤ D ∨ most ≤ n * base + D) := by (have := HV.out; have := HMI.out; omega)
             go_roundw
             case rel => exact ⟨k + 1, n * base + D, by omega, by go_num, val_int (by have := HV.out; have := HMI.out; omega), by omega, Lib.hid (by rw [HT.out, if_neg hnf]), trivial⟩
             case measure => simp [intOf]; omega)
      · have hv : D = c - 87 := by rw [hD]; (repeat' split) <;> omega
        have HV := Lib.hid hv
        have HMI := Lib.hid hmi
        clear hD hv hmi
        go_wp2_with fail
        all_goals first
          | (go_ret2; exact .mk (numV_none (HR.out (by have := HV.out; have := HMI.out; omega))) (Below.refl _ _))
          | (have hnf : ¬ (base ≤ D ∨ most ≤ n * base + D) := by (have := HV.out; have := HMI.out; omega)
             go_roundw
             case rel => exact ⟨k + 1, n * base + D, by omega, by go_num, val_int (by have := HV.out; have := HMI.out; omega), by omega, Lib.hid (by rw [HT.out, if_neg hnf]), trivial⟩
             case measure => simp [intOf]; omega)
      · have hv : D = 99 := by rw [hD]; (repeat' split) <;> omega
        have HV := Lib.hid hv
        have HMI := Lib.hid hmi
        clear hD hv hmi
        go_wp2_with fail
        all_goals first
          | (go_ret2; exact .mk (numV_none (HR.out (by have := HV.out; have := HMI.out; omega))) (Below.refl _ _))
          | (have hnf : ¬ (base ≤ D ∨ most ≤ n * base + D) := by (have := HV.out; have := HMI.out; omega)
             go_roundw
             case rel => exact ⟨k + 1, n * base + D, by omega, by go_num, val_int (by have := HV.out; have := HMI.out; omega), by omega, Lib.hid (by rw [HT.out, if_neg hnf]), trivial⟩
             case measure => simp [intOf]; omega)
    · obtain rfl : k = s.size := by omega
      have HF : Hid (s.data.toList.take s.size = s.data.toList) := Lib.hid (List.take_of_length_le (by rw [Array.length_toList, ByteArray.size_data]; exact Nat.le_refl _))
      go_wp2_with fail
      go_ret2
      refine .mk ?_ (Below.refl _ _)
      have hnum := HN.out
      rw [HF.out] at hnum
      by_cases h0 : s.data.toList = []
      · have hz : s.size = 0 := by
          have := congrArg List.length h0
          rwa [Array.length_toList, ByteArray.size_data] at this
        rw [h0] at hnum ⊢
        simp only [numL, Option.some.injEq] at hnum
        subst hnum
        simp [numberL, numV, hz]
      · have hz : 0 < s.size := by
          rcases Nat.eq_zero_or_pos s.size with e | e
          · exact absurd (List.eq_nil_of_length_eq_zero (by rw [Array.length_toList, ByteArray.size_data]; exact e)) h0
          · exact e
        rw [numberL, if_neg h0, hnum]
        simp [numV, hz]
end Go.Proofs.YtcadpcppnllhnaaGreatDoor
end

/- Walks over texts: Digits, decimal. -/
section
set_option linter.unusedSimpArgs false
set_option linter.unusedVariables false
namespace Go.Proofs.YtcadpcppnllhnaaGreatDoor
open Go.RowKit

/-- A digit's sign. -/
def hexc (d : Nat) : UInt8 := if d < 10 then UInt8.ofNat (48 + d) else UInt8.ofNat (87 + d)
/-- The digits of a number to a base. -/
def digB (b u : Nat) : List UInt8 := if h : u < b ∨ b < 2 then [hexc u] else digB b (u / b) ++ [hexc (u % b)]
termination_by u
decreasing_by exact Nat.div_lt_self (by omega) (by omega)
theorem digB_ten : ∀ (k u : Nat), u ≤ k → digB 10 u = Lib.decDigits u
  | 0, u, h => by
    obtain rfl : u = 0 := by omega
    rw [digB, dif_pos (by omega), Lib.decDigits, dif_pos (by omega)]; rfl
  | k + 1, u, h => by
    rw [digB, Lib.decDigits]
    by_cases hu : u < 10
    · rw [dif_pos (.inl hu), dif_pos hu, hexc, if_pos hu]
    · rw [dif_neg (by omega), dif_neg hu, digB_ten k (u / 10) (by omega), hexc, if_pos (by omega)]

theorem toList_data8 (s : ByteArray) : s.toList = s.data.toList := ByteArray.toList_eq s
theorem digB_len (b : Nat) : ∀ (k u : Nat), u ≤ k → (digB b u).length ≤ u + 1
  | 0, u, h => by
    obtain rfl : u = 0 := by omega
    rw [digB]; split
    · simp
    · rename_i h'; simp only [not_or, Nat.not_lt] at h'; omega
  | k + 1, u, h => by
    rw [digB]; split
    · simp
    · rename_i h'
      simp only [not_or, Nat.not_lt] at h'
      have hlt : u / b < u := Nat.div_lt_self (by omega) (by omega)
      have := digB_len b k (u / b) (by omega)
      rw [List.length_append, List.length_singleton]
      omega
theorem concat_small (a b : List UInt8) (ha : a.length ≤ 100000) (hb : b.length ≤ 100000) (w : World) : (binOp .add 9 (.string ⟨a.toArray⟩) (.string ⟨b.toArray⟩)).run Tryz.prog w = .ok (.string ⟨(a ++ b).toArray⟩) w := by
  have e : (⟨a.toArray⟩ : ByteArray) ++ ⟨b.toArray⟩ = ⟨(a ++ b).toArray⟩ := by
    apply ByteArray.ext
    simp
  have h := run_string_add_sum (P := Tryz.prog) w ⟨a.toArray⟩ ⟨b.toArray⟩ (by simp [ByteArray.size]; omega)
  rw [e] at h
  simpa [binOp] using h
theorem slice_digit0 (w : World) : (Instr.slice 9 (.string ⟨#[48, 49, 50, 51, 52, 53, 54, 55, 56, 57, 97, 98, 99, 100, 101, 102]⟩) (some (.int .i64 ((0 : Nat) : Int))) (some (.int .i64 (((0 : Nat) : Int) + 1))) none).run Tryz.prog w = .ok (.string ⟨#[hexc 0]⟩) w := by kernel_rfl
theorem slice_digit1 (w : World) : (Instr.slice 9 (.string ⟨#[48, 49, 50, 51, 52, 53, 54, 55, 56, 57, 97, 98, 99, 100, 101, 102]⟩) (some (.int .i64 ((1 : Nat) : Int))) (some (.int .i64 (((1 : Nat) : Int) + 1))) none).run Tryz.prog w = .ok (.string ⟨#[hexc 1]⟩) w := by kernel_rfl
theorem slice_digit2 (w : World) : (Instr.slice 9 (.string ⟨#[48, 49, 50, 51, 52, 53, 54, 55, 56, 57, 97, 98, 99, 100, 101, 102]⟩) (some (.int .i64 ((2 : Nat) : Int))) (some (.int .i64 (((2 : Nat) : Int) + 1))) none).run Tryz.prog w = .ok (.string ⟨#[hexc 2]⟩) w := by kernel_rfl
theorem slice_digit3 (w : World) : (Instr.slice 9 (.string ⟨#[48, 49, 50, 51, 52, 53, 54, 55, 56, 57, 97, 98, 99, 100, 101, 102]⟩) (some (.int .i64 ((3 : Nat) : Int))) (some (.int .i64 (((3 : Nat) : Int) + 1))) none).run Tryz.prog w = .ok (.string ⟨#[hexc 3]⟩) w := by kernel_rfl
theorem slice_digit4 (w : World) : (Instr.slice 9 (.string ⟨#[48, 49, 50, 51, 52, 53, 54, 55, 56, 57, 97, 98, 99, 100, 101, 102]⟩) (some (.int .i64 ((4 : Nat) : Int))) (some (.int .i64 (((4 : Nat) : Int) + 1))) none).run Tryz.prog w = .ok (.string ⟨#[hexc 4]⟩) w := by kernel_rfl
theorem slice_digit5 (w : World) : (Instr.slice 9 (.string ⟨#[48, 49, 50, 51, 52, 53, 54, 55, 56, 57, 97, 98, 99, 100, 101, 102]⟩) (some (.int .i64 ((5 : Nat) : Int))) (some (.int .i64 (((5 : Nat) : Int) + 1))) none).run Tryz.prog w = .ok (.string ⟨#[hexc 5]⟩) w := by kernel_rfl
theorem slice_digit6 (w : World) : (Instr.slice 9 (.string ⟨#[48, 49, 50, 51, 52, 53, 54, 55, 56, 57, 97, 98, 99, 100, 101, 102]⟩) (some (.int .i64 ((6 : Nat) : Int))) (some (.int .i64 (((6 : Nat) : Int) + 1))) none).run Tryz.prog w = .ok (.string ⟨#[hexc 6]⟩) w := by kernel_rfl
theorem slice_digit7 (w : World) : (Instr.slice 9 (.string ⟨#[48, 49, 50, 51, 52, 53, 54, 55, 56, 57, 97, 98, 99, 100, 101, 102]⟩) (some (.int .i64 ((7 : Nat) : Int))) (some (.int .i64 (((7 : Nat) : Int) + 1))) none).run Tryz.prog w = .ok (.string ⟨#[hexc 7]⟩) w := by kernel_rfl
theorem slice_digit8 (w : World) : (Instr.slice 9 (.string ⟨#[48, 49, 50, 51, 52, 53, 54, 55, 56, 57, 97, 98, 99, 100, 101, 102]⟩) (some (.int .i64 ((8 : Nat) : Int))) (some (.int .i64 (((8 : Nat) : Int) + 1))) none).run Tryz.prog w = .ok (.string ⟨#[hexc 8]⟩) w := by kernel_rfl
theorem slice_digit9 (w : World) : (Instr.slice 9 (.string ⟨#[48, 49, 50, 51, 52, 53, 54, 55, 56, 57, 97, 98, 99, 100, 101, 102]⟩) (some (.int .i64 ((9 : Nat) : Int))) (some (.int .i64 (((9 : Nat) : Int) + 1))) none).run Tryz.prog w = .ok (.string ⟨#[hexc 9]⟩) w := by kernel_rfl
theorem slice_digit10 (w : World) : (Instr.slice 9 (.string ⟨#[48, 49, 50, 51, 52, 53, 54, 55, 56, 57, 97, 98, 99, 100, 101, 102]⟩) (some (.int .i64 ((10 : Nat) : Int))) (some (.int .i64 (((10 : Nat) : Int) + 1))) none).run Tryz.prog w = .ok (.string ⟨#[hexc 10]⟩) w := by kernel_rfl
theorem slice_digit11 (w : World) : (Instr.slice 9 (.string ⟨#[48, 49, 50, 51, 52, 53, 54, 55, 56, 57, 97, 98, 99, 100, 101, 102]⟩) (some (.int .i64 ((11 : Nat) : Int))) (some (.int .i64 (((11 : Nat) : Int) + 1))) none).run Tryz.prog w = .ok (.string ⟨#[hexc 11]⟩) w := by kernel_rfl
theorem slice_digit12 (w : World) : (Instr.slice 9 (.string ⟨#[48, 49, 50, 51, 52, 53, 54, 55, 56, 57, 97, 98, 99, 100, 101, 102]⟩) (some (.int .i64 ((12 : Nat) : Int))) (some (.int .i64 (((12 : Nat) : Int) + 1))) none).run Tryz.prog w = .ok (.string ⟨#[hexc 12]⟩) w := by kernel_rfl
theorem slice_digit13 (w : World) : (Instr.slice 9 (.string ⟨#[48, 49, 50, 51, 52, 53, 54, 55, 56, 57, 97, 98, 99, 100, 101, 102]⟩) (some (.int .i64 ((13 : Nat) : Int))) (some (.int .i64 (((13 : Nat) : Int) + 1))) none).run Tryz.prog w = .ok (.string ⟨#[hexc 13]⟩) w := by kernel_rfl
theorem slice_digit14 (w : World) : (Instr.slice 9 (.string ⟨#[48, 49, 50, 51, 52, 53, 54, 55, 56, 57, 97, 98, 99, 100, 101, 102]⟩) (some (.int .i64 ((14 : Nat) : Int))) (some (.int .i64 (((14 : Nat) : Int) + 1))) none).run Tryz.prog w = .ok (.string ⟨#[hexc 14]⟩) w := by kernel_rfl
theorem slice_digit15 (w : World) : (Instr.slice 9 (.string ⟨#[48, 49, 50, 51, 52, 53, 54, 55, 56, 57, 97, 98, 99, 100, 101, 102]⟩) (some (.int .i64 ((15 : Nat) : Int))) (some (.int .i64 (((15 : Nat) : Int) + 1))) none).run Tryz.prog w = .ok (.string ⟨#[hexc 15]⟩) w := by kernel_rfl
theorem slice_digit (d : Nat) (h : d < 16) (w : World) : (Instr.slice 9 (.string ⟨#[48, 49, 50, 51, 52, 53, 54, 55, 56, 57, 97, 98, 99, 100, 101, 102]⟩) (some (.int .i64 (d : Int))) (some (.int .i64 ((d : Int) + 1))) none).run Tryz.prog w = .ok (.string ⟨#[hexc d]⟩) w := by
  have : d = 0 ∨ d = 1 ∨ d = 2 ∨ d = 3 ∨ d = 4 ∨ d = 5 ∨ d = 6 ∨ d = 7 ∨ d = 8 ∨ d = 9 ∨ d = 10 ∨ d = 11 ∨ d = 12 ∨ d = 13 ∨ d = 14 ∨ d = 15 := by omega
  rcases this with rfl | rfl | rfl | rfl | rfl | rfl | rfl | rfl | rfl | rfl | rfl | rfl | rfl | rfl | rfl | rfl
  · exact slice_digit0 w
  · exact slice_digit1 w
  · exact slice_digit2 w
  · exact slice_digit3 w
  · exact slice_digit4 w
  · exact slice_digit5 w
  · exact slice_digit6 w
  · exact slice_digit7 w
  · exact slice_digit8 w
  · exact slice_digit9 w
  · exact slice_digit10 w
  · exact slice_digit11 w
  · exact slice_digit12 w
  · exact slice_digit13 w
  · exact slice_digit14 w
  · exact slice_digit15 w
theorem val_string {a b : ByteArray} (h : a = b) : Value.string a = .string b := by rw [h]
theorem bytes_append (l r : List UInt8) : (⟨l.toArray⟩ : ByteArray) ++ ⟨r.toArray⟩ = ⟨(l ++ r).toArray⟩ := by
  apply ByteArray.ext
  simp

set_option maxHeartbeats 1000000 in
theorem digits10_any (k : Nat) : ∀ (m : Int) (w : World), 0 ≤ m → m < 65536 → m ≤ k → Calls Tryz.prog 11 #[.int .i64 m, .int .i64 10] w (RetAt w (.string ⟨(digB 10 m.toNat).toArray⟩)) := by
  induction k with
  | zero =>
    intro m w h0 h1 hk
    obtain rfl : m = 0 := by omega
    have hsl := slice_digit 0 (by decide)
    go_enter Tryz.func11, Tryz.ntmps11
    go_wp2_with fail
    go_ret
    exact .mk (val_string (by decide +kernel)) (Below.refl _ _)
  | succ k ih =>
    intro m w h0 h1 hk
    by_cases hm : m < 10
    · obtain ⟨d, rfl⟩ : ∃ d : Nat, m = d := ⟨m.toNat, by omega⟩
      have hsl := slice_digit d (by omega)
      clear ih
      go_enter Tryz.func11, Tryz.ntmps11
      go_wp2_with fail
      go_ret
      refine .mk (val_string ?_) (Below.refl _ _)
      rw [Int.toNat_natCast, digB, dif_pos (by omega)]
    · have IH := Lib.hid ih
      have q1 : m.tdiv 10 = m / 10 := Int.tdiv_eq_ediv_of_nonneg h0
      have q2 : m.tmod 10 = m % 10 := Int.tmod_eq_emod_of_nonneg h0
      have q3 : IntKind.i64.wrap (m / 10) = m / 10 := IntWalk.i64_in _ (by omega)
      have q4 : IntKind.i64.wrap (m % 10) = m % 10 := IntWalk.i64_in _ (by omega)
      have hl1 : (digB 10 (m / 10).toNat).length ≤ 100000 := by have := digB_len 10 _ _ (Nat.le_refl (m / 10).toNat); omega
      have hl2 : (digB 10 (m % 10).toNat).length ≤ 100000 := by have := digB_len 10 _ _ (Nat.le_refl (m % 10).toNat); omega
      have hl3 : (digB 10 (m / 10).toNat).length + (digB 10 (m % 10).toNat).length ≤ 9223372036854775807 := by omega
      have hl4 : ((digB 10 (m / 10).toNat).length : Int) + ((digB 10 (m % 10).toNat).length : Int) ≤ 9223372036854775807 := by omega
      have hcat := concat_small (digB 10 (m / 10).toNat) (digB 10 (m % 10).toNat) (by have := digB_len 10 _ _ (Nat.le_refl (m / 10).toNat); omega) (by have := digB_len 10 _ _ (Nat.le_refl (m % 10).toNat); omega)
      clear ih
      go_enter Tryz.func11, Tryz.ntmps11
      go_wp2_with fail
      refine wp_region_later (by kernel_rfl) (by kernel_rfl) ?_
      iterate 4 go_big_quiet_step (fail)
      go_big_quiet_step ((go_at_call 11; exact later_call (IH.out (m / 10) _ (by omega) (by omega) (by omega))))
      iterate 4 go_big_quiet_step (fail)
      go_big_quiet_step ((go_at_call 11; exact later_call (IH.out (m % 10) _ (by omega) (by omega) (by omega))))
      repeat go_big_quiet_step (fail)
      refine wpQuiet_nil ?_
      intro x
      go_wp2_with fail
      go_ret
      refine .mk (val_string ?_) x.below
      have e1 : m.toNat / 10 = (m / 10).toNat := by omega
      have e2 : m.toNat % 10 = (m % 10).toNat := by omega
      rw [digB.eq_def 10 m.toNat, dif_neg (by omega), e1, e2, digB.eq_def 10 (m % 10).toNat, dif_pos (by omega)]
      exact bytes_append _ [_]

/-- The program's decimal number: the number, and whether the text is just its digits. -/
def DecPost (w : World) (most : Nat) (l : List UInt8) : Ending → World → Prop := fun e w' => ∃ (n : Int) (ok : Bool), e = .returned (.tuple #[.int .i64 n, .bool ok]) ∧ -9223372036854775808 ≤ n ∧ n ≤ 9223372036854775807 ∧ ((ok = true ∧ 0 ≤ n ∧ decL most l = some n.toNat) ∨ (ok = false ∧ decL most l = none)) ∧ Below w.heap.size w w'

theorem bytesWorld_below (w : World) (s : ByteArray) : Below w.heap.size w (Lib.bytesWorld w 5 s) := by
  exact Joins.below_bytesWorld _ _ _ _ (Nat.le_refl _)

theorem DecPost.no {w w' : World} {most : Nat} {l : List UInt8} {n : Int} {b : Bool} (h : decL most l = none) (hb : b = false) (h1 : -9223372036854775808 ≤ n) (h2 : n ≤ 9223372036854775807) (hw : Below w.heap.size w w') : DecPost w most l (.returned (.tuple #[.int .i64 n, .bool b])) w' :=
  ⟨n, b, rfl, h1, h2, .inr ⟨hb, h⟩, hw⟩
theorem atoiSat_bd (l : List UInt8) : -9223372036854775808 ≤ Lib.atoiSat l ∧ Lib.atoiSat l ≤ 9223372036854775807 := by
  unfold Lib.atoiSat; split <;> decide

set_option maxHeartbeats 2000000 in
theorem decimal_any (s : ByteArray) (most : Nat) (hmost : most ≤ 1000000) (hs : s.size ≤ 1000) (w : World) (henv : Env w) : Calls Tryz.prog 52 #[.string s, .int .i64 most] w (DecPost w most s.data.toList) := by
  have hd := decL_atoi most hmost s.data.toList
  have HE := Lib.hid henv
  clear henv
  cases hv : Lib.atoiAll s.data.toList with
  | ok v =>
    rw [hv] at hd
    simp only at hd
    have hat := Lib.hid (fun w => Tryz.strconv_Atoi_ok s (by omega) v hv w)
    have hvb : -9223372036854775808 ≤ v ∧ v ≤ 9223372036854775807 := Lib.atoiAll_bounds hv
    clear hv
    by_cases h0 : 0 ≤ v
    · by_cases h1 : v < most
      · have HD := Lib.hid hd
        clear hd
        go_enter Tryz.func52, Tryz.ntmps52
        go_wp2_with fail
        refine Calls.mono (hat.out w) ?_
        rintro e w1 ⟨rfl, hw⟩
        have hb : Below w.heap.size w w1 := by
          rcases hw with rfl | ⟨t, rfl⟩
          · exact Below.refl _ _
          · exact bytesWorld_below _ _
        clear hw
        go_wp2_with fail
        refine Calls.mono (Tryz.strconv_Itoa v hvb.1 hvb.2 w1 (HE.out.below hb).tab) ?_
        rintro e w2 ⟨rfl, hw⟩
        have hb2 : Below w.heap.size w w2 := by
          obtain ⟨k, os, rfl⟩ := hw
          exact hb.trans (Lib.below_grow _ _ hb.size _ _)
        clear hw
        go_wp2_with fail
        go_ret2
        refine ⟨v, _, rfl, hvb.1, hvb.2, ?_, hb2⟩
        have hdd := HD.out
        by_cases h2 : Lib.itoa v = s.data.toList
        · rw [if_pos ⟨h0, h1, h2⟩] at hdd
          refine .inl ⟨?_, h0, hdd⟩
          have h3 : Lib.itoa v = s.toList := by rw [h2, toList_data8]
          simp [h3]
        · rw [if_neg (by simp [h2])] at hdd
          refine .inr ⟨?_, hdd⟩
          have h3 : ¬ Lib.itoa v = s.toList := fun e => h2 (by rw [e, toList_data8])
          simpa using h3
      · have hn : decL most s.data.toList = none := by rw [hd, if_neg (by omega)]
        have HD := Lib.hid hn
        clear hd hn
        go_enter Tryz.func52, Tryz.ntmps52
        go_wp2_with fail
        refine Calls.mono (hat.out w) ?_
        rintro e w1 ⟨rfl, hw⟩
        have hb : Below w.heap.size w w1 := by
          rcases hw with rfl | ⟨t, rfl⟩
          · exact Below.refl _ _
          · exact bytesWorld_below _ _
        clear hw
        go_wp2_with fail
        go_ret2
        exact .no HD.out rfl hvb.1 hvb.2 hb
    · have hn : decL most s.data.toList = none := by rw [hd, if_neg (by omega)]
      have HD := Lib.hid hn
      clear hd hn
      go_enter Tryz.func52, Tryz.ntmps52
      go_wp2_with fail
      refine Calls.mono (hat.out w) ?_
      rintro e w1 ⟨rfl, hw⟩
      have hb : Below w.heap.size w w1 := by
        rcases hw with rfl | ⟨t, rfl⟩
        · exact Below.refl _ _
        · exact bytesWorld_below _ _
      clear hw
      go_wp2_with fail
      go_ret2
      exact .no HD.out rfl hvb.1 hvb.2 hb
  | range =>
    rw [hv] at hd
    obtain ⟨te, pe, hev⟩ := HE.out.rng
    have hat := Lib.hid (Tryz.strconv_Atoi_range s (by omega) hv _ w hev (.inr ⟨te, pe, rfl⟩))
    have HD := Lib.hid hd
    have hsb := atoiSat_bd s.data.toList
    clear hd hv hev
    generalize Lib.atoiSat s.data.toList = sat at *
    go_enter Tryz.func52, Tryz.ntmps52
    go_wp2_with fail
    refine Calls.mono hat.out ?_
    rintro e w1 ⟨N, rfl, -, -, hb⟩
    go_wp2_with fail
    go_ret2
    exact .no HD.out rfl hsb.1 hsb.2 hb
  | _ =>
    rw [hv] at hd
    obtain ⟨te, pe, hev⟩ := HE.out.syn
    have hat := Lib.hid (Tryz.strconv_Atoi_syntax s (by omega) hv _ w hev (.inr ⟨te, pe, rfl⟩))
    have HD := Lib.hid hd
    clear hd hv hev
    go_enter Tryz.func52, Tryz.ntmps52
    go_wp2_with fail
    refine Calls.mono hat.out ?_
    rintro e w1 ⟨N, rfl, -, -, hb⟩
    go_wp2_with fail
    go_ret2
    exact .no HD.out rfl (by decide) (by decide) hb
end Go.Proofs.YtcadpcppnllhnaaGreatDoor
end

/- Walks over texts: strconv.FormatUint at base 16. -/
section
set_option linter.unusedSimpArgs false
set_option linter.unusedVariables false
namespace Go.Proofs.YtcadpcppnllhnaaGreatDoor
open Go.RowKit

theorem strOfNums_map8 (l : List UInt8) : strOfNums (l.map fun b => (b.toNat : Int)) = ⟨l.toArray⟩ := by
  have h : ((fun n : Int => UInt8.ofNat n.toNat) ∘ fun b : UInt8 => (b.toNat : Int)) = id := by funext b; simp
  simp [strOfNums, h]
theorem drop_set_self {α : Type} (xs : List α) (j : Nat) (h : j < xs.length) (v : α) : (xs.set j v).drop j = v :: xs.drop (j + 1) := by
  rw [List.drop_eq_getElem_cons (by simpa using h), List.getElem_set_self, List.drop_set_of_lt (by omega)]
theorem digB_more (b u : Nat) (hb : 2 ≤ b) (h : b ≤ u) : digB b u = digB b (u / b) ++ [hexc (u % b)] := by
  rw [digB, dif_neg (by omega)]
theorem digB_last (b u : Nat) (h : u < b) : digB b u = [hexc u] := by
  rw [digB, dif_pos (by omega)]
/-- A digit's sign, read out of the library's row of digits. -/
theorem index_dig (d : Nat) (h : d < 16) (w : World) :
    (Instr.index 9 (.string ⟨#[48, 49, 50, 51, 52, 53, 54, 55, 56, 57, 97, 98, 99, 100, 101, 102, 103, 104, 105, 106, 107, 108, 109, 110, 111, 112, 113, 114, 115, 116, 117, 118, 119, 120, 121, 122]⟩) (.int .u64 (d : Int))).run Tryz.prog w = .ok (.int .u8 ((hexc d).toNat : Int)) w := by
  rw [run_index_string w 9 _ .u64 d Tryz.underlying9, dif_pos (by
    have : (ByteArray.size ⟨#[48, 49, 50, 51, 52, 53, 54, 55, 56, 57, 97, 98, 99, 100, 101, 102, 103, 104, 105, 106, 107, 108, 109, 110, 111, 112, 113, 114, 115, 116, 117, 118, 119, 120, 121, 122]⟩) = 36 := rfl
    omega)]
  have hd : d = 0 ∨ d = 1 ∨ d = 2 ∨ d = 3 ∨ d = 4 ∨ d = 5 ∨ d = 6 ∨ d = 7 ∨ d = 8 ∨ d = 9 ∨ d = 10 ∨ d = 11 ∨ d = 12 ∨ d = 13 ∨ d = 14 ∨ d = 15 := by omega
  rcases hd with rfl | rfl | rfl | rfl | rfl | rfl | rfl | rfl | rfl | rfl | rfl | rfl | rfl | rfl | rfl | rfl <;> rfl
theorem dig_get (d : Nat) (h : d < 16) (h' : d < (ByteArray.size ⟨#[48, 49, 50, 51, 52, 53, 54, 55, 56, 57, 97, 98, 99, 100, 101, 102, 103, 104, 105, 106, 107, 108, 109, 110, 111, 112, 113, 114, 115, 116, 117, 118, 119, 120, 121, 122]⟩)) :
    (⟨#[48, 49, 50, 51, 52, 53, 54, 55, 56, 57, 97, 98, 99, 100, 101, 102, 103, 104, 105, 106, 107, 108, 109, 110, 111, 112, 113, 114, 115, 116, 117, 118, 119, 120, 121, 122]⟩ : ByteArray)[d] = hexc d := by
  have hd : d = 0 ∨ d = 1 ∨ d = 2 ∨ d = 3 ∨ d = 4 ∨ d = 5 ∨ d = 6 ∨ d = 7 ∨ d = 8 ∨ d = 9 ∨ d = 10 ∨ d = 11 ∨ d = 12 ∨ d = 13 ∨ d = 14 ∨ d = 15 := by omega
  rcases hd with rfl | rfl | rfl | rfl | rfl | rfl | rfl | rfl | rfl | rfl | rfl | rfl | rfl | rfl | rfl | rfl <;> rfl

/-- The state of the digits' row: k of them stand at its end. -/
def DigSt (w0 w : World) (k : Nat) (l : List UInt8) : Prop := ∃ xs, Owns w w0.heap.size 1 (some ⟨w0.heap.size, 0, none⟩) 65 65 xs ∧ l.length = k ∧ xs.drop (65 - k) = l.map fun (c : UInt8) => Value.int .u8 (c.toNat : Int)
theorem DigSt.more {w0 w : World} {k : Nat} {l : List UInt8} (h : DigSt w0 w k l) (j : Nat) (hj : j + 1 + k = 65) (c : UInt8) : DigSt w0 (w.setCell ⟨w0.heap.size, j, none⟩ (.int .u8 (c.toNat : Int))) (k + 1) (c :: l) := by
  obtain ⟨xs, ho, hl, hd⟩ := h
  have hlen : xs.length = 65 := by have := ho.len; omega
  refine ⟨xs.set j (.int .u8 (c.toNat : Int)), ?_, by rw [List.length_cons, hl], ?_⟩
  · have := ho.set j (by omega) (.int .u8 (c.toNat : Int))
    rwa [Nat.zero_add] at this
  · rw [show 65 - (k + 1) = j by omega, drop_set_self xs j (by omega), show j + 1 = 65 - k by omega, hd]; rfl
theorem DigSt.cell {w0 w : World} {k : Nat} {l : List UInt8} (h : DigSt w0 w k l) (j : Nat) (hj : j < 65) : (∃ u, w.cell? ⟨w0.heap.size, j, none⟩ = some u) ∧ w.frozen? ⟨w0.heap.size, j, none⟩ = false := by
  obtain ⟨xs, ho, hl, hd⟩ := h
  obtain ⟨g, off, e, hb, hg, hc, ht⟩ := ho.here (by omega)
  cases e
  obtain ⟨h1, h2⟩ := ht j (by omega)
  rw [Nat.zero_add] at h1 h2
  exact ⟨Option.isSome_iff_exists.1 h1, h2⟩
theorem DigSt.reads {w0 w : World} {k : Nat} {l : List UInt8} (h : DigSt w0 w k l) (hk : k ≤ 65) (hk0 : 0 < k) : Reads w (some ⟨w0.heap.size, 65 - k, none⟩) k k (l.map fun c => (c.toNat : Int)) := by
  obtain ⟨xs, ho, hl, hd⟩ := h
  have hlen : xs.length = 65 := by have := ho.len; omega
  obtain ⟨g, off, e, hb, hg, hc, ht⟩ := ho.here (by omega)
  cases e
  refine ⟨by rw [List.length_map, hl], Nat.le_refl _, by unfold maxLen; omega, ?_, .inr ⟨_, _, rfl, hg, fun j hj => ?_⟩⟩
  · intro v hv
    obtain ⟨c, -, rfl⟩ := List.mem_map.1 hv
    have := c.toNat_lt
    omega
  · have := hc (65 - k + j) (xs[65 - k + j]'(by omega)) (by simp)
    rw [Nat.zero_add] at this
    rw [this]
    have h2 : (xs.drop (65 - k))[j]? = (l.map fun (c : UInt8) => Value.int .u8 (c.toNat : Int))[j]? := by rw [hd]
    rw [List.getElem?_drop, List.getElem?_eq_getElem (by omega), List.getElem?_map, List.getElem?_eq_getElem (by omega)] at h2
    rw [Option.some.inj h2, getD_map_default _ _ (by simpa [hl] using hj)]
    rw [List.getElem_map]

theorem zero133 : Tryz.zeroCells128.toList.take 65 = List.replicate 65 (.int .u8 0) := by kernel_rfl
theorem zero133s : Tryz.zeroCells128.size = 65 := by kernel_rfl

set_option maxRecDepth 20000 in
set_option maxHeartbeats 8000000 in
theorem fbits_16 (u : Nat) (hu : u < 65536) (w : World) (hb : w.cell? ⟨5, 15, none⟩ = some (.int .u8 4)) :
    Calls Tryz.prog 75 #[.slice none 0 0, .int .u64 (u : Int), .int .i64 16, .bool false, .bool false] w (RetAt w (.tuple #[.slice none 0 0, .string ⟨(digB 16 u).toArray⟩])) := by
  have HB := Lib.hid hb
  have HW0 : Hid (Below w.heap.size w (w.alloc (.cells Tryz.zeroCells128 128))) := Lib.hid (Below.all (Below.refl _ _) _)
  have HS0 : Hid (DigSt w (w.alloc (.cells Tryz.zeroCells128 128)) 0 []) := Lib.hid ⟨List.replicate 65 (.int .u8 0), Owns.made _ 65 65 _ _ (Nat.le_refl _) (by rw [zero133s]; decide) (Nat.le_refl _) (by decide) (by rw [Nat.mul_one]; exact zero133), rfl, by simp⟩
  clear hb
  go_enter Tryz.func75, Tryz.ntmps75
  go_wp2_with fail
  refine Calls.mono (p2_16 _) ?_
  rintro e w2 ⟨rfl, rfl⟩
  go_wp2_with fail
  generalize w.alloc (.cells Tryz.zeroCells128 128) = w1 at *
  refine Calls.mono (tz_16 _ ((HW0.out.cell (World.block_lt_of_cell? w _ HB.out)).trans HB.out)) ?_
  rintro e w2 ⟨rfl, rfl⟩
  go_wp2_with fail
  go_loopw [1, 13] (fun u1 u13 wr => ∃ (v i k : Nat) (l : List UInt8), u1 = .int .u64 v ∧ u13 = .int .i64 i ∧ i + k = 65 ∧ ((k = 0 ∧ v < 65536) ∨ (k = 1 ∧ v < 4096) ∨ (k = 2 ∧ v < 256) ∨ (k = 3 ∧ v < 16)) ∧ Hid (digB 16 u = digB 16 v ++ l) ∧ Hid (DigSt w wr k l) ∧ Hid (Below w.heap.size w wr)) (fun u1 _ _ => intOf u1 |>.toNat)
  case atStart => exact ⟨u, 65, 0, [], rfl, rfl, rfl, .inl ⟨rfl, hu⟩, Lib.hid (by simp), HS0, HW0⟩
  case round =>
    obtain ⟨v, i, k, l, rfl, rfl, hik, hkv, HD, HS, HW⟩ := hrel
    obtain ⟨j, rfl⟩ : ∃ j, i = j + 1 := ⟨i - 1, by omega⟩
    obtain ⟨⟨c0, hc0⟩, hf0⟩ := HS.out.cell j (by omega)
    by_cases hlt : 16 ≤ v
    · have hand : bits BinOp.and IntKind.u64 (v : Int) 15 = ((v % 16 : Nat) : Int) := by
        rw [show (15 : Int) = ((15 : Nat) : Int) from rfl, u64_and_nat v 15 (by omega) (by decide), show 15 = 2 ^ 4 - 1 from rfl, Nat.and_two_pow_sub_one_eq_mod]
      have HD2 := Lib.hid (digB_more 16 v (by decide) hlt)
      go_wp2_with fail
      rw [dig_get _ (Nat.mod_lt _ (by decide))]
      go_roundw
      case rel => exact ⟨v / 16, j, k + 1, hexc (v % 16) :: l, by go_num, rfl, by omega, by omega, Lib.hid (by rw [HD.out, HD2.out, List.append_assoc]; rfl), Lib.hid (HS.out.more j hik _), Lib.hid (HW.out.setCell (Nat.le_refl _) _)⟩
      case measure => simp [intOf]; omega
    · have hv16 : v < 16 := by omega
      have HD2 := Lib.hid (digB_last 16 v hv16)
      have hj1 : (j : Int) ≤ 65 := by omega
      have hj2 : ¬ (65 = j) := by omega
      go_wp2_with fail
      rw [dig_get _ hv16]
      have hR := (HS.out.more j hik (hexc v)).reads (by omega) (by omega)
      have hcv := run_string_reads (P := Tryz.prog) 29 5 Tryz.underlying29 Tryz.underlying5 hR 9 Tryz.underlying9
      rw [strOfNums_map8, show 65 - (k + 1) = j by omega, show k + 1 = 65 - j by omega] at hcv
      have HWE := Lib.hid (show Below w.heap.size w (wr.setCell ⟨w.heap.size, j, none⟩ (.int .u8 ((hexc v).toNat : Int))) from HW.out.setCell (Nat.le_refl _) _)
      have HE : Hid (hexc v :: l = digB 16 u) := Lib.hid (by rw [HD.out, HD2.out]; rfl)
      rw [hcv]
      clear hR hcv
      go_wp2_with fail
      go_ret2
      exact .mk (by rw [← HE.out]; rfl) HWE.out

set_option maxRecDepth 20000 in
set_option maxHeartbeats 8000000 in
theorem ifmt_16 (u : Nat) (hu : u < 65536) (w : World) (hb : w.cell? ⟨5, 15, none⟩ = some (.int .u8 4)) :
    Calls Tryz.prog 62 #[.int .u64 (u : Int), .int .i64 16] w (RetAt w (.string ⟨(digB 16 u).toArray⟩)) := by
  go_enter Tryz.func62, Tryz.ntmps62
  go_wp2_with fail
  refine Calls.later (fbits_16 u hu w hb) ?_
  intro x
  go_wp2_with fail
  go_ret
  exact .mk rfl (Below.lat (Below.refl _ _))

set_option maxRecDepth 20000 in
set_option maxHeartbeats 8000000 in
theorem fmt_16 (u : Nat) (hu : u < 65536) (w : World) (hb : Env w) :
    Calls Tryz.prog 43 #[.int .u64 (u : Int), .int .i64 16] w (RetAt w (.string ⟨(digB 16 u).toArray⟩)) := by
  have hbi := hb.bits
  clear hb
  go_enter Tryz.func43, Tryz.ntmps43
  go_wp2_with fail
  refine Calls.later (ifmt_16 u hu w hbi) ?_
  intro x
  go_wp2_with fail
  go_ret
  exact .mk rfl (Below.lat (Below.refl _ _))
end Go.Proofs.YtcadpcppnllhnaaGreatDoor
end

/- Walks over texts: Cuts; rows of strings. -/
section
set_option linter.unusedSimpArgs false
set_option linter.unusedVariables false
namespace Go.Proofs.YtcadpcppnllhnaaGreatDoor
open Go.RowKit

theorem cutsL_last (c : UInt8) (l : List UInt8) : ∃ I last, cutsL c l = I ++ [last] :=
  ⟨(cutsL c l).dropLast, (cutsL c l).getLast (cutsL_ne c l), (List.dropLast_concat_getLast (cutsL_ne c l)).symm⟩
theorem cutsL_snoc (c x : UInt8) : ∀ (l : List UInt8) (I : List (List UInt8)) (last : List UInt8), cutsL c l = I ++ [last] → cutsL c (l ++ [x]) = if x = c then I ++ [last] ++ [[]] else I ++ [last ++ [x]]
  | [], I, last, h => by
    have hI : I = [] ∧ last = [] := by
      cases I with
      | nil => simpa [cutsL] using h.symm
      | cons a t => simp [cutsL] at h
    obtain ⟨rfl, rfl⟩ := hI
    rw [List.nil_append, cutsL]
    split
    · simp [cutsL]
    · simp [cutsL]
  | y :: l, I, last, h => by
    rw [List.cons_append, cutsL]
    rw [cutsL] at h
    by_cases hy : y = c
    · rw [if_pos hy] at h ⊢
      cases I with
      | nil =>
        simp only [List.nil_append, List.cons.injEq] at h
        exact absurd h.2 (cutsL_ne c l)
      | cons a t =>
        simp only [List.cons_append, List.cons.injEq] at h
        rw [cutsL_snoc c x l t last h.2, ← h.1]
        split <;> rfl
    · rw [if_neg hy] at h ⊢
      cases hl : cutsL c l with
      | nil => exact absurd hl (cutsL_ne c l)
      | cons hd tl =>
        rw [hl] at h
        simp only at h
        cases I with
        | nil =>
          simp only [List.nil_append, List.cons.injEq] at h
          obtain ⟨rfl, rfl⟩ := h
          rw [cutsL_snoc c x l [] hd hl]
          by_cases hx : x = c <;> simp [hx]
        | cons a t =>
          simp only [List.cons_append, List.cons.injEq] at h
          obtain ⟨rfl, rfl⟩ := h
          rw [cutsL_snoc c x l (hd :: t) last (by rw [hl]; rfl)]
          by_cases hx : x = c <;> simp [hx]
theorem cutsL_len (c : UInt8) : ∀ (l : List UInt8), ∀ p ∈ cutsL c l, p.length ≤ l.length
  | [], p, h => by simp [cutsL] at h; simp [h]
  | x :: r, p, h => by
    rw [cutsL] at h
    split at h
    · rcases List.mem_cons.1 h with rfl | h
      · simp
      · have := cutsL_len c r p h; simp; omega
    · cases hr : cutsL c r with
      | nil => rw [hr] at h; simp only [List.mem_singleton] at h; subst h; simp
      | cons hd tl =>
        rw [hr] at h
        simp only at h
        have ih := cutsL_len c r
        rw [hr] at ih
        rcases List.mem_cons.1 h with rfl | h
        · have := ih hd (List.mem_cons_self ..); simp; omega
        · have := ih p (List.mem_cons_of_mem _ h); simp; omega
theorem cutsL_count (c : UInt8) : ∀ (l : List UInt8), (cutsL c l).length ≤ l.length + 1
  | [] => by simp [cutsL]
  | x :: r => by
    have ih := cutsL_count c r
    rw [cutsL]
    split
    · simp only [List.length_cons]; omega
    · cases hr : cutsL c r with
      | nil => simp
      | cons hd tl => rw [hr] at ih; simp only [List.length_cons] at ih ⊢; omega

def strV (l : List UInt8) : Value := .string ⟨l.toArray⟩
/-- A call that returns a row of strings of its own. -/
def NewStrings (w : World) (L : List (List UInt8)) : Ending → World → Prop := fun e w' =>
  ∃ oa cap, e = .returned (.slice oa L.length cap) ∧ Owns w' w.heap.size 1 oa L.length cap (L.map strV) ∧ Below w.heap.size w w'

theorem slice_one (s : ByteArray) (k : Nat) (h : k < s.size) (w : World) : (Instr.slice 9 (.string s) (some (.int .i64 (k : Int))) (some (.int .i64 ((k : Int) + 1))) none).run Tryz.prog w = .ok (.string ⟨[s[k]].toArray⟩) w := by
  have e : s.extract k (k + 1) = ⟨[s[k]].toArray⟩ := by
    apply WideShapes.bytes_inj
    rw [Lib.extract_data]
    have := drop_cons8 s k h
    rw [show k + 1 - k = 1 by omega, this]
    rfl
  rw [run_slice_string w 9 s .i64 .i64 (k : Int) ((k : Int) + 1) Tryz.underlying9 (by omega) (by omega) (by omega)]
  rw [show ((k : Int) + 1).toNat = k + 1 by omega, Int.toNat_natCast, e]
theorem info_str : (Tryz.prog.info? 9).map (fun i => (i.zero, i.size, i.bytes)) = some (some (.string ⟨#[]⟩), 1, 16) := by kernel_rfl

set_option maxHeartbeats 4000000 in
theorem cuts_any (s : ByteArray) (c : UInt8) (w : World) (hs : s.size ≤ 1000) : Calls Tryz.prog 49 #[.string s, .int .u8 (c.toNat : Int)] w (NewStrings w (cutsL c s.data.toList)) := by
  go_enter Tryz.func49, Tryz.ntmps49
  go_wp2_with fail
  go_loopw [5, 6] (fun u5 u6 wr => ∃ (k : Nat) (oa : Option Addr) (n cap : Nat) (L : List (List UInt8)), k ≤ s.size ∧ u6 = .int .i64 k ∧ u5 = .slice oa n cap ∧ Hid (n = L.length) ∧ Hid (cutsL c (s.data.toList.take k) = L) ∧ Hid (Owns wr w.heap.size 1 oa n cap (L.map strV)) ∧ Hid (Below w.heap.size w wr)) (fun _ u6 _ => (s.size : Int) - intOf u6 |>.toNat)
  case atStart =>
    exact ⟨0, _, 1, 1, [[]], Nat.zero_le _, rfl, rfl, Lib.hid rfl, Lib.hid rfl, Lib.hid (Owns.made _ 1 1 _ _ (Nat.le_refl _) (Nat.le_refl 1) (Nat.le_refl 1) (by decide) rfl), Lib.hid ((Below.refl _ _).alloc (Nat.le_refl _) _)⟩
  case round =>
    obtain ⟨k, oa, n, cap, L, hk, rfl, rfl, HNL, HL, HO, HB⟩ := hrel
    by_cases hlt : k < s.size
    · have hts := take_snoc8 s k hlt
      obtain ⟨I, last, hI⟩ := cutsL_last c (s.data.toList.take k)
      have hsn := cutsL_snoc c s[k] _ I last hI
      rw [← hts] at hsn
      have hLI : L = I ++ [last] := HL.out.symm.trans hI
      have HSN := Lib.hid hsn
      have HLI := Lib.hid hLI
      have hn : n = I.length + 1 := by rw [HNL.out, hLI]; simp
      have hlen : last.length ≤ 1000 := by
        have := cutsL_len c (s.data.toList.take k) last (by rw [hI]; simp)
        rw [List.length_take] at this; omega
      have hcnt : n ≤ 1001 := by
        have := cutsL_count c (s.data.toList.take k)
        rw [HL.out, ← HNL.out, List.length_take] at this; omega
      have HN := Lib.hid hn
      clear hsn hLI hts hI hn
      have hix := index_byte s k hlt _ rfl
      by_cases hx : s[k] = c
      · have heq : ((s[k].toNat : Int) == (c.toNat : Int)) = true := by rw [hx]; simp
        go_wp2_with (at_builtin; refine Stopped.of ?_)
        refine Stopped.mk ?_
        have hb := HB.out
        refine wpList_append_owns _ rfl _ _ 22 rfl 9 (.string ⟨#[]⟩) 1 16 w.heap.size Tryz.underlying22 info_str rfl (by decide) oa n cap _ rfl (HO.out.alloc _) ⟨wr.heap.size, 0, none⟩ 1 1 [.string ⟨#[]⟩] rfl rfl ?_ ?_ (by decide) ?_ ?_ ?_ ?_
        · exact news_new _ _ _
        · simp [Value.oneCell']
        · unfold maxLen; omega
        · omega
        · simp only [World.size_alloc]; have := hb.size; omega
        intro oa' cap' w' ho' hg hd
        have hb2 : Below w.heap.size w w' := Below.appended (hb.alloc hb.size _) (HO.out.alloc _) (Nat.le_refl _) hg (by simp only [World.size_alloc]; have := hb.size; omega)
        have HL2 : Hid (cutsL c (s.data.toList.take (k + 1)) = L ++ [[]]) := Lib.hid (by rw [HSN.out, if_pos hx, HLI.out])
        clear hg hd hb
        go_wp2_with fail
        go_roundw
        case rel =>
          refine ⟨k + 1, oa', n + 1, cap', L ++ [[]], by omega, by go_num, by first | rfl | (congr 1), Lib.hid (by rw [List.length_append, HNL.out]; rfl), HL2, Lib.hid ?_, Lib.hid hb2⟩
          rw [List.map_append]; exact ho'
        case measure => simp [intOf]; omega
      · obtain rfl := HN.out
        obtain ⟨g, off, rfl, hbg, hg, hc, ht⟩ := HO.out.here (by omega)
        have hcl := hc I.length (strV last) (by rw [HLI.out, List.map_append, List.getElem?_append_right (by simp)]; simp)
        have hfz := (ht I.length (by have := HO.out.le; omega)).2
        have hle := HO.out.le
        unfold strV at hcl
        obtain ⟨X, hX⟩ : ∃ X, [s[k]] = X := ⟨_, rfl⟩
        have hXl : X.length = 1 := by rw [← hX]; rfl
        have hcat := concat_small last X (by omega) (by omega)
        have HL3 : Hid (last.length + X.length ≤ 9223372036854775807) := Lib.hid (by omega)
        have hsl := slice_one s k hlt
        rw [hX] at hsl
        have HX := Lib.hid hX
        clear hX hXl
        have heq : ((s[k].toNat : Int) == (c.toNat : Int)) = false := by
          have : s[k].toNat ≠ c.toNat := fun e => hx (UInt8.toNat_inj.1 e)
          simp; omega
        clear hc ht
        generalize s[k] = x at *
        go_wp2_with fail
        have hIl : I.length ≤ 1000 := by omega
        have hwr : IntKind.i64.wrap (I.length : Int) = (I.length : Int) := IntWalk.i64_in _ (by omega)
        have hi0 : (0 : Int) ≤ (I.length : Int) := by omega
        have hi1 : (I.length : Int) < (I.length : Int) + 1 := by omega
        clear hlen hcnt
        have hl3 := HL3.out
        go_region
        have hval : (Value.string ((⟨last.toArray⟩ : ByteArray) ++ ⟨X.toArray⟩)) = strV (last ++ [x]) := by rw [bytes_append, ← HX.out]; rfl
        rw [hval]
        have HVV := Lib.hid hval
        have HL2 : Hid (cutsL c (s.data.toList.take (k + 1)) = I ++ [last ++ [x]]) := Lib.hid (by rw [HSN.out, if_neg hx])
        have HO2 : Hid (Owns (wr.setCell ⟨g, off + I.length, none⟩ (strV (last ++ [x]))).drew w.heap.size 1 (some ⟨g, off, none⟩) (I.length + 1) cap ((I ++ [last ++ [x]]).map strV)) := Lib.hid (by
          have h := (HO.out.set I.length (by omega) (strV (last ++ [x]))).drew
          have e : (L.map strV).set I.length (strV (last ++ [x])) = (I ++ [last ++ [x]]).map strV := by
            rw [HLI.out, List.map_append, List.map_append, List.set_append_right _ _ (by simp)]
            simp
          rwa [e] at h)
        have HB2 : Hid (Below w.heap.size w (wr.setCell ⟨g, off + I.length, none⟩ (strV (last ++ [x]))).drew) := Lib.hid ((HB.out.setCell (by simp only; exact hbg) _).drew)
        clear hval hcl hcat hsl
        generalize (wr.setCell ⟨g, off + I.length, none⟩ (strV (last ++ [x]))).drew = wz at *
        go_wp2_with fail
        go_roundw
        case rel => exact ⟨k + 1, some ⟨g, off, none⟩, I.length + 1, cap, I ++ [last ++ [x]], by omega, by go_num, rfl, Lib.hid (by simp), HL2, HO2, HB2⟩
        case measure => simp [intOf]; omega
    · obtain rfl : k = s.size := by omega
      have HF : Hid (s.data.toList.take s.size = s.data.toList) := Lib.hid (List.take_of_length_le (by rw [Array.length_toList, ByteArray.size_data]; exact Nat.le_refl _))
      go_wp2_with fail
      go_ret
      have hl := HL.out
      rw [HF.out] at hl
      obtain rfl := HNL.out
      rw [hl]
      exact ⟨oa, cap, rfl, HO.out, HB.out⟩
end Go.Proofs.YtcadpcppnllhnaaGreatDoor
end

/- Walks over texts: the reference's groups. -/
section
set_option linter.unusedSimpArgs false
set_option linter.unusedVariables false
namespace Go.Proofs.YtcadpcppnllhnaaGreatDoor
open Go.RowKit

theorem mapM_snoc {α β : Type} (f : α → Option β) (l : List α) (x : α) (a : List β) (b : β) (h : l.mapM f = some a) (hx : f x = some b) : (l ++ [x]).mapM f = some (a ++ [b]) := by
  simp [List.mapM_append, List.mapM_cons, h, hx]
theorem mapM_miss {α β : Type} (f : α → Option β) (l : List α) (k : Nat) (hk : k < l.length) (hx : f l[k] = none) : l.mapM f = none := by
  cases h : l.mapM f with
  | none => rfl
  | some a =>
    exfalso
    have e : l = l.take k ++ l[k] :: l.drop (k + 1) := by rw [← List.drop_eq_getElem_cons hk, List.take_append_drop]
    rw [e, List.mapM_append, List.mapM_cons, hx] at h
    cases h2 : (l.take k).mapM f <;> simp [h2] at h
theorem mapM_len {α β : Type} (f : α → Option β) : ∀ (l : List α) (a : List β), l.mapM f = some a → a.length = l.length
  | [], a, h => by simp at h; subst h; rfl
  | x :: l, a, h => by
    rw [List.mapM_cons] at h
    cases hx : f x with
    | none => rw [hx] at h; simp at h
    | some b =>
      cases hl : l.mapM f with
      | none => rw [hx, hl] at h; simp at h
      | some c => rw [hx, hl] at h; simp at h; subst h; simp [mapM_len f l c hl]

/-- A call that returns the groups of a text, or none. -/
def GroupsPost (w : World) (o : Option (List Nat)) : Ending → World → Prop := fun e w' =>
  (o = none ∧ e = .returned (.tuple #[.slice none 0 0, .bool false]) ∧ Below w.heap.size w w') ∨
  (∃ L oa cap, o = some L ∧ e = .returned (.tuple #[.slice oa L.length cap, .bool true]) ∧ Owns w' w.heap.size 1 oa L.length cap (L.map fun (n : Nat) => Value.int .i64 (n : Int)) ∧ Below w.heap.size w w')
theorem info_i64 : (Tryz.prog.info? 3).map (fun i => (i.zero, i.size, i.bytes)) = some (some (.int .i64 0), 1, 8) := by kernel_rfl

set_option maxHeartbeats 4000000 in
theorem groups_any (s : ByteArray) (w : World) (hs : s.size ≤ 1000) : Calls Tryz.prog 65 #[.string s] w (GroupsPost w (groupsL s.data.toList)) := by
  by_cases he : s = ⟨#[]⟩
  · subst he
    go_enter Tryz.func65, Tryz.ntmps65
    go_wp2_with fail
    go_ret2
    exact .inr ⟨[], none, 0, rfl, rfl, Owns.nil _ _ _, Below.refl _ _⟩
  · have hne : s.data.toList ≠ [] := fun e => he (by cases s; rename_i d; cases d; simp only at e; subst e; rfl)
    have hgl : groupsL s.data.toList = (cutsL 58 s.data.toList).mapM hexG := by rw [groupsL, if_neg hne]
    have HGL := Lib.hid hgl
    have hls : s.data.toList.length = s.size := by rw [Array.length_toList, ByteArray.size_data]
    have HPL : Hid (∀ p ∈ cutsL 58 s.data.toList, p.length ≤ 1000) := Lib.hid (fun p hp => by have := cutsL_len 58 _ p hp; omega)
    have HPC : Hid ((cutsL 58 s.data.toList).length ≤ 1001) := Lib.hid (by have := cutsL_count 58 s.data.toList; omega)
    have HCA := Lib.hid (fun w => cuts_any s 58 w hs)
    have heq : s.toList.isEmpty = false := by rw [toList_data8]; cases h : s.data.toList with
      | nil => exact absurd h hne
      | cons a t => rfl
    clear he hgl hls hs
    generalize cutsL 58 s.data.toList = P at *
    go_enter Tryz.func65, Tryz.ntmps65
    go_wp2_with fail
    refine Calls.mono (HCA.out w) ?_
    rintro e w1 ⟨op, capp, rfl, HO, HB⟩
    have hpc := HPC.out
    generalize hnP : P.length = nP at *
    have HNP := Lib.hid hnP
    clear hnP
    have HO := Lib.hid HO
    have HB := Lib.hid HB
    go_wp2_with fail
    go_loopw [4, 6] (fun u4 u6 wr => ∃ (k : Nat) (oa : Option Addr) (cap : Nat) (G : List Nat), k ≤ nP ∧ u6 = .int .i64 k ∧ u4 = .slice oa k cap ∧ Hid (G.length = k) ∧ Hid ((P.take k).mapM hexG = some G) ∧ Hid (Owns wr w1.heap.size 1 oa k cap (G.map fun (n : Nat) => Value.int .i64 (n : Int))) ∧ Hid (Below w1.heap.size w1 wr)) (fun _ u6 _ => (nP : Int) - intOf u6 |>.toNat)
    case atStart =>
      exact ⟨0, none, 0, [], Nat.zero_le _, rfl, rfl, Lib.hid rfl, Lib.hid rfl, Lib.hid (Owns.nil _ _ _), Lib.hid (Below.refl _ _)⟩
    case round =>
      obtain ⟨k, oa, cap, G, hk, rfl, rfl, HGn, HG, HR, HW⟩ := hrel
      have HOr := HO.out.below HW.out
      by_cases hlt : k < nP
      · have hkP : k < P.length := by rw [HNP.out]; exact hlt
        obtain ⟨g, off, hop, hbg, hg, hc, ht⟩ := HOr.here (by omega)
        subst hop
        have hcl := hc k (strV P[k]) (by simp [hkP])
        have hpl := HPL.out P[k] (List.getElem_mem hkP)
        have hts : P.take (k + 1) = P.take k ++ [P[k]] := by rw [List.take_succ_eq_append_getElem hkP]
        have HTS := Lib.hid hts
        have HMI := Lib.hid (fun h => mapM_miss hexG P k hkP h)
        clear hts hc ht
        unfold strV at hcl
        generalize P[k] = p at *
        have hsz : (⟨p.toArray⟩ : ByteArray).size = p.length := by simp [ByteArray.size]
        have HNU := Lib.hid (fun w => number_any ⟨p.toArray⟩ 16 65536 w (by rw [hsz]; exact hpl) (by decide) (by decide) (by decide))
        have hpe : ((⟨p.toArray⟩ : ByteArray).data.toList) = p := by simp
        rw [hpe] at HNU
        cases hn : numberL 16 65536 p with
        | none =>
          rw [hn] at HNU
          have hx : hexG p = none := by unfold hexG; split <;> simp [hn]
          have HX := Lib.hid (HMI.out hx)
          clear hn hx
          go_wp2_with fail
          refine Calls.mono (HNU.out wr) ?_
          rintro e w2 ⟨rfl, hb2⟩
          simp only [numV]
          go_wp2_with fail
          go_ret2
          refine .inl ⟨?_, rfl, Below.via HB.out (Below.via HW.out hb2)⟩
          rw [HGL.out, HX.out]
        | some n =>
          rw [hn] at HNU
          by_cases h4 : p.length ≤ 4
          · have hx : hexG p = some n := by unfold hexG; rw [if_pos h4, hn]
            have HX : Hid ((P.take (k + 1)).mapM hexG = some (G ++ [n])) := Lib.hid (by rw [HTS.out]; exact mapM_snoc _ _ _ _ _ HG.out hx)
            clear hn hx
            go_wp2_with fail
            refine Calls.mono (HNU.out wr) ?_
            rintro e w2 ⟨rfl, hb2⟩
            simp only [numV]
            have hcl2 := hb2.cell (p := ⟨g, off + k, none⟩) (by first | omega | exact hg)
            have HR2 := Lib.hid (HR.out.below hb2)
            have hle : w1.heap.size ≤ w2.heap.size := Nat.le_trans HW.out.size hb2.size
            have HLE := Lib.hid hle
            clear hle
            have HW2 := Lib.hid (Below.via HW.out hb2)
            go_wp2_with (at_builtin; refine Stopped.of ?_)
            refine Stopped.mk ?_
            refine wpList_append_owns _ rfl _ _ 104 rfl 3 (.int .i64 0) 1 8 w1.heap.size Tryz.underlying104 info_i64 rfl (by decide) oa k cap _ rfl (HR2.out.alloc _) ⟨w2.heap.size, 0, none⟩ 1 1 [.int .i64 n] rfl rfl ?_ ?_ (by decide) ?_ ?_ ?_ ?_
            · exact news_new _ _ _
            · simp [Value.oneCell']
            · have := HPC.out; unfold maxLen; omega
            · have := HPC.out; omega
            · simp only [World.size_alloc]; have := HLE.out; omega
            intro oa' cap' w' ho' hg2 hd
            have hb3 : Below w1.heap.size w1 w' := Below.appended (HW2.out.alloc HLE.out _) (HR2.out.alloc _) (Nat.le_refl _) hg2 (by simp only [World.size_alloc]; have := HLE.out; omega)
            have HB3 := Lib.hid hb3
            clear hg2 hd hb3
            go_wp2_with fail
            go_roundw
            case rel =>
              refine ⟨k + 1, oa', cap', G ++ [n], by omega, by go_num, rfl, Lib.hid (by rw [List.length_append, HGn.out]; rfl), HX, Lib.hid ?_, HB3⟩
              rw [List.map_append]; exact ho'
            case measure => simp [intOf]; omega
          · have hx : hexG p = none := by unfold hexG; rw [if_neg h4]
            have HX := Lib.hid (HMI.out hx)
            clear hn hx
            go_wp2_with fail
            refine Calls.mono (HNU.out wr) ?_
            rintro e w2 ⟨rfl, hb2⟩
            simp only [numV]
            have hcl2 := hb2.cell (p := ⟨g, off + k, none⟩) (by first | omega | exact hg)
            go_wp2_with fail
            go_ret2
            refine .inl ⟨?_, rfl, Below.via HB.out (Below.via HW.out hb2)⟩
            rw [HGL.out, HX.out]
      · obtain rfl : k = nP := by omega
        have HF : Hid (P.take k = P) := Lib.hid (by rw [List.take_of_length_le (by rw [HNP.out]; exact Nat.le_refl _)])
        go_wp2_with fail
        go_ret2
        obtain rfl := HGn.out
        exact .inr ⟨G, oa, cap, by rw [HGL.out, ← HF.out]; exact HG.out, rfl, HR.out.mono HB.out.size, Below.via HB.out HW.out⟩
end Go.Proofs.YtcadpcppnllhnaaGreatDoor
end

/- Walks over texts: internal/strconv.ParseUint at base 16, 16 bits. -/
section
set_option linter.unusedSimpArgs false
set_option linter.unusedVariables false
namespace Go.Proofs.YtcadpcppnllhnaaGreatDoor
open Go.RowKit

/-- What tells that a text is no number. -/
def badNum : Lib.NumEnd Nat := Lib.parseUintB 64 []
theorem badNum_match : (match badNum with | .ok n => some n | _ => none : Option Nat) = none := rfl
theorem badNum_ok (n : Nat) : badNum ≠ .ok n := fun h => by
  have h2 : (match badNum with | .ok n => some n | _ => none : Option Nat) = some n := by rw [h]
  rw [badNum_match] at h2
  cases h2
/-- ParseUint(s, 16, 16), behind what was told. -/
def hexEnd (acc : Nat) : List UInt8 → Lib.NumEnd Nat
  | [] => .ok acc
  | c :: r => if 16 ≤ digitN c then badNum else if 65535 < acc * 16 + digitN c then .range else hexEnd (acc * 16 + digitN c) r
theorem hexEnd_numL : ∀ (l : List UInt8) (acc : Nat), numL 16 65536 acc l = match hexEnd acc l with | .ok n => some n | _ => none
  | [], acc => rfl
  | c :: r, acc => by
    rw [numL, hexEnd]
    by_cases h1 : 16 ≤ digitN c
    · rw [if_pos (.inl h1), if_pos h1]; rfl
    · by_cases h2 : 65535 < acc * 16 + digitN c
      · rw [if_pos (.inr (by omega)), if_neg h1, if_pos h2]
      · rw [if_neg (by omega), if_neg h1, if_neg h2, hexEnd_numL r]
theorem low_up : ∀ n : Nat, n < 256 → 65 ≤ n → n ≤ 70 → bits .or .u8 (n : Int) 32 = (n : Int) + 32 := by decide +kernel
theorem low_low : ∀ n : Nat, n < 256 → 97 ≤ n → n ≤ 102 → bits .or .u8 (n : Int) 32 = (n : Int) := by decide +kernel
theorem low_other : ∀ n : Nat, n < 256 → ¬ (65 ≤ n ∧ n ≤ 70) → ¬ (97 ≤ n ∧ n ≤ 102) → bits .or .u8 (n : Int) 32 < 97 ∨ 103 ≤ bits .or .u8 (n : Int) 32 := by decide +kernel

set_option maxHeartbeats 32000000 in
set_option maxRecDepth 100000 in
theorem parse16_in (t : ByteArray) (hne : t.size ≠ 0) (hmax : t.size ≤ 1000) (w : World) :
    Calls Tryz.prog 95 #[.string t, .int .i64 16, .int .i64 16] w fun e w' => e = .returned (Lib.uintTupleM 134 65535 (hexEnd 0 t.data.toList)) ∧ w' = Lib.bytesWorld w 5 t := by
  have hemp : t.toList.isEmpty = false := by
    rw [← decide_eq_emptyBytes]
    exact decide_eq_false (fun h => hne (by rw [h]; rfl))
  have hcv := Lib.run_convert_string_bytes (P := Tryz.prog) w 9 29 5 t (u := .string) Tryz.underlying9 Tryz.underlying29 Tryz.underlying5
  have hB : ∀ j, j < t.size → (Lib.bytesWorld w 5 t).cell? ⟨w.heap.size, j, none⟩ = some (.int .u8 (t.data.toList.getD j 0).toNat) := fun j hj => Lib.bytesWorld_cell w 5 t j hj
  obtain ⟨W1, hW1⟩ : ∃ W1, W1 = Lib.bytesWorld w 5 t := ⟨_, rfl⟩
  rw [← hW1] at hcv hB ⊢
  clear hW1
  obtain ⟨bs, hL⟩ : ∃ bs, bs = t.data.toList := ⟨_, rfl⟩
  have hLn : bs.length = t.size := by rw [hL, Lib.size_eq]
  rw [← hL] at hB ⊢
  clear hL
  have hmv : IntKind.u64.wrap (IntKind.u64.wrap 65536 - 1) = 65535 := by
    rw [IntKind.wrap_u64, IntKind.wrap_u64]
    decide
  go_enter Tryz.func95, Tryz.ntmps95
  go_wp2_with fail
  go_loopw [12, 13, 101] (fun vu vn vi wr => ∃ (k acc : Nat) (a : Int), vu = .bool false ∧ vn = .int .u64 a ∧ vi = .int .i64 k ∧ k ≤ t.size ∧ Hid (a = (acc : Int) ∧ acc ≤ 65535 ∧ hexEnd 0 bs = hexEnd acc (bs.drop k)) ∧ wr = W1)
    (fun _ _ vi _ => t.size - (intOf vi).toNat)
  case atStart => exact ⟨0, 0, 0, rfl, rfl, rfl, by omega, ⟨rfl, by omega, rfl⟩, rfl⟩
  case round =>
    obtain ⟨k, acc, a, rfl, rfl, rfl, hk, hh, rfl⟩ := hrel
    obtain ⟨ha, hacc, hdec⟩ := hh.out
    clear hh
    have a0 : 0 ≤ a := by omega
    have a1 : a ≤ 65535 := by omega
    by_cases hkn : k < t.size
    · have hc := hB k hkn
      have hdrop : bs.drop k = bs[k]'(by omega) :: bs.drop (k + 1) := List.drop_eq_getElem_cons (by omega)
      have hget : bs.getD k 0 = bs[k]'(by omega) := by simp [List.getD, List.getElem?_eq_getElem (show k < bs.length by omega)]
      rw [hdrop] at hdec
      rw [hget] at hc
      generalize bs[k]'(by omega) = c at hc hdec
      have hc256 : c.toNat < 256 := c.toNat_lt
      clear hB hdrop hget
      have hdN : digitN c = if 65 ≤ c.toNat ∧ c.toNat ≤ 70 then c.toNat - 55 else if 97 ≤ c.toNat ∧ c.toNat ≤ 102 then c.toNat - 87 else if 48 ≤ c.toNat ∧ c.toNat ≤ 57 then c.toNat - 48 else 99 := rfl
      have hstep : ∀ d, digitN c = d → d < 16 → hexEnd 0 bs = if 65535 < acc * 16 + d then .range else hexEnd (acc * 16 + d) (bs.drop (k + 1)) := by
        intro d h1 h2
        rw [hdec, hexEnd, h1, if_neg (by omega)]
      have hsyn : 16 ≤ digitN c → hexEnd 0 bs = badNum := by
        intro h1
        rw [hdec, hexEnd, if_pos h1]
      clear hdec
      have hlo := low_other c.toNat hc256
      have hup := low_up c.toNat hc256
      have hlw := low_low c.toNat hc256
      by_cases hdig : 48 ≤ c.toNat ∧ c.toNat ≤ 57
      · obtain ⟨hd0, hd1⟩ := hdig
        have hs := hstep (c.toNat - 48) (by rw [hdN, if_neg (by omega), if_neg (by omega), if_pos ⟨hd0, hd1⟩]) (by omega)
        clear hstep hsyn hdN hlo hup hlw
        by_cases hov : 65535 < acc * 16 + (c.toNat - 48)
        · rw [if_pos hov] at hs
          have iov : 65535 < a * 16 + ((c.toNat : Int) - 48) := by omega
          have HS := Lib.hid hs
          clear hov ha hacc hs
          go_wp2_with fail
          go_ret2
          exact ⟨by rw [HS.out]; rfl, rfl⟩
        · rw [if_neg hov] at hs
          have HN : Hid (a * 16 + ((c.toNat : Int) - 48) = ((acc * 16 + (c.toNat - 48) : Nat) : Int) ∧ acc * 16 + (c.toNat - 48) ≤ 65535 ∧ hexEnd 0 bs = hexEnd (acc * 16 + (c.toNat - 48)) (bs.drop (k + 1))) := Lib.hid ⟨by omega, by omega, hs⟩
          have iov : a * 16 + ((c.toNat : Int) - 48) ≤ 65535 := by omega
          clear hov ha hacc hs
          go_wp2_with fail
          go_roundw
          case rel => exact ⟨k + 1, acc * 16 + (c.toNat - 48), a * 16 + ((c.toNat : Int) - 48), rfl, (by first | rfl | (congr 1; omega)), (by first | rfl | (congr 1; omega)), by omega, HN, trivial⟩
          case measure => simp [intOf]; omega
      · by_cases hU : 65 ≤ c.toNat ∧ c.toNat ≤ 70
        · obtain ⟨hd0, hd1⟩ := hU
          have hs := hstep (c.toNat - 55) (by rw [hdN, if_pos ⟨hd0, hd1⟩]) (by omega)
          have hv := hup hd0 hd1
          have hlc : ∀ w, Calls Tryz.prog 111 #[.int .u8 (c.toNat : Int)] w fun e w' => e = .returned (.int .u8 ((c.toNat : Int) + 32)) ∧ w' = w := fun w => by rw [← hv]; exact Tryz.internal_strconv_lower _ _
          clear hstep hsyn hdN hlo hup hlw hdig hv
          by_cases hov : 65535 < acc * 16 + (c.toNat - 55)
          · rw [if_pos hov] at hs
            have iov : 65535 < a * 16 + ((c.toNat : Int) - 55) := by omega
            have HS := Lib.hid hs
            clear hov ha hacc hs
            go_wp2_with (go_at_call 111; refine (hlc _).mono ?_; rintro e w' ⟨rfl, rfl⟩)
            go_ret2
            exact ⟨by rw [HS.out]; rfl, rfl⟩
          · rw [if_neg hov] at hs
            have HN : Hid (a * 16 + ((c.toNat : Int) - 55) = ((acc * 16 + (c.toNat - 55) : Nat) : Int) ∧ acc * 16 + (c.toNat - 55) ≤ 65535 ∧ hexEnd 0 bs = hexEnd (acc * 16 + (c.toNat - 55)) (bs.drop (k + 1))) := Lib.hid ⟨by omega, by omega, hs⟩
            have iov : a * 16 + ((c.toNat : Int) - 55) ≤ 65535 := by omega
            clear hov ha hacc hs
            go_wp2_with (go_at_call 111; refine (hlc _).mono ?_; rintro e w' ⟨rfl, rfl⟩)
            go_roundw
            case rel => exact ⟨k + 1, acc * 16 + (c.toNat - 55), a * 16 + ((c.toNat : Int) - 55), rfl, (by first | rfl | (congr 1; omega)), (by first | rfl | (congr 1; omega)), by omega, HN, trivial⟩
            case measure => simp [intOf]; omega
        · by_cases hL : 97 ≤ c.toNat ∧ c.toNat ≤ 102
          · obtain ⟨hd0, hd1⟩ := hL
            have hs := hstep (c.toNat - 87) (by rw [hdN, if_neg hU, if_pos ⟨hd0, hd1⟩]) (by omega)
            have hv := hlw hd0 hd1
            have hlc : ∀ w, Calls Tryz.prog 111 #[.int .u8 (c.toNat : Int)] w fun e w' => e = .returned (.int .u8 (c.toNat : Int)) ∧ w' = w := fun w => by
              have h := Tryz.internal_strconv_lower (c.toNat : Int) w
              rw [hv] at h; exact h
            clear hstep hsyn hdN hlo hup hlw hdig hv hU
            by_cases hov : 65535 < acc * 16 + (c.toNat - 87)
            · rw [if_pos hov] at hs
              have iov : 65535 < a * 16 + ((c.toNat : Int) - 87) := by omega
              have HS := Lib.hid hs
              clear hov ha hacc hs
              go_wp2_with (go_at_call 111; refine (hlc _).mono ?_; rintro e w' ⟨rfl, rfl⟩)
              go_ret2
              exact ⟨by rw [HS.out]; rfl, rfl⟩
            · rw [if_neg hov] at hs
              have HN : Hid (a * 16 + ((c.toNat : Int) - 87) = ((acc * 16 + (c.toNat - 87) : Nat) : Int) ∧ acc * 16 + (c.toNat - 87) ≤ 65535 ∧ hexEnd 0 bs = hexEnd (acc * 16 + (c.toNat - 87)) (bs.drop (k + 1))) := Lib.hid ⟨by omega, by omega, hs⟩
              have iov : a * 16 + ((c.toNat : Int) - 87) ≤ 65535 := by omega
              clear hov ha hacc hs
              go_wp2_with (go_at_call 111; refine (hlc _).mono ?_; rintro e w' ⟨rfl, rfl⟩)
              go_roundw
              case rel => exact ⟨k + 1, acc * 16 + (c.toNat - 87), a * 16 + ((c.toNat : Int) - 87), rfl, (by first | rfl | (congr 1; omega)), (by first | rfl | (congr 1; omega)), by omega, HN, trivial⟩
              case measure => simp [intOf]; omega
          · have HS := Lib.hid (hsyn (by rw [hdN, if_neg hU, if_neg hL, if_neg hdig]; decide))
            have hlo' := hlo hU hL
            have hv0 := bits_lo_u8 .or (c.toNat : Int) 32
            have hv1 := bits_hi_u8 .or (c.toNat : Int) 32
            have hlc : ∀ w, Calls Tryz.prog 111 #[.int .u8 (c.toNat : Int)] w fun e w' => e = .returned (.int .u8 (bits .or .u8 (c.toNat : Int) 32)) ∧ w' = w := fun w => Tryz.internal_strconv_lower _ _
            have hd' : (c.toNat : Int) < 48 ∨ 57 < (c.toNat : Int) := by omega
            have hci0 : (0 : Int) ≤ (c.toNat : Int) := by omega
            have hci1 : (c.toNat : Int) ≤ 255 := by omega
            clear hstep hsyn hdN hlo hup hlw hU hL hdig hc256 ha hacc
            generalize bits .or .u8 (c.toNat : Int) 32 = v at *
            generalize (c.toNat : Int) = ci at *
            by_cases h95 : ci = 95
            all_goals try subst h95
            all_goals rcases hlo' with hl | hl
            all_goals rcases hd' with hd | hd
            all_goals try (exfalso; omega)
            all_goals by_cases hz : v ≤ 122
            all_goals try (exfalso; omega)
            all_goals go_wp2_with (go_at_call 111; refine (hlc _).mono ?_; rintro e w' ⟨rfl, rfl⟩)
            all_goals go_ret2
            all_goals exact ⟨by rw [HS.out]; rfl, rfl⟩
    · have hkk : k = t.size := by omega
      subst hkk
      have hF : hexEnd acc (bs.drop t.size) = .ok acc := by rw [List.drop_eq_nil_of_le (by omega)]; rfl
      rw [hF] at hdec
      subst ha
      have HS := Lib.hid hdec
      clear hacc hF a0 a1 hdec
      go_wp2_with fail
      go_ret2
      exact ⟨by rw [HS.out]; rfl, rfl⟩
end Go.Proofs.YtcadpcppnllhnaaGreatDoor
end
