/- Opening an address that is handed in. -/
import Derived.Test.YtcadpcppnllhnaaDoorJT2
import Derived.ProofKit
set_option linter.unusedSimpArgs false
set_option linter.unusedVariables false
set_option maxRecDepth 100000
namespace Go.Proofs.YtcadpcppnllhnaaDoor
open Go.ChangeShapes Go.WideShapes Go.ChangeAt Go.RowKit

theorem cell_bool {w : World} {r : Reach} {base : Nat} {v : Value} (h : Cell.okWide Tryd.prog w r base 4 v) : ∃ b, v = .bool b := by
  simp only [Cell.okWide, Tryd.underlying4] at h
  cases v <;> simp_all [Cell.ok, Tryd.underlying4]
theorem cell_u8 {w : World} {r : Reach} {base : Nat} {v : Value} (h : Cell.okWide Tryd.prog w r base 5 v) : ∃ n, v = .int .u8 n ∧ 0 ≤ n ∧ n < 256 := by
  simp only [Cell.okWide, Tryd.underlying5] at h
  cases v <;> simp_all [Cell.ok, Tryd.underlying5]
  obtain ⟨h1, h2⟩ := h
  have e0 : IntKind.u8.min = 0 := by decide
  have e1 : IntKind.u8.max = 255 := by decide
  simp only [IntKind.has, e0, e1] at h2
  omega
theorem open_int {w : World} {r : Reach} {base : Nat} {v : Value} (h : Value.okWide Tryd.prog w r base 3 v) : ∃ n : Int, v = .int .i64 n ∧ -9223372036854775808 ≤ n ∧ n ≤ 9223372036854775807 := by
  simp only [Value.okWide, Cell.okWide, Tryd.underlying3] at h
  cases v <;> simp_all [Cell.ok, Tryd.underlying3]
  obtain ⟨h1, h2⟩ := h
  have e0 : IntKind.i64.min = -9223372036854775808 := by decide
  have e1 : IntKind.i64.max = 9223372036854775807 := by decide
  simp only [IntKind.has, e0, e1] at h2
  omega
theorem len17 {α : Type} (l : List α) (h : l.length = 17) : ∃ c0 c1 c2 c3 c4 c5 c6 c7 c8 c9 c10 c11 c12 c13 c14 c15 c16, l = [c0, c1, c2, c3, c4, c5, c6, c7, c8, c9, c10, c11, c12, c13, c14, c15, c16] := by
  match l, h with
  | [c0, c1, c2, c3, c4, c5, c6, c7, c8, c9, c10, c11, c12, c13, c14, c15, c16], _ => exact ⟨c0, c1, c2, c3, c4, c5, c6, c7, c8, c9, c10, c11, c12, c13, c14, c15, c16, rfl⟩
theorem open_ad {w : World} {r : Reach} {base : Nat} {v : Value} (h : Value.okWide Tryd.prog w r base 25 v) : ∃ (s : Bool) (B : Nat → Int), v = adV s B ∧ U8 B := by
  simp only [Value.okWide, Tryd.underlying25] at h
  obtain ⟨cs, rfl, hs, ts, ht, -, hc⟩ := h
  have hts : Tryd.prog.cellTypes Tryd.prog.depth 25 = some [4, 5, 5, 5, 5, 5, 5, 5, 5, 5, 5, 5, 5, 5, 5, 5, 5] := by kernel_rfl
  rw [hts] at ht
  obtain rfl := Option.some.inj ht
  have hs17 : cs.size = 17 := hs.trans (by kernel_rfl)
  obtain ⟨l⟩ := cs
  obtain ⟨c0, c1, c2, c3, c4, c5, c6, c7, c8, c9, c10, c11, c12, c13, c14, c15, c16, rfl⟩ := len17 l hs17
  obtain ⟨u0, hu0, k0⟩ := hc 0 c0 rfl
  obtain rfl : 4 = u0 := Option.some.inj hu0
  obtain ⟨b, rfl⟩ := cell_bool k0
  obtain ⟨u1, hu1, k1⟩ := hc 1 c1 rfl
  obtain rfl : 5 = u1 := Option.some.inj hu1
  obtain ⟨n1, rfl, l1, m1⟩ := cell_u8 k1
  obtain ⟨u2, hu2, k2⟩ := hc 2 c2 rfl
  obtain rfl : 5 = u2 := Option.some.inj hu2
  obtain ⟨n2, rfl, l2, m2⟩ := cell_u8 k2
  obtain ⟨u3, hu3, k3⟩ := hc 3 c3 rfl
  obtain rfl : 5 = u3 := Option.some.inj hu3
  obtain ⟨n3, rfl, l3, m3⟩ := cell_u8 k3
  obtain ⟨u4, hu4, k4⟩ := hc 4 c4 rfl
  obtain rfl : 5 = u4 := Option.some.inj hu4
  obtain ⟨n4, rfl, l4, m4⟩ := cell_u8 k4
  obtain ⟨u5, hu5, k5⟩ := hc 5 c5 rfl
  obtain rfl : 5 = u5 := Option.some.inj hu5
  obtain ⟨n5, rfl, l5, m5⟩ := cell_u8 k5
  obtain ⟨u6, hu6, k6⟩ := hc 6 c6 rfl
  obtain rfl : 5 = u6 := Option.some.inj hu6
  obtain ⟨n6, rfl, l6, m6⟩ := cell_u8 k6
  obtain ⟨u7, hu7, k7⟩ := hc 7 c7 rfl
  obtain rfl : 5 = u7 := Option.some.inj hu7
  obtain ⟨n7, rfl, l7, m7⟩ := cell_u8 k7
  obtain ⟨u8, hu8, k8⟩ := hc 8 c8 rfl
  obtain rfl : 5 = u8 := Option.some.inj hu8
  obtain ⟨n8, rfl, l8, m8⟩ := cell_u8 k8
  obtain ⟨u9, hu9, k9⟩ := hc 9 c9 rfl
  obtain rfl : 5 = u9 := Option.some.inj hu9
  obtain ⟨n9, rfl, l9, m9⟩ := cell_u8 k9
  obtain ⟨u10, hu10, k10⟩ := hc 10 c10 rfl
  obtain rfl : 5 = u10 := Option.some.inj hu10
  obtain ⟨n10, rfl, l10, m10⟩ := cell_u8 k10
  obtain ⟨u11, hu11, k11⟩ := hc 11 c11 rfl
  obtain rfl : 5 = u11 := Option.some.inj hu11
  obtain ⟨n11, rfl, l11, m11⟩ := cell_u8 k11
  obtain ⟨u12, hu12, k12⟩ := hc 12 c12 rfl
  obtain rfl : 5 = u12 := Option.some.inj hu12
  obtain ⟨n12, rfl, l12, m12⟩ := cell_u8 k12
  obtain ⟨u13, hu13, k13⟩ := hc 13 c13 rfl
  obtain rfl : 5 = u13 := Option.some.inj hu13
  obtain ⟨n13, rfl, l13, m13⟩ := cell_u8 k13
  obtain ⟨u14, hu14, k14⟩ := hc 14 c14 rfl
  obtain rfl : 5 = u14 := Option.some.inj hu14
  obtain ⟨n14, rfl, l14, m14⟩ := cell_u8 k14
  obtain ⟨u15, hu15, k15⟩ := hc 15 c15 rfl
  obtain rfl : 5 = u15 := Option.some.inj hu15
  obtain ⟨n15, rfl, l15, m15⟩ := cell_u8 k15
  obtain ⟨u16, hu16, k16⟩ := hc 16 c16 rfl
  obtain rfl : 5 = u16 := Option.some.inj hu16
  obtain ⟨n16, rfl, l16, m16⟩ := cell_u8 k16
  refine ⟨b, fun i => ([n1, n2, n3, n4, n5, n6, n7, n8, n9, n10, n11, n12, n13, n14, n15, n16] : List Int).getD i 0, rfl, fun i => ?_⟩
  rcases i with _ | _ | _ | _ | _ | _ | _ | _ | _ | _ | _ | _ | _ | _ | _ | _ | i
  · exact ⟨l1, m1⟩
  · exact ⟨l2, m2⟩
  · exact ⟨l3, m3⟩
  · exact ⟨l4, m4⟩
  · exact ⟨l5, m5⟩
  · exact ⟨l6, m6⟩
  · exact ⟨l7, m7⟩
  · exact ⟨l8, m8⟩
  · exact ⟨l9, m9⟩
  · exact ⟨l10, m10⟩
  · exact ⟨l11, m11⟩
  · exact ⟨l12, m12⟩
  · exact ⟨l13, m13⟩
  · exact ⟨l14, m14⟩
  · exact ⟨l15, m15⟩
  · exact ⟨l16, m16⟩
  · exact ⟨Int.le_refl 0, (show (0 : Int) < 256 by decide)⟩
end Go.Proofs.YtcadpcppnllhnaaDoor
