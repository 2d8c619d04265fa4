/- Walk over the closed law: examples, all positions of some rings, rings about their bounds. -/
import Derived.Test.YtoehbcbdkahjpaaH
import Derived.Test.YtoehbcbdkahjpaaL
set_option linter.unusedSimpArgs false
set_option linter.unusedVariables false
namespace Go.Proofs.Ytoehbcbdkahjpaa
open Go.RowKit

theorem info52 : (Try.prog.info? 52).map (fun i => (i.zero, i.size, i.bytes)) = some (some (.agg #[.int .i64 0]), 1, 8) := by kernel_rfl

def odd : Nat → Nat → Int
  | 0, 0 => 0
  | 0, 1 => 0
  | 0, 2 => 0
  | 1, 0 => -1
  | 1, 1 => 2
  | 1, 2 => 2
  | 2, 0 => 0
  | 2, 1 => 1
  | 2, 2 => 2
  | 3, 0 => 0
  | 3, 1 => 65
  | 3, 2 => 2
  | 4, 0 => 0
  | 4, 1 => 2
  | 4, 2 => 0
  | 5, 0 => 0
  | 5, 1 => 2
  | 5, 2 => 1025
  | 6, 0 => 1020
  | 6, 1 => 2
  | 6, 2 => 2
  | 7, 0 => 1021
  | 7, 1 => 2
  | 7, 2 => 2
  | 8, 0 => 0
  | 8, 1 => 64
  | 8, 2 => 16
  | 9, 0 => 1
  | 9, 1 => 64
  | 9, 2 => 16
  | 10, 0 => 9223372036854775807
  | 10, 1 => 9223372036854775807
  | 10, 2 => 9223372036854775807
  | 11, 0 => 4
  | 11, 1 => 4294967296
  | 11, 2 => 4294967296
  | _, _ => 0

set_option maxRecDepth 100000 in
set_option maxHeartbeats 2000000 in
theorem known_any (w : World) : Calls Try.prog 6 #[] w (RetAt w (.bool true)) := by
  go_enter Try.func6, Try.ntmps6
  go_wp2_with fail
  go_loopw [1] (fun t wr => ∃ a : Int, 2 ≤ a ∧ a ≤ 5 ∧ t = .int .i64 a ∧ ∃ u : Later w, wr = u.world) (fun t _ => (5 - intOf t).toNat)
  case atStart => exact ⟨2, by omega, by omega, rfl, ⟨w, Below.refl _ _⟩, rfl⟩
  case round =>
    obtain ⟨a, ha1, ha2, rfl, u, rfl⟩ := hrel
    by_cases hlt : a < 5
    · go_wp2_with fail
      go_loopw [2] (fun t wr => ∃ c : Int, 1 ≤ c ∧ c ≤ 6 ∧ t = .int .i64 c ∧ ∃ u : Later w, wr = u.world) (fun t _ => (6 - intOf t).toNat)
      case atStart => exact ⟨1, by omega, by omega, rfl, u, rfl⟩
      case round =>
        obtain ⟨c, hc1, hc2, rfl, v, rfl⟩ := hrel
        by_cases hlt2 : c < 6
        · have m1 : a * c ≤ 4 * 5 := Int.mul_le_mul (by omega) (by omega) (by omega) (by omega)
          have m2 : 2 * 1 ≤ a * c := Int.mul_le_mul (by omega) (by omega) (by omega) (by omega)
          have m3 : 2 * a * c = 2 * (a * c) := Int.mul_assoc _ _ _
          have m4 : 0 ≤ 2 * a * c := by omega
          have m5 : 2 * a * c ≤ 40 := by omega
          clear m3
          go_wp2_with fail
          refine Code.fresh (fun w1 => Below w.heap.size w w1 ∧ v.world.heap.size < w1.heap.size ∧ v.world.heap.size + 1 = w1.heap.size ∧
            w1.cell? ⟨v.world.heap.size, 0, none⟩ = some (.int .i64 (a + c)) ∧ w1.cell? ⟨v.world.heap.size, 1, none⟩ = some (.int .i64 a) ∧ w1.cell? ⟨v.world.heap.size, 2, none⟩ = some (.int .i64 c)) ?_ ?_
          · refine ⟨?_, ?_, ?_, ?_, ?_, ?_⟩
            case refine_1 => repeat' (first | (with_reducible assumption) | (with_reducible exact Below.refl _ _) | (with_reducible refine Below.lat ?_) | (with_reducible refine Below.all ?_ _))
            all_goals first | go_cell | (simp; done)
          generalize v.world.heap.size = B1
          rintro w1 ⟨hb, z1, z2, c0, c1, c2⟩
          clear z2
          go_loopw [4, 5] (fun t4 t5 wr => ∃ (j : Nat) (A : Nat → Int) (oa : Option Addr) (ca : Nat), (j : Int) ≤ 2 * a * c + 1 ∧ t4 = .slice oa j ca ∧ t5 = .int .i64 j ∧ Hid (Owns wr w1.heap.size 1 oa j ca (rowOf .i64 j A)) ∧ Hid (Below w1.heap.size w1 wr)) (fun _ t5 _ => (2 * a * c + 1 - intOf t5).toNat)
          case atStart => exact ⟨0, fun _ => 0, none, 0, by omega, rfl, rfl, Owns.nil _ _ _, Below.refl _ _⟩
          case round =>
            obtain ⟨j, A, oa, ca, hj, rfl, rfl, HO, HW⟩ := hrel
            obtain ⟨wo, rfl⟩ : ∃ wo : World, wo = wr := ⟨_, rfl⟩
            have hsz := HW.out.size
            have e0 : wo.cell? ⟨B1, 0, none⟩ = some (.int .i64 (a + c)) := (HW.out.cell (p := ⟨_, _, none⟩) z1).trans c0
            have e1 : wo.cell? ⟨B1, 1, none⟩ = some (.int .i64 a) := (HW.out.cell (p := ⟨_, _, none⟩) z1).trans c1
            have e2 : wo.cell? ⟨B1, 2, none⟩ = some (.int .i64 c) := (HW.out.cell (p := ⟨_, _, none⟩) z1).trans c2
            have ez : B1 < wo.heap.size := by omega
            by_cases hlt3 : (j : Int) < 2 * a * c + 1
            · go_wp2_with fail
              go_loopw [6] (fun t wr => ∃ kk : Int, -1 ≤ kk ∧ kk ≤ 7 ∧ t = .int .i64 kk ∧ ∃ u : Later wo, wr = u.world) (fun t _ => (7 - intOf t).toNat)
              case atStart => exact ⟨-1, by omega, by omega, rfl, ⟨wo, Below.refl _ _⟩, rfl⟩
              case round =>
                obtain ⟨kk, hk1, hk2, rfl, x, rfl⟩ := hrel
                by_cases hlt4 : kk < 7
                · go_wp2_with (first | (go_at_call 3; refine Calls.later1 (lawTells_any _ _ _ _ _ _ (by omega)) ?_; intro x) | (go_at_call 4; refine Calls.later1 (lawFits_any _ _ _ _ _ _ _ (by omega) (by omega)) ?_; intro x))
                  go_roundw
                  case rel => exact ⟨kk + 1, by omega, by omega, by go_num, _, rfl⟩
                  case measure => simp [intOf]; omega
                · go_wp2_with (at_builtin; refine Stopped.of ?_)
                  generalize hval : (((j : Int) * 7 + a) % 6) % (c + 2) = val
                  refine Stopped.mk ?_
                  refine wpList_append_owns _ rfl _ _ 49 rfl 52 (.agg #[.int .i64 0]) 1 8 w1.heap.size Try.underlying49 info52 rfl (by decide) oa j ca (rowOf .i64 j A) rfl ((HO.out.later x).alloc _) ⟨x.world.heap.size, 0, none⟩ 1 1 [.int .i64 val] rfl rfl ?_ ?_ (by decide) ?_ ?_ ?_ ?_
                  · exact cell_one_new _ _ _
                  · simp [Value.oneCell']
                  · unfold maxLen; omega
                  · omega
                  · have := x.below.size; simp; omega
                  intro oa1 ca1 w2 ho1 hg1 hd1
                  rw [rowOf_snoc] at ho1
                  have hbw2 : Below w1.heap.size w1 w2 := Below.grown ((HW.out.trans (x.below.mono hsz)).alloc (by have := x.below.size; omega) _) hg1 (by have := x.below.size; simp; omega) (fun k hk => by
                    obtain ⟨a', e1, e2⟩ := Option.map_eq_some_iff.1 hk
                    rw [← e2]; exact (HO.out.lt e1).1)
                  clear hg1 hd1
                  have HO1 := Lib.hid ho1; clear ho1
                  have HW1 := Lib.hid hbw2; clear hbw2
                  go_wp2_with fail
                  go_roundw
                  case rel => exact ⟨j + 1, (fun i => if i = j then val else A i), oa1, ca1, by omega, rfl, by go_num, HO1.out, HW1.out⟩
                  case measure => simp [intOf]; omega
            · have hA : ∀ x : Later wo, ∀ i, i < j → ∃ g off, oa = some ⟨g, off, none⟩ ∧ g < x.world.heap.size ∧ x.world.cell? ⟨g, off + i, none⟩ = some (.int .i64 (A i)) := by
                intro x i hi
                obtain ⟨g, off, e, -, hlt, hc, -⟩ := (HO.out.later x).here (by omega)
                exact ⟨g, off, e, hlt, hc i _ (rowOf_get _ _ _ i hi)⟩
              have HA := Lib.hid hA; clear hA
              go_wp2_with fail
              refine Calls.later (lawRing_any _ _ _ _ _ _ _ A _ (by omega) (HA.out ⟨wo, Below.refl _ _⟩)) ?_
              intro x
              go_wp2_with fail
              refine Calls.later1 (lawRing_any _ _ _ _ _ _ _ A _ (by decide) (HA.out x)) ?_
              intro x
              go_wp2_with fail
              go_roundw
              case rel => exact ⟨c + 1, by omega, by omega, by go_num, ⟨_, Below.via hb (HW.out.trans (x.below.mono hsz))⟩, rfl⟩
              case measure => simp [intOf]; omega
        · go_wp2_with fail
          go_roundw
          case rel => exact ⟨a + 1, by omega, by omega, by go_num, v, rfl⟩
          case measure => simp [intOf]; omega
    · go_wp2_with fail
      refine Code.fresh (fun w1 => Below w.heap.size w w1 ∧ u.world.heap.size < w1.heap.size ∧ (∀ i, i < 12 → w1.cell? ⟨u.world.heap.size, i * 3, none⟩ = some (.int .i64 (odd i 0)) ∧ w1.cell? ⟨u.world.heap.size, i * 3 + 1, none⟩ = some (.int .i64 (odd i 1)) ∧ w1.cell? ⟨u.world.heap.size, i * 3 + 2, none⟩ = some (.int .i64 (odd i 2)))) ?_ ?_
      · refine ⟨?_, ?_, ?_⟩
        · repeat' (first | (with_reducible assumption) | (with_reducible exact Below.refl _ _) | (with_reducible refine Below.lat ?_) | (with_reducible refine Below.all ?_ _))
        · simp
        · intro i hi
          rcases (show i = 0 ∨ i = 1 ∨ i = 2 ∨ i = 3 ∨ i = 4 ∨ i = 5 ∨ i = 6 ∨ i = 7 ∨ i = 8 ∨ i = 9 ∨ i = 10 ∨ i = 11 by omega) with rfl | rfl | rfl | rfl | rfl | rfl | rfl | rfl | rfl | rfl | rfl | rfl <;> (simp only [odd]; refine ⟨?_, ?_, ?_⟩ <;> go_cell)
      generalize u.world.heap.size = B1
      rintro w1 ⟨hb, z1, hc⟩
      have HC := Lib.hid hc; clear hc
      go_loopw [8] (fun t wr => ∃ k : Nat, k ≤ 12 ∧ t = .int .i64 k ∧ ∃ u : Later w1, wr = u.world) (fun t _ => 12 - (intOf t).toNat)
      case atStart => exact ⟨0, by omega, rfl, ⟨w1, Below.refl _ _⟩, rfl⟩
      case round =>
        obtain ⟨k, hk, rfl, x, rfl⟩ := hrel
        by_cases hlt5 : k < 12
        · obtain ⟨c0, c1, c2⟩ := HC.out k hlt5
          generalize odd k 0 = x0 at *
          generalize odd k 1 = x1 at *
          generalize odd k 2 = x2 at *
          go_wp2_with (first | (go_at_call 3; refine Calls.later1 (lawTells_any _ _ _ _ _ _ (by decide)) ?_; intro x) | (go_at_call 4; refine Calls.later1 (lawFits_any _ _ _ _ _ _ _ (by decide) (by decide)) ?_; intro x))
          go_roundw
          case rel => exact ⟨k + 1, by omega, by go_num, _, rfl⟩
          case measure => simp [intOf]; omega
        · go_wp2_with fail
          refine Calls.later1 (works_any _) ?_
          intro x
          go_wp2_with fail
          go_ret
          exact .mk rfl (Below.via hb x.below)
end Go.Proofs.Ytoehbcbdkahjpaa
