/- The law over whatever comes in. -/
import Derived.Test.YtoegehlefdpghaaP
set_option linter.unusedSimpArgs false
set_option linter.unusedVariables false
namespace Go.Proofs.Ytoegehlefdpghaa
open Go.RowKit

theorem u32_bd {x : Int} (h : (Lit.int .u32 x).wf = true) : 0 ≤ x ∧ x < 4294967296 := by
  have h2 : IntKind.u32.min ≤ x ∧ x ≤ IntKind.u32.max := by simpa [Lit.wf] using h
  have e1 : IntKind.u32.min = 0 := by decide
  have e2 : IntKind.u32.max = 4294967295 := by decide
  rw [e1, e2] at h2
  omega
theorem u64_bd {x : Int} (h : (Lit.int .u64 x).wf = true) : 0 ≤ x ∧ x < 18446744073709551616 := by
  have h2 : IntKind.u64.min ≤ x ∧ x ≤ IntKind.u64.max := by simpa [Lit.wf] using h
  have e1 : IntKind.u64.min = 0 := by decide
  have e2 : IntKind.u64.max = 18446744073709551615 := by decide
  rw [e1, e2] at h2
  omega

set_option maxRecDepth 100000 in
set_option maxHeartbeats 1000000 in
theorem law_big (xe xn xp ad ae an me mn : Int) (A : Option Addr) (m c : Nat) (ob : Option Addr) (nb cb : Nat) (w : World) (h : 400 < m ∨ 400 < nb) (hm : m ≤ 9223372036854775807) (hnb : nb ≤ 9223372036854775807) :
    Calls Try.prog 3 #[.agg #[.int .u32 xe, .int .u64 xn, .int .u32 xp, .slice A m c], .agg #[.int .u32 ad, .int .u32 ae, .int .u64 an], .agg #[.int .u32 me, .int .u64 mn], .slice ob nb cb] w (RetAt w (.bool true)) := by
  by_cases h1 : 400 < m
  · have hd1 : decide ((m : Int) > 400) = true := by simp; omega
    clear h
    go_enter Try.func3, Try.ntmps3
    go_wp2_with (go_at_call 4; refine Calls.later (works_any _) ?_; intro x)
    go_ret
    exact .mk rfl (by repeat' (first | (with_reducible assumption) | (with_reducible exact Below.refl _ _) | (with_reducible refine Below.lat ?_) | (with_reducible refine Below.all ?_ _) | (with_reducible refine Below.drew ?_)))
  · have hd1 : decide ((m : Int) > 400) = false := by simp; omega
    have hd2 : decide ((nb : Int) > 400) = true := by simp; omega
    clear h h1
    go_enter Try.func3, Try.ntmps3
    go_wp2_with (go_at_call 4; refine Calls.later (works_any _) ?_; intro x)
    go_ret
    exact .mk rfl (by repeat' (first | (with_reducible assumption) | (with_reducible exact Below.refl _ _) | (with_reducible refine Below.lat ?_) | (with_reducible refine Below.all ?_ _) | (with_reducible refine Below.drew ?_)))

theorem law_all (xe xn xp ad ae an me mn : Int) (A : Option Addr) (m c : Nat) (lx : List Int) (ob : Option Addr) (nb cb : Nat) (lb : List Int) (w : World)
    (hx : Reads w A m c lx) (hb : Reads w ob nb cb lb)
    (he : (Lit.int .u32 xe).wf = true) (hn : (Lit.int .u64 xn).wf = true) (hp : (Lit.int .u32 xp).wf = true) (had : (Lit.int .u32 ad).wf = true) (hae : (Lit.int .u32 ae).wf = true) (han : (Lit.int .u64 an).wf = true) :
    Calls Try.prog 3 #[.agg #[.int .u32 xe, .int .u64 xn, .int .u32 xp, .slice A m c], .agg #[.int .u32 ad, .int .u32 ae, .int .u64 an], .agg #[.int .u32 me, .int .u64 mn], .slice ob nb cb] w (RetAt w (.bool true)) := by
  have m1 := hx.le
  have m2 := hx.max
  have m3 := hb.le
  have m4 := hb.max
  unfold maxLen at m2 m4
  by_cases h : 400 < m ∨ 400 < nb
  · exact law_big xe xn xp ad ae an me mn A m c ob nb cb w h (by omega) (by omega)
  · obtain ⟨ld, fx, hc⟩ := Case.of xe xn xp lx
    exact law_any xe xn xp ad ae an me mn A m c lx ob nb cb lb ld fx w hx hb (u32_bd he) (u64_bd hn) (u32_bd hp) (u32_bd had) (u32_bd hae) (u64_bd han) (by omega) (by omega) hc
end Go.Proofs.Ytoegehlefdpghaa
