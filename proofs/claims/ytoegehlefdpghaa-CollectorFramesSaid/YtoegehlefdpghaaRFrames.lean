/- The statement CollectorFramesSaid: whatever the input, the law returns true, and its arguments read as they did. -/
import Derived.Test.YtoegehlefdpghaaQ
import Derived.Test.YtoegehlefdpghaaRow
import Derived.ProofKit
import Derived.OpenShut
import Derived.Lib.SmallJoins
namespace Go.Proofs.Ytoegehlefdpghaa.lawCollectorFrames
open Go.ChangeShapes Go.WideShapes Go.ChangeAt Go.RowKit Go.Joins
set_option linter.unusedVariables false
theorem own : ownKnob Try.prog.godebug = none := by kernel_rfl
theorem laidOut : laidOutB Try.prog = true := by kernel_rfl
theorem cells26 : Try.prog.cellsOf 26 = 4 := by kernel_rfl
theorem cells30 : Try.prog.cellsOf 30 = 3 := by kernel_rfl
theorem cells28 : Try.prog.cellsOf 28 = 2 := by kernel_rfl
theorem cells22 : Try.prog.cellsOf 22 = 1 := by kernel_rfl
theorem cells23 : Try.prog.cellsOf 23 = 1 := by kernel_rfl
set_option maxRecDepth 100000 in
theorem lifted (os : Os) (started : os.Started) (H : Type) (enc : TypeId × Value → H) :
    ReturnsInHanded {} Try.checked os 3 .any (Rows.collectorFramesSpec.pre6 enc Try.prog Try.f3 Rows.collectorFramesRow.domain false) (Rows.collectorFramesSpec.post enc Try.prog Try.f3 false true false false) := by
  refine returnsInHanded_of_change (C := Try.checked) own started (by kernel_rfl) Try.func3
    (ChangeSpec.witness6 (enc := enc) (C := Try.checked) false ⟨#[], #[.agg #[.int .u32 0, .int .u64 0, .int .u32 0, .slice none 0 0], .agg #[.int .u32 0, .int .u32 0, .int .u64 0], .agg #[.int .u32 0, .int .u64 0], .slice none 0 0], []⟩ 8 (by kernel_rfl) (by kernel_rfl) (by kernel_rfl) (by kernel_rfl)) ?_
  intro W base args ds gs before hval0 hW hcnd _
  have hval : ∀ (j : Nat) t v, Try.f3.params[j]? = some t → args[j]? = some v → Value.okWide Try.prog W .any base t v := hval0
  have hW' := hW
  obtain ⟨p, q, hA0, hV, rfl, hfz, hnd⟩ := hW
  have hA : DataW.TrodAll enc Try.prog W 0 (fun _ => true) true Try.f3.params.toList args.toList ds p := hA0
  rw [Try.params3] at hA hval
  have lt : ∀ x ∈ p, x.block < W.heap.size := DataW.TrodAll_lt' hA
  have stays := fun W' (bel : Below W.heap.size W W') => trodAll_stays laidOut (by intro t ht; simp only [List.mem_cons, List.not_mem_nil, or_false] at ht; rcases ht with rfl | rfl | rfl | rfl <;> exact ⟨by kernel_rfl, of_decide_eq_true (by kernel_rfl)⟩) hA bel lt
  obtain ⟨v0, vs0, d0, ds0, p0, q0, hargs, rfl, rfl, h0, r0⟩ := trodAll_cons hA
  obtain ⟨v1, vs1, d1, ds1, p1, q1, rfl, rfl, rfl, h1, r1⟩ := trodAll_cons r0
  obtain ⟨v2, vs2, d2, ds2, p2, q2, rfl, rfl, rfl, h2, r2⟩ := trodAll_cons r1
  obtain ⟨v3, vs3, d3, ds3, p3, q3, rfl, rfl, rfl, h3, r3⟩ := trodAll_cons r2
  obtain ⟨rfl, rfl, rfl⟩ := trodAll_nil r3
  obtain rfl : args = #[v0, v1, v2, v3] := by cases args; simp_all
  obtain ⟨rfl, rfl⟩ := trodVars_none hV
  obtain ⟨c00, c01, c02, c03, y00, y01, y02, y03, n0, rfl, rfl, rfl, hy00, hy01, hy02, hy03⟩ := open_agg4 Try.underlying26 (by kernel_rfl) cells26 (hval 0 26 v0 rfl rfl) h0
  obtain ⟨xe, e00, -, w_xe⟩ := DataW.trod_int Try.underlying22 hy00
  obtain ⟨xn, e01, -, w_xn⟩ := DataW.trod_int Try.underlying23 hy01
  obtain ⟨xp, e02, -, w_xp⟩ := DataW.trod_int Try.underlying22 hy02
  obtain ⟨A, m, c, e03⟩ := slice_form Try.underlying24 hy03
  simp only [List.cons.injEq, and_true] at e00 e01 e02 e03
  subst e00 e01 e02 e03
  obtain ⟨lx, hlx⟩ := bytes_each (w := W) (oa := A) (len := m) (cap := c) Try.underlying24 (by kernel_rfl) Try.underlying5 ⟨n0, by simpa [Value.cells] using hy03⟩
  obtain ⟨cs1, rfl, hsz1⟩ := okWide_struct Try.underlying30 (hval 1 30 v1 rfl rfl)
  obtain ⟨c10, c11, c12, rfl⟩ := array3 (hsz1.trans cells30)
  obtain ⟨n1, hf1⟩ := id h1
  obtain ⟨y10, y11, k1, -, -, hy10, hy11⟩ := trod_struct2 Try.underlying30 hf1
  simp [Value.cells, cells22, cells28] at hy10 hy11
  obtain ⟨ad, e10, -, w_ad⟩ := DataW.trod_int Try.underlying22 hy10
  obtain ⟨z0, z1, k2, -, -, hz0, hz1⟩ := trod_struct2 Try.underlying28 hy11
  simp [cells22, cells23] at hz0 hz1
  obtain ⟨ae, e11, -, w_ae⟩ := DataW.trod_int Try.underlying22 hz0
  obtain ⟨an, e12, -, w_an⟩ := DataW.trod_int Try.underlying23 hz1
  simp only [List.cons.injEq, and_true] at e10 e11 e12
  subst e10 e11 e12
  obtain ⟨c20, c21, y20, y21, n2, rfl, rfl, rfl, hy20, hy21⟩ := open_agg2 Try.underlying28 (by kernel_rfl) cells28 (hval 2 28 v2 rfl rfl) h2
  obtain ⟨me, e20, -, w_me⟩ := DataW.trod_int Try.underlying22 hy20
  obtain ⟨mn, e21, -, w_mn⟩ := DataW.trod_int Try.underlying23 hy21
  simp only [List.cons.injEq, and_true] at e20 e21
  subst e20 e21
  obtain ⟨ob, nb, cb, rfl⟩ := okWide_slice Try.underlying24 (hval 3 24 v3 rfl rfl)
  obtain ⟨lb, hlb⟩ := bytes_each Try.underlying24 (by kernel_rfl) Try.underlying5 h3
  clear hA0 hval0
  refine Calls.mono (law_all xe xn xp ad ae an me mn A m c lx ob nb cb lb W hlx hlb w_xe w_xn w_xp w_ad w_ae w_an) fun e W' ⟨he, bel⟩ => ?_
  subst he
  exact ⟨_, rfl, _, _, _, [], _, [], hW', trodAll_mk1 (shut_bool Try.underlying4 _), stays _ bel, rfl, bel.frame _, fun h => by cases h⟩

theorem over : Rows.collectorFramesRow.holds Try.pinned (OpenSpec.ofChange Rows.collectorFramesSpec) :=
  OpenClaim.holds_of_wide 3 Try.f3 rfl rfl rfl rfl rfl rfl rfl ⟨rfl, rfl, rfl, rfl, rfl⟩ rfl rfl rfl rfl rfl (by kernel_rfl) Try.func3 (by kernel_rfl)
    (of_decide_eq_true (by kernel_rfl)) (by unfold Func.isWrapper; first | (rw [if_pos (by decide +kernel)]; kernel_rfl) | (rw [if_neg (by decide +kernel)]; exact ⟨rfl, rfl⟩))
    (fun os started H enc _ => lifted os started H enc)

theorem proved : Rows.CollectorFramesSaid := over
end Go.Proofs.Ytoegehlefdpghaa.lawCollectorFrames
