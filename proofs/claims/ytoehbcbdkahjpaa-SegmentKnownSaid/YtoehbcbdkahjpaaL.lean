/- Walk over the ring's own law. -/
import Derived.Test.YtoehbcbdkahjpaaI
import Derived.Test.YtoehbcbdkahjpaaK
namespace Go.Proofs.Ytoehbcbdkahjpaa
open Go.RowKit

theorem info24 : (Try.prog.info? 24).map (fun i => (i.zero, i.size, i.bytes)) = some (some (.int .u64 0), 1, 8) := by kernel_rfl
theorem info3 : (Try.prog.info? 3).map (fun i => (i.zero, i.size, i.bytes)) = some (some (.int .i64 0), 1, 8) := by kernel_rfl
theorem elem33 : Try.prog.underlying 33 = some (.slice (Try.prog.elem 33)) := by kernel_rfl
theorem elem50 : Try.prog.underlying 50 = some (.slice (Try.prog.elem 50)) := by kernel_rfl
theorem size33 : (Try.prog.info? (Try.prog.elem 33)).map (·.size) = some 1 := by kernel_rfl
theorem size50 : (Try.prog.info? (Try.prog.elem 50)).map (·.size) = some 1 := by kernel_rfl

/-- What holds at the head of each round. -/
structure Inv (f s z : Int) (w1 : World) (k n : Nat) (P S : Nat → Int) (t : Int) (oa : Option Addr) (ca : Nat) (ob : Option Addr) (cb : Nat) (wr : World) : Prop where
  good : Good s z n P S t
  t0 : 0 ≤ t
  t1 : t ≤ 1152921504606846976 + 2048 * k
  nk : n ≤ k
  own1 : Owns wr w1.heap.size 1 oa n ca (rowOf .u64 n P)
  own2 : Owns wr w1.heap.size 1 ob n cb (rowOf .i64 n S)
  apart : ∀ a b, oa = some a → ob = some b → a.block ≠ b.block
  below : Below w1.heap.size w1 wr

theorem Inv.pop {f s z : Int} {w1 : World} {k n : Nat} {P S : Nat → Int} {t : Int} {oa : Option Addr} {ca : Nat} {ob : Option Addr} {cb : Nat} {wr : World} (h : Inv f s z w1 k (n + 1) P S t oa ca ob cb wr) (x : Later wr) :
    Inv f s z w1 (k + 1) n (fun i => P (i + 1)) (fun i => S (i + 1)) t (cutAddr oa 1 ca 1) (ca - 1) (cutAddr ob 1 cb 1) (cb - 1) x.world := by
  refine ⟨h.good.pop, h.t0, by have := h.t1; omega, by have := h.nk; omega, ?_, ?_, ?_, h.below.trans (x.below.mono h.below.size)⟩
  · have := (h.own1.cut 1 (by omega)).later x
    rwa [Nat.add_sub_cancel, Nat.mul_one, rowOf_tail] at this
  · have := (h.own2.cut 1 (by omega)).later x
    rwa [Nat.add_sub_cancel, Nat.mul_one, rowOf_tail] at this
  · intro a b ha hb
    have blk : ∀ (o : Option Addr) (c : Nat) (a : Addr), cutAddr o 1 c 1 = some a → ∃ a', o = some a' ∧ a'.block = a.block := by
      intro o c a h
      unfold cutAddr at h
      split at h
      · exact ⟨a, h, rfl⟩
      · cases o with
        | none => cases h
        | some a' =>
          refine ⟨a', rfl, ?_⟩
          simp only [Option.map_some, Option.some.injEq] at h
          rw [← h]; unfold Addr.add; split <;> rfl
    obtain ⟨a', e1, e2⟩ := blk _ _ _ ha
    obtain ⟨b', e3, e4⟩ := blk _ _ _ hb
    rw [← e2, ← e4]
    exact h.apart a' b' e1 e3
theorem Inv.on {f s z : Int} {w1 : World} {k n : Nat} {P S : Nat → Int} {t : Int} {oa : Option Addr} {ca : Nat} {ob : Option Addr} {cb : Nat} {wr : World} (h : Inv f s z w1 k n P S t oa ca ob cb wr) (x : Later wr) :
    Inv f s z w1 (k + 1) n P S t oa ca ob cb x.world :=
  ⟨h.good, h.t0, by have := h.t1; omega, by have := h.nk; omega, h.own1.later x, h.own2.later x, h.apart, h.below.trans (x.below.mono h.below.size)⟩

set_option maxRecDepth 100000 in
set_option maxHeartbeats 4000000 in
theorem lawRing_any (f s z p : Int) (oa : Option Addr) (L ca : Nat) (A : Nat → Int) (w : World) (h0 : 0 ≤ p)
    (hA : ∀ i, i < L → ∃ g off, oa = some ⟨g, off, none⟩ ∧ g < w.heap.size ∧ w.cell? ⟨g, off + i, none⟩ = some (.int .i64 (A i))) :
    Calls Try.prog 5 #[.agg #[.int .i64 f, .int .i64 s, .int .i64 z], .int .u64 p, .slice oa L ca] w (RetAt w (.bool true)) := by
  have HA := Lib.hid hA; clear hA
  by_cases hL : 60 < L
  · go_enter Try.func5, Try.ntmps5
    go_wp2_with (go_at_call 21; refine Calls.later (works_any _) ?_; intro x)
    go_ret
    refine .mk rfl ?_
    repeat' (first | (with_reducible assumption) | (with_reducible exact Below.refl _ _) | (with_reducible refine Below.lat ?_) | (with_reducible refine Below.all ?_ _))
  by_cases hr : rightB f s z = true
  case neg =>
    go_enter Try.func5, Try.ntmps5
    go_wp2_with fail
    refine Calls.later (ref_any _ _ _ _) ?_
    intro x
    go_wp2_with fail
    refine Calls.later1 (refRight_any _ _ _ _) ?_
    intro x
    go_wp2_with fail
    refine Calls.later1 (works_any _) ?_
    intro x
    go_wp2_with fail
    go_ret
    refine .mk rfl ?_
    repeat' (first | (with_reducible assumption) | (with_reducible exact Below.refl _ _) | (with_reducible refine Below.lat ?_) | (with_reducible refine Below.all ?_ _))
  obtain ⟨m1, m2⟩ := mul_bd hr
  obtain ⟨h1, h2, h3, h4, h5, h6, h7⟩ := right_bd hr
  have hp0 : 0 ≤ p % 1152921504606846976 := Int.emod_nonneg _ (by omega)
  have hp1 : p % 1152921504606846976 < 1152921504606846976 := Int.emod_lt_of_pos _ (by omega)
  go_enter Try.func5, Try.ntmps5
  go_wp2_with fail
  refine Calls.later (ref_any _ _ _ _) ?_
  intro x
  go_wp2_with fail
  refine Calls.later1 (refRight_any _ _ _ _) ?_
  intro x
  go_wp2_with fail
  have HR := Lib.hid hr; clear hr
  generalize p % 1152921504606846976 = t0 at *
  refine Code.fresh (fun w1 => Below w.heap.size w w1 ∧ w.heap.size < w1.heap.size ∧
    w1.cell? ⟨w.heap.size, 0, none⟩ = some (.int .i64 f) ∧ w1.cell? ⟨w.heap.size, 1, none⟩ = some (.int .i64 s) ∧ w1.cell? ⟨w.heap.size, 2, none⟩ = some (.int .i64 z)) ?_ ?_
  · refine ⟨?_, ?_, ?_, ?_, ?_⟩
    case refine_1 => repeat' (first | (with_reducible assumption) | (with_reducible exact Below.refl _ _) | (with_reducible refine Below.lat ?_) | (with_reducible refine Below.all ?_ _))
    all_goals simp [go_sem]
  rintro w1 ⟨hb, z0, c0, c1, c2⟩
  go_loopw [7, 8, 9, 10] (fun u7 u8 u9 u10 wr => ∃ (k n : Nat) (P S : Nat → Int) (t : Int) (oa : Option Addr) (ca : Nat) (ob : Option Addr) (cb : Nat), k ≤ L ∧ u7 = .int .u64 t ∧ u8 = .slice oa n ca ∧ u9 = .slice ob n cb ∧ u10 = .int .i64 k ∧ Hid (Inv f s z w1 k n P S t oa ca ob cb wr)) (fun _ _ _ u10 _ => L - (intOf u10).toNat)
  case atStart =>
    refine ⟨0, 0, fun _ => 0, fun _ => 0, _, none, 0, none, 0, by omega, rfl, rfl, rfl, rfl, ?_⟩
    exact ⟨Good.none _ _ _ _ _, hp0, by omega, by omega, Owns.nil _ _ _, Owns.nil _ _ _, fun _ _ h => by (cases h), Below.refl _ _⟩
  case round =>
    obtain ⟨k, n, P, S, t, oa', ca', ob, cb, hk, rfl, rfl, rfl, rfl, HI⟩ := hrel
    by_cases hlt : k < L
    case neg =>
      go_wp2_with fail
      refine Calls.later (works_any _) ?_
      intro x
      go_wp2_with fail
      go_ret
      exact .mk rfl (hb.trans ((HI.out.below.trans (x.below.mono HI.out.below.size)).mono hb.size))
    obtain ⟨ga, offa, rfl, kga, hAk⟩ := HA.out k hlt
    obtain ⟨wo, rfl⟩ : ∃ wo : World, wo = wr := ⟨_, rfl⟩
    have hbw := HI.out.below
    have ht0 := HI.out.t0
    have ht1 := HI.out.t1
    have hnk := HI.out.nk
    have d0 : wo.cell? ⟨w.heap.size, 0, none⟩ = some (.int .i64 f) := (hbw.cell (p := ⟨_, _, none⟩) z0).trans c0
    have d1 : wo.cell? ⟨w.heap.size, 1, none⟩ = some (.int .i64 s) := (hbw.cell (p := ⟨_, _, none⟩) z0).trans c1
    have d2 : wo.cell? ⟨w.heap.size, 2, none⟩ = some (.int .i64 z) := (hbw.cell (p := ⟨_, _, none⟩) z0).trans c2
    have dA : wo.cell? ⟨ga, offa + k, none⟩ = some (.int .i64 (A k)) := (hbw.cell (p := ⟨_, _, none⟩) (by have := hb.size; simp only; omega)).trans ((hb.cell (p := ⟨_, _, none⟩) kga).trans hAk)
    have dz : w.heap.size < wo.heap.size := by have := hbw.size; omega
    have dga : ga < wo.heap.size := by omega
    have HBW := Lib.hid hbw; clear hbw
    have HAK := Lib.hid hAk; clear hAk
    generalize hAv : A k = b at *
    clear hAv HAK
    have htm : mayB f s z t = true := by simp only [mayB, HR.out, Bool.true_and, decide_eq_true_eq]; omega
    by_cases hbp : b ≤ 0
    · have hdb : decide (0 < b) = false := by simp; omega
      have hfb : ∀ h, fitsB f s z h t b = false := by intro h; simp [fitsB, startB, show ¬ (1 ≤ b) by omega]
      rcases Nat.lt_or_ge 0 n with hn | hn
      · obtain ⟨n, rfl⟩ : ∃ n', n = n' + 1 := ⟨n - 1, by omega⟩
        obtain ⟨g1, o1, rfl, -, kg1, hc1, -⟩ := HI.out.own1.here hn
        have hP0 : wo.cell? ⟨g1, o1, none⟩ = some (.int .u64 (P 0)) := hc1 0 _ (rowOf_get .u64 (n + 1) P 0 (by omega))
        clear hc1
        have hcut2 : ∀ w, (Instr.slice 50 (.slice ob (n + 1) cb) (some (.int .i64 1)) none none).run Try.prog w = .ok (.slice (cutAddr ob 1 cb 1) n (cb - 1)) w := fun w => by
          have := run_cut (P := Try.prog) 50 ob (n + 1) cb 1 elem50 size50 1 1 rfl (by omega) w
          rwa [Nat.add_sub_cancel] at this
        rcases Nat.lt_or_ge 0 n with hn1 | hn1
        · obtain ⟨g2, o2, e2, -, kg2, hc2, -⟩ := (HI.out.own1.cut 1 (by omega)).here (by omega)
          rw [Nat.mul_one, rowOf_tail] at hc2
          have hP1 : wo.cell? ⟨g2, o2, none⟩ = some (.int .u64 (P (0 + 1))) := hc2 0 _ (rowOf_get .u64 n _ 0 hn1)
          clear hc2
          have hh : 0 ≤ P (0 + 1) := (HI.out.good.stand.one 1 (by omega)).1
          have hcut1 : ∀ w, (Instr.slice 33 (.slice (some ⟨g1, o1, none⟩) (n + 1) ca') (some (.int .i64 1)) none none).run Try.prog w = .ok (.slice (some ⟨g2, o2, none⟩) n (ca' - 1)) w := fun w => by
            have := run_cut (P := Try.prog) 33 (some ⟨g1, o1, none⟩) (n + 1) ca' 1 elem33 size33 1 1 rfl (by omega) w
            rwa [Nat.add_sub_cancel, e2] at this
          have hx : ∀ x : Later wo, Inv f s z w1 (k + 1) n (fun i => P (i + 1)) (fun i => S (i + 1)) t (some ⟨g2, o2, none⟩) (ca' - 1) (cutAddr ob 1 cb 1) (cb - 1) x.world := by
            intro x; have := HI.out.pop x; rwa [e2] at this
          have HX := Lib.hid hx; clear hx e2
          generalize P (0 + 1) = p1 at hP1 hh
          go_wp2_with fail
          refine Calls.later (fits_any _ _ _ _ _ _ _ hh ht0) ?_
          intro x
          rw [hfb]
          go_wp2_with fail
          refine wp_region_later1 (by kernel_rfl) (by kernel_rfl) ?_
          repeat go_big_quiet_step (fail)
          refine wpQuiet_nil ?_
          intro x
          go_wp2_with fail
          go_roundw
          case rel => exact ⟨k + 1, n, _, _, t, _, _, _, _, by omega, rfl, rfl, rfl, by go_num, HX.out x⟩
          case measure => simp [intOf]; omega
        · obtain rfl : n = 0 := by omega
          have hcut1 : ∀ w, (Instr.slice 33 (.slice (some ⟨g1, o1, none⟩) (0 + 1) ca') (some (.int .i64 1)) none none).run Try.prog w = .ok (.slice (cutAddr (some ⟨g1, o1, none⟩) 1 ca' 1) 0 (ca' - 1)) w := fun w => by
            have := run_cut (P := Try.prog) 33 (some ⟨g1, o1, none⟩) (0 + 1) ca' 1 elem33 size33 1 1 rfl (by omega) w
            rwa [Nat.add_sub_cancel] at this
          go_wp2_with fail
          refine Calls.later (fits_any _ _ _ _ _ _ _ ht0 ht0) ?_
          intro x
          rw [hfb]
          go_wp2_with fail
          refine wp_region_later1 (by kernel_rfl) (by kernel_rfl) ?_
          repeat go_big_quiet_step (fail)
          refine wpQuiet_nil ?_
          intro x
          go_wp2_with fail
          go_roundw
          case rel => exact ⟨k + 1, 0, _, _, t, _, _, _, _, by omega, rfl, rfl, rfl, by go_num, HI.out.pop x⟩
          case measure => simp [intOf]; omega
      · obtain rfl : n = 0 := by omega
        go_wp2_with fail
        refine Calls.later (fits_any _ _ _ _ _ _ _ ht0 ht0) ?_
        intro x
        rw [hfb]
        go_wp2_with fail
        refine wp_region_later1 (by kernel_rfl) (by kernel_rfl) ?_
        repeat go_big_quiet_step (fail)
        refine wpQuiet_nil ?_
        intro x
        go_wp2_with fail
        go_roundw
        case rel => exact ⟨k + 1, 0, _, _, t, _, _, _, _, by omega, rfl, rfl, rfl, by go_num, HI.out.on x⟩
        case measure => simp [intOf]; omega
    · have hb1 : 1 ≤ b := by omega
      have hdb : decide (0 < b) = true := by simp; omega
      have hdb' : decide (b ≤ 0) = false := by simp; omega
      rcases Nat.lt_or_ge 0 n with hn | hn
      · obtain ⟨g1, o1, rfl, -, kg1, hc1, -⟩ := HI.out.own1.here hn
        have hP0 : wo.cell? ⟨g1, o1, none⟩ = some (.int .u64 (P 0)) := hc1 0 _ (rowOf_get .u64 n P 0 (by omega))
        clear hc1
        have hh : 0 ≤ P 0 := (HI.out.good.stand.one 0 hn).1
        by_cases hf : fitsB f s z (P 0) t b = true
        · have hs : startB f s z t b = true := by simp only [fitsB, Bool.and_eq_true] at hf; exact hf.1
          obtain ⟨s1, s2, -, s3, s4, s5, s6⟩ := startV_bd f s z t b ht0 hs
          have hfv : fitsV f s z (P 0) t b = startV f s z t b := by simp [fitsV, hf]
          have hgood := HI.out.good.put ht0 (by omega) HR.out (b := b) (by rw [if_pos hn]; exact hf)
          have HGOOD := Lib.hid hgood; clear hgood
          obtain ⟨a1, a2⟩ := at_bd f s z t ht0 htm
          have hsv : startV f s z t b = if z < atN f s z t + b then nextN f s z t else t := by simp [startV, hs]
          have HS := Lib.hid hs; clear hs
          by_cases ha : atN f s z t = 0
          · have hpt : startV f s z t b = t := by rw [hsv, if_neg (by omega)]
            have HPT := Lib.hid hpt
            have HA0 := Lib.hid ha
            clear hpt ha hsv
            generalize hpv : startV f s z t b = pv at *
            obtain rfl : pv = t := HPT.out
            clear HPT hpv
            go_wp2_with fail
            refine Calls.later (fits_any _ _ _ _ _ _ _ hh ht0) ?_
            intro x
            rw [hf]
            go_wp2_with fail
            refine Calls.row1a (starts_one f s z pv _ ht0 htm HA0.out) ?_
            intro y
            go_wp2_with (at_builtin; refine Stopped.of ?_)
            have hW : Below wo.heap.size wo ((y.world.alloc (.cells #[.int .u64 pv] 24)).alloc (.cells #[.int .u64 pv] 24)) := by repeat' (first | (with_reducible assumption) | (with_reducible exact Below.refl _ _) | (with_reducible refine Below.lat ?_) | (with_reducible refine Below.all ?_ _))
            have hWz := hW.size
            have hB1 := HBW.out.size
            refine Stopped.mk ?_
            refine wpList_append_owns _ rfl _ _ 33 rfl 24 (.int .u64 0) 1 8 w1.heap.size Try.underlying33 info24 rfl (by decide) (some ⟨g1, o1, none⟩) n ca' (rowOf .u64 n P) rfl (HI.out.own1.below hW) ⟨y.world.heap.size + 1, 0, none⟩ 1 1 [.int .u64 pv] rfl rfl ?_ ?_ (by decide) ?_ ?_ ?_ ?_
            · have := cell_one_new (y.world.alloc (.cells #[.int .u64 pv] 24)) (.int .u64 pv) 24
              rwa [World.size_alloc] at this
            · simp [Value.oneCell']
            · unfold maxLen; omega
            · omega
            · first | omega | (simp; omega)
            intro oa1 ca1 w2 ho1 hg1 hd1
            rw [rowOf_snoc] at ho1
            have hne1 : ∀ a, ob = some a → some a.block ≠ ((some ⟨g1, o1, none⟩)).map Addr.block := by
              intro a ha e
              obtain ⟨a', e1, e2⟩ := Option.map_eq_some_iff.1 e.symm
              exact HI.out.apart a' a e1 ha e2
            have ho2 := (HI.out.own2.below hW).grown hg1 hne1
            have hbw2 : Below w1.heap.size w1 w2 := Below.grown (HBW.out.trans (hW.mono hB1)) hg1 (by omega) (fun k hk => by
              obtain ⟨a', e1, e2⟩ := Option.map_eq_some_iff.1 hk
              rw [← e2]; exact (HI.out.own1.lt e1).1)
            have hap2 : ∀ a b, oa1 = some a → ob = some b → a.block ≠ b.block := by
              intro a b ha hb'
              rcases hd1 a ha with h | h
              · exact HI.out.apart a b h hb'
              · have := (HI.out.own2.lt hb').2; omega
            have hz2 := hbw2.size
            clear hg1 hne1 hd1
            have HO1 := Lib.hid ho1; clear ho1
            have HO2 := Lib.hid ho2; clear ho2
            have HAP2 := Lib.hid hap2; clear hap2
            have HBW2 := Lib.hid hbw2; clear hbw2
            have HWW := Lib.hid hW; clear hW
            go_wp2_with (at_builtin; refine Stopped.of ?_)
            refine Stopped.mk ?_
            refine wpList_append_owns _ rfl _ _ 50 rfl 3 (.int .i64 0) 1 8 w1.heap.size Try.underlying50 info3 rfl (by decide) ob n cb (rowOf .i64 n S) rfl (HO2.out.alloc _) ⟨w2.heap.size, 0, none⟩ 1 1 [.int .i64 b] rfl rfl ?_ ?_ (by decide) ?_ ?_ ?_ ?_
            · exact cell_one_new _ _ _
            · simp [Value.oneCell']
            · unfold maxLen; omega
            · omega
            · simp only [World.size_alloc]; omega
            intro ob1 cb1 w3 ho3 hg2 hd2
            rw [rowOf_snoc] at ho3
            have hbw3 : Below w1.heap.size w1 w3 := Below.grown (HBW2.out.alloc hz2 _) hg2 (by simp; omega) (fun k hk => by
              obtain ⟨a', e1, e2⟩ := Option.map_eq_some_iff.1 hk
              rw [← e2]; exact (HO2.out.lt e1).1)
            have ho4 := (HO1.out.alloc (.cells #[.int .i64 b] 3)).grown hg2 (fun a ha e => by
              obtain ⟨a', e1, e2⟩ := Option.map_eq_some_iff.1 e.symm
              exact HAP2.out a a' ha e1 e2.symm)
            have hap3 : ∀ a b, oa1 = some a → ob1 = some b → a.block ≠ b.block := by
              intro a b ha hb'
              rcases hd2 b hb' with h | h
              · exact HAP2.out a b ha h
              · have h1 := (HO1.out.lt ha).2
                simp only [World.size_alloc] at h
                omega
            clear hg2 hd2 HWW
            obtain ⟨q1, r1, rfl, -, kq1, hcq1, -⟩ := ho4.here (by omega)
            obtain ⟨q2, r2, rfl, -, kq2, hcq2, -⟩ := ho3.here (by omega)
            have f0 : w3.cell? ⟨w.heap.size, 0, none⟩ = some (.int .i64 f) := (hbw3.cell (p := ⟨_, _, none⟩) z0).trans c0
            have f1 : w3.cell? ⟨w.heap.size, 1, none⟩ = some (.int .i64 s) := (hbw3.cell (p := ⟨_, _, none⟩) z0).trans c1
            have f2 : w3.cell? ⟨w.heap.size, 2, none⟩ = some (.int .i64 z) := (hbw3.cell (p := ⟨_, _, none⟩) z0).trans c2
            have hz3 := hbw3.size
            have HO3 := Lib.hid ho3; clear ho3
            have HO4 := Lib.hid ho4; clear ho4
            have HAP3 := Lib.hid hap3; clear hap3
            have HBW3 := Lib.hid hbw3; clear hbw3
            have HC1 := Lib.hid hcq1; clear hcq1
            have HC2 := Lib.hid hcq2; clear hcq2
            go_wp2_with fail
            refine Calls.later (apart_any f s z (n + 1) _ _ q1 r1 ca1 q2 r2 cb1 _ (by omega) (by omega) HR.out HGOOD.out.stand (fun i hi => HC1.out i _ (rowOf_get _ _ _ i hi)) (fun i hi => HC2.out i _ (rowOf_get _ _ _ i hi)) kq1 kq2) ?_
            intro v
            go_wp2_with fail
            go_roundw
            case rel =>
              refine ⟨k + 1, n + 1, (fun i => if i = n then pv else P i), (fun i => if i = n then b else S i), pv + b, _, _, _, _, by omega, rfl, rfl, rfl, by go_num, ?_⟩
              exact ⟨HGOOD.out, by omega, by omega, by omega, HO4.out.later v, HO3.out.later v, HAP3.out, HBW3.out.trans (v.below.mono HBW3.out.size)⟩
            case measure => simp [intOf]; omega
          · by_cases hat : z < atN f s z t + b
            · rw [if_pos hat] at hsv
              have ha' : 0 < atN f s z t := by omega
              have hnt : nextN f s z t = t + (z - atN f s z t) := by simp [nextN, ha']
              have hne1 : (nextN f s z t != t) = true := by rw [bne_iff_ne]; omega
              have hlt' : decide (nextN f s z t < t) = false := by simp; omega
              have HNT := Lib.hid hnt; clear hnt
              have HSV := Lib.hid hsv; clear hsv
              rw [HSV.out] at hfv s1 s2 HGOOD
              clear HSV
              generalize hpv : nextN f s z t = pv at *
              have HPV := Lib.hid hpv; clear hpv
              go_wp2_with fail
              refine Calls.later (fits_any _ _ _ _ _ _ _ hh ht0) ?_
              intro x
              rw [hf]
              go_wp2_with fail
              refine Calls.row1b (starts_two f s z t _ ht0 htm ha') ?_
              rw [HPV.out]
              intro y
              go_wp2_with (at_builtin; refine Stopped.of ?_)
              have hW : Below wo.heap.size wo ((y.world.alloc (.cells #[.int .u64 t, .int .u64 pv] 24)).alloc (.cells #[.int .u64 pv] 24)) := by repeat' (first | (with_reducible assumption) | (with_reducible exact Below.refl _ _) | (with_reducible refine Below.lat ?_) | (with_reducible refine Below.all ?_ _))
              have hWz := hW.size
              have hB1 := HBW.out.size
              refine Stopped.mk ?_
              refine wpList_append_owns _ rfl _ _ 33 rfl 24 (.int .u64 0) 1 8 w1.heap.size Try.underlying33 info24 rfl (by decide) (some ⟨g1, o1, none⟩) n ca' (rowOf .u64 n P) rfl (HI.out.own1.below hW) ⟨y.world.heap.size + 1, 0, none⟩ 1 1 [.int .u64 pv] rfl rfl ?_ ?_ (by decide) ?_ ?_ ?_ ?_
              · have := cell_one_new (y.world.alloc (.cells #[.int .u64 t, .int .u64 pv] 24)) (.int .u64 pv) 24
                rwa [World.size_alloc] at this
              · simp [Value.oneCell']
              · unfold maxLen; omega
              · omega
              · first | omega | (simp; omega)
              intro oa1 ca1 w2 ho1 hg1 hd1
              rw [rowOf_snoc] at ho1
              have hne1 : ∀ a, ob = some a → some a.block ≠ ((some ⟨g1, o1, none⟩)).map Addr.block := by
                intro a ha e
                obtain ⟨a', e1, e2⟩ := Option.map_eq_some_iff.1 e.symm
                exact HI.out.apart a' a e1 ha e2
              have ho2 := (HI.out.own2.below hW).grown hg1 hne1
              have hbw2 : Below w1.heap.size w1 w2 := Below.grown (HBW.out.trans (hW.mono hB1)) hg1 (by omega) (fun k hk => by
                obtain ⟨a', e1, e2⟩ := Option.map_eq_some_iff.1 hk
                rw [← e2]; exact (HI.out.own1.lt e1).1)
              have hap2 : ∀ a b, oa1 = some a → ob = some b → a.block ≠ b.block := by
                intro a b ha hb'
                rcases hd1 a ha with h | h
                · exact HI.out.apart a b h hb'
                · have := (HI.out.own2.lt hb').2; omega
              have hz2 := hbw2.size
              clear hg1 hne1 hd1
              have HO1 := Lib.hid ho1; clear ho1
              have HO2 := Lib.hid ho2; clear ho2
              have HAP2 := Lib.hid hap2; clear hap2
              have HBW2 := Lib.hid hbw2; clear hbw2
              have HWW := Lib.hid hW; clear hW
              go_wp2_with (at_builtin; refine Stopped.of ?_)
              refine Stopped.mk ?_
              refine wpList_append_owns _ rfl _ _ 50 rfl 3 (.int .i64 0) 1 8 w1.heap.size Try.underlying50 info3 rfl (by decide) ob n cb (rowOf .i64 n S) rfl (HO2.out.alloc _) ⟨w2.heap.size, 0, none⟩ 1 1 [.int .i64 b] rfl rfl ?_ ?_ (by decide) ?_ ?_ ?_ ?_
              · exact cell_one_new _ _ _
              · simp [Value.oneCell']
              · unfold maxLen; omega
              · omega
              · simp only [World.size_alloc]; omega
              intro ob1 cb1 w3 ho3 hg2 hd2
              rw [rowOf_snoc] at ho3
              have hbw3 : Below w1.heap.size w1 w3 := Below.grown (HBW2.out.alloc hz2 _) hg2 (by simp; omega) (fun k hk => by
                obtain ⟨a', e1, e2⟩ := Option.map_eq_some_iff.1 hk
                rw [← e2]; exact (HO2.out.lt e1).1)
              have ho4 := (HO1.out.alloc (.cells #[.int .i64 b] 3)).grown hg2 (fun a ha e => by
                obtain ⟨a', e1, e2⟩ := Option.map_eq_some_iff.1 e.symm
                exact HAP2.out a a' ha e1 e2.symm)
              have hap3 : ∀ a b, oa1 = some a → ob1 = some b → a.block ≠ b.block := by
                intro a b ha hb'
                rcases hd2 b hb' with h | h
                · exact HAP2.out a b ha h
                · have h1 := (HO1.out.lt ha).2
                  simp only [World.size_alloc] at h
                  omega
              clear hg2 hd2 HWW
              obtain ⟨q1, r1, rfl, -, kq1, hcq1, -⟩ := ho4.here (by omega)
              obtain ⟨q2, r2, rfl, -, kq2, hcq2, -⟩ := ho3.here (by omega)
              have f0 : w3.cell? ⟨w.heap.size, 0, none⟩ = some (.int .i64 f) := (hbw3.cell (p := ⟨_, _, none⟩) z0).trans c0
              have f1 : w3.cell? ⟨w.heap.size, 1, none⟩ = some (.int .i64 s) := (hbw3.cell (p := ⟨_, _, none⟩) z0).trans c1
              have f2 : w3.cell? ⟨w.heap.size, 2, none⟩ = some (.int .i64 z) := (hbw3.cell (p := ⟨_, _, none⟩) z0).trans c2
              have hz3 := hbw3.size
              have HO3 := Lib.hid ho3; clear ho3
              have HO4 := Lib.hid ho4; clear ho4
              have HAP3 := Lib.hid hap3; clear hap3
              have HBW3 := Lib.hid hbw3; clear hbw3
              have HC1 := Lib.hid hcq1; clear hcq1
              have HC2 := Lib.hid hcq2; clear hcq2
              go_wp2_with fail
              refine Calls.later (apart_any f s z (n + 1) _ _ q1 r1 ca1 q2 r2 cb1 _ (by omega) (by omega) HR.out HGOOD.out.stand (fun i hi => HC1.out i _ (rowOf_get _ _ _ i hi)) (fun i hi => HC2.out i _ (rowOf_get _ _ _ i hi)) kq1 kq2) ?_
              intro v
              go_wp2_with fail
              go_roundw
              case rel =>
                refine ⟨k + 1, n + 1, (fun i => if i = n then pv else P i), (fun i => if i = n then b else S i), pv + b, _, _, _, _, by omega, rfl, rfl, rfl, by go_num, ?_⟩
                exact ⟨HGOOD.out, by omega, by omega, by omega, HO4.out.later v, HO3.out.later v, HAP3.out, HBW3.out.trans (v.below.mono HBW3.out.size)⟩
              case measure => simp [intOf]; omega
            · rw [if_neg hat] at hsv
              have ha' : 0 < atN f s z t := by omega
              have HPT := Lib.hid hsv; clear hsv
              generalize hpv : startV f s z t b = pv at *
              obtain rfl : pv = t := HPT.out
              clear HPT hpv
              go_wp2_with fail
              refine Calls.later (fits_any _ _ _ _ _ _ _ hh ht0) ?_
              intro x
              rw [hf]
              go_wp2_with fail
              refine Calls.row1b (starts_two f s z pv _ ht0 htm ha') ?_
              intro y
              go_wp2_with (at_builtin; refine Stopped.of ?_)
              have hW : Below wo.heap.size wo ((y.world.alloc (.cells #[.int .u64 pv, .int .u64 (nextN f s z pv)] 24)).alloc (.cells #[.int .u64 pv] 24)) := by repeat' (first | (with_reducible assumption) | (with_reducible exact Below.refl _ _) | (with_reducible refine Below.lat ?_) | (with_reducible refine Below.all ?_ _))
              have hWz := hW.size
              have hB1 := HBW.out.size
              refine Stopped.mk ?_
              refine wpList_append_owns _ rfl _ _ 33 rfl 24 (.int .u64 0) 1 8 w1.heap.size Try.underlying33 info24 rfl (by decide) (some ⟨g1, o1, none⟩) n ca' (rowOf .u64 n P) rfl (HI.out.own1.below hW) ⟨y.world.heap.size + 1, 0, none⟩ 1 1 [.int .u64 pv] rfl rfl ?_ ?_ (by decide) ?_ ?_ ?_ ?_
              · have := cell_one_new (y.world.alloc (.cells #[.int .u64 pv, .int .u64 (nextN f s z pv)] 24)) (.int .u64 pv) 24
                rwa [World.size_alloc] at this
              · simp [Value.oneCell']
              · unfold maxLen; omega
              · omega
              · first | omega | (simp; omega)
              intro oa1 ca1 w2 ho1 hg1 hd1
              rw [rowOf_snoc] at ho1
              have hne1 : ∀ a, ob = some a → some a.block ≠ ((some ⟨g1, o1, none⟩)).map Addr.block := by
                intro a ha e
                obtain ⟨a', e1, e2⟩ := Option.map_eq_some_iff.1 e.symm
                exact HI.out.apart a' a e1 ha e2
              have ho2 := (HI.out.own2.below hW).grown hg1 hne1
              have hbw2 : Below w1.heap.size w1 w2 := Below.grown (HBW.out.trans (hW.mono hB1)) hg1 (by omega) (fun k hk => by
                obtain ⟨a', e1, e2⟩ := Option.map_eq_some_iff.1 hk
                rw [← e2]; exact (HI.out.own1.lt e1).1)
              have hap2 : ∀ a b, oa1 = some a → ob = some b → a.block ≠ b.block := by
                intro a b ha hb'
                rcases hd1 a ha with h | h
                · exact HI.out.apart a b h hb'
                · have := (HI.out.own2.lt hb').2; omega
              have hz2 := hbw2.size
              clear hg1 hne1 hd1
              have HO1 := Lib.hid ho1; clear ho1
              have HO2 := Lib.hid ho2; clear ho2
              have HAP2 := Lib.hid hap2; clear hap2
              have HBW2 := Lib.hid hbw2; clear hbw2
              have HWW := Lib.hid hW; clear hW
              go_wp2_with (at_builtin; refine Stopped.of ?_)
              refine Stopped.mk ?_
              refine wpList_append_owns _ rfl _ _ 50 rfl 3 (.int .i64 0) 1 8 w1.heap.size Try.underlying50 info3 rfl (by decide) ob n cb (rowOf .i64 n S) rfl (HO2.out.alloc _) ⟨w2.heap.size, 0, none⟩ 1 1 [.int .i64 b] rfl rfl ?_ ?_ (by decide) ?_ ?_ ?_ ?_
              · exact cell_one_new _ _ _
              · simp [Value.oneCell']
              · unfold maxLen; omega
              · omega
              · simp only [World.size_alloc]; omega
              intro ob1 cb1 w3 ho3 hg2 hd2
              rw [rowOf_snoc] at ho3
              have hbw3 : Below w1.heap.size w1 w3 := Below.grown (HBW2.out.alloc hz2 _) hg2 (by simp; omega) (fun k hk => by
                obtain ⟨a', e1, e2⟩ := Option.map_eq_some_iff.1 hk
                rw [← e2]; exact (HO2.out.lt e1).1)
              have ho4 := (HO1.out.alloc (.cells #[.int .i64 b] 3)).grown hg2 (fun a ha e => by
                obtain ⟨a', e1, e2⟩ := Option.map_eq_some_iff.1 e.symm
                exact HAP2.out a a' ha e1 e2.symm)
              have hap3 : ∀ a b, oa1 = some a → ob1 = some b → a.block ≠ b.block := by
                intro a b ha hb'
                rcases hd2 b hb' with h | h
                · exact HAP2.out a b ha h
                · have h1 := (HO1.out.lt ha).2
                  simp only [World.size_alloc] at h
                  omega
              clear hg2 hd2 HWW
              obtain ⟨q1, r1, rfl, -, kq1, hcq1, -⟩ := ho4.here (by omega)
              obtain ⟨q2, r2, rfl, -, kq2, hcq2, -⟩ := ho3.here (by omega)
              have f0 : w3.cell? ⟨w.heap.size, 0, none⟩ = some (.int .i64 f) := (hbw3.cell (p := ⟨_, _, none⟩) z0).trans c0
              have f1 : w3.cell? ⟨w.heap.size, 1, none⟩ = some (.int .i64 s) := (hbw3.cell (p := ⟨_, _, none⟩) z0).trans c1
              have f2 : w3.cell? ⟨w.heap.size, 2, none⟩ = some (.int .i64 z) := (hbw3.cell (p := ⟨_, _, none⟩) z0).trans c2
              have hz3 := hbw3.size
              have HO3 := Lib.hid ho3; clear ho3
              have HO4 := Lib.hid ho4; clear ho4
              have HAP3 := Lib.hid hap3; clear hap3
              have HBW3 := Lib.hid hbw3; clear hbw3
              have HC1 := Lib.hid hcq1; clear hcq1
              have HC2 := Lib.hid hcq2; clear hcq2
              go_wp2_with fail
              refine Calls.later (apart_any f s z (n + 1) _ _ q1 r1 ca1 q2 r2 cb1 _ (by omega) (by omega) HR.out HGOOD.out.stand (fun i hi => HC1.out i _ (rowOf_get _ _ _ i hi)) (fun i hi => HC2.out i _ (rowOf_get _ _ _ i hi)) kq1 kq2) ?_
              intro v
              go_wp2_with fail
              go_roundw
              case rel =>
                refine ⟨k + 1, n + 1, (fun i => if i = n then pv else P i), (fun i => if i = n then b else S i), pv + b, _, _, _, _, by omega, rfl, rfl, rfl, by go_num, ?_⟩
                exact ⟨HGOOD.out, by omega, by omega, by omega, HO4.out.later v, HO3.out.later v, HAP3.out, HBW3.out.trans (v.below.mono HBW3.out.size)⟩
              case measure => simp [intOf]; omega
        · have hf : fitsB f s z (P 0) t b = false := by simpa using hf
          by_cases hbz : b ≤ z
          · have hd2 : decide (2 * z ≤ roomN f s z (P 0) t) = false := by
              have := no_fit f s z (P 0) t b ht0 HR.out htm hb1 hbz hf
              simp; omega
            have hdz : decide (b ≤ z) = true := by simp; omega
            obtain ⟨rb1, rb2⟩ := room_bd f s z (P 0) t
            go_wp2_with fail
            refine Calls.later (fits_any _ _ _ _ _ _ _ hh ht0) ?_
            intro x
            rw [hf]
            go_wp2_with fail
            refine wp_region_later1 (by kernel_rfl) (by kernel_rfl) ?_
            repeat go_big_quiet_step ((go_at_call 24; exact later_call (room_any _ _ _ _ _ _ hh ht0)))
            refine wpQuiet_nil ?_
            intro x
            go_wp2_with fail
            go_roundw
            case rel => exact ⟨k + 1, n, _, _, t, _, _, _, _, by omega, rfl, rfl, rfl, by go_num, HI.out.on x⟩
            case measure => simp [intOf]; omega
          · have hdz : decide (b ≤ z) = false := by simp; omega
            go_wp2_with fail
            refine Calls.later (fits_any _ _ _ _ _ _ _ hh ht0) ?_
            intro x
            rw [hf]
            go_wp2_with fail
            refine wp_region_later1 (by kernel_rfl) (by kernel_rfl) ?_
            repeat go_big_quiet_step (fail)
            refine wpQuiet_nil ?_
            intro x
            go_wp2_with fail
            go_roundw
            case rel => exact ⟨k + 1, n, _, _, t, _, _, _, _, by omega, rfl, rfl, rfl, by go_num, HI.out.on x⟩
            case measure => simp [intOf]; omega
      · obtain rfl : n = 0 := by omega
        by_cases hf : fitsB f s z (t) t b = true
        · have hs : startB f s z t b = true := by simp only [fitsB, Bool.and_eq_true] at hf; exact hf.1
          obtain ⟨s1, s2, -, s3, s4, s5, s6⟩ := startV_bd f s z t b ht0 hs
          have hfv : fitsV f s z (t) t b = startV f s z t b := by simp [fitsV, hf]
          have hgood := HI.out.good.put ht0 (by omega) HR.out (b := b) (by rw [if_neg (by omega)]; exact hf)
          have HGOOD := Lib.hid hgood; clear hgood
          obtain ⟨a1, a2⟩ := at_bd f s z t ht0 htm
          have hsv : startV f s z t b = if z < atN f s z t + b then nextN f s z t else t := by simp [startV, hs]
          have HS := Lib.hid hs; clear hs
          by_cases ha : atN f s z t = 0
          · have hpt : startV f s z t b = t := by rw [hsv, if_neg (by omega)]
            have HPT := Lib.hid hpt
            have HA0 := Lib.hid ha
            clear hpt ha hsv
            generalize hpv : startV f s z t b = pv at *
            obtain rfl : pv = t := HPT.out
            clear HPT hpv
            go_wp2_with fail
            refine Calls.later (fits_any _ _ _ _ _ _ _ ht0 ht0) ?_
            intro x
            rw [hf]
            go_wp2_with fail
            refine Calls.row1a (starts_one f s z pv _ ht0 htm HA0.out) ?_
            intro y
            go_wp2_with (at_builtin; refine Stopped.of ?_)
            have hW : Below wo.heap.size wo ((y.world.alloc (.cells #[.int .u64 pv] 24)).alloc (.cells #[.int .u64 pv] 24)) := by repeat' (first | (with_reducible assumption) | (with_reducible exact Below.refl _ _) | (with_reducible refine Below.lat ?_) | (with_reducible refine Below.all ?_ _))
            have hWz := hW.size
            have hB1 := HBW.out.size
            refine Stopped.mk ?_
            refine wpList_append_owns _ rfl _ _ 33 rfl 24 (.int .u64 0) 1 8 w1.heap.size Try.underlying33 info24 rfl (by decide) oa' 0 ca' (rowOf .u64 0 P) rfl (HI.out.own1.below hW) ⟨y.world.heap.size + 1, 0, none⟩ 1 1 [.int .u64 pv] rfl rfl ?_ ?_ (by decide) ?_ ?_ ?_ ?_
            · have := cell_one_new (y.world.alloc (.cells #[.int .u64 pv] 24)) (.int .u64 pv) 24
              rwa [World.size_alloc] at this
            · simp [Value.oneCell']
            · unfold maxLen; omega
            · omega
            · first | omega | (simp; omega)
            intro oa1 ca1 w2 ho1 hg1 hd1
            rw [rowOf_snoc] at ho1
            have hne1 : ∀ a, ob = some a → some a.block ≠ (oa').map Addr.block := by
              intro a ha e
              obtain ⟨a', e1, e2⟩ := Option.map_eq_some_iff.1 e.symm
              exact HI.out.apart a' a e1 ha e2
            have ho2 := (HI.out.own2.below hW).grown hg1 hne1
            have hbw2 : Below w1.heap.size w1 w2 := Below.grown (HBW.out.trans (hW.mono hB1)) hg1 (by omega) (fun k hk => by
              obtain ⟨a', e1, e2⟩ := Option.map_eq_some_iff.1 hk
              rw [← e2]; exact (HI.out.own1.lt e1).1)
            have hap2 : ∀ a b, oa1 = some a → ob = some b → a.block ≠ b.block := by
              intro a b ha hb'
              rcases hd1 a ha with h | h
              · exact HI.out.apart a b h hb'
              · have := (HI.out.own2.lt hb').2; omega
            have hz2 := hbw2.size
            clear hg1 hne1 hd1
            have HO1 := Lib.hid ho1; clear ho1
            have HO2 := Lib.hid ho2; clear ho2
            have HAP2 := Lib.hid hap2; clear hap2
            have HBW2 := Lib.hid hbw2; clear hbw2
            have HWW := Lib.hid hW; clear hW
            go_wp2_with (at_builtin; refine Stopped.of ?_)
            refine Stopped.mk ?_
            refine wpList_append_owns _ rfl _ _ 50 rfl 3 (.int .i64 0) 1 8 w1.heap.size Try.underlying50 info3 rfl (by decide) ob 0 cb (rowOf .i64 0 S) rfl (HO2.out.alloc _) ⟨w2.heap.size, 0, none⟩ 1 1 [.int .i64 b] rfl rfl ?_ ?_ (by decide) ?_ ?_ ?_ ?_
            · exact cell_one_new _ _ _
            · simp [Value.oneCell']
            · unfold maxLen; omega
            · omega
            · simp only [World.size_alloc]; omega
            intro ob1 cb1 w3 ho3 hg2 hd2
            rw [rowOf_snoc] at ho3
            have hbw3 : Below w1.heap.size w1 w3 := Below.grown (HBW2.out.alloc hz2 _) hg2 (by simp; omega) (fun k hk => by
              obtain ⟨a', e1, e2⟩ := Option.map_eq_some_iff.1 hk
              rw [← e2]; exact (HO2.out.lt e1).1)
            have ho4 := (HO1.out.alloc (.cells #[.int .i64 b] 3)).grown hg2 (fun a ha e => by
              obtain ⟨a', e1, e2⟩ := Option.map_eq_some_iff.1 e.symm
              exact HAP2.out a a' ha e1 e2.symm)
            have hap3 : ∀ a b, oa1 = some a → ob1 = some b → a.block ≠ b.block := by
              intro a b ha hb'
              rcases hd2 b hb' with h | h
              · exact HAP2.out a b ha h
              · have h1 := (HO1.out.lt ha).2
                simp only [World.size_alloc] at h
                omega
            clear hg2 hd2 HWW
            obtain ⟨q1, r1, rfl, -, kq1, hcq1, -⟩ := ho4.here (by omega)
            obtain ⟨q2, r2, rfl, -, kq2, hcq2, -⟩ := ho3.here (by omega)
            have f0 : w3.cell? ⟨w.heap.size, 0, none⟩ = some (.int .i64 f) := (hbw3.cell (p := ⟨_, _, none⟩) z0).trans c0
            have f1 : w3.cell? ⟨w.heap.size, 1, none⟩ = some (.int .i64 s) := (hbw3.cell (p := ⟨_, _, none⟩) z0).trans c1
            have f2 : w3.cell? ⟨w.heap.size, 2, none⟩ = some (.int .i64 z) := (hbw3.cell (p := ⟨_, _, none⟩) z0).trans c2
            have hz3 := hbw3.size
            have HO3 := Lib.hid ho3; clear ho3
            have HO4 := Lib.hid ho4; clear ho4
            have HAP3 := Lib.hid hap3; clear hap3
            have HBW3 := Lib.hid hbw3; clear hbw3
            have HC1 := Lib.hid hcq1; clear hcq1
            have HC2 := Lib.hid hcq2; clear hcq2
            go_wp2_with fail
            refine Calls.later (apart_any f s z (0 + 1) _ _ q1 r1 ca1 q2 r2 cb1 _ (by omega) (by omega) HR.out HGOOD.out.stand (fun i hi => HC1.out i _ (rowOf_get _ _ _ i hi)) (fun i hi => HC2.out i _ (rowOf_get _ _ _ i hi)) kq1 kq2) ?_
            intro v
            go_wp2_with fail
            go_roundw
            case rel =>
              refine ⟨k + 1, 0 + 1, (fun i => if i = 0 then pv else P i), (fun i => if i = 0 then b else S i), pv + b, _, _, _, _, by omega, rfl, rfl, rfl, by go_num, ?_⟩
              exact ⟨HGOOD.out, by omega, by omega, by omega, HO4.out.later v, HO3.out.later v, HAP3.out, HBW3.out.trans (v.below.mono HBW3.out.size)⟩
            case measure => simp [intOf]; omega
          · by_cases hat : z < atN f s z t + b
            · rw [if_pos hat] at hsv
              have ha' : 0 < atN f s z t := by omega
              have hnt : nextN f s z t = t + (z - atN f s z t) := by simp [nextN, ha']
              have hne1 : (nextN f s z t != t) = true := by rw [bne_iff_ne]; omega
              have hlt' : decide (nextN f s z t < t) = false := by simp; omega
              have HNT := Lib.hid hnt; clear hnt
              have HSV := Lib.hid hsv; clear hsv
              rw [HSV.out] at hfv s1 s2 HGOOD
              clear HSV
              generalize hpv : nextN f s z t = pv at *
              have HPV := Lib.hid hpv; clear hpv
              go_wp2_with fail
              refine Calls.later (fits_any _ _ _ _ _ _ _ ht0 ht0) ?_
              intro x
              rw [hf]
              go_wp2_with fail
              refine Calls.row1b (starts_two f s z t _ ht0 htm ha') ?_
              rw [HPV.out]
              intro y
              go_wp2_with (at_builtin; refine Stopped.of ?_)
              have hW : Below wo.heap.size wo ((y.world.alloc (.cells #[.int .u64 t, .int .u64 pv] 24)).alloc (.cells #[.int .u64 pv] 24)) := by repeat' (first | (with_reducible assumption) | (with_reducible exact Below.refl _ _) | (with_reducible refine Below.lat ?_) | (with_reducible refine Below.all ?_ _))
              have hWz := hW.size
              have hB1 := HBW.out.size
              refine Stopped.mk ?_
              refine wpList_append_owns _ rfl _ _ 33 rfl 24 (.int .u64 0) 1 8 w1.heap.size Try.underlying33 info24 rfl (by decide) oa' 0 ca' (rowOf .u64 0 P) rfl (HI.out.own1.below hW) ⟨y.world.heap.size + 1, 0, none⟩ 1 1 [.int .u64 pv] rfl rfl ?_ ?_ (by decide) ?_ ?_ ?_ ?_
              · have := cell_one_new (y.world.alloc (.cells #[.int .u64 t, .int .u64 pv] 24)) (.int .u64 pv) 24
                rwa [World.size_alloc] at this
              · simp [Value.oneCell']
              · unfold maxLen; omega
              · omega
              · first | omega | (simp; omega)
              intro oa1 ca1 w2 ho1 hg1 hd1
              rw [rowOf_snoc] at ho1
              have hne1 : ∀ a, ob = some a → some a.block ≠ (oa').map Addr.block := by
                intro a ha e
                obtain ⟨a', e1, e2⟩ := Option.map_eq_some_iff.1 e.symm
                exact HI.out.apart a' a e1 ha e2
              have ho2 := (HI.out.own2.below hW).grown hg1 hne1
              have hbw2 : Below w1.heap.size w1 w2 := Below.grown (HBW.out.trans (hW.mono hB1)) hg1 (by omega) (fun k hk => by
                obtain ⟨a', e1, e2⟩ := Option.map_eq_some_iff.1 hk
                rw [← e2]; exact (HI.out.own1.lt e1).1)
              have hap2 : ∀ a b, oa1 = some a → ob = some b → a.block ≠ b.block := by
                intro a b ha hb'
                rcases hd1 a ha with h | h
                · exact HI.out.apart a b h hb'
                · have := (HI.out.own2.lt hb').2; omega
              have hz2 := hbw2.size
              clear hg1 hne1 hd1
              have HO1 := Lib.hid ho1; clear ho1
              have HO2 := Lib.hid ho2; clear ho2
              have HAP2 := Lib.hid hap2; clear hap2
              have HBW2 := Lib.hid hbw2; clear hbw2
              have HWW := Lib.hid hW; clear hW
              go_wp2_with (at_builtin; refine Stopped.of ?_)
              refine Stopped.mk ?_
              refine wpList_append_owns _ rfl _ _ 50 rfl 3 (.int .i64 0) 1 8 w1.heap.size Try.underlying50 info3 rfl (by decide) ob 0 cb (rowOf .i64 0 S) rfl (HO2.out.alloc _) ⟨w2.heap.size, 0, none⟩ 1 1 [.int .i64 b] rfl rfl ?_ ?_ (by decide) ?_ ?_ ?_ ?_
              · exact cell_one_new _ _ _
              · simp [Value.oneCell']
              · unfold maxLen; omega
              · omega
              · simp only [World.size_alloc]; omega
              intro ob1 cb1 w3 ho3 hg2 hd2
              rw [rowOf_snoc] at ho3
              have hbw3 : Below w1.heap.size w1 w3 := Below.grown (HBW2.out.alloc hz2 _) hg2 (by simp; omega) (fun k hk => by
                obtain ⟨a', e1, e2⟩ := Option.map_eq_some_iff.1 hk
                rw [← e2]; exact (HO2.out.lt e1).1)
              have ho4 := (HO1.out.alloc (.cells #[.int .i64 b] 3)).grown hg2 (fun a ha e => by
                obtain ⟨a', e1, e2⟩ := Option.map_eq_some_iff.1 e.symm
                exact HAP2.out a a' ha e1 e2.symm)
              have hap3 : ∀ a b, oa1 = some a → ob1 = some b → a.block ≠ b.block := by
                intro a b ha hb'
                rcases hd2 b hb' with h | h
                · exact HAP2.out a b ha h
                · have h1 := (HO1.out.lt ha).2
                  simp only [World.size_alloc] at h
                  omega
              clear hg2 hd2 HWW
              obtain ⟨q1, r1, rfl, -, kq1, hcq1, -⟩ := ho4.here (by omega)
              obtain ⟨q2, r2, rfl, -, kq2, hcq2, -⟩ := ho3.here (by omega)
              have f0 : w3.cell? ⟨w.heap.size, 0, none⟩ = some (.int .i64 f) := (hbw3.cell (p := ⟨_, _, none⟩) z0).trans c0
              have f1 : w3.cell? ⟨w.heap.size, 1, none⟩ = some (.int .i64 s) := (hbw3.cell (p := ⟨_, _, none⟩) z0).trans c1
              have f2 : w3.cell? ⟨w.heap.size, 2, none⟩ = some (.int .i64 z) := (hbw3.cell (p := ⟨_, _, none⟩) z0).trans c2
              have hz3 := hbw3.size
              have HO3 := Lib.hid ho3; clear ho3
              have HO4 := Lib.hid ho4; clear ho4
              have HAP3 := Lib.hid hap3; clear hap3
              have HBW3 := Lib.hid hbw3; clear hbw3
              have HC1 := Lib.hid hcq1; clear hcq1
              have HC2 := Lib.hid hcq2; clear hcq2
              go_wp2_with fail
              refine Calls.later (apart_any f s z (0 + 1) _ _ q1 r1 ca1 q2 r2 cb1 _ (by omega) (by omega) HR.out HGOOD.out.stand (fun i hi => HC1.out i _ (rowOf_get _ _ _ i hi)) (fun i hi => HC2.out i _ (rowOf_get _ _ _ i hi)) kq1 kq2) ?_
              intro v
              go_wp2_with fail
              go_roundw
              case rel =>
                refine ⟨k + 1, 0 + 1, (fun i => if i = 0 then pv else P i), (fun i => if i = 0 then b else S i), pv + b, _, _, _, _, by omega, rfl, rfl, rfl, by go_num, ?_⟩
                exact ⟨HGOOD.out, by omega, by omega, by omega, HO4.out.later v, HO3.out.later v, HAP3.out, HBW3.out.trans (v.below.mono HBW3.out.size)⟩
              case measure => simp [intOf]; omega
            · rw [if_neg hat] at hsv
              have ha' : 0 < atN f s z t := by omega
              have HPT := Lib.hid hsv; clear hsv
              generalize hpv : startV f s z t b = pv at *
              obtain rfl : pv = t := HPT.out
              clear HPT hpv
              go_wp2_with fail
              refine Calls.later (fits_any _ _ _ _ _ _ _ ht0 ht0) ?_
              intro x
              rw [hf]
              go_wp2_with fail
              refine Calls.row1b (starts_two f s z pv _ ht0 htm ha') ?_
              intro y
              go_wp2_with (at_builtin; refine Stopped.of ?_)
              have hW : Below wo.heap.size wo ((y.world.alloc (.cells #[.int .u64 pv, .int .u64 (nextN f s z pv)] 24)).alloc (.cells #[.int .u64 pv] 24)) := by repeat' (first | (with_reducible assumption) | (with_reducible exact Below.refl _ _) | (with_reducible refine Below.lat ?_) | (with_reducible refine Below.all ?_ _))
              have hWz := hW.size
              have hB1 := HBW.out.size
              refine Stopped.mk ?_
              refine wpList_append_owns _ rfl _ _ 33 rfl 24 (.int .u64 0) 1 8 w1.heap.size Try.underlying33 info24 rfl (by decide) oa' 0 ca' (rowOf .u64 0 P) rfl (HI.out.own1.below hW) ⟨y.world.heap.size + 1, 0, none⟩ 1 1 [.int .u64 pv] rfl rfl ?_ ?_ (by decide) ?_ ?_ ?_ ?_
              · have := cell_one_new (y.world.alloc (.cells #[.int .u64 pv, .int .u64 (nextN f s z pv)] 24)) (.int .u64 pv) 24
                rwa [World.size_alloc] at this
              · simp [Value.oneCell']
              · unfold maxLen; omega
              · omega
              · first | omega | (simp; omega)
              intro oa1 ca1 w2 ho1 hg1 hd1
              rw [rowOf_snoc] at ho1
              have hne1 : ∀ a, ob = some a → some a.block ≠ (oa').map Addr.block := by
                intro a ha e
                obtain ⟨a', e1, e2⟩ := Option.map_eq_some_iff.1 e.symm
                exact HI.out.apart a' a e1 ha e2
              have ho2 := (HI.out.own2.below hW).grown hg1 hne1
              have hbw2 : Below w1.heap.size w1 w2 := Below.grown (HBW.out.trans (hW.mono hB1)) hg1 (by omega) (fun k hk => by
                obtain ⟨a', e1, e2⟩ := Option.map_eq_some_iff.1 hk
                rw [← e2]; exact (HI.out.own1.lt e1).1)
              have hap2 : ∀ a b, oa1 = some a → ob = some b → a.block ≠ b.block := by
                intro a b ha hb'
                rcases hd1 a ha with h | h
                · exact HI.out.apart a b h hb'
                · have := (HI.out.own2.lt hb').2; omega
              have hz2 := hbw2.size
              clear hg1 hne1 hd1
              have HO1 := Lib.hid ho1; clear ho1
              have HO2 := Lib.hid ho2; clear ho2
              have HAP2 := Lib.hid hap2; clear hap2
              have HBW2 := Lib.hid hbw2; clear hbw2
              have HWW := Lib.hid hW; clear hW
              go_wp2_with (at_builtin; refine Stopped.of ?_)
              refine Stopped.mk ?_
              refine wpList_append_owns _ rfl _ _ 50 rfl 3 (.int .i64 0) 1 8 w1.heap.size Try.underlying50 info3 rfl (by decide) ob 0 cb (rowOf .i64 0 S) rfl (HO2.out.alloc _) ⟨w2.heap.size, 0, none⟩ 1 1 [.int .i64 b] rfl rfl ?_ ?_ (by decide) ?_ ?_ ?_ ?_
              · exact cell_one_new _ _ _
              · simp [Value.oneCell']
              · unfold maxLen; omega
              · omega
              · simp only [World.size_alloc]; omega
              intro ob1 cb1 w3 ho3 hg2 hd2
              rw [rowOf_snoc] at ho3
              have hbw3 : Below w1.heap.size w1 w3 := Below.grown (HBW2.out.alloc hz2 _) hg2 (by simp; omega) (fun k hk => by
                obtain ⟨a', e1, e2⟩ := Option.map_eq_some_iff.1 hk
                rw [← e2]; exact (HO2.out.lt e1).1)
              have ho4 := (HO1.out.alloc (.cells #[.int .i64 b] 3)).grown hg2 (fun a ha e => by
                obtain ⟨a', e1, e2⟩ := Option.map_eq_some_iff.1 e.symm
                exact HAP2.out a a' ha e1 e2.symm)
              have hap3 : ∀ a b, oa1 = some a → ob1 = some b → a.block ≠ b.block := by
                intro a b ha hb'
                rcases hd2 b hb' with h | h
                · exact HAP2.out a b ha h
                · have h1 := (HO1.out.lt ha).2
                  simp only [World.size_alloc] at h
                  omega
              clear hg2 hd2 HWW
              obtain ⟨q1, r1, rfl, -, kq1, hcq1, -⟩ := ho4.here (by omega)
              obtain ⟨q2, r2, rfl, -, kq2, hcq2, -⟩ := ho3.here (by omega)
              have f0 : w3.cell? ⟨w.heap.size, 0, none⟩ = some (.int .i64 f) := (hbw3.cell (p := ⟨_, _, none⟩) z0).trans c0
              have f1 : w3.cell? ⟨w.heap.size, 1, none⟩ = some (.int .i64 s) := (hbw3.cell (p := ⟨_, _, none⟩) z0).trans c1
              have f2 : w3.cell? ⟨w.heap.size, 2, none⟩ = some (.int .i64 z) := (hbw3.cell (p := ⟨_, _, none⟩) z0).trans c2
              have hz3 := hbw3.size
              have HO3 := Lib.hid ho3; clear ho3
              have HO4 := Lib.hid ho4; clear ho4
              have HAP3 := Lib.hid hap3; clear hap3
              have HBW3 := Lib.hid hbw3; clear hbw3
              have HC1 := Lib.hid hcq1; clear hcq1
              have HC2 := Lib.hid hcq2; clear hcq2
              go_wp2_with fail
              refine Calls.later (apart_any f s z (0 + 1) _ _ q1 r1 ca1 q2 r2 cb1 _ (by omega) (by omega) HR.out HGOOD.out.stand (fun i hi => HC1.out i _ (rowOf_get _ _ _ i hi)) (fun i hi => HC2.out i _ (rowOf_get _ _ _ i hi)) kq1 kq2) ?_
              intro v
              go_wp2_with fail
              go_roundw
              case rel =>
                refine ⟨k + 1, 0 + 1, (fun i => if i = 0 then pv else P i), (fun i => if i = 0 then b else S i), pv + b, _, _, _, _, by omega, rfl, rfl, rfl, by go_num, ?_⟩
                exact ⟨HGOOD.out, by omega, by omega, by omega, HO4.out.later v, HO3.out.later v, HAP3.out, HBW3.out.trans (v.below.mono HBW3.out.size)⟩
              case measure => simp [intOf]; omega
        · have hf : fitsB f s z (t) t b = false := by simpa using hf
          by_cases hbz : b ≤ z
          · have hd2 : decide (2 * z ≤ roomN f s z (t) t) = false := by
              have := no_fit f s z (t) t b ht0 HR.out htm hb1 hbz hf
              simp; omega
            have hdz : decide (b ≤ z) = true := by simp; omega
            obtain ⟨rb1, rb2⟩ := room_bd f s z (t) t
            go_wp2_with fail
            refine Calls.later (fits_any _ _ _ _ _ _ _ ht0 ht0) ?_
            intro x
            rw [hf]
            go_wp2_with fail
            refine wp_region_later1 (by kernel_rfl) (by kernel_rfl) ?_
            repeat go_big_quiet_step ((go_at_call 24; exact later_call (room_any _ _ _ _ _ _ ht0 ht0)))
            refine wpQuiet_nil ?_
            intro x
            go_wp2_with fail
            go_roundw
            case rel => exact ⟨k + 1, 0, _, _, t, _, _, _, _, by omega, rfl, rfl, rfl, by go_num, HI.out.on x⟩
            case measure => simp [intOf]; omega
          · have hdz : decide (b ≤ z) = false := by simp; omega
            go_wp2_with fail
            refine Calls.later (fits_any _ _ _ _ _ _ _ ht0 ht0) ?_
            intro x
            rw [hf]
            go_wp2_with fail
            refine wp_region_later1 (by kernel_rfl) (by kernel_rfl) ?_
            repeat go_big_quiet_step (fail)
            refine wpQuiet_nil ?_
            intro x
            go_wp2_with fail
            go_roundw
            case rel => exact ⟨k + 1, 0, _, _, t, _, _, _, _, by omega, rfl, rfl, rfl, by go_num, HI.out.on x⟩
            case measure => simp [intOf]; omega
end Go.Proofs.Ytoehbcbdkahjpaa
