/- Walk over the stage's theorem. -/
import Derived.Test.YtppiippadffpfaaC
import Derived.Deep.DeepCutAuto
import Derived.Deep.CutBlock
import Derived.StillTailTactics
set_option linter.unusedSimpArgs false
set_option linter.unusedVariables false
namespace Go.Proofs.Ytppiippadffpfaa
open Go.RowKit

set_option maxRecDepth 100000 in
set_option maxHeartbeats 20000000 in
theorem lawExact_any (oa : Option Addr) (L ca : Nat) (A : Nat → Int) (w : World)
    (hA : ∀ i, i < L → ∃ g off, oa = some ⟨g, off, none⟩ ∧ g < w.heap.size ∧ w.cell? ⟨g, off + i, none⟩ = some (.int .i64 (A i))) :
    Calls Try.prog 3 #[.slice oa L ca] w (RetAt w (.bool true)) := by
  have HA := Lib.hid hA; clear hA
  by_cases hL : 60 < L
  · go_enter Try.func3, Try.ntmps3
    go_wp2_with (go_at_call 4; refine Calls.later (works_any _) ?_; intro x)
    go_ret
    exact .mk rfl x.below
  go_enter Try.func3, Try.ntmps3
  go_wp2_with fail
  refine Code.fresh (fun w1 => Below w.heap.size w w1 ∧ St w.heap.size 0 0 0 (fun _ => 0) (fun _ => 0) (fun _ => 0) (fun _ => 0) (fun _ => 0) 1 0 0 none none none none 0 0 0 0 w w1) ?_ ?_
  · refine ⟨by go_grown, ⟨Once.start, Nat.le_refl _, Nat.le_refl _, by omega, ?_, by go_cell, by go_cell, fun j => by go_cell, by simp, by go_grown⟩⟩
    refine Family.none _ _ _ fun i r hi => ?_
    rcases i with _ | _ | _ | _ | i <;> simp [four] at hi <;> subst hi <;> exact ⟨rfl, rfl, rfl, rfl⟩
  generalize hBM : w.heap.size = BM
  rintro w1 ⟨hb, HS⟩
  go_loopw [3, 4, 5, 6, 7, 9] (fun u3 u4 u5 u6 u7 u9 wr => ∃ k : Nat, u9 = .int .i64 k ∧ k ≤ L + 1 ∧ ∃ (a t : Nat) (E N V : Nat → Int) (pl : Nat → Nat) (c : Nat → Int) (ep me mn : Int) (o3 o4 o5 o6 : Option Addr) (c3 c4 c5 c6 : Nat), u3 = .slice o3 a c3 ∧ u4 = .slice o4 t c4 ∧ u5 = .slice o5 a c5 ∧ u6 = .slice o6 t c6 ∧ u7 = .int .u32 ep ∧ Hid (St BM k a t E N V pl c ep me mn o3 o4 o5 o6 c3 c4 c5 c6 w wr)) (fun _ _ _ _ _ u9 _ => (L : Int) + 1 - intOf u9 |>.toNat)
  case atStart => exact ⟨0, rfl, by omega, 0, 0, _, _, _, _, _, 1, 0, 0, none, none, none, none, 0, 0, 0, 0, rfl, rfl, rfl, rfl, rfl, HS⟩
  case round =>
    obtain ⟨k, rfl, hk, a, t, E, N, V, pl, c, ep, me, mn, o3, o4, o5, o6, c3, c4, c5, c6, rfl, rfl, rfl, rfl, rfl, HI⟩ := hrel
    by_cases hlast : k ≤ L
    case neg =>
      go_wp2_with fail
      refine Calls.later (works_any _) ?_
      intro x
      go_wp2_with fail
      go_ret
      exact .mk rfl (by subst hBM; exact Below.via HI.out.below x.below)
    go_upto_if 33 with fail
    go_cut [10, 11] (fun u10 u11 wc => ∃ dd bb : Int, u10 = .int .i64 dd ∧ u11 = .int .i64 bb ∧ (0 ≤ dd ∧ dd ≤ 9 ∧ dd ≠ 8 ∧ 0 ≤ bb ∧ bb < 1000 ∧ (dd = 9 ∨ k < L)) ∧ ∃ x : Later wr, wc = x.world)
    case first =>
      as_aux_lemma =>
        by_cases hlt : k < L
        · obtain ⟨ga, offa, rfl, kga, hAk⟩ := HA.out k hlt
          have dA : wr.cell? ⟨ga, offa + k, none⟩ = some (.int .i64 (A k)) := by subst hBM; exact (HI.out.below.cell (p := ⟨_, _, none⟩) kga).trans hAk
          have dga : ga < wr.heap.size := by have := HI.out.below.size; omega
          clear hAk
          have b1 := fun i => pick_bd i 8 (by omega)
          have b2 := fun i => pick_bd i 1000 (by omega)
          have B1 := Lib.hid b1; clear b1
          have B2 := Lib.hid b2; clear b2
          go_wp2_with (first | (go_at_call 5; first | (refine Calls.later1 (pick_any _ _ _ (by decide) (by decide)) ?_; intro x) | (refine Calls.later (pick_any _ _ _ (by decide) (by decide)) ?_; intro x)))
          go_meet
          case rel =>
            refine ⟨_, _, rfl, rfl, ⟨(B1.out _).1, ?_, ?_, (B2.out _).1, (B2.out _).2, .inr hlt⟩, _, rfl⟩
            · have := (B1.out (A k)).2; omega
            · have := (B1.out (A k)).2; omega
        · go_wp2_with fail
          go_meet
          case rel => exact ⟨9, 0, rfl, rfl, ⟨by omega, by omega, by omega, by omega, by omega, .inl rfl⟩, ⟨wr, Below.refl _ _⟩, rfl⟩
    case rest =>
      as_aux_lemma =>
        obtain ⟨dd, bb, rfl, rfl, ⟨hd0, hd1, hd8, hb0, hb1, hdk⟩, x, rfl⟩ := hcut
        have HI : Hid (St BM k a t E N V pl c ep me mn o3 o4 o5 o6 c3 c4 c5 c6 w x.world) := ⟨HI.out.once, HI.out.ta, HI.out.ak, HI.out.epk, HI.out.fam.later x, (x.cell _ _ HI.out.mz).trans HI.out.m0, (x.cell _ _ HI.out.mz).trans HI.out.m1, fun j => (x.frozen _ _ HI.out.mz).trans (HI.out.mf j),
          Nat.lt_of_lt_of_le HI.out.mz x.below.size, HI.out.below.trans (x.below.mono (Nat.le_of_lt HI.out.mz))⟩
        generalize x.world = wr at *
        clear x
        go_upto_block 2 with fail
        go_cut [3, 4, 5, 6, 7] (fun u3 u4 u5 u6 u7 wc => ∃ (a t : Nat) (E N V : Nat → Int) (pl : Nat → Nat) (c : Nat → Int) (ep me mn : Int) (o3 o4 o5 o6 : Option Addr) (c3 c4 c5 c6 : Nat), u3 = .slice o3 a c3 ∧ u4 = .slice o4 t c4 ∧ u5 = .slice o5 a c5 ∧ u6 = .slice o6 t c6 ∧ u7 = .int .u32 ep ∧ Hid (St BM (k + 1) a t E N V pl c ep me mn o3 o4 o5 o6 c3 c4 c5 c6 w wc))
        case first =>
          as_aux_lemma =>
            have hta := HI.out.ta
            have hak := HI.out.ak
            have hek := HI.out.epk
            have hmz := HI.out.mz
            by_cases hd2 : dd < 2
            · have hdd2 : decide (dd < 2) = true := by simpa using hd2
              clear hd0 hd1 hd8 hd2
              have hep := HI.out.once.ep1
              have hk60 : k ≤ 60 := by omega
              have hmz : BM + 1 ≤ wr.heap.size := hmz
              rcases Nat.lt_or_ge 0 t with ht | ht
              · as_aux_lemma =>
                  obtain ⟨t, rfl⟩ : ∃ t', t = t' + 1 := ⟨t - 1, by omega⟩
                  obtain ⟨g4, f4, rfl, kg4, hc4⟩ := HI.out.there (by omega)
                  obtain ⟨e0, -⟩ := hc4 t (by omega)
                  clear hc4
                  obtain ⟨v, hv⟩ : ∃ v, E (pl t) = v := ⟨_, rfl⟩
                  rw [hv] at e0
                  have HV := Lib.hid hv; clear hv
                  have hfam : Family (wr.alloc (.cells #[.int .u32 ep, .int .u64 ((t : Int) + 1), .int .u32 v, .slice none 0 0] 32)) (BM + 1) (four a (t + 1) E N V pl c o3 (some ⟨g4, f4, none⟩) o5 o6 c3 c4 c5 c6 ++ [⟨4, some ⟨wr.heap.size, 0, none⟩, 1, 1, [.int .u32 ep, .int .u64 ((t : Int) + 1), .int .u32 v, .slice none 0 0]⟩]) := HI.out.fam.add hmz 4 1 1 _ 32 _ (Nat.le_refl 4) (by decide) (by decide) rfl
                  have FAM0 := Lib.hid hfam; clear hfam
                  have hkeep : Below (BM + 1) wr (wr.alloc (.cells #[.int .u32 ep, .int .u64 ((t : Int) + 1), .int .u32 v, .slice none 0 0] 32)) := (Below.refl _ _).alloc hmz _
                  have KEEP0 := Lib.hid hkeep; clear hkeep
                  go_wp2_with (at_builtin; refine Stopped.of ?_)
                  refine Stopped.mk ?_
                  have hs1 := KEEP0.out.size
                  refine wpList_append_family _ rfl _ _ 24 rfl 32 (.agg #[.int .u32 0, .int .u64 0, .int .u32 0, .slice none 0 0]) 4 48 (BM + 1) Try.underlying24 info32 rfl (by decide) (Family.below FAM0.out (by repeat' (first | (with_reducible assumption) | (with_reducible exact Below.refl _ _) | (with_reducible exact Later.below _) | (with_reducible refine Below.lat ?_) | (with_reducible refine Below.all ?_ _) | (with_reducible refine Below.drew ?_)))) 1 rfl rfl _ 1 1 [.int .u32 ep, .int .u64 ((t : Int) + 1), .int .u32 v, .slice none 0 0] rfl rfl ?_ ?_ (by decide) ?_ ?_ ?_ ?_
                  · have := news_new (wr.alloc (.cells #[.int .u32 ep, .int .u64 ((t : Int) + 1), .int .u32 v, .slice none 0 0] 32)) #[.int .u32 ep, .int .u64 ((t : Int) + 1), .int .u32 v, .slice none 0 0] 32
                    rwa [World.size_alloc] at this
                  · simp [Value.oneCell']
                  · unfold maxLen; omega
                  · omega
                  · first | omega | (simp only [World.size_alloc] at *; omega)
                  intro q1 k1 w2 fam1 keep1
                  have kp1 : Below (BM + 1) wr w2 := (KEEP0.out.alloc (by first | omega | (simp only [World.size_alloc] at *; omega)) _).trans keep1
                  have FAM1 := Lib.hid fam1; clear fam1
                  have KEEP1 := Lib.hid kp1; clear kp1 keep1 hs1
                  go_wp2_with (at_builtin; refine Stopped.of ?_)
                  refine Stopped.mk ?_
                  have hs2 := KEEP1.out.size
                  refine wpList_append_family _ rfl _ _ 22 rfl 3 (.int .i64 0) 1 8 (BM + 1) Try.underlying22 info3 rfl (by decide) (Family.below FAM1.out (by repeat' (first | (with_reducible assumption) | (with_reducible exact Below.refl _ _) | (with_reducible exact Later.below _) | (with_reducible refine Below.lat ?_) | (with_reducible refine Below.all ?_ _) | (with_reducible refine Below.drew ?_)))) 3 rfl rfl _ 1 1 [.int .i64 (a : Int)] rfl rfl ?_ ?_ (by decide) ?_ ?_ ?_ ?_
                  · exact news_new _ _ _
                  · simp [Value.oneCell']
                  · unfold maxLen; omega
                  · omega
                  · first | omega | (simp only [World.size_alloc] at *; omega)
                  intro q2 k2 w3 fam2 keep2
                  have kp2 : Below (BM + 1) wr w3 := (KEEP1.out.alloc (by first | omega | (simp only [World.size_alloc] at *; omega)) _).trans keep2
                  have FAM2 := Lib.hid fam2; clear fam2
                  have KEEP2 := Lib.hid kp2; clear kp2 keep2 hs2
                  obtain ⟨gx, fx, ex, -, kx, hcx, -⟩ := Owns.here (FAM2.out.own 4 _ rfl) Nat.one_pos
                  obtain ⟨rfl, rfl⟩ : wr.heap.size = gx ∧ 0 = fx := by simpa using ex
                  have x0 : w3.cell? ⟨wr.heap.size, 0, none⟩ = some (.int .u32 ep) := by simpa using hcx 0 _ rfl
                  have x1 : w3.cell? ⟨wr.heap.size, 1, none⟩ = some (.int .u64 ((t : Int) + 1)) := by simpa using hcx 1 _ rfl
                  have x2 : w3.cell? ⟨wr.heap.size, 2, none⟩ = some (.int .u32 v) := by simpa using hcx 2 _ rfl
                  have x3 : w3.cell? ⟨wr.heap.size, 3, none⟩ = some (.slice none 0 0) := by simpa using hcx 3 _ rfl
                  clear hcx ex
                  go_wp2_with (at_builtin; refine Stopped.of ?_)
                  refine Stopped.mk ?_
                  have hs3 := KEEP2.out.size
                  refine wpList_append_family _ rfl _ _ 24 rfl 32 (.agg #[.int .u32 0, .int .u64 0, .int .u32 0, .slice none 0 0]) 4 48 (BM + 1) Try.underlying24 info32 rfl (by decide) (Family.below FAM2.out (by repeat' (first | (with_reducible assumption) | (with_reducible exact Below.refl _ _) | (with_reducible exact Later.below _) | (with_reducible refine Below.lat ?_) | (with_reducible refine Below.all ?_ _) | (with_reducible refine Below.drew ?_)))) 0 rfl rfl _ 1 1 [.int .u32 ep, .int .u64 ((t : Int) + 1), .int .u32 v, .slice none 0 0] rfl rfl ?_ ?_ (by decide) ?_ ?_ ?_ ?_
                  · exact news_new w3 #[.int .u32 ep, .int .u64 ((t : Int) + 1), .int .u32 v, .slice none 0 0] 32
                  · simp [Value.oneCell']
                  · unfold maxLen; omega
                  · omega
                  · first | omega | (simp only [World.size_alloc] at *; omega)
                  intro q3 k3 w4 fam3 keep3
                  have kp3 : Below (BM + 1) wr w4 := (KEEP2.out.alloc (by first | omega | (simp only [World.size_alloc] at *; omega)) _).trans keep3
                  have FAM3 := Lib.hid fam3; clear fam3
                  have KEEP3 := Lib.hid kp3; clear kp3 keep3 hs3
                  go_wp2_with (at_builtin; refine Stopped.of ?_)
                  refine Stopped.mk ?_
                  have hs4 := KEEP3.out.size
                  refine wpList_append_family _ rfl _ _ 22 rfl 3 (.int .i64 0) 1 8 (BM + 1) Try.underlying22 info3 rfl (by decide) (Family.below FAM3.out (by repeat' (first | (with_reducible assumption) | (with_reducible exact Below.refl _ _) | (with_reducible exact Later.below _) | (with_reducible refine Below.lat ?_) | (with_reducible refine Below.all ?_ _) | (with_reducible refine Below.drew ?_)))) 2 rfl rfl _ 1 1 [.int .i64 0] rfl rfl ?_ ?_ (by decide) ?_ ?_ ?_ ?_
                  · exact news_new _ _ _
                  · simp [Value.oneCell']
                  · unfold maxLen; omega
                  · omega
                  · first | omega | (simp only [World.size_alloc] at *; omega)
                  intro q4 k4 w5 fam4 keep4
                  have kp4 : Below (BM + 1) wr w5 := (KEEP3.out.alloc (by first | omega | (simp only [World.size_alloc] at *; omega)) _).trans keep4
                  have FAM4 := Lib.hid fam4; clear fam4
                  have KEEP4 := Lib.hid kp4; clear kp4 keep4 hs4
                  go_wp2_with fail
                  go_meet
                  case rel =>
                    refine ⟨a + 1, (t + 1) + 1, (fun y => if y = a then ep else E y), (fun y => if y = a then (((t + 1) : Nat) : Int) else N y), (fun y => if y = a then v else V y), (fun k => if k = (t + 1) then a else pl k), (fun y => if y = a then 0 else c y), ep, me, mn, q3, q1, q4, q2, k3, k1, k4, k2, rfl, rfl, rfl, rfl, rfl, ?_⟩
                    exact HI.out.add v ((t : Int) + 1) (by rw [if_neg (by omega)]; exact HV.out.symm) (by omega) FAM4.out KEEP4.out

              · as_aux_lemma =>
                  obtain rfl : t = 0 := by omega
                  have hfam : Family (wr.alloc (.cells #[.int .u32 ep, .int .u64 0, .int .u32 0, .slice none 0 0] 32)) (BM + 1) (four a 0 E N V pl c o3 o4 o5 o6 c3 c4 c5 c6 ++ [⟨4, some ⟨wr.heap.size, 0, none⟩, 1, 1, [.int .u32 ep, .int .u64 0, .int .u32 0, .slice none 0 0]⟩]) := HI.out.fam.add hmz 4 1 1 _ 32 _ (Nat.le_refl 4) (by decide) (by decide) rfl
                  have FAM0 := Lib.hid hfam; clear hfam
                  have hkeep : Below (BM + 1) wr (wr.alloc (.cells #[.int .u32 ep, .int .u64 0, .int .u32 0, .slice none 0 0] 32)) := (Below.refl _ _).alloc hmz _
                  have KEEP0 := Lib.hid hkeep; clear hkeep
                  go_wp2_with (at_builtin; refine Stopped.of ?_)
                  refine Stopped.mk ?_
                  have hs1 := KEEP0.out.size
                  refine wpList_append_family _ rfl _ _ 24 rfl 32 (.agg #[.int .u32 0, .int .u64 0, .int .u32 0, .slice none 0 0]) 4 48 (BM + 1) Try.underlying24 info32 rfl (by decide) (Family.below FAM0.out (by repeat' (first | (with_reducible assumption) | (with_reducible exact Below.refl _ _) | (with_reducible exact Later.below _) | (with_reducible refine Below.lat ?_) | (with_reducible refine Below.all ?_ _) | (with_reducible refine Below.drew ?_)))) 1 rfl rfl _ 1 1 [.int .u32 ep, .int .u64 0, .int .u32 0, .slice none 0 0] rfl rfl ?_ ?_ (by decide) ?_ ?_ ?_ ?_
                  · have := news_new (wr.alloc (.cells #[.int .u32 ep, .int .u64 0, .int .u32 0, .slice none 0 0] 32)) #[.int .u32 ep, .int .u64 0, .int .u32 0, .slice none 0 0] 32
                    rwa [World.size_alloc] at this
                  · simp [Value.oneCell']
                  · unfold maxLen; omega
                  · omega
                  · first | omega | (simp only [World.size_alloc] at *; omega)
                  intro q1 k1 w2 fam1 keep1
                  have kp1 : Below (BM + 1) wr w2 := (KEEP0.out.alloc (by first | omega | (simp only [World.size_alloc] at *; omega)) _).trans keep1
                  have FAM1 := Lib.hid fam1; clear fam1
                  have KEEP1 := Lib.hid kp1; clear kp1 keep1 hs1
                  go_wp2_with (at_builtin; refine Stopped.of ?_)
                  refine Stopped.mk ?_
                  have hs2 := KEEP1.out.size
                  refine wpList_append_family _ rfl _ _ 22 rfl 3 (.int .i64 0) 1 8 (BM + 1) Try.underlying22 info3 rfl (by decide) (Family.below FAM1.out (by repeat' (first | (with_reducible assumption) | (with_reducible exact Below.refl _ _) | (with_reducible exact Later.below _) | (with_reducible refine Below.lat ?_) | (with_reducible refine Below.all ?_ _) | (with_reducible refine Below.drew ?_)))) 3 rfl rfl _ 1 1 [.int .i64 (a : Int)] rfl rfl ?_ ?_ (by decide) ?_ ?_ ?_ ?_
                  · exact news_new _ _ _
                  · simp [Value.oneCell']
                  · unfold maxLen; omega
                  · omega
                  · first | omega | (simp only [World.size_alloc] at *; omega)
                  intro q2 k2 w3 fam2 keep2
                  have kp2 : Below (BM + 1) wr w3 := (KEEP1.out.alloc (by first | omega | (simp only [World.size_alloc] at *; omega)) _).trans keep2
                  have FAM2 := Lib.hid fam2; clear fam2
                  have KEEP2 := Lib.hid kp2; clear kp2 keep2 hs2
                  obtain ⟨gx, fx, ex, -, kx, hcx, -⟩ := Owns.here (FAM2.out.own 4 _ rfl) Nat.one_pos
                  obtain ⟨rfl, rfl⟩ : wr.heap.size = gx ∧ 0 = fx := by simpa using ex
                  have x0 : w3.cell? ⟨wr.heap.size, 0, none⟩ = some (.int .u32 ep) := by simpa using hcx 0 _ rfl
                  have x1 : w3.cell? ⟨wr.heap.size, 1, none⟩ = some (.int .u64 0) := by simpa using hcx 1 _ rfl
                  have x2 : w3.cell? ⟨wr.heap.size, 2, none⟩ = some (.int .u32 0) := by simpa using hcx 2 _ rfl
                  have x3 : w3.cell? ⟨wr.heap.size, 3, none⟩ = some (.slice none 0 0) := by simpa using hcx 3 _ rfl
                  clear hcx ex
                  go_wp2_with (at_builtin; refine Stopped.of ?_)
                  refine Stopped.mk ?_
                  have hs3 := KEEP2.out.size
                  refine wpList_append_family _ rfl _ _ 24 rfl 32 (.agg #[.int .u32 0, .int .u64 0, .int .u32 0, .slice none 0 0]) 4 48 (BM + 1) Try.underlying24 info32 rfl (by decide) (Family.below FAM2.out (by repeat' (first | (with_reducible assumption) | (with_reducible exact Below.refl _ _) | (with_reducible exact Later.below _) | (with_reducible refine Below.lat ?_) | (with_reducible refine Below.all ?_ _) | (with_reducible refine Below.drew ?_)))) 0 rfl rfl _ 1 1 [.int .u32 ep, .int .u64 0, .int .u32 0, .slice none 0 0] rfl rfl ?_ ?_ (by decide) ?_ ?_ ?_ ?_
                  · exact news_new w3 #[.int .u32 ep, .int .u64 0, .int .u32 0, .slice none 0 0] 32
                  · simp [Value.oneCell']
                  · unfold maxLen; omega
                  · omega
                  · first | omega | (simp only [World.size_alloc] at *; omega)
                  intro q3 k3 w4 fam3 keep3
                  have kp3 : Below (BM + 1) wr w4 := (KEEP2.out.alloc (by first | omega | (simp only [World.size_alloc] at *; omega)) _).trans keep3
                  have FAM3 := Lib.hid fam3; clear fam3
                  have KEEP3 := Lib.hid kp3; clear kp3 keep3 hs3
                  go_wp2_with (at_builtin; refine Stopped.of ?_)
                  refine Stopped.mk ?_
                  have hs4 := KEEP3.out.size
                  refine wpList_append_family _ rfl _ _ 22 rfl 3 (.int .i64 0) 1 8 (BM + 1) Try.underlying22 info3 rfl (by decide) (Family.below FAM3.out (by repeat' (first | (with_reducible assumption) | (with_reducible exact Below.refl _ _) | (with_reducible exact Later.below _) | (with_reducible refine Below.lat ?_) | (with_reducible refine Below.all ?_ _) | (with_reducible refine Below.drew ?_)))) 2 rfl rfl _ 1 1 [.int .i64 0] rfl rfl ?_ ?_ (by decide) ?_ ?_ ?_ ?_
                  · exact news_new _ _ _
                  · simp [Value.oneCell']
                  · unfold maxLen; omega
                  · omega
                  · first | omega | (simp only [World.size_alloc] at *; omega)
                  intro q4 k4 w5 fam4 keep4
                  have kp4 : Below (BM + 1) wr w5 := (KEEP3.out.alloc (by first | omega | (simp only [World.size_alloc] at *; omega)) _).trans keep4
                  have FAM4 := Lib.hid fam4; clear fam4
                  have KEEP4 := Lib.hid kp4; clear kp4 keep4 hs4
                  go_wp2_with fail
                  go_meet
                  case rel =>
                    refine ⟨a + 1, 0 + 1, (fun y => if y = a then ep else E y), (fun y => if y = a then ((0 : Nat) : Int) else N y), (fun y => if y = a then 0 else V y), (fun k => if k = 0 then a else pl k), (fun y => if y = a then 0 else c y), ep, me, mn, q3, q1, q4, q2, k3, k1, k4, k2, rfl, rfl, rfl, rfl, rfl, ?_⟩
                    exact HI.out.add 0 0 rfl (by omega) FAM4.out KEEP4.out
            have hdd2 : decide (dd < 2) = false := by simp; omega
            by_cases hde : dd = 2
            · as_aux_lemma =>
                subst hde
                clear hdd2 hd2 hd0 hd1 hd8
                obtain ⟨nn, hnn, hnt⟩ : ∃ nn : Nat, pickN bb ((t : Int) + 1) = (nn : Int) ∧ nn ≤ t := by
                  have := pick_bd bb ((t : Int) + 1) (by omega)
                  exact ⟨(pickN bb ((t : Int) + 1)).toNat, by omega, by omega⟩
                have hle4 : t ≤ c4 := (HI.out.fam.own 1 _ rfl).le
                have hle6 : t ≤ c6 := (HI.out.fam.own 3 _ rfl).le
                have hcut4 : ∀ w, (Instr.slice 24 (.slice o4 t c4) none (some (.int .i64 (nn : Int))) none).run Try.prog w = .ok (.slice o4 nn c4) w := fun w => run_cutTo 24 o4 t c4 4 elem24 size24 nn nn rfl (by omega) w
                have hcut6 : ∀ w, (Instr.slice 22 (.slice o6 t c6) none (some (.int .i64 (nn : Int))) none).run Try.prog w = .ok (.slice o6 nn c6) w := fun w => run_cutTo 22 o6 t c6 1 elem22 size22 nn nn rfl (by omega) w
                have hep := HI.out.once.ep1
                go_wp2_with fail
                refine Calls.later (pick_any _ _ _ (by omega) (by omega)) ?_
                intro x
                rw [hnn]
                go_wp2_with fail
                go_meet
                case rel =>
                  refine ⟨a, nn, E, N, V, pl, c, ep + 1, me, mn, o3, o4, o5, o6, c3, c4, c5, c6, rfl, rfl, rfl, rfl, rfl, ?_⟩
                  exact (HI.out.later x).crash nn hnt
            have hdde : (dd == 2) = false := by simp; omega
            by_cases hd9 : dd = 9
            · as_aux_lemma =>
                subst hd9
                clear hd0 hd1 hd8 hdk hd2 hde hdd2 hdde hb0 hb1
                go_wp2_with fail
                go_loopw [15] (fun u wr2 => ∃ (q : Nat) (c' : Nat → Int) (me' mn' : Int), q ≤ t ∧ u = .int .i64 q ∧ Hid (St BM k a t E N V pl c' ep me' mn' o3 o4 o5 o6 c3 c4 c5 c6 w wr2) ∧ Hid (∀ j, j < q → c' (pl j) = 1)) (fun u _ => t - (intOf u).toNat)
                case atStart => exact ⟨0, c, me, mn, by omega, rfl, HI.out, fun j hj => by omega⟩
                case round =>
                  clear HI
                  obtain ⟨q, c, me, mn, hq, rfl, HI, HJ⟩ := hrel
                  by_cases hqt : q < t
                  · obtain ⟨g4, f4, rfl, kg4, hc4⟩ := HI.out.there (by omega)
                    obtain ⟨g5, f5, rfl, kb5, kg5, hc5⟩ := HI.out.cred (by omega)
                    obtain ⟨g6, f6, rfl, kg6, hc6⟩ := HI.out.place (by omega)
                    have kb6 : BM + 1 ≤ g6 := ((HI.out.fam.own 3 _ rfl).lt rfl).1
                    have kb4 : BM + 1 ≤ g4 := ((HI.out.fam.own 1 _ rfl).lt rfl).1
                    have kn65 : ¬ g6 = g5 := fun e => HI.out.fam.sep 3 2 _ _ (by decide) rfl rfl _ _ rfl rfl e
                    have kn56 : ¬ g5 = g6 := fun e => kn65 e.symm
                    obtain ⟨p1, p2, p3⟩ := HI.out.once.there q hqt
                    obtain ⟨e0, e1, e2, e3⟩ := hc4 q hqt
                    have e6 := hc6 q hqt
                    obtain ⟨d5, z5⟩ := hc5 (pl q) p1
                    have m0 := HI.out.m0
                    have m1 := HI.out.m1
                    have mz := HI.out.mz
                    have f0 := HI.out.mf 0
                    have f1 := HI.out.mf 1
                    have hord := HI.out.once.order q hqt HJ.out
                    have hnn0 := (HI.out.once.all _ p1).1
                    have hnn1 := HI.out.once.num _ p1
                    have hcc := HI.out.once.once _ p1
                    have hc01 : 0 ≤ c (pl q) ∧ c (pl q) ≤ 1 := ⟨hcc.1, hcc.2.1⟩
                    have HORD := Lib.hid hord
                    clear hc4 hc5 hc6 p2 p3 hord hcc
                    by_cases hf : verdictN (E (pl q)) (N (pl q)) (V (pl q)) me mn = 1
                    · as_aux_lemma =>
                        have hvb : (verdictN (E (pl q)) (N (pl q)) (V (pl q)) me mn == 1) = true := by simpa using hf
                        have hfr := (verdict_fresh _ _ _ _ _).1 hf
                        have hc0 := (HI.out.once.come _ p1 hfr).2
                        have hcb : (c (pl q) + 1 != 1) = false := by rw [hc0]; rfl
                        have HFR := Lib.hid hfr
                        have HC0 := Lib.hid hc0
                        clear hf hfr hc0
                        go_wp2_with fail
                        refine wp_region_later (by kernel_rfl) (by kernel_rfl) ?_
                        repeat go_big_quiet_step ((go_at_call 6; exact later_call (verdict_any _ _ _ _ _ _)))
                        refine wpQuiet_nil ?_
                        intro x
                        go_wp2_with fail
                        go_still_tail 12, (by kernel_rfl)
                        go_wp2_with fail
                        have HI2 := HI.out.later x
                        obtain ⟨g6', f6', e6', -, hc6'⟩ := HI2.place (by omega)
                        obtain ⟨rfl, rfl⟩ : g6 = g6' ∧ f6 = f6' := by simpa using e6'
                        have y6 := hc6' q hqt
                        obtain ⟨g5', f5', e5', -, -, hc5'⟩ := HI2.cred (by omega)
                        obtain ⟨rfl, rfl⟩ : g5 = g5' ∧ f5 = f5' := by simpa using e5'
                        obtain ⟨y5, yz⟩ := hc5' (pl q) p1
                        have k6 : ((x.world.setCell ⟨BM, 0, none⟩ (.int .u32 (E (pl q)))).setCell ⟨BM, 1, none⟩ (.int .u64 (N (pl q) + 1))).drew.cell? ⟨g6, f6 + q, none⟩ = some (.int .i64 (pl q : Int)) := by
                          show ((x.world.setCell ⟨BM, 0, none⟩ (.int .u32 (E (pl q)))).setCell ⟨BM, 1, none⟩ (.int .u64 (N (pl q) + 1))).cell? _ = _
                          rw [World.cell?_setCell_other _ _ _ _ (by simp only [ne_eq, Addr.mk.injEq, not_and]; omega), World.cell?_setCell_other _ _ _ _ (by simp only [ne_eq, Addr.mk.injEq, not_and]; omega)]
                          exact y6
                        have k5 : ((x.world.setCell ⟨BM, 0, none⟩ (.int .u32 (E (pl q)))).setCell ⟨BM, 1, none⟩ (.int .u64 (N (pl q) + 1))).drew.cell? ⟨g5, f5 + pl q, none⟩ = some (.int .i64 (c (pl q))) := by
                          show ((x.world.setCell ⟨BM, 0, none⟩ (.int .u32 (E (pl q)))).setCell ⟨BM, 1, none⟩ (.int .u64 (N (pl q) + 1))).cell? _ = _
                          rw [World.cell?_setCell_other _ _ _ _ (by simp only [ne_eq, Addr.mk.injEq, not_and]; omega), World.cell?_setCell_other _ _ _ _ (by simp only [ne_eq, Addr.mk.injEq, not_and]; omega)]
                          exact y5
                        have kz : ((x.world.setCell ⟨BM, 0, none⟩ (.int .u32 (E (pl q)))).setCell ⟨BM, 1, none⟩ (.int .u64 (N (pl q) + 1))).drew.frozen? ⟨g5, f5 + pl q, none⟩ = false := by
                          show ((x.world.setCell ⟨BM, 0, none⟩ (.int .u32 (E (pl q)))).setCell ⟨BM, 1, none⟩ (.int .u64 (N (pl q) + 1))).frozen? _ = _
                          rw [World.frozen?_setCell, World.frozen?_setCell]; exact yz
                        have kcome := ((HI2.come (pl q) p1 HFR.out).drew)
                        have ksw : (((x.world.setCell ⟨BM, 0, none⟩ (.int .u32 (E (pl q)))).setCell ⟨BM, 1, none⟩ (.int .u64 (N (pl q) + 1))).setCell ⟨g5, f5 + pl q, none⟩ (.int .i64 (c (pl q) + 1))).drew = ((x.world.setCell ⟨BM, 0, none⟩ (.int .u32 (E (pl q)))).setCell ⟨BM, 1, none⟩ (.int .u64 (N (pl q) + 1))).drew.setCell ⟨g5, f5 + pl q, none⟩ (.int .i64 (c (pl q) + 1)) := by
                          first | rfl | (simp only [World.setCell_drew]) | (unfold World.setCell World.drew; simp only; split <;> rfl) | (unfold World.setCell World.drew; rfl)
                        rw [ksw] at kcome
                        have KCOME := Lib.hid kcome
                        clear hc5' hc6' HI2 y5 yz y6 e5' e6' e6 d5 z5 kcome ksw
                        generalize hwz : ((x.world.setCell ⟨BM, 0, none⟩ (.int .u32 (E (pl q)))).setCell ⟨BM, 1, none⟩ (.int .u64 (N (pl q) + 1))).drew = wz at k6 k5 kz KCOME ⊢
                        clear hwz
                        go_still_tail 14, (by kernel_rfl)
                        go_wp2_with fail
                        go_roundw
                        case rel =>
                          refine ⟨q + 1, (fun z => if z = pl q then c z + 1 else c z), E (pl q), N (pl q) + 1, by omega, by go_num, ?_, ?_⟩
                          · first
                              | exact KCOME.out
                              | exact KCOME.out.drew
                              | exact KCOME.out.drew.drew
                          · intro j hj
                            by_cases e : pl j = pl q
                            · simp only [e, if_true]; rw [HC0.out]; rfl
                            · simp only [e, if_false]
                              refine HJ.out j ?_
                              rcases Nat.lt_or_ge j q with h | h
                              · exact h
                              · exfalso; exact e (by rw [show j = q by omega])
                        case measure => simp [intOf]; omega
                    · as_aux_lemma =>
                        have hvb : (verdictN (E (pl q)) (N (pl q)) (V (pl q)) me mn == 1) = false := by simpa using hf
                        have hc1 : c (pl q) = 1 := by
                          rcases HORD.out with h | h
                          · exact h
                          · exact absurd ((verdict_fresh _ _ _ _ _).2 h) hf
                        have hcb : (c (pl q) != 1) = false := by rw [hc1]; rfl
                        have HC1 := Lib.hid hc1
                        clear hf hc1
                        go_wp2_with fail
                        refine wp_region_later (by kernel_rfl) (by kernel_rfl) ?_
                        repeat go_big_quiet_step ((go_at_call 6; exact later_call (verdict_any _ _ _ _ _ _)))
                        refine wpQuiet_nil ?_
                        intro x
                        go_wp2_with fail
                        go_roundw
                        case rel =>
                          refine ⟨q + 1, c, me, mn, by omega, by go_num, HI.out.later x, fun j hj => ?_⟩
                          rcases Nat.lt_or_ge j q with h | h
                          · exact HJ.out j h
                          · rw [show j = q by omega]; exact HC1.out
                        case measure => simp [intOf]; omega
                  · go_wp2_with fail
                    go_meet
                    case rel => exact ⟨a, t, E, N, V, pl, c, ep, me, mn, o3, o4, o5, o6, c3, c4, c5, c6, rfl, rfl, rfl, rfl, rfl, HI.out.more⟩
            have hdd8 : decide (dd < 8) = true := by simp; omega
            clear hd2 hde hd0 hd8 hd1 hd9
            rcases Nat.lt_or_ge 0 a with ha | ha
            · obtain ⟨kk, hkk, hka⟩ : ∃ kk : Nat, pickN bb (a : Int) = (kk : Int) ∧ kk < a := by
                have := pick_bd bb (a : Int) (by omega)
                exact ⟨(pickN bb (a : Int)).toNat, by omega, by omega⟩
              obtain ⟨g3, f3, rfl, kg3, hc3⟩ := HI.out.all ha
              obtain ⟨e0, e1, e2, e3⟩ := hc3 kk hka
              clear hc3
              have m0 := HI.out.m0
              have m1 := HI.out.m1
              have hev : ∀ z : Int, verdictN (E kk) (N kk) (V kk) me mn = 1 ↔ fresh (E kk) (N kk) (V kk) me mn := fun _ => verdict_fresh _ _ _ _ _
              by_cases hf : verdictN (E kk) (N kk) (V kk) me mn = 1
              · as_aux_lemma =>
                  have hvb : (verdictN (E kk) (N kk) (V kk) me mn == 1) = true := by simpa using hf
                  have hfr := (hev 0).1 hf
                  have HFR := Lib.hid hfr
                  clear hf hfr hev
                  obtain ⟨g5, f5, rfl, kb5, kg5, hc5⟩ := HI.out.cred ha
                  obtain ⟨d5, z5⟩ := hc5 kk hka
                  clear hc5
                  have f0 := HI.out.mf 0
                  have f1 := HI.out.mf 1
                  have hnn0 := HI.out.once.all kk hka
                  have hnn1 := HI.out.once.num kk hka
                  have hcc := HI.out.once.once kk hka
                  go_wp2_with (go_at_call 5; refine Calls.later (pick_any _ _ _ (by omega) (by omega)) ?_; intro x; rw [hkk])
                  refine wp_region_later1 (by kernel_rfl) (by kernel_rfl) ?_
                  repeat go_big_quiet_step ((go_at_call 6; exact later_call (verdict_any _ _ _ _ _ _)))
                  refine wpQuiet_nil ?_
                  intro x
                  go_wp2_with fail
                  go_still_tail 12, (by kernel_rfl)
                  go_wp2_with fail
                  go_meet
                  case rel =>
                    refine ⟨a, t, E, N, V, pl, (fun z => if z = kk then c z + 1 else c z), ep, E kk, N kk + 1, _, o4, _, o6, c3, c4, c5, c6, rfl, rfl, rfl, rfl, rfl, ?_⟩
                    exact (((HI.out.later x).come kk hka HFR.out).more).drew
              · as_aux_lemma =>
                  have hvb : (verdictN (E kk) (N kk) (V kk) me mn == 1) = false := by simpa using hf
                  clear hf hev
                  go_wp2_with (go_at_call 5; refine Calls.later (pick_any _ _ _ (by omega) (by omega)) ?_; intro x; rw [hkk])
                  refine wp_region_later1 (by kernel_rfl) (by kernel_rfl) ?_
                  repeat go_big_quiet_step ((go_at_call 6; exact later_call (verdict_any _ _ _ _ _ _)))
                  refine wpQuiet_nil ?_
                  intro x
                  go_wp2_with fail
                  go_meet
                  case rel => exact ⟨a, t, E, N, V, pl, c, ep, me, mn, _, o4, o5, o6, c3, c4, c5, c6, rfl, rfl, rfl, rfl, rfl, HI.out.more.later x⟩
            · as_aux_lemma =>
                obtain rfl : a = 0 := by omega
                go_wp2_with fail
                go_meet
                case rel => exact ⟨0, t, E, N, V, pl, c, ep, me, mn, o3, o4, o5, o6, c3, c4, c5, c6, rfl, rfl, rfl, rfl, rfl, HI.out.more⟩
        case rest =>
          as_aux_lemma =>
            clear HI
            obtain ⟨a, t, E, N, V, pl, c, ep, me, mn, o3, o4, o5, o6, c3, c4, c5, c6, rfl, rfl, rfl, rfl, rfl, HI⟩ := hcut
            have hak := HI.out.ak
            have hta := HI.out.ta
            go_wp2_with fail
            go_loop [16] (fun u => ∃ q : Nat, q ≤ a ∧ u = .int .i64 q) (fun u => a - (intOf u).toNat)
            case atStart => exact ⟨0, by omega, rfl⟩
            case round =>
              obtain ⟨q, hq, rfl⟩ := hrel
              by_cases hqa : q < a
              · obtain ⟨g5, f5, rfl, -, kg5, hc5⟩ := HI.out.cred (by omega)
                obtain ⟨d5, -⟩ := hc5 q hqa
                clear hc5
                have hc1 := HI.out.once.once q hqa
                have hc2 : decide (1 < c q) = false := by simp; omega
                clear hc1
                go_wp2_with fail
                go_round
                case rel => exact ⟨q + 1, by omega, by go_num⟩
                case measure => simp [intOf]; omega
              · go_wp2_with fail
                go_loopw [17] (fun u wr => ∃ q : Nat, q ≤ t ∧ u = .int .i64 q ∧ ∃ x : Later wc, wr = x.world) (fun u _ => t - (intOf u).toNat)
                case atStart => exact ⟨0, by omega, rfl, ⟨wc, Below.refl _ _⟩, rfl⟩
                case round =>
                  obtain ⟨q, hq, rfl, x, rfl⟩ := hrel
                  by_cases hqt : q < t
                  · obtain ⟨g4, f4, rfl, kg4, hc4⟩ := HI.out.there (by omega)
                    obtain ⟨g5, f5, rfl, -, kg5, hc5⟩ := HI.out.cred (by omega)
                    obtain ⟨g6, f6, rfl, kg6, hc6⟩ := HI.out.place (by omega)
                    obtain ⟨p1, p2, p3⟩ := HI.out.once.there q hqt
                    obtain ⟨e0, e1, e2, e3⟩ := hc4 q hqt
                    have e6 := hc6 q hqt
                    obtain ⟨e5, -⟩ := hc5 (pl q) p1
                    have m0 := HI.out.m0
                    have m1 := HI.out.m1
                    have mz := HI.out.mz
                    have hdone := HI.out.once.done q hqt
                    clear hc4 hc5 hc6 p3
                    have hN : N (pl q) = (q : Int) := p2
                    have HDONE := Lib.hid hdone; clear hdone
                    clear p2 hN
                    have hcv : isOld (E (pl q)) (N (pl q)) me mn = true → c (pl q) = 1 := fun h => HDONE.out (by simpa [isOld, cov] using h)
                    have HCV := Lib.hid hcv; clear hcv HDONE
                    generalize E (pl q) = e at *
                    generalize N (pl q) = n at *
                    generalize V (pl q) = v at *
                    generalize hC : c (pl q) = cc at *
                    generalize pl q = pq at *
                    clear hC
                    by_cases h1 : e < me
                    · have b1 : decide (e < me) = true := by simpa using h1
                      have ho : isOld e n me mn = true := by simp [isOld, h1]
                      have hcc : (cc != 1) = false := by simp [HCV.out ho]
                      have hv : (verdictN e n v me mn == 2) = true := by simp [verdictN, ho]
                      clear h1 ho
                      go_wp2_with fail
                      refine wp_region_later1 (by kernel_rfl) (by kernel_rfl) ?_
                      repeat go_big_quiet_step (fail)
                      refine wpQuiet_nil ?_
                      intro x
                      go_wp2_with fail
                      refine wp_region_later1 (by kernel_rfl) (by kernel_rfl) ?_
                      repeat go_big_quiet_step ((go_at_call 6; exact later_call (verdict_any _ _ _ _ _ _)))
                      refine wpQuiet_nil ?_
                      intro x
                      go_wp2_with fail
                      go_roundw
                      case rel => exact ⟨q + 1, by omega, by go_num, _, rfl⟩
                      case measure => simp [intOf]; omega
                    · have b1 : decide (e < me) = false := by simpa using h1
                      by_cases h2 : e = me
                      · have b2 : (e == me) = true := by simpa using h2
                        by_cases h3 : n < mn
                        · have b3 : decide (n < mn) = true := by simpa using h3
                          have ho : isOld e n me mn = true := by simp [isOld, h2, h3]
                          have hcc : (cc != 1) = false := by simp [HCV.out ho]
                          have hv : (verdictN e n v me mn == 2) = true := by simp [verdictN, ho]
                          clear h1 h2 h3 ho
                          go_wp2_with fail
                          refine wp_region_later1 (by kernel_rfl) (by kernel_rfl) ?_
                          repeat go_big_quiet_step (fail)
                          refine wpQuiet_nil ?_
                          intro x
                          go_wp2_with fail
                          refine wp_region_later1 (by kernel_rfl) (by kernel_rfl) ?_
                          repeat go_big_quiet_step ((go_at_call 6; exact later_call (verdict_any _ _ _ _ _ _)))
                          refine wpQuiet_nil ?_
                          intro x
                          go_wp2_with fail
                          go_roundw
                          case rel => exact ⟨q + 1, by omega, by go_num, _, rfl⟩
                          case measure => simp [intOf]; omega
                        · have b3 : decide (n < mn) = false := by simpa using h3
                          have ho : isOld e n me mn = false := by simp [isOld, h1, h3]
                          have hv : (verdictN e n v me mn == 2) = false := by
                            simp only [verdictN, ho, Bool.false_eq_true, if_false]; split <;> (try split) <;> rfl
                          clear h1 h2 h3 ho
                          go_wp2_with fail
                          refine wp_region_later1 (by kernel_rfl) (by kernel_rfl) ?_
                          repeat go_big_quiet_step (fail)
                          refine wpQuiet_nil ?_
                          intro x
                          go_wp2_with fail
                          refine wp_region_later1 (by kernel_rfl) (by kernel_rfl) ?_
                          repeat go_big_quiet_step ((go_at_call 6; exact later_call (verdict_any _ _ _ _ _ _)))
                          refine wpQuiet_nil ?_
                          intro x
                          go_wp2_with fail
                          go_roundw
                          case rel => exact ⟨q + 1, by omega, by go_num, _, rfl⟩
                          case measure => simp [intOf]; omega
                      · have b2 : (e == me) = false := by simpa using h2
                        have ho : isOld e n me mn = false := by simp [isOld, h1, h2]
                        have hv : (verdictN e n v me mn == 2) = false := by
                          simp only [verdictN, ho, Bool.false_eq_true, if_false]; split <;> (try split) <;> rfl
                        clear h1 h2 ho
                        go_wp2_with fail
                        refine wp_region_later1 (by kernel_rfl) (by kernel_rfl) ?_
                        repeat go_big_quiet_step (fail)
                        refine wpQuiet_nil ?_
                        intro x
                        go_wp2_with fail
                        refine wp_region_later1 (by kernel_rfl) (by kernel_rfl) ?_
                        repeat go_big_quiet_step ((go_at_call 6; exact later_call (verdict_any _ _ _ _ _ _)))
                        refine wpQuiet_nil ?_
                        intro x
                        go_wp2_with fail
                        go_roundw
                        case rel => exact ⟨q + 1, by omega, by go_num, _, rfl⟩
                        case measure => simp [intOf]; omega
                  · go_wp2_with fail
                    go_roundw
                    case rel => exact ⟨k + 1, by go_num, by omega, a, t, E, N, V, pl, c, ep, me, mn, o3, o4, o5, o6, c3, c4, c5, c6, rfl, rfl, rfl, rfl, rfl, HI.out.later x⟩
                    case measure => simp [intOf]; omega
end Go.Proofs.Ytppiippadffpfaa
