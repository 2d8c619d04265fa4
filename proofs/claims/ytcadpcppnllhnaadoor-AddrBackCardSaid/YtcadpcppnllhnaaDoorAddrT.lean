/- Walks over texts: the reference's Parse. -/
import Derived.Test.YtcadpcppnllhnaaDoorAddrS
set_option linter.unusedSimpArgs false
set_option linter.unusedVariables false
namespace Go.Proofs.YtcadpcppnllhnaaDoor
open Go.RowKit

theorem parseOf_some {F S : Option (List Nat)} (h4 : ∀ m, S = some m → F = none) {l : List Nat} (h : S = some l) : parseOf F S = some (true, sixB l) := by
  rw [h4 l h, h]; rfl
theorem numberL_bd {base most : Nat} {l : List UInt8} {n : Nat} (h0 : 0 < most) (h : numberL base most l = some n) : n < most := by
  unfold numberL at h
  split at h
  · cases h
  · exact numL_lt base most l 0 n h0 h
/-- The four bytes so far. -/
theorem fourB_snoc (l : List Nat) (n k : Nat) (hk : l.length = k) (i : Nat) : fourB (l ++ [n]) i = if i = k then (n : Int) else fourB l i := by
  unfold fourB
  by_cases hik : i = k
  · rw [if_pos hik]
    rw [List.getD_eq_getElem?_getD, List.getElem?_append_right (by omega)]
    simp [hik, hk]
  · rw [if_neg hik, List.getD_eq_getElem?_getD, List.getD_eq_getElem?_getD]
    by_cases hlt2 : i < k
    · rw [List.getElem?_append_left (by omega)]
    · rw [List.getElem?_eq_none (by simp; omega), List.getElem?_eq_none (by omega)]

set_option maxRecDepth 20000 in
set_option maxHeartbeats 8000000 in
theorem rparse_any (s : ByteArray) (w : World) (hs : s.size ≤ 1000) : Calls Tryd.prog 8 #[.string s] w (RetAt w (parseV (parseL s.data.toList))) := by
  have H6 := Lib.hid (fun w => rsix_any s w hs)
  have H46 := Lib.hid (fun m (h : sixL s.data.toList = some m) => four_six s.data.toList h)
  have HFL : Hid (fourL s.data.toList = if (cutsL 46 s.data.toList).length = 4 then (cutsL 46 s.data.toList).mapM (decL 256) else none) := Lib.hid rfl
  have hls : s.data.toList.length = s.size := by rw [Array.length_toList, ByteArray.size_data]
  have HPL : Hid (∀ p ∈ cutsL 46 s.data.toList, p.length ≤ 1000) := Lib.hid (fun p hp => by have := cutsL_len 46 _ p hp; omega)
  have HPC : Hid ((cutsL 46 s.data.toList).length ≤ 1001) := Lib.hid (by have := cutsL_count 46 s.data.toList; omega)
  have HCA := Lib.hid (fun w => cuts_any s 46 w hs)
  rw [parseL_of]
  clear hls hs
  generalize cutsL 46 s.data.toList = P at *
  generalize fourL s.data.toList = F at *
  generalize sixL s.data.toList = S at *
  go_enter Tryd.func8, Tryd.ntmps8
  go_wp2_with fail
  refine Calls.mono (H6.out _) ?_
  rintro e w2 ⟨hb2, hc⟩
  have HX := Lib.hid ((AdBox.made0 w 29 false).below hb2)
  have HW := Lib.hid (Below.via (Below.all (Below.refl w.heap.size w) _) hb2)
  have hlt := HX.out.lt
  clear hb2 H6
  rcases hc with ⟨l, hl, rfl⟩ | ⟨hl, rfl⟩
  · have HR : Hid (parseOf F S = some (true, sixB l)) := Lib.hid (parseOf_some H46.out hl)
    generalize sixB l = C at *
    generalize parseOf F S = R at *
    clear hl
    unfold adV
    have hrr := HX.out.row
    go_wp2_with fail
    exact bodyPost_ret (v := .tuple #[adV true C, .int .i64 0]) (results_ad2 _ _ Tryd.underlying29 info_rad rfl _ _ w.heap.size (.int .i64 0) rfl rfl (part_up (s' := true) (B' := C) HX.out _ _ rfl)) rfl (.mk (by rw [HR.out]; rfl) (Below.all (below_setRow HW.out (Nat.le_refl _) _) _))
  · subst hl
    have HR : Hid (∀ l, F = some l → parseOf F none = some (false, fourB l)) := Lib.hid fun l h => by rw [h]; rfl
    have HR0 : Hid (F = none → parseOf F none = none) := Lib.hid fun h => by rw [h]; rfl
    generalize parseOf F none = R at *
    clear H46
    unfold adV
    have HX2 := Lib.hid (HX.out.alloc (.cells #[.bool false, .int .u8 ((fun _ => (0 : Int)) 0), .int .u8 ((fun _ => (0 : Int)) 1), .int .u8 ((fun _ => (0 : Int)) 2), .int .u8 ((fun _ => (0 : Int)) 3), .int .u8 ((fun _ => (0 : Int)) 4), .int .u8 ((fun _ => (0 : Int)) 5), .int .u8 ((fun _ => (0 : Int)) 6), .int .u8 ((fun _ => (0 : Int)) 7), .int .u8 ((fun _ => (0 : Int)) 8), .int .u8 ((fun _ => (0 : Int)) 9), .int .u8 ((fun _ => (0 : Int)) 10), .int .u8 ((fun _ => (0 : Int)) 11), .int .u8 ((fun _ => (0 : Int)) 12), .int .u8 ((fun _ => (0 : Int)) 13), .int .u8 ((fun _ => (0 : Int)) 14), .int .u8 ((fun _ => (0 : Int)) 15)] 29))
    have HW2 := Lib.hid (Below.all HW.out (.cells #[.bool false, .int .u8 ((fun _ => (0 : Int)) 0), .int .u8 ((fun _ => (0 : Int)) 1), .int .u8 ((fun _ => (0 : Int)) 2), .int .u8 ((fun _ => (0 : Int)) 3), .int .u8 ((fun _ => (0 : Int)) 4), .int .u8 ((fun _ => (0 : Int)) 5), .int .u8 ((fun _ => (0 : Int)) 6), .int .u8 ((fun _ => (0 : Int)) 7), .int .u8 ((fun _ => (0 : Int)) 8), .int .u8 ((fun _ => (0 : Int)) 9), .int .u8 ((fun _ => (0 : Int)) 10), .int .u8 ((fun _ => (0 : Int)) 11), .int .u8 ((fun _ => (0 : Int)) 12), .int .u8 ((fun _ => (0 : Int)) 13), .int .u8 ((fun _ => (0 : Int)) 14), .int .u8 ((fun _ => (0 : Int)) 15)] 29))
    clear HX HW hlt
    go_wp2_with fail
    generalize w2.alloc (.cells #[.bool false, .int .u8 ((fun _ => (0 : Int)) 0), .int .u8 ((fun _ => (0 : Int)) 1), .int .u8 ((fun _ => (0 : Int)) 2), .int .u8 ((fun _ => (0 : Int)) 3), .int .u8 ((fun _ => (0 : Int)) 4), .int .u8 ((fun _ => (0 : Int)) 5), .int .u8 ((fun _ => (0 : Int)) 6), .int .u8 ((fun _ => (0 : Int)) 7), .int .u8 ((fun _ => (0 : Int)) 8), .int .u8 ((fun _ => (0 : Int)) 9), .int .u8 ((fun _ => (0 : Int)) 10), .int .u8 ((fun _ => (0 : Int)) 11), .int .u8 ((fun _ => (0 : Int)) 12), .int .u8 ((fun _ => (0 : Int)) 13), .int .u8 ((fun _ => (0 : Int)) 14), .int .u8 ((fun _ => (0 : Int)) 15)] 29) = w3 at *
    refine Calls.mono (HCA.out _) ?_
    rintro e w4 ⟨op, capp, rfl, HO, HB⟩
    have HX := Lib.hid (HX2.out.below HB)
    have HW := Lib.hid (Below.via HW2.out HB)
    have hlt3 := HX2.out.lt
    have HOO := Lib.hid (HO.mono (base' := w.heap.size + 1) (by omega))
    have HOL := Lib.hid (fun a ha => (HO.lt (a := a) ha).2)
    clear HO HB HX2 HW2 hlt3 HCA
    by_cases h4 : P.length = 4
    · rw [h4] at HOO ⊢
      have HP := Lib.hid h4
      clear h4
      have HX5 := Lib.hid (HX.out.alloc (.cells #[.bool false, .int .u8 ((fun _ => (0 : Int)) 0), .int .u8 ((fun _ => (0 : Int)) 1), .int .u8 ((fun _ => (0 : Int)) 2), .int .u8 ((fun _ => (0 : Int)) 3), .int .u8 ((fun _ => (0 : Int)) 4), .int .u8 ((fun _ => (0 : Int)) 5), .int .u8 ((fun _ => (0 : Int)) 6), .int .u8 ((fun _ => (0 : Int)) 7), .int .u8 ((fun _ => (0 : Int)) 8), .int .u8 ((fun _ => (0 : Int)) 9), .int .u8 ((fun _ => (0 : Int)) 10), .int .u8 ((fun _ => (0 : Int)) 11), .int .u8 ((fun _ => (0 : Int)) 12), .int .u8 ((fun _ => (0 : Int)) 13), .int .u8 ((fun _ => (0 : Int)) 14), .int .u8 ((fun _ => (0 : Int)) 15)] 29))
      have HW5 := Lib.hid (Below.all HW.out (.cells #[.bool false, .int .u8 ((fun _ => (0 : Int)) 0), .int .u8 ((fun _ => (0 : Int)) 1), .int .u8 ((fun _ => (0 : Int)) 2), .int .u8 ((fun _ => (0 : Int)) 3), .int .u8 ((fun _ => (0 : Int)) 4), .int .u8 ((fun _ => (0 : Int)) 5), .int .u8 ((fun _ => (0 : Int)) 6), .int .u8 ((fun _ => (0 : Int)) 7), .int .u8 ((fun _ => (0 : Int)) 8), .int .u8 ((fun _ => (0 : Int)) 9), .int .u8 ((fun _ => (0 : Int)) 10), .int .u8 ((fun _ => (0 : Int)) 11), .int .u8 ((fun _ => (0 : Int)) 12), .int .u8 ((fun _ => (0 : Int)) 13), .int .u8 ((fun _ => (0 : Int)) 14), .int .u8 ((fun _ => (0 : Int)) 15)] 29))
      have HY5 := Lib.hid (AdBox.made0 w4 29 false)
      have HO5 := Lib.hid (HOO.out.alloc (.cells #[.bool false, .int .u8 ((fun _ => (0 : Int)) 0), .int .u8 ((fun _ => (0 : Int)) 1), .int .u8 ((fun _ => (0 : Int)) 2), .int .u8 ((fun _ => (0 : Int)) 3), .int .u8 ((fun _ => (0 : Int)) 4), .int .u8 ((fun _ => (0 : Int)) 5), .int .u8 ((fun _ => (0 : Int)) 6), .int .u8 ((fun _ => (0 : Int)) 7), .int .u8 ((fun _ => (0 : Int)) 8), .int .u8 ((fun _ => (0 : Int)) 9), .int .u8 ((fun _ => (0 : Int)) 10), .int .u8 ((fun _ => (0 : Int)) 11), .int .u8 ((fun _ => (0 : Int)) 12), .int .u8 ((fun _ => (0 : Int)) 13), .int .u8 ((fun _ => (0 : Int)) 14), .int .u8 ((fun _ => (0 : Int)) 15)] 29))
      have hW4 := HX.out.lt
      go_wp2_with fail
      clear HX HW HOO
      generalize w4.alloc (.cells #[.bool false, .int .u8 ((fun _ => (0 : Int)) 0), .int .u8 ((fun _ => (0 : Int)) 1), .int .u8 ((fun _ => (0 : Int)) 2), .int .u8 ((fun _ => (0 : Int)) 3), .int .u8 ((fun _ => (0 : Int)) 4), .int .u8 ((fun _ => (0 : Int)) 5), .int .u8 ((fun _ => (0 : Int)) 6), .int .u8 ((fun _ => (0 : Int)) 7), .int .u8 ((fun _ => (0 : Int)) 8), .int .u8 ((fun _ => (0 : Int)) 9), .int .u8 ((fun _ => (0 : Int)) 10), .int .u8 ((fun _ => (0 : Int)) 11), .int .u8 ((fun _ => (0 : Int)) 12), .int .u8 ((fun _ => (0 : Int)) 13), .int .u8 ((fun _ => (0 : Int)) 14), .int .u8 ((fun _ => (0 : Int)) 15)] 29) = w5 at *
      generalize w4.heap.size = b7 at *
      go_loopw [8] (fun u8 wr => ∃ (k : Nat) (G : List Nat), k ≤ 4 ∧ u8 = .int .i64 k ∧ Hid ((P.take k).mapM (decL 256) = some G) ∧ Hid (AdBox wr w.heap.size 29 false fun _ => 0) ∧ Hid (AdBox wr b7 29 false (fourB G)) ∧ Hid (Owns wr (w.heap.size + 1) 1 op 4 capp (P.map strV)) ∧ Hid (Below w.heap.size w wr)) (fun u8 _ => (4 : Int) - intOf u8 |>.toNat)
      case atStart => exact ⟨0, [], by omega, rfl, Lib.hid rfl, HX5, Lib.hid (HY5.out.congr fun i _ => by simp [fourB]), HO5, HW5⟩
      case round =>
        obtain ⟨k, G, hk, rfl, HG, HX, HY, HR1, HW⟩ := hrel
        by_cases hlt : k < 4
        · have hkP : k < P.length := by rw [HP.out]; exact hlt
          obtain ⟨g, off, hop, hbg, hg, hc, ht⟩ := HR1.out.here (by omega)
          have hgb := HOL.out _ hop
          subst hop
          simp only at hgb
          have hcl := hc k (strV P[k]) (by simp [hkP])
          have hpl := HPL.out P[k] (List.getElem_mem hkP)
          have HTS := Lib.hid (show P.take (k + 1) = P.take k ++ [P[k]] by rw [List.take_succ_eq_append_getElem hkP])
          have HMI := Lib.hid (fun h => mapM_miss (decL 256) P k hkP h)
          clear hc ht
          unfold strV at hcl
          generalize P[k] = p at *
          have hsz : (⟨p.toArray⟩ : ByteArray).size = p.length := by simp [ByteArray.size]
          have hpe : ((⟨p.toArray⟩ : ByteArray).data.toList) = p := by simp
          have hp1 : (⟨p.toArray⟩ : ByteArray).size ≤ 1000 := by omega
          have HNU := Lib.hid (fun w => number_any ⟨p.toArray⟩ 10 256 w hp1 (by decide) (by decide) (by decide))
          rw [hpe] at HNU
          clear hsz hpe hp1
          have hWr := HW.out.size
          cases hn : numberL 10 256 p with
          | none =>
            rw [hn] at HNU
            have HF : Hid (F = none) := Lib.hid (by rw [HFL.out, if_pos HP.out]; exact HMI.out (by unfold decL; rw [hn]))
            clear hn
            go_wp2_with fail
            refine Calls.mono (HNU.out wr) ?_
            rintro e w6 ⟨rfl, hb6⟩
            simp only [numV]
            have hcl2 := hb6.cell (p := ⟨g, off + k, none⟩) hg
            rw [hcl] at hcl2
            have HX6 := Lib.hid (HX.out.below hb6)
            have HW6 := Lib.hid (Below.via HW.out hb6)
            clear hb6
            go_wp2_with fail
            refine wp_region_later (by kernel_rfl) (by kernel_rfl) ?_
            repeat go_big_quiet_step (fail)
            refine wpQuiet_nil ?_
            intro x
            have HX7 := Lib.hid (HX6.out.below x.below)
            have HW7 := Lib.hid (Below.via HW6.out x.below)
            have hrr := HX7.out.row
            have HH := Lib.hid HX7.out.heap
            clear HX6 HW6
            go_wp2_with fail
            exact bodyPost_ret (v := .tuple #[adV false fun _ => 0, .int .i64 40]) (results_ad2 _ _ Tryd.underlying29 info_rad rfl _ _ w.heap.size (.int .i64 40) rfl rfl (partOf_set HH.out)) rfl (.mk (by rw [HR0.out HF.out]; rfl) (below_setRow HW7.out (Nat.le_refl _) _))
          | some n =>
            rw [hn] at HNU
            have hn256 := numberL_bd (by decide) hn
            have HD : Hid (∀ w, Calls Tryd.prog 36 #[.int .i64 (n : Int), .int .i64 10] w (RetAt w (.string ⟨(Lib.decDigits n).toArray⟩))) := Lib.hid fun w => by
              have := digits10_any n (n : Int) w (by omega) (by omega) (by omega)
              rwa [Int.toNat_natCast, digB_ten n n (Nat.le_refl _)] at this
            by_cases hq : Lib.decDigits n = p
            · have hd : decL 256 p = some n := by unfold decL; rw [hn]; simp only; rw [if_pos hq]
              have HM : Hid ((P.take (k + 1)).mapM (decL 256) = some (G ++ [n])) := Lib.hid (by rw [HTS.out]; exact mapM_snoc _ _ _ _ _ HG.out hd)
              have HGk : Hid (G.length = k) := Lib.hid (by rw [mapM_len _ _ _ HG.out, List.length_take]; omega)
              clear hd hn HG HTS HMI
              subst hq
              have hwn : IntKind.u8.wrap (n : Int) = n := u8_wrap _ (by omega) (by omega)
              go_wp2_with fail
              refine Calls.mono (HNU.out wr) ?_
              rintro e w6 ⟨rfl, hb6⟩
              simp only [numV]
              have hcl2 := hb6.cell (p := ⟨g, off + k, none⟩) hg
              rw [hcl] at hcl2
              have hg6 : g < w6.heap.size := Nat.lt_of_lt_of_le hg hb6.size
              have HX6 := Lib.hid (HX.out.below hb6)
              have HY6 := Lib.hid (HY.out.below hb6)
              have HR6 := Lib.hid (HR1.out.below hb6)
              have HW6 := Lib.hid (Below.via HW.out hb6)
              clear hb6 HX HY HR1 HW hcl
              go_wp2_with fail
              refine wp_region_later (by kernel_rfl) (by kernel_rfl) ?_
              repeat go_big_quiet_step ((go_at_call 36; exact later_call (HD.out _)))
              refine wpQuiet_nil ?_
              intro x
              have HX7 := Lib.hid (HX6.out.below x.below)
              have HY7 := Lib.hid (HY6.out.below x.below)
              have HR7 := Lib.hid (HR6.out.below x.below)
              have HW7 := Lib.hid (Below.via HW6.out x.below)
              have hcx := HY7.out.cell k (by omega)
              have hfx := HY7.out.free (1 + k)
              clear HX6 HY6 HR6 HW6
              go_wp2_with fail
              go_roundw
              case rel =>
                refine ⟨k + 1, G ++ [n], by omega, by go_num, HM, Lib.hid (HX7.out.other _ _ (by simp only; omega)), Lib.hid ((HY7.out.set k (by omega) n).congr fun i _ => (fourB_snoc G n k HGk.out i).symm), Lib.hid (HR7.out.other (fun a ha => by cases ha; simp only; omega) _), Lib.hid (HW7.out.setCell (by simp only; omega) _)⟩
              case measure => simp [intOf]; omega
            · have HF : Hid (F = none) := Lib.hid (by rw [HFL.out, if_pos HP.out]; exact HMI.out (by unfold decL; rw [hn]; simp only; rw [if_neg hq]))
              have hqb : (Lib.decDigits n == p) = false := by simpa using hq
              clear hn HG HTS HMI
              go_wp2_with fail
              refine Calls.mono (HNU.out wr) ?_
              rintro e w6 ⟨rfl, hb6⟩
              simp only [numV]
              have hcl2 := hb6.cell (p := ⟨g, off + k, none⟩) hg
              rw [hcl] at hcl2
              have hg6 : g < w6.heap.size := Nat.lt_of_lt_of_le hg hb6.size
              have HX6 := Lib.hid (HX.out.below hb6)
              have HY6 := Lib.hid (HY.out.below hb6)
              have HR6 := Lib.hid (HR1.out.below hb6)
              have HW6 := Lib.hid (Below.via HW.out hb6)
              clear hb6 HX HY HR1 HW hcl
              go_wp2_with fail
              refine wp_region_later (by kernel_rfl) (by kernel_rfl) ?_
              repeat go_big_quiet_step ((go_at_call 36; exact later_call (HD.out _)))
              refine wpQuiet_nil ?_
              intro x
              have HX7 := Lib.hid (HX6.out.below x.below)
              have HW7 := Lib.hid (Below.via HW6.out x.below)
              have hrr := HX7.out.row
              have HH := Lib.hid HX7.out.heap
              clear HX6 HW6
              go_wp2_with fail
              exact bodyPost_ret (v := .tuple #[adV false fun _ => 0, .int .i64 40]) (results_ad2 _ _ Tryd.underlying29 info_rad rfl _ _ w.heap.size (.int .i64 40) rfl rfl (partOf_set HH.out)) rfl (.mk (by rw [HR0.out HF.out]; rfl) (below_setRow HW7.out (Nat.le_refl _) _))
        · obtain rfl : k = 4 := by omega
          have HFF : Hid (F = some G) := Lib.hid (by
            have := HG.out
            rw [List.take_of_length_le (by rw [HP.out]; exact Nat.le_refl _)] at this
            rw [HFL.out, if_pos HP.out, this])
          have hpp := HY.out.part
          have hrr := HX.out.row
          have HH := Lib.hid HX.out.heap
          go_wp2_with fail
          exact bodyPost_ret (v := .tuple #[adV false (fourB G), .int .i64 0]) (results_ad2 _ _ Tryd.underlying29 info_rad rfl _ _ w.heap.size (.int .i64 0) rfl rfl (partOf_set HH.out)) rfl (.mk (by rw [HR.out _ HFF.out]; rfl) (below_setRow HW.out (Nat.le_refl _) _))
    · have h5 : ((P.length : Int) == 4) = false := by simp; omega
      have HF : Hid (F = none) := Lib.hid (by rw [HFL.out, if_neg h4])
      have hrr := HX.out.row
      have HH := Lib.hid HX.out.heap
      have hln := HPC.out
      have hln2 : ¬ ((P.length : Int) = 4) := by omega
      generalize P.length = nP at *
      go_wp2_with fail
      refine bodyPost_ret (v := .tuple #[adV false fun _ => 0, .int .i64 40]) (results_ad2 _ _ Tryd.underlying29 info_rad rfl _ _ w.heap.size (.int .i64 40) rfl rfl (partOf_set HH.out)) rfl (.mk (by rw [HR0.out HF.out]; rfl) (below_setRow HW.out (Nat.le_refl _) _))
end Go.Proofs.YtcadpcppnllhnaaDoor
