/- Walks over texts: the reference's text of an address of sixteen bytes. -/
import Derived.Test.YtcadpcppnllhnaaDoorJT10
import Derived.Test.YtcadpcppnllhnaaDoorJT1

section
set_option linter.unusedSimpArgs false
set_option linter.unusedVariables false
namespace Go.Proofs.YtcadpcppnllhnaaDoor
open Go.RowKit

/-- The last sign of a row of tokens. -/
theorem flatT_nil {G : Nat → List UInt8} (hG : ∀ i, G i ≠ []) : ∀ T : List Tok, flatT G T = [] ↔ T = []
  | [] => by simp [flatT]
  | none :: T => by simp [flatT]
  | some i :: T => by simp [flatT, hG i]
theorem flatT_last {G : Nat → List UInt8} (hG : ∀ i, G i ≠ [] ∧ (58 : UInt8) ∉ G i) (T : List Tok) (h : T ≠ []) : ∃ l c, flatT G T = l ++ [c] ∧ (c = 58 ↔ T.getLast? = some none) := by
  obtain ⟨T', x, rfl⟩ : ∃ T' x, T = T' ++ [x] := ⟨T.dropLast, T.getLast h, (List.dropLast_concat_getLast h).symm⟩
  rw [flatT_append, List.getLast?_concat]
  cases x with
  | none => exact ⟨flatT G T', 58, rfl, by simp⟩
  | some i =>
    obtain ⟨h1, h2⟩ := hG i
    refine ⟨flatT G T' ++ (G i).dropLast, (G i).getLast h1, ?_, ?_⟩
    · show flatT G T' ++ (G i ++ []) = _
      rw [List.append_nil, List.append_assoc, List.dropLast_concat_getLast]
    · constructor
      · intro e
        exact absurd (e ▸ List.getLast_mem h1) h2
      · intro e; cases e
theorem index_last (l : List UInt8) (c : UInt8) (w : World) : (Instr.index 9 (.string ⟨(l ++ [c]).toArray⟩) (.int .i64 (l.length : Int))).run Tryd.prog w = .ok (.int .u8 (c.toNat : Int)) w := by
  have hs : l.length < (⟨(l ++ [c]).toArray⟩ : ByteArray).size := by simp [ByteArray.size]
  refine index_byte _ l.length hs _ ?_ w
  show ((l ++ [c]).toArray[l.length]'(by simp)).toNat = _
  simp

set_option maxRecDepth 20000 in
set_option maxHeartbeats 8000000 in
theorem rtext_six (B : Nat → Int) (hB : U8 B) (w : World) :
    Calls Tryd.prog 22 #[adV true B] w (RetAt w (.string ⟨(text6 (grpN B)).toArray⟩)) := by
  have HR : Hid (∀ w, Calls Tryd.prog 18 #[adV true B] w (RetAt w (.bool true))) := Lib.hid fun w => rright_any true B w
  have HRUN := Lib.hid (fun i hi w => run_any true B hB (zg (grpN B)) (fun k hk => zg_grp hB k hk) i hi w)
  have HG := Lib.hid (fun k hk w => rgroup_any true B hB k hk w)
  have HGE := Lib.hid (fun k => grpN_eq hB k)
  have HGL := Lib.hid (fun k => grpN_lt hB k)
  have HT : Hid (text6 (grpN B) = flatT (fun i => digB 16 (grpN B i)) (refTok (zg (grpN B)))) := Lib.hid (by
    unfold text6
    rw [show progTok (zg (grpN B)) = refTok (zg (grpN B)) from tok_eq8 _ _ _ _ _ _ _ _])
  have HGG : Hid (∀ i, digB 16 (grpN B i) ≠ [] ∧ (58 : UInt8) ∉ digB 16 (grpN B i)) := Lib.hid fun i => ⟨digB_ne _ _, digB_colon _⟩
  have HG4 : Hid (∀ i, (digB 16 (grpN B i)).length ≤ 4) := Lib.hid fun i => digB16_len _ (grpN_lt hB i)
  have HDI : Hid (∀ i w, Calls Tryd.prog 36 #[.int .i64 (grpI B i), .int .i64 16] w (RetAt w (.string ⟨(digB 16 (grpN B i)).toArray⟩))) := Lib.hid fun i w => by
    have h1 := grpN_lt hB i
    have := digits16_any (grpN B i) (grpI B i) w (by have := grpI_bd hB i; omega) (by have := grpI_bd hB i; omega) (by rw [grpN_eq hB i]; omega)
    exact this
  have HX : Hid (AdBox (w.alloc (.cells #[.bool true, .int .u8 (B 0), .int .u8 (B 1), .int .u8 (B 2), .int .u8 (B 3), .int .u8 (B 4), .int .u8 (B 5), .int .u8 (B 6), .int .u8 (B 7), .int .u8 (B 8), .int .u8 (B 9), .int .u8 (B 10), .int .u8 (B 11), .int .u8 (B 12), .int .u8 (B 13), .int .u8 (B 14), .int .u8 (B 15)] 29)) w.heap.size 29 true B) := Lib.hid (AdBox.made w _ true B)
  have HW : Hid (Below w.heap.size w (w.alloc (.cells #[.bool true, .int .u8 (B 0), .int .u8 (B 1), .int .u8 (B 2), .int .u8 (B 3), .int .u8 (B 4), .int .u8 (B 5), .int .u8 (B 6), .int .u8 (B 7), .int .u8 (B 8), .int .u8 (B 9), .int .u8 (B 10), .int .u8 (B 11), .int .u8 (B 12), .int .u8 (B 13), .int .u8 (B 14), .int .u8 (B 15)] 29))) := Lib.hid (Below.all (Below.refl w.heap.size w) _)
  clear hB
  generalize zg (grpN B) = z at *
  generalize text6 (grpN B) = TX at *
  generalize hGf : (fun i => digB 16 (grpN B i)) = G at *
  have HGf : Hid (∀ i, digB 16 (grpN B i) = G i) := Lib.hid fun i => by rw [← hGf]
  have HGG2 : Hid (∀ i, G i ≠ [] ∧ (58 : UInt8) ∉ G i) := Lib.hid fun i => by rw [← HGf.out i]; exact HGG.out i
  have HG42 : Hid (∀ i, (G i).length ≤ 4) := Lib.hid fun i => by rw [← HGf.out i]; exact HG4.out i
  have HDI2 : Hid (∀ i w, Calls Tryd.prog 36 #[.int .i64 (grpI B i), .int .i64 16] w (RetAt w (.string ⟨(G i).toArray⟩))) := Lib.hid fun i w => by rw [← HGf.out i]; exact HDI.out i w
  clear hGf HGf HGG HG4 HDI HGE HGL
  unfold adV at *
  go_enter Tryd.func22, Tryd.ntmps22
  go_wp2_with fail
  generalize w.alloc (.cells #[.bool true, .int .u8 (B 0), .int .u8 (B 1), .int .u8 (B 2), .int .u8 (B 3), .int .u8 (B 4), .int .u8 (B 5), .int .u8 (B 6), .int .u8 (B 7), .int .u8 (B 8), .int .u8 (B 9), .int .u8 (B 10), .int .u8 (B 11), .int .u8 (B 12), .int .u8 (B 13), .int .u8 (B 14), .int .u8 (B 15)] 29) = w1 at *
  refine Calls.mono (HR.out _) ?_
  rintro e w2 ⟨rfl, hb2⟩
  have HX2 := Lib.hid (HX.out.below hb2)
  have HW2 := Lib.hid (Below.via HW.out hb2)
  have hsx := HX2.out.six
  clear hb2 HX HW HR
  go_wp2_with fail
  clear hsx
  go_loopw [3, 4] (fun u3 u4 wr => ∃ (i b : Nat), i ≤ 8 ∧ b ≤ 8 ∧ u4 = .int .i64 i ∧ u3 = .int .i64 b ∧ Hid (bestGo z (8 - i) i b = bestZ z) ∧ Hid (b = 8 ∨ 2 ≤ runZ z (8 - b) b) ∧ Hid (AdBox wr w.heap.size 29 true B) ∧ Hid (Below w.heap.size w wr)) (fun _ u4 _ => (8 : Int) - intOf u4 |>.toNat)
  case atStart => exact ⟨0, 8, by omega, by omega, rfl, rfl, Lib.hid rfl, Lib.hid (.inl rfl), HX2, HW2⟩
  case round =>
    obtain ⟨i, b, hi, hb, rfl, rfl, HBE, HB8, HX, HW⟩ := hrel
    have hpp := HX.out.part
    have hlW := HX.out.lt
    by_cases hlt : i < 8
    · have HS : Hid (bestGo z (8 - i) i b = bestGo z (8 - (i + 1)) (i + 1) (if 2 ≤ runZ z (8 - i) i ∧ (b = 8 ∨ runZ z (8 - b) b < runZ z (8 - i) i) then i else b)) := Lib.hid (by
        rw [show bestGo z (8 - i) i b = bestGo z (8 - (i + 1) + 1) i b by rw [show 8 - i = 8 - (i + 1) + 1 by omega]]
        rw [bestGo])
      have HRi := Lib.hid (HRUN.out i hi)
      have HRb := Lib.hid (HRUN.out b hb)
      generalize hri : runZ z (8 - i) i = ri at HS HRi
      have HRI := Lib.hid hri
      generalize hrbe : runZ z (8 - b) b = rb at HS HRb
      clear hri hrbe
      by_cases h2 : 2 ≤ ri
      · by_cases h8 : b = 8
        · have HS2 : Hid (bestGo z (8 - (i + 1)) (i + 1) i = bestZ z) := Lib.hid (by rw [← HBE.out, HS.out, if_pos ⟨h2, .inl h8⟩])
          subst h8
          have h2' : (2 : Int) ≤ ri := by omega
          clear HS HBE
          go_wp2_with fail
          refine wp_region_later (by kernel_rfl) (by kernel_rfl) ?_
          repeat go_big_quiet_step ((go_at_call 48; exact later_call (HRi.out _)))
          refine wpQuiet_nil ?_
          intro x
          have HX3 := Lib.hid (HX.out.below x.below)
          have HW3 := Lib.hid (Below.via HW.out x.below)
          clear HX HW hpp
          go_wp2_with fail
          go_roundw
          case rel => exact ⟨i + 1, i, by omega, by omega, by go_num, rfl, HS2, Lib.hid (.inr (by have := HRI.out; omega)), HX3, HW3⟩
          case measure => simp [intOf]; omega
        · have h8' : ¬ ((b : Int) = 8) := by omega
          have h8b : ((b : Int) == 8) = false := by simp; omega
          by_cases hgt : rb < ri
          · have HS2 : Hid (bestGo z (8 - (i + 1)) (i + 1) i = bestZ z) := Lib.hid (by rw [← HBE.out, HS.out, if_pos ⟨h2, .inr hgt⟩])
            have hgt' : (rb : Int) < ri := by omega
            have h2' : (2 : Int) ≤ ri := by omega
            clear HS HBE
            go_wp2_with fail
            refine wp_region_later (by kernel_rfl) (by kernel_rfl) ?_
            repeat go_big_quiet_step (fail)
            go_big_quiet_step ((go_at_call 48; exact later_call (HRi.out _)))
            repeat go_big_quiet_step (fail)
            go_big_quiet_step ((go_at_call 48; exact later_call (HRi.out _)))
            repeat go_big_quiet_step (fail)
            go_big_quiet_step ((go_at_call 48; exact later_call (HRb.out _)))
            repeat go_big_quiet_step (fail)
            refine wpQuiet_nil ?_
            intro x
            have HX3 := Lib.hid (HX.out.below x.below)
            have HW3 := Lib.hid (Below.via HW.out x.below)
            clear HX HW hpp
            go_wp2_with fail
            go_roundw
            case rel => exact ⟨i + 1, i, by omega, by omega, by go_num, rfl, HS2, Lib.hid (.inr (by have := HRI.out; omega)), HX3, HW3⟩
            case measure => simp [intOf]; omega
          · have HS2 : Hid (bestGo z (8 - (i + 1)) (i + 1) b = bestZ z) := Lib.hid (by rw [← HBE.out, HS.out, if_neg (by omega)])
            have hgt' : ¬ ((rb : Int) < ri) := by omega
            have h2' : (2 : Int) ≤ ri := by omega
            clear HS HBE
            go_wp2_with fail
            refine wp_region_later (by kernel_rfl) (by kernel_rfl) ?_
            repeat go_big_quiet_step (fail)
            go_big_quiet_step ((go_at_call 48; exact later_call (HRi.out _)))
            repeat go_big_quiet_step (fail)
            go_big_quiet_step ((go_at_call 48; exact later_call (HRi.out _)))
            repeat go_big_quiet_step (fail)
            go_big_quiet_step ((go_at_call 48; exact later_call (HRb.out _)))
            repeat go_big_quiet_step (fail)
            refine wpQuiet_nil ?_
            intro x
            have HX3 := Lib.hid (HX.out.below x.below)
            have HW3 := Lib.hid (Below.via HW.out x.below)
            clear HX HW hpp
            go_wp2_with fail
            go_roundw
            case rel => exact ⟨i + 1, b, by omega, by omega, by go_num, rfl, HS2, HB8, HX3, HW3⟩
            case measure => simp [intOf]; omega
      · have HS2 : Hid (bestGo z (8 - (i + 1)) (i + 1) b = bestZ z) := Lib.hid (by rw [← HBE.out, HS.out, if_neg (by omega)])
        have h2' : ¬ ((2 : Int) ≤ ri) := by omega
        have h2d : decide ((2 : Int) ≤ ri) = false := decide_eq_false h2'
        clear HS HBE
        go_wp2_with fail
        refine wp_region_later (by kernel_rfl) (by kernel_rfl) ?_
        repeat go_big_quiet_step ((go_at_call 48; exact later_call (HRi.out _)))
        refine wpQuiet_nil ?_
        intro x
        have HX3 := Lib.hid (HX.out.below x.below)
        have HW3 := Lib.hid (Below.via HW.out x.below)
        clear HX HW hpp
        go_wp2_with fail
        go_roundw
        case rel => exact ⟨i + 1, b, by omega, by omega, by go_num, rfl, HS2, HB8, HX3, HW3⟩
        case measure => simp [intOf]; omega
    · obtain rfl : i = 8 := by omega
      have HBB : Hid (b = bestZ z) := HBE
      have HRT : Hid (refTok z = txtGo z b 9 0 []) := Lib.hid (by rw [HBB.out]; rfl)
      have HRB := Lib.hid (HRUN.out b hb)
      have hrb := runZ_le z (8 - b) b
      clear HBE HBB HRUN hpp
      have hB8 := HB8.out
      clear HB8
      have HTS : Hid (∀ (f i : Nat) (T : List Tok), txtGo z b (f + 1) i T = if 8 ≤ i then T else if i = b then txtGo z b f (i + runZ z (8 - b) b) (T ++ [none, none]) else txtGo z b f (i + 1) (T ++ (if T = [] ∨ T.getLast? = some none then [] else [none]) ++ [some i])) := Lib.hid fun _ _ _ => rfl
      generalize runZ z (8 - b) b = rb at *
      go_wp2_with fail
      go_loopg [5, 6] 8 (fun f u5 u6 wr => ∃ (i : Nat) (T : List Tok) (s : List UInt8), i ≤ 8 ∧ 8 ≤ i + f ∧ s.length ≤ 8 * (9 - (f + 1)) ∧ f ≤ 8 ∧ u6 = .int .i64 i ∧ u5 = .string ⟨s.toArray⟩ ∧ Hid (s = flatT G T) ∧ Hid (txtGo z b (f + 1) i T = refTok z) ∧ Hid (AdBox wr w.heap.size 29 true B) ∧ Hid (Below w.heap.size w wr))
      case atStart => exact ⟨0, [], [], by omega, by omega, by simp, by omega, rfl, rfl, Lib.hid rfl, Lib.hid HRT.out.symm, HX, HW⟩
      case round =>
        obtain ⟨i, T, s, hi, hf, hls, hf8, rfl, rfl, HST, HTX, HX, HW⟩ := hrel
        have hpp := HX.out.part
        have hlW := HX.out.lt
        by_cases hlt : i < 8
        · obtain ⟨f', rfl⟩ : ∃ f', gk = f' + 1 := ⟨gk - 1, by omega⟩
          by_cases hib : i = b
          · have HT2 : Hid (txtGo z b (f' + 1) (i + rb) (T ++ [none, none]) = refTok z) := Lib.hid (by rw [← HTX.out, HTS.out (f' + 1) i T, if_neg (show ¬ 8 ≤ i by omega), if_pos hib])
            have HS2 : Hid (s ++ [58, 58] = flatT G (T ++ [none, none])) := Lib.hid (by rw [flatT_append, HST.out]; rfl)
            subst hib
            have hcat := concat_small s [58, 58] (by omega) (by decide)
            clear HTS HTX HST HT HG HDI2 HGG2 HG42 HRT
            go_wp2_with fail
            refine Calls.mono (HRB.out _) ?_
            rintro e w3 ⟨rfl, hb3⟩
            have HX3 := Lib.hid (HX.out.below hb3)
            have HW3 := Lib.hid (Below.via HW.out hb3)
            clear HX HW hpp hb3
            go_wp2_with fail
            go_roundg f'
            case measure => omega
            case rel => exact ⟨i + rb, T ++ [none, none], s ++ [58, 58], by omega, by omega, by simp; omega, by omega, by go_num, (by first | rfl | exact congrArg Value.string (bytes_append s [58, 58])), HS2, HT2, HX3, HW3⟩
          · have hib' : ¬ ((i : Int) = b) := by omega
            have hib2 : ((i : Int) == b) = false := by simp; omega
            have hGl := HG42.out i
            have HGi := Lib.hid (HG.out i hlt)
            have HDi := Lib.hid (HDI2.out i)
            have HTT : Hid (txtGo z b (f' + 1) (i + 1) (T ++ (if T = [] ∨ T.getLast? = some none then [] else [none]) ++ [some i]) = refTok z) := Lib.hid (by rw [← HTX.out, HTS.out (f' + 1) i T, if_neg (show ¬ 8 ≤ i by omega), if_neg hib])
            have HGI : Hid (flatT G [some i] = G i) := Lib.hid (by simp [flatT])
            by_cases hT : T = []
            · subst hT
              have hs0 : s = [] := HST.out
              subst hs0
              have HT2 : Hid (txtGo z b (f' + 1) (i + 1) [some i] = refTok z) := HTT
              clear HTT HTS HTX HST HT HG HDI2 HGG2 HG42 HRT HRB
              go_wp2_with fail
              refine Calls.mono (HGi.out _) ?_
              rintro e w3 ⟨rfl, hb3⟩
              go_wp2_with fail
              refine Calls.mono (HDi.out _) ?_
              rintro e w4 ⟨rfl, hb4⟩
              have HX4 := Lib.hid ((HX.out.below hb3).below hb4)
              have HW4 := Lib.hid (Below.via (Below.via HW.out hb3) hb4)
              have hcat := concat_small [] (G i) (by simp) (by omega)
              have hl3 : (G i).length ≤ 9223372036854775807 := by omega
              have hl4 : ((G i).length : Int) ≤ 9223372036854775807 := by omega
              clear HX HW hpp hb3 hb4
              go_wp2_with fail
              go_roundg f'
              case measure => omega
              case rel => exact ⟨i + 1, [some i], [] ++ G i, by omega, by omega, by simp; omega, by omega, by go_num, (by first | rfl | exact congrArg Value.string (bytes_append [] (G i))), Lib.hid (by rw [HGI.out]; rfl), HT2, HX4, HW4⟩
            · obtain ⟨l, c, hlc, hc58⟩ := flatT_last HGG2.out T hT
              have hs0 : s = l ++ [c] := by rw [HST.out, hlc]
              have hll : l.length + 1 ≤ 100 := by rw [hs0] at hls; simp at hls; omega
              by_cases hcol : T.getLast? = some none
              · have hc : c = 58 := hc58.2 hcol
                subst hc
                have HT2 : Hid (txtGo z b (f' + 1) (i + 1) (T ++ [some i]) = refTok z) := Lib.hid (by rw [← HTT.out, if_pos (.inr hcol), List.append_nil])
                have HS2 : Hid (s ++ G i = flatT G (T ++ [some i])) := Lib.hid (by rw [flatT_append, HST.out, HGI.out])
                have hix := index_last l 58
                have hsz : s.length = l.length + 1 := by rw [hs0]; simp
                have hne : (l ++ [(58 : UInt8)] == []) = false := by simp
                have hsl : (((l ++ [(58 : UInt8)]).length : Nat) : Int) - 1 = l.length := by simp <;> omega
                have hsl2 : IntKind.i64.wrap (((l ++ [(58 : UInt8)]).length : Int) - 1) = l.length := by rw [hsl]; exact IntWalk.i64_in _ (by omega)
                have hcat := concat_small (l ++ [58]) (G i) (by simp; omega) (by omega)
                clear HTT HTS HTX HST HT HG HDI2 HGG2 HG42 HRT HRB hlc hc58 hcol
                subst hs0
                go_wp2_with fail
                refine Calls.mono (HGi.out _) ?_
                rintro e w3 ⟨rfl, hb3⟩
                go_wp2_with fail
                refine Calls.mono (HDi.out _) ?_
                rintro e w4 ⟨rfl, hb4⟩
                have HX4 := Lib.hid ((HX.out.below hb3).below hb4)
                have HW4 := Lib.hid (Below.via (Below.via HW.out hb3) hb4)
                clear HX HW hpp hb3 hb4
                go_wp2_with fail
                go_roundg f'
                case measure => omega
                case rel => exact ⟨i + 1, T ++ [some i], l ++ [58] ++ G i, by omega, by omega, by simp at hls ⊢; omega, by omega, by go_num, (by first | rfl | exact congrArg Value.string (bytes_append (l ++ [58]) (G i))), HS2, HT2, HX4, HW4⟩
              · have hc : c ≠ 58 := fun e => hcol (hc58.1 e)
                have HT2 : Hid (txtGo z b (f' + 1) (i + 1) (T ++ [none] ++ [some i]) = refTok z) := Lib.hid (by rw [← HTT.out, if_neg (fun h => h.elim hT hcol)])
                have HS2 : Hid (s ++ [58] ++ G i = flatT G (T ++ [none] ++ [some i])) := Lib.hid (by rw [flatT_append, flatT_append, HST.out, HGI.out]; rfl)
                have hix := index_last l c
                have hcN : ¬ c.toNat = 58 := fun e => hc (UInt8.toNat_inj.1 e)
                have hne : (l ++ [c] == []) = false := by simp
                have hsl : (((l ++ [c]).length : Nat) : Int) - 1 = l.length := by simp <;> omega
                have hsl2 : IntKind.i64.wrap (((l ++ [c]).length : Int) - 1) = l.length := by rw [hsl]; exact IntWalk.i64_in _ (by omega)
                have hcat := concat_small (l ++ [c]) [58] (by simp; omega) (by decide)
                have hcat2 := concat_small (l ++ [c] ++ [58]) (G i) (by simp; omega) (by omega)
                have hcI : ¬ ((c.toNat : Int) = 58) := by omega
                have hcB : ((c.toNat : Int) == 58) = false := by simp; omega
                clear HTT HTS HTX HST HT HG HDI2 HGG2 HG42 HRT HRB hlc hc58 hcol
                subst hs0
                generalize c.toNat = cn at *
                go_wp2_with fail
                refine Calls.mono (HGi.out _) ?_
                rintro e w3 ⟨rfl, hb3⟩
                go_wp2_with fail
                refine Calls.mono (HDi.out _) ?_
                rintro e w4 ⟨rfl, hb4⟩
                have HX4 := Lib.hid ((HX.out.below hb3).below hb4)
                have HW4 := Lib.hid (Below.via (Below.via HW.out hb3) hb4)
                clear HX HW hpp hb3 hb4
                go_wp2_with fail
                go_roundg f'
                case measure => omega
                case rel => exact ⟨i + 1, T ++ [none] ++ [some i], l ++ [c] ++ [58] ++ G i, by omega, by omega, by simp at hls ⊢; omega, by omega, by go_num, (by first | rfl | exact congrArg Value.string (bytes_append (l ++ [c] ++ [58]) (G i))), HS2, HT2, HX4, HW4⟩
        · obtain rfl : i = 8 := by omega
          have HF : Hid (T = refTok z) := Lib.hid (by rw [← HTX.out, HTS.out gk 8 T, if_pos (Nat.le_refl _)])
          go_wp2_with fail
          go_ret
          exact .mk (by rw [HT.out, ← HF.out, ← HST.out]; rfl) HW.out
theorem rtext_any (six : Bool) (B : Nat → Int) (hB : U8 B) (w : World) :
    Calls Tryd.prog 22 #[adV six B] w (RetAt w (.string ⟨(adText six B).toArray⟩)) := by
  unfold adText
  by_cases h : rightB six B = true
  · rw [if_pos h]
    cases six
    · exact rtext_four B hB h w
    · exact rtext_six B hB w
  · rw [if_neg h]
    exact rtext_wrong six B (by simpa using h) w
end Go.Proofs.YtcadpcppnllhnaaDoor
end

/- A region that draws its order: reads and calls that make memory of their own; two allocations that wait for nothing; what writes stands behind them all. -/
section
set_option linter.unusedSimpArgs false
set_option linter.unusedVariables false
namespace Go.Proofs.YtcadpcppnllhnaaDoor
open Go.RowKit

section
variable {P : Program} {ops : Array Oper} {md : Region.Mode}

def LaterC (w : World) : World → Prop := fun w' => ∃ x : Later w, w' = x.world
def YieldsAll (P : Program) (ops : Array Oper) (w : World) (o : Oper) (v : Value) (a : Act) : Prop := ∀ w1, Below w.heap.size w w1 → YieldsIn P ops (LaterC w1) o v a
def Live (w' : World) (gs : List (Nat × Obj)) : Prop := ∀ g ∈ gs, w'.heap[g.1]? = some g.2
def ptrTo (g : Nat) : Value := .pointer (some ⟨g, 0, none⟩)

/-- An allocation, whatever the state. -/
structure Makes (P : Program) (ops : Array Oper) (o : Oper) (ob : Obj) : Prop where
  wanted : ∀ a : Act, Region.wanted o (yielded ops a.tmps) = true
  run : ∀ (a : Act) (w' : World), (execOp a.eval o).run P w' = .ok (.value (ptrTo w'.heap.size)) (w'.alloc ob)

def wpFresh (P : Program) (md : Region.Mode) (ops : Array Oper) (w : World) (n : Nat) (al : Nat → Option Obj) (L : Array Bool → Act → List (Nat × Obj) → Prop) : Nat → Array Bool → Act → List (Nat × Obj) → Prop
  | 0, listed, a, gs => L listed a gs
  | f + 1, listed, a, gs => Region.ready md ops listed ≠ [] ∧ ∀ i ∈ Region.ready md ops listed, i < n ∧ ∀ oi, ops[i]? = some oi →
      ((al i = none → ∃ v, YieldsAll P ops w oi v a ∧ wpFresh P md ops w n al L f (listed.setIfInBounds i true) (a.put oi.dst v) gs) ∧
       (∀ ob, al i = some ob → Makes P ops oi ob ∧ ∀ g, w.heap.size ≤ g → (∀ p ∈ gs, p.1 < g) → wpFresh P md ops w n al L f (listed.setIfInBounds i true) (a.put oi.dst (ptrTo g)) ((g, ob) :: gs)))

theorem Live.lt {w' : World} {gs : List (Nat × Obj)} (h : Live w' gs) : ∀ p ∈ gs, p.1 < w'.heap.size := fun p hp => (Array.getElem?_eq_some_iff.1 (h p hp)).1
theorem Live.below {w' w'' : World} {gs : List (Nat × Obj)} (h : Live w' gs) (hb : Below w'.heap.size w' w'') : Live w'' gs := fun p hp => (hb.block _ (h.lt p hp)).trans (h p hp)

theorem wpAny_of_fresh {w : World} {n g : Nat} {al : Nat → Option Obj} {L : Array Bool → Act → List (Nat × Obj) → Prop} {Q' : Exit → Act → World → Prop}
    (hL : ∀ listed a gs w', Below w.heap.size w w' → Live w' gs → L listed a gs → wpAny P md ops Q' g listed a w') :
    ∀ (f : Nat) (listed : Array Bool) (a : Act) (gs : List (Nat × Obj)) (w' : World), Below w.heap.size w w' → Live w' gs → wpFresh P md ops w n al L f listed a gs → wpAny P md ops Q' (f + g) listed a w'
  | 0, listed, a, gs, w', hw, hl, h => by rw [Nat.zero_add]; exact hL _ _ _ _ hw hl h
  | f + 1, listed, a, gs, w', hw, hl, h => by
    rw [show f + 1 + g = (f + g) + 1 by omega]
    refine ⟨fun h0 => absurd h0 h.1, fun i hi => ?_⟩
    obtain ⟨_, oi, hoi, _⟩ := mem_ready.1 hi
    obtain ⟨h1, h2⟩ := (h.2 i hi).2 oi hoi
    cases hal : al i with
    | none =>
      obtain ⟨v, hy, hk⟩ := h1 hal
      refine wpOp_of_qOp (C := LaterC w') (K := fun a' => a' = a.put oi.dst v) ⟨⟨w', Below.refl _ _⟩, rfl⟩ (fun a' w'' hw'' ha => ?_) ((hy w' hw).qOp hoi rfl)
      obtain ⟨x, rfl⟩ := hw''
      subst ha
      exact wpAny_of_fresh hL f _ _ gs _ (Below.via hw x.below) (hl.below x.below) hk
    | some ob =>
      obtain ⟨hm, hk⟩ := h2 ob hal
      unfold wpOp
      simp only [hoi, hm.wanted a, if_true]
      refine .inl ?_
      unfold Oper.wp
      rw [hm.run]
      have hnew : (w'.alloc ob).heap[w'.heap.size]? = some ob := heap_alloc_new w' ob
      have hb : Below w'.heap.size w' (w'.alloc ob) := Below.all (Below.refl _ _) ob
      refine wpAny_of_fresh hL f _ _ _ _ (Below.via hw hb) ?_ (hk _ hw.size hl.lt)
      intro p hp
      rcases List.mem_cons.1 hp with rfl | hp
      · exact hnew
      · exact hl.below hb p hp

theorem YieldsAll.of_put {w : World} {oi oj : Oper} {v u : Value} {a : Act} (hsi : ∀ cs b, oi.op ≠ .select cs b) (h : YieldsAll P ops w oi v a) (hap : ∀ d, oj.dst = some d → d ∉ oi.looksAt ops) : YieldsAll P ops w oi v (a.put oj.dst u) :=
  fun w1 hb => (h w1 hb).of_same (execOp_put oi hsi a oj.dst u hap) (wanted_put oi a oj.dst u hap)
theorem YieldsAll.of_unput {w : World} {oi oj : Oper} {v u : Value} {a : Act} (hsi : ∀ cs b, oi.op ≠ .select cs b) (h : YieldsAll P ops w oi v (a.put oj.dst u)) (hap : ∀ d, oj.dst = some d → d ∉ oi.looksAt ops) : YieldsAll P ops w oi v a :=
  fun w1 hb => (h w1 hb).of_same (execOp_put oi hsi a oj.dst u hap).symm (wanted_put oi a oj.dst u hap).symm

theorem wpFresh_first {w : World} {n i : Nat} {oi : Oper} {v : Value} {al : Nat → Option Obj} {L : Array Bool → Act → List (Nat × Obj) → Prop} (hi : ops[i]? = some oi) (hal : al i = none) (hsel : ∀ (j : Nat) (o : Oper) cs b, ops[j]? = some o → o.op ≠ .select cs b)
    (hs : Region.sinkB md ops n = true) (hc : Region.chainB md ops n = true) (hn : n < ops.size) (hin : i < n)
    (hdone : ∀ listed a gs, L listed a gs → ∀ j ∈ Region.ready md ops listed, n ≤ j) :
    ∀ (f : Nat) (listed : Array Bool) (a : Act) (gs : List (Nat × Obj)), HeadInv md ops n listed →
      (∀ j oj, ops[j]? = some oj → j ≠ i → listed.getD j true = false → (∀ e ∈ oj.after, Region.binds md e = true → e.on ≠ i) → oi.apart ops oj = true) →
      i ∈ Region.ready md ops listed → YieldsAll P ops w oi v a →
      wpFresh P md ops w n al L f (listed.setIfInBounds i true) (a.put oi.dst v) gs → wpFresh P md ops w n al L (f + 1) listed a gs := by
  intro f
  induction f with
  | zero =>
    intro listed a gs inv _ hr hy H
    have hun := (mem_ready.1 hr).1
    refine ⟨fun h => (by rw [h] at hr; cases hr), fun j hj => ?_⟩
    have hjn : j < n := by
      rcases Nat.lt_or_ge j n with h | h
      · exact h
      · exact absurd hj (tail_waits hs hc hn inv _ i rfl hin hun j h)
    refine ⟨hjn, fun oj hoj => ?_⟩
    by_cases hji : j = i
    · subst hji
      obtain rfl : oi = oj := Option.some.inj (hi.symm.trans hoj)
      exact ⟨fun _ => ⟨v, hy, H⟩, fun ob h => by rw [hal] at h; cases h⟩
    · have := hdone _ _ _ H j (ready_mono hj hji)
      omega
  | succ f ih =>
    intro listed a gs inv hfree hr hy H
    have hun := (mem_ready.1 hr).1
    refine ⟨fun h => (by rw [h] at hr; cases hr), fun j hj => ?_⟩
    have hjn : j < n := by
      rcases Nat.lt_or_ge j n with h | h
      · exact h
      · exact absurd hj (tail_waits hs hc hn inv _ i rfl hin hun j h)
    refine ⟨hjn, fun oj hoj => ?_⟩
    by_cases hji : j = i
    · subst hji
      obtain rfl : oi = oj := Option.some.inj (hi.symm.trans hoj)
      exact ⟨fun _ => ⟨v, hy, H⟩, fun ob h => by rw [hal] at h; cases h⟩
    · obtain ⟨H1, H2⟩ := (H.2 j (ready_mono hj hji)).2 oj hoj
      obtain ⟨hjun, oj', hoj', hall⟩ := mem_ready.1 hj
      obtain rfl : oj = oj' := Option.some.inj (hoj.symm.trans hoj')
      have hnot : ∀ e ∈ oj.after, Region.binds md e = true → e.on ≠ i := fun e he hb heq => by
        have h1 := hall e he hb
        rw [heq, getD_both hun] at h1
        cases h1
      obtain ⟨ap1, ap2, ap3⟩ := Oper.apart_spec (hfree j oj hoj hji hjun hnot)
      have hfree' : ∀ k ok, ops[k]? = some ok → k ≠ i → (listed.setIfInBounds j true).getD k true = false →
          (∀ e ∈ ok.after, Region.binds md e = true → e.on ≠ i) → oi.apart ops ok = true := fun k ok hk hki hun hno => by
        refine hfree k ok hk hki ?_ hno
        by_cases hjk : j = k
        · subst hjk; exact hjun
        · rw [getD_set_ne true hjk] at hun; exact hun
      have go : ∀ (u : Value) gs', wpFresh P md ops w n al L f ((listed.setIfInBounds i true).setIfInBounds j true) ((a.put oi.dst v).put oj.dst u) gs' → wpFresh P md ops w n al L (f + 1) (listed.setIfInBounds j true) (a.put oj.dst u) gs' := fun u gs' h => by
        refine ih (listed.setIfInBounds j true) (a.put oj.dst u) gs' (inv.set hj hjn) hfree' (ready_mono hr (Ne.symm hji)) (hy.of_put (fun cs b => hsel i oi cs b hi) ap3) ?_
        rw [Array.setIfInBounds_comm _ _ hji, ← Act.put_comm a v u ap2]
        exact h
      refine ⟨fun hj0 => ?_, fun ob hob => ?_⟩
      · obtain ⟨u, hu, hk⟩ := H1 hj0
        exact ⟨u, hu.of_unput (fun cs b => hsel j oj cs b hoj) ap1, go u gs hk⟩
      · obtain ⟨hm, hk⟩ := H2 ob hob
        exact ⟨hm, fun g hg hp => go _ _ (hk g hg hp)⟩

def lexFree (md : Region.Mode) (ops : Array Oper) : Nat → Nat → Array Bool → Bool
  | 0, _, _ => true
  | f + 1, k, listed => (Region.ready md ops listed).contains k && Region.free md ops listed k && lexFree md ops f (k + 1) (listed.setIfInBounds k true)
def listedTo : Nat → Nat → Array Bool → Array Bool
  | 0, _, listed => listed
  | f + 1, k, listed => listedTo f (k + 1) (listed.setIfInBounds k true)

def wpFam (P : Program) (ops : Array Oper) (w : World) (Lq : Act → Prop) : List Oper → Act → Prop
  | [], a => Lq a
  | o :: rest, a => ∃ v, YieldsAll P ops w o v a ∧ wpFam P ops w Lq rest (a.put o.dst v)

theorem wpFresh_lex {w : World} {n m r : Nat} {al : Nat → Option Obj} {L : Array Bool → Act → List (Nat × Obj) → Prop} {Lq : Act → Prop} (hsel : Region.noSelect ops = true) (hs : Region.sinkB md ops n = true) (hc : Region.chainB md ops n = true) (hn : n < ops.size) (hmn : m ≤ n)
    (hal : ∀ i, i < m → al i = none) (hdone : ∀ listed a gs, L listed a gs → ∀ j ∈ Region.ready md ops listed, n ≤ j) :
    ∀ (l : List Oper) (k : Nat) (listed : Array Bool) (a : Act), (∀ j, j < l.length → l[j]? = ops[k + j]?) → k + l.length = m → HeadInv md ops n listed →
    lexFree md ops l.length k listed = true → (∀ a', Lq a' → wpFresh P md ops w n al L r (listedTo l.length k listed) a' []) → wpFam P ops w Lq l a → wpFresh P md ops w n al L (l.length + r) listed a []
  | [], k, listed, a, _, hk, _, hB, hb, h => by
    rw [List.length_nil, Nat.zero_add]; exact hb a h
  | o :: l, k, listed, a, hl, hk, inv, hB, hb, h => by
    have h0 : ops[k]? = some o := by simpa using (hl 0 (by simp)).symm
    simp only [List.length_cons, lexFree, Bool.and_eq_true] at hB
    obtain ⟨⟨hr, hf⟩, hB'⟩ := hB
    have hkm : k < m := by simp only [List.length_cons] at hk; omega
    have hr' : k ∈ Region.ready md ops listed := by simpa using hr
    obtain ⟨v, hy, hK⟩ := h
    rw [show (o :: l).length + r = (l.length + r) + 1 by simp only [List.length_cons]; omega]
    exact wpFresh_first h0 (hal k hkm) (Region.noSelect_spec hsel) hs hc hn (by omega) hdone (l.length + r) listed a [] inv (Region.free_spec h0 hf) hr' hy
      (wpFresh_lex hsel hs hc hn hmn hal hdone l (k + 1) _ _ (fun j hj => by have := hl (j + 1) (by simp; omega); simpa [Nat.add_assoc, Nat.add_comm 1 j] using this) (by simp only [List.length_cons] at hk; omega) (inv.set hr' (by omega)) hB' hb hK)

/-! ### One value for all classes -/
theorem yieldsIn_cons {C : World → Prop} {Q : Act → Prop} {o : Oper} {rest : List Oper} {a : Act} (h : wpQuiet P ops C Q (o :: rest) a) : ∃ v, YieldsIn P ops C o v a ∧ wpQuiet P ops C Q rest (a.put o.dst v) := by
  rw [wpQuiet] at h
  by_cases hw : Region.wanted o (yielded ops a.tmps) = true
  · simp only [hw, if_true] at h
    obtain ⟨v, h1, h2⟩ := h
    exact ⟨v, .inl ⟨hw, h1⟩, h2⟩
  · simp only [hw] at h
    exact ⟨undef, .inr ⟨by simpa using hw, rfl⟩, h⟩
def dstsB (n : Nat) : List Oper → Bool
  | [] => true
  | o :: l => (match o.dst with | some d => decide (d < n) && l.all fun p => p.dst != some d | none => false) && dstsB n l
theorem put_size (a : Act) (d : Option Tmp) (v : Value) : (a.put d v).tmps.size = a.tmps.size := by
  cases d <;> simp [Act.put]
theorem quiet_keeps {C : World → Prop} {aF : Act} {d : Tmp} : ∀ (l : List Oper) (a : Act), (∀ o ∈ l, o.dst ≠ some d) → wpQuiet P ops C (fun a' => a' = aF) l a → aF.tmps[d]? = a.tmps[d]?
  | [], a, _, h => by have h : a = aF := h; rw [h]
  | o :: l, a, hd, h => by
    obtain ⟨v, -, h2⟩ := yieldsIn_cons h
    rw [quiet_keeps l _ (fun p hp => hd p (by simp [hp])) h2]
    have := hd o (by simp)
    cases ho : o.dst with
    | none => rfl
    | some e =>
      rw [ho] at this
      have hne : e ≠ d := fun h => this (by rw [h])
      simp [Act.put, Array.getElem?_setIfInBounds, hne]
theorem fam_of {w : World} {aF : Act} : ∀ (l : List Oper) (a : Act), dstsB a.tmps.size l = true → (∀ w1, Below w.heap.size w w1 → wpQuiet P ops (LaterC w1) (fun a' => a' = aF) l a) → wpFam P ops w (fun a' => a' = aF) l a
  | [], a, _, h => h w (Below.refl _ _)
  | o :: l, a, hd, h => by
    rw [dstsB, Bool.and_eq_true] at hd
    obtain ⟨hd1, hd2⟩ := hd
    cases ho : o.dst with
    | none => rw [ho] at hd1; cases hd1
    | some d =>
      rw [ho] at hd1
      simp only [Bool.and_eq_true, decide_eq_true_eq, List.all_eq_true] at hd1
      have hne : ∀ p ∈ l, p.dst ≠ some d := fun p hp e => by have := hd1.2 p hp; rw [e] at this; simp at this
      have val : ∀ {C : World → Prop} {v : Value}, wpQuiet P ops C (fun a' => a' = aF) l (a.put o.dst v) → aF.tmps[d]? = some v := fun {C v} h => by
        rw [quiet_keeps l _ hne h, ho]
        simp [Act.put, Array.getElem?_setIfInBounds, hd1.1]
      obtain ⟨v, -, hv⟩ := yieldsIn_cons (h w (Below.refl _ _))
      have e := val hv
      have H : ∀ w1, Below w.heap.size w w1 → YieldsIn P ops (LaterC w1) o v a ∧ wpQuiet P ops (LaterC w1) (fun a' => a' = aF) l (a.put o.dst v) := fun w1 hb => by
        obtain ⟨u, h1, h2⟩ := yieldsIn_cons (h w1 hb)
        have := val h2
        rw [e] at this
        obtain rfl : v = u := Option.some.inj this
        exact ⟨h1, h2⟩
      exact ⟨v, fun w1 hb => (H w1 hb).1, fam_of l _ (by rw [put_size]; exact hd2) fun w1 hb => (H w1 hb).2⟩

/-! ### The rule -/
def fresh2B (ops : Array Oper) (m : Nat) : Bool :=
  let L := listedTo m 0 (Array.replicate ops.size false)
  Region.noSelect ops && (decide (m + 2 < ops.size) && (Region.sinkB .any ops (m + 2) && (Region.chainB .any ops (m + 2) && (lexFree .any ops m 0 (Array.replicate ops.size false) &&
    (decide (Region.ready .any ops L = [m, m + 1]) && (decide (Region.ready .any ops (L.setIfInBounds m true) = [m + 1]) && (decide (Region.ready .any ops (L.setIfInBounds (m + 1) true) = [m]) &&
      (Region.seqB .any ops (ops.size - (m + 2)) (m + 2) ((L.setIfInBounds m true).setIfInBounds (m + 1) true)))))))))

theorem wp_region_fresh2 {id : Nat} {Q : Exit → Act → World → Prop} {a : Act} {w : World} {l : List Oper} (m : Nat) {o1 o2 : Oper} {d1 d2 : Tmp} {b1 b2 : Obj} (aF : Act) (hm : P.follows .mixedOrders = true) (hB : fresh2B l.toArray m = true)
    (h1 : l[m]? = some o1) (h2 : l[m + 1]? = some o2) (e1 : o1.dst = some d1) (e2 : o2.dst = some d2) (hne : d1 ≠ d2) (hd : dstsB a.tmps.size (l.take m) = true)
    (M1 : Makes P l.toArray o1 b1) (M2 : Makes P l.toArray o2 b2)
    (H : ∀ w1, Below w.heap.size w w1 → wpQuiet P l.toArray (LaterC w1) (fun a' => a' = aF) (l.take m) a)
    (K : ∀ g1 g2 w', Below w.heap.size w w' → w.heap.size ≤ g1 → w.heap.size ≤ g2 → g1 ≠ g2 → w'.heap[g1]? = some b1 → w'.heap[g2]? = some b2 →
      wpList P l.toArray Q (l.drop (m + 2)) ((aF.put (some d1) (ptrTo g1)).put (some d2) (ptrTo g2)) w') : (Code.region id l.toArray true).wp P Q a w := by
  simp only [fresh2B, Bool.and_eq_true, decide_eq_true_eq] at hB
  obtain ⟨hsel, hn, hs, hc, hlex, r0, r1, r2, hseq⟩ := hB
  have hn' : m + 2 < l.length := by simpa using hn
  have htl : (l.take m).length = m := by simp; omega
  have hdl : (l.drop (m + 2)).length = l.toArray.size - (m + 2) := by simp
  have inv0 : HeadInv .any l.toArray (m + 2) (Array.replicate l.toArray.size false) :=
    ⟨by simp, fun j oj _ hl => (by rw [getD_replicate_false] at hl; cases hl), fun t _ ht => getD_in (by simpa using ht) (getD_replicate_false _ _)⟩
  let al : Nat → Option Obj := fun i => if i = m then some b1 else if i = m + 1 then some b2 else none
  have al1 : al m = some b1 := by simp [al]
  have al2 : al (m + 1) = some b2 := by simp [al]
  let LL : Array Bool → Act → List (Nat × Obj) → Prop := fun listed a' gs => Region.seqB .any l.toArray (l.toArray.size - (m + 2)) (m + 2) listed = true ∧
    ∀ w', Below w.heap.size w w' → Live w' gs → wpList P l.toArray Q (l.drop (m + 2)) a' w'
  have o1' : l.toArray[m]? = some o1 := by simpa using h1
  have o2' : l.toArray[m + 1]? = some o2 := by simpa using h2
  have base : ∀ a', a' = aF → wpFresh P .any l.toArray w (m + 2) al LL 2 (listedTo (l.take m).length 0 (Array.replicate l.toArray.size false)) a' [] := by
    rintro a' rfl
    rw [htl]
    refine ⟨(by rw [r0]; simp), fun i hi => ?_⟩
    rw [r0] at hi
    rcases List.mem_cons.1 hi with rfl | hi
    · refine ⟨by omega, fun oi hoi => ⟨fun h => (by rw [al1] at h; cases h), fun ob hob => ?_⟩⟩
      obtain rfl : o1 = oi := Option.some.inj (o1'.symm.trans hoi)
      obtain rfl : b1 = ob := Option.some.inj (al1.symm.trans hob)
      refine ⟨M1, fun g1 hg1 _ => ⟨(by rw [r1]; simp), fun j hj => ?_⟩⟩
      rw [r1] at hj
      obtain rfl : j = i + 1 := by simpa using hj
      refine ⟨by omega, fun oj hoj => ⟨fun h => (by rw [al2] at h; cases h), fun ob hob => ?_⟩⟩
      obtain rfl : o2 = oj := Option.some.inj (o2'.symm.trans hoj)
      obtain rfl : b2 = ob := Option.some.inj (al2.symm.trans hob)
      refine ⟨M2, fun g2 hg2 hlt => ⟨hseq, fun w' hw hl => ?_⟩⟩
      have := hlt (g1, b1) (by simp)
      rw [e1, e2]
      exact K g1 g2 w' hw hg1 hg2 (by simp at this; omega) (hl (g1, b1) (by simp)) (hl (g2, b2) (by simp))
    · obtain rfl : i = m + 1 := by simpa using hi
      refine ⟨by omega, fun oi hoi => ⟨fun h => (by rw [al2] at h; cases h), fun ob hob => ?_⟩⟩
      obtain rfl : o2 = oi := Option.some.inj (o2'.symm.trans hoi)
      obtain rfl : b2 = ob := Option.some.inj (al2.symm.trans hob)
      refine ⟨M2, fun g2 hg2 _ => ⟨(by rw [r2]; simp), fun j hj => ?_⟩⟩
      rw [r2] at hj
      obtain rfl : j = m := by simpa using hj
      refine ⟨by omega, fun oj hoj => ⟨fun h => (by rw [al1] at h; cases h), fun ob hob => ?_⟩⟩
      obtain rfl : o1 = oj := Option.some.inj (o1'.symm.trans hoj)
      obtain rfl : b1 = ob := Option.some.inj (al1.symm.trans hob)
      refine ⟨M1, fun g1 hg1 hlt => ⟨by rw [Array.setIfInBounds_comm _ _ (by omega)]; exact hseq, fun w' hw hl => ?_⟩⟩
      have := hlt (g2, b2) (by simp)
      rw [e1, e2, Act.put_comm _ _ _ (fun d hd he => hne (Option.some.inj (he.trans hd.symm)))]
      exact K g1 g2 w' hw hg1 hg2 (by simp at this; omega) (hl (g1, b1) (by simp)) (hl (g2, b2) (by simp))
  have HF := wpFresh_lex (md := .any) (m := m) (r := 2) (al := al) (L := LL) hsel hs hc hn (by omega) (fun i hi => by simp only [al]; rw [if_neg (by omega), if_neg (by omega)]) (fun listed a' gs hL => seqB_ready hL.1)
    (l.take m) 0 _ a (fun j hj => by
      have hj' : j < m := by rw [htl] at hj; exact hj
      simp [hj']) (by simpa using htl) inv0 (by rw [htl]; exact hlex) base (fam_of (l.take m) a hd H)
  refine wp_region_any hm ?_
  have := wpAny_of_fresh (Q' := Q) (g := l.toArray.size - (m + 2)) (fun listed a' gs w' hw' hl hL => by
    have := wpAny_of_seq (md := .any) (Q' := Q) (l.drop (m + 2)) (m + 2) listed a' w' (fun j => by simp [List.getElem?_drop]) (by rw [hdl]; exact hL.1) (hL.2 w' hw' hl)
    rwa [hdl] at this) _ _ _ [] _ (Below.refl w.heap.size w).drew (fun p hp => by cases hp) HF
  rw [htl, show m + 2 + (l.toArray.size - (m + 2)) = l.toArray.size by omega] at this
  exact this
theorem wp_region_fresh {id : Nat} {Q : Exit → Act → World → Prop} {a : Act} {w : World} {l : List Oper} (m : Nat) (b1 b2 : Obj) {o1 o2 : Oper} {d1 d2 : Tmp} (hm : P.follows .mixedOrders = true) (hB : fresh2B l.toArray m = true)
    (h1 : l[m]? = some o1) (h2 : l[m + 1]? = some o2) (e1 : o1.dst = some d1) (e2 : o2.dst = some d2) (hne : d1 ≠ d2) (hd : dstsB a.tmps.size (l.take m) = true)
    (M1 : Makes P l.toArray o1 b1) (M2 : Makes P l.toArray o2 b2)
    (h : ∃ aF : Act, (∀ w1, Below w.heap.size w w1 → wpQuiet P l.toArray (fun w' => ∃ x : Later w1, w' = x.world) (fun a' => a' = aF) (l.take m) a) ∧
      (∀ g1 g2 w', Below w.heap.size w w' → w.heap.size ≤ g1 → w.heap.size ≤ g2 → g1 ≠ g2 → w'.heap[g1]? = some b1 → w'.heap[g2]? = some b2 →
        wpList P l.toArray Q (l.drop (m + 2)) ((aF.put (some d1) (ptrTo g1)).put (some d2) (ptrTo g2)) w')) : (Code.region id l.toArray true).wp P Q a w := by
  obtain ⟨aF, H, K⟩ := h
  exact wp_region_fresh2 m aF hm hB h1 h2 e1 e2 hne hd M1 M2 H K
end
end Go.Proofs.YtcadpcppnllhnaaDoor
end
