/- Walks over texts: the reference's text of an address of sixteen bytes. -/
import Derived.Test.YtcadpcppnllhnaaGreatDoorJ8
import Derived.Test.YtcadpcppnllhnaaGreatDoorJ3
import Derived.Test.YtcadpcppnllhnaaGreatDoorJ7

section
set_option linter.unusedSimpArgs false
set_option linter.unusedVariables false
namespace Go.Proofs.YtcadpcppnllhnaaGreatDoor
open Go.RowKit

/-- The last sign of a row of tokens. -/
theorem flatT_nil {G : Nat → List UInt8} (hG : ∀ i, G i ≠ []) : ∀ T : List Tok, flatT G T = [] ↔ T = []
  | [] => by simp [flatT]
  | none :: T => by simp [flatT]
  | some i :: T => by simp [flatT, hG i]
theorem flatT_last {G : Nat → List UInt8} (hG : ∀ i, G i ≠ [] ∧ (58 : UInt8) ∉ G i) (T : List Tok) (h : T ≠ []) : ∃ l c, flatT G T = l ++ [c] ∧ (c = 58 ↔ T.getLast? = some none) := by
  obtain ⟨T', x, rfl⟩ : ∃ T' x, T = T' ++ [x] := ⟨T.dropLast, T.getLast h, (List.dropLast_concat_getLast h).symm⟩
  rw [flatT_append, List.getLast?_concat]
  cases x with
  | none => exact ⟨flatT G T', 58, rfl, by simp⟩
  | some i =>
    obtain ⟨h1, h2⟩ := hG i
    refine ⟨flatT G T' ++ (G i).dropLast, (G i).getLast h1, ?_, ?_⟩
    · show flatT G T' ++ (G i ++ []) = _
      rw [List.append_nil, List.append_assoc, List.dropLast_concat_getLast]
    · constructor
      · intro e
        exact absurd (e ▸ List.getLast_mem h1) h2
      · intro e; cases e
theorem index_last (l : List UInt8) (c : UInt8) (w : World) : (Instr.index 9 (.string ⟨(l ++ [c]).toArray⟩) (.int .i64 (l.length : Int))).run Tryz.prog w = .ok (.int .u8 (c.toNat : Int)) w := by
  have hs : l.length < (⟨(l ++ [c]).toArray⟩ : ByteArray).size := by simp [ByteArray.size]
  refine index_byte _ l.length hs _ ?_ w
  show ((l ++ [c]).toArray[l.length]'(by simp)).toNat = _
  simp

set_option maxRecDepth 20000 in
set_option maxHeartbeats 8000000 in
theorem rtext_six (B : Nat → Int) (hB : U8 B) (w : World) :
    Calls Tryz.prog 31 #[adV true B] w (RetAt w (.string ⟨(text6 (grpN B)).toArray⟩)) := by
  have HR : Hid (∀ w, Calls Tryz.prog 19 #[adV true B] w (RetAt w (.bool true))) := Lib.hid fun w => rright_any true B w
  have HRUN := Lib.hid (fun i hi w => run_any true B hB (zg (grpN B)) (fun k hk => zg_grp hB k hk) i hi w)
  have HG := Lib.hid (fun k hk w => rgroup_any true B hB k hk w)
  have HGE := Lib.hid (fun k => grpN_eq hB k)
  have HGL := Lib.hid (fun k => grpN_lt hB k)
  have HT : Hid (text6 (grpN B) = flatT (fun i => digB 16 (grpN B i)) (refTok (zg (grpN B)))) := Lib.hid (by
    unfold text6
    rw [show progTok (zg (grpN B)) = refTok (zg (grpN B)) from tok_eq8 _ _ _ _ _ _ _ _])
  have HGG : Hid (∀ i, digB 16 (grpN B i) ≠ [] ∧ (58 : UInt8) ∉ digB 16 (grpN B i)) := Lib.hid fun i => ⟨digB_ne _ _, digB_colon _⟩
  have HG4 : Hid (∀ i, (digB 16 (grpN B i)).length ≤ 4) := Lib.hid fun i => digB16_len _ (grpN_lt hB i)
  have HDI : Hid (∀ i w, Calls Tryz.prog 11 #[.int .i64 (grpI B i), .int .i64 16] w (RetAt w (.string ⟨(digB 16 (grpN B i)).toArray⟩))) := Lib.hid fun i w => by
    have h1 := grpN_lt hB i
    have := digits16_any (grpN B i) (grpI B i) w (by have := grpI_bd hB i; omega) (by have := grpI_bd hB i; omega) (by rw [grpN_eq hB i]; omega)
    exact this
  have HX : Hid (AdBox (w.alloc (.cells #[.bool true, .int .u8 (B 0), .int .u8 (B 1), .int .u8 (B 2), .int .u8 (B 3), .int .u8 (B 4), .int .u8 (B 5), .int .u8 (B 6), .int .u8 (B 7), .int .u8 (B 8), .int .u8 (B 9), .int .u8 (B 10), .int .u8 (B 11), .int .u8 (B 12), .int .u8 (B 13), .int .u8 (B 14), .int .u8 (B 15)] 41)) w.heap.size 41 true B) := Lib.hid (AdBox.made w _ true B)
  have HW : Hid (Below w.heap.size w (w.alloc (.cells #[.bool true, .int .u8 (B 0), .int .u8 (B 1), .int .u8 (B 2), .int .u8 (B 3), .int .u8 (B 4), .int .u8 (B 5), .int .u8 (B 6), .int .u8 (B 7), .int .u8 (B 8), .int .u8 (B 9), .int .u8 (B 10), .int .u8 (B 11), .int .u8 (B 12), .int .u8 (B 13), .int .u8 (B 14), .int .u8 (B 15)] 41))) := Lib.hid (Below.all (Below.refl w.heap.size w) _)
  clear hB
  generalize zg (grpN B) = z at *
  generalize text6 (grpN B) = TX at *
  generalize hGf : (fun i => digB 16 (grpN B i)) = G at *
  have HGf : Hid (∀ i, digB 16 (grpN B i) = G i) := Lib.hid fun i => by rw [← hGf]
  have HGG2 : Hid (∀ i, G i ≠ [] ∧ (58 : UInt8) ∉ G i) := Lib.hid fun i => by rw [← HGf.out i]; exact HGG.out i
  have HG42 : Hid (∀ i, (G i).length ≤ 4) := Lib.hid fun i => by rw [← HGf.out i]; exact HG4.out i
  have HDI2 : Hid (∀ i w, Calls Tryz.prog 11 #[.int .i64 (grpI B i), .int .i64 16] w (RetAt w (.string ⟨(G i).toArray⟩))) := Lib.hid fun i w => by rw [← HGf.out i]; exact HDI.out i w
  clear hGf HGf HGG HG4 HDI HGE HGL
  unfold adV at *
  go_enter Tryz.func31, Tryz.ntmps31
  go_wp2_with fail
  generalize w.alloc (.cells #[.bool true, .int .u8 (B 0), .int .u8 (B 1), .int .u8 (B 2), .int .u8 (B 3), .int .u8 (B 4), .int .u8 (B 5), .int .u8 (B 6), .int .u8 (B 7), .int .u8 (B 8), .int .u8 (B 9), .int .u8 (B 10), .int .u8 (B 11), .int .u8 (B 12), .int .u8 (B 13), .int .u8 (B 14), .int .u8 (B 15)] 41) = w1 at *
  refine Calls.mono (HR.out _) ?_
  rintro e w2 ⟨rfl, hb2⟩
  have HX2 := Lib.hid (HX.out.below hb2)
  have HW2 := Lib.hid (Below.via HW.out hb2)
  have hsx := HX2.out.six
  clear hb2 HX HW HR
  go_wp2_with fail
  clear hsx
  go_loopw [3, 4] (fun u3 u4 wr => ∃ (i b : Nat), i ≤ 8 ∧ b ≤ 8 ∧ u4 = .int .i64 i ∧ u3 = .int .i64 b ∧ Hid (bestGo z (8 - i) i b = bestZ z) ∧ Hid (b = 8 ∨ 2 ≤ runZ z (8 - b) b) ∧ Hid (AdBox wr w.heap.size 41 true B) ∧ Hid (Below w.heap.size w wr)) (fun _ u4 _ => (8 : Int) - intOf u4 |>.toNat)
  case atStart => exact ⟨0, 8, by omega, by omega, rfl, rfl, Lib.hid rfl, Lib.hid (.inl rfl), HX2, HW2⟩
  case round =>
    obtain ⟨i, b, hi, hb, rfl, rfl, HBE, HB8, HX, HW⟩ := hrel
    have hpp := HX.out.part
    have hlW := HX.out.lt
    by_cases hlt : i < 8
    · have HS : Hid (bestGo z (8 - i) i b = bestGo z (8 - (i + 1)) (i + 1) (if 2 ≤ runZ z (8 - i) i ∧ (b = 8 ∨ runZ z (8 - b) b < runZ z (8 - i) i) then i else b)) := Lib.hid (by
        rw [show bestGo z (8 - i) i b = bestGo z (8 - (i + 1) + 1) i b by rw [show 8 - i = 8 - (i + 1) + 1 by omega]]
        rw [bestGo])
      have HRi := Lib.hid (HRUN.out i hi)
      have HRb := Lib.hid (HRUN.out b hb)
      generalize hri : runZ z (8 - i) i = ri at HS HRi
      have HRI := Lib.hid hri
      generalize hrbe : runZ z (8 - b) b = rb at HS HRb
      clear hri hrbe
      by_cases h2 : 2 ≤ ri
      · by_cases h8 : b = 8
        · have HS2 : Hid (bestGo z (8 - (i + 1)) (i + 1) i = bestZ z) := Lib.hid (by rw [← HBE.out, HS.out, if_pos ⟨h2, .inl h8⟩])
          subst h8
          have h2' : (2 : Int) ≤ ri := by omega
          clear HS HBE
          go_wp2_with fail
          refine wp_region_later (by kernel_rfl) (by kernel_rfl) ?_
          repeat go_big_quiet_step ((go_at_call 55; exact later_call (HRi.out _)))
          refine wpQuiet_nil ?_
          intro x
          have HX3 := Lib.hid (HX.out.below x.below)
          have HW3 := Lib.hid (Below.via HW.out x.below)
          clear HX HW hpp
          go_wp2_with fail
          go_roundw
          case rel => exact ⟨i + 1, i, by omega, by omega, by go_num, rfl, HS2, Lib.hid (.inr (by have := HRI.out; omega)), HX3, HW3⟩
          case measure => simp [intOf]; omega
        · have h8' : ¬ ((b : Int) = 8) := by omega
          have h8b : ((b : Int) == 8) = false := by simp; omega
          by_cases hgt : rb < ri
          · have HS2 : Hid (bestGo z (8 - (i + 1)) (i + 1) i = bestZ z) := Lib.hid (by rw [← HBE.out, HS.out, if_pos ⟨h2, .inr hgt⟩])
            have hgt' : (rb : Int) < ri := by omega
            have h2' : (2 : Int) ≤ ri := by omega
            clear HS HBE
            go_wp2_with fail
            refine wp_region_later (by kernel_rfl) (by kernel_rfl) ?_
            repeat go_big_quiet_step (fail)
            go_big_quiet_step ((go_at_call 55; exact later_call (HRi.out _)))
            repeat go_big_quiet_step (fail)
            go_big_quiet_step ((go_at_call 55; exact later_call (HRi.out _)))
            repeat go_big_quiet_step (fail)
            go_big_quiet_step ((go_at_call 55; exact later_call (HRb.out _)))
            repeat go_big_quiet_step (fail)
            refine wpQuiet_nil ?_
            intro x
            have HX3 := Lib.hid (HX.out.below x.below)
            have HW3 := Lib.hid (Below.via HW.out x.below)
            clear HX HW hpp
            go_wp2_with fail
            go_roundw
            case rel => exact ⟨i + 1, i, by omega, by omega, by go_num, rfl, HS2, Lib.hid (.inr (by have := HRI.out; omega)), HX3, HW3⟩
            case measure => simp [intOf]; omega
          · have HS2 : Hid (bestGo z (8 - (i + 1)) (i + 1) b = bestZ z) := Lib.hid (by rw [← HBE.out, HS.out, if_neg (by omega)])
            have hgt' : ¬ ((rb : Int) < ri) := by omega
            have h2' : (2 : Int) ≤ ri := by omega
            clear HS HBE
            go_wp2_with fail
            refine wp_region_later (by kernel_rfl) (by kernel_rfl) ?_
            repeat go_big_quiet_step (fail)
            go_big_quiet_step ((go_at_call 55; exact later_call (HRi.out _)))
            repeat go_big_quiet_step (fail)
            go_big_quiet_step ((go_at_call 55; exact later_call (HRi.out _)))
            repeat go_big_quiet_step (fail)
            go_big_quiet_step ((go_at_call 55; exact later_call (HRb.out _)))
            repeat go_big_quiet_step (fail)
            refine wpQuiet_nil ?_
            intro x
            have HX3 := Lib.hid (HX.out.below x.below)
            have HW3 := Lib.hid (Below.via HW.out x.below)
            clear HX HW hpp
            go_wp2_with fail
            go_roundw
            case rel => exact ⟨i + 1, b, by omega, by omega, by go_num, rfl, HS2, HB8, HX3, HW3⟩
            case measure => simp [intOf]; omega
      · have HS2 : Hid (bestGo z (8 - (i + 1)) (i + 1) b = bestZ z) := Lib.hid (by rw [← HBE.out, HS.out, if_neg (by omega)])
        have h2' : ¬ ((2 : Int) ≤ ri) := by omega
        have h2d : decide ((2 : Int) ≤ ri) = false := decide_eq_false h2'
        clear HS HBE
        go_wp2_with fail
        refine wp_region_later (by kernel_rfl) (by kernel_rfl) ?_
        repeat go_big_quiet_step ((go_at_call 55; exact later_call (HRi.out _)))
        refine wpQuiet_nil ?_
        intro x
        have HX3 := Lib.hid (HX.out.below x.below)
        have HW3 := Lib.hid (Below.via HW.out x.below)
        clear HX HW hpp
        go_wp2_with fail
        go_roundw
        case rel => exact ⟨i + 1, b, by omega, by omega, by go_num, rfl, HS2, HB8, HX3, HW3⟩
        case measure => simp [intOf]; omega
    · obtain rfl : i = 8 := by omega
      have HBB : Hid (b = bestZ z) := HBE
      have HRT : Hid (refTok z = txtGo z b 9 0 []) := Lib.hid (by rw [HBB.out]; rfl)
      have HRB := Lib.hid (HRUN.out b hb)
      have hrb := runZ_le z (8 - b) b
      clear HBE HBB HRUN hpp
      have hB8 := HB8.out
      clear HB8
      have HTS : Hid (∀ (f i : Nat) (T : List Tok), txtGo z b (f + 1) i T = if 8 ≤ i then T else if i = b then txtGo z b f (i + runZ z (8 - b) b) (T ++ [none, none]) else txtGo z b f (i + 1) (T ++ (if T = [] ∨ T.getLast? = some none then [] else [none]) ++ [some i])) := Lib.hid fun _ _ _ => rfl
      generalize runZ z (8 - b) b = rb at *
      go_wp2_with fail
      go_loopg [5, 6] 8 (fun f u5 u6 wr => ∃ (i : Nat) (T : List Tok) (s : List UInt8), i ≤ 8 ∧ 8 ≤ i + f ∧ s.length ≤ 8 * (9 - (f + 1)) ∧ f ≤ 8 ∧ u6 = .int .i64 i ∧ u5 = .string ⟨s.toArray⟩ ∧ Hid (s = flatT G T) ∧ Hid (txtGo z b (f + 1) i T = refTok z) ∧ Hid (AdBox wr w.heap.size 41 true B) ∧ Hid (Below w.heap.size w wr))
      case atStart => exact ⟨0, [], [], by omega, by omega, by simp, by omega, rfl, rfl, Lib.hid rfl, Lib.hid HRT.out.symm, HX, HW⟩
      case round =>
        obtain ⟨i, T, s, hi, hf, hls, hf8, rfl, rfl, HST, HTX, HX, HW⟩ := hrel
        have hpp := HX.out.part
        have hlW := HX.out.lt
        by_cases hlt : i < 8
        · obtain ⟨f', rfl⟩ : ∃ f', gk = f' + 1 := ⟨gk - 1, by omega⟩
          by_cases hib : i = b
          · have HT2 : Hid (txtGo z b (f' + 1) (i + rb) (T ++ [none, none]) = refTok z) := Lib.hid (by rw [← HTX.out, HTS.out (f' + 1) i T, if_neg (show ¬ 8 ≤ i by omega), if_pos hib])
            have HS2 : Hid (s ++ [58, 58] = flatT G (T ++ [none, none])) := Lib.hid (by rw [flatT_append, HST.out]; rfl)
            subst hib
            have hcat := concat_small s [58, 58] (by omega) (by decide)
            clear HTS HTX HST HT HG HDI2 HGG2 HG42 HRT
            go_wp2_with fail
            refine Calls.mono (HRB.out _) ?_
            rintro e w3 ⟨rfl, hb3⟩
            have HX3 := Lib.hid (HX.out.below hb3)
            have HW3 := Lib.hid (Below.via HW.out hb3)
            clear HX HW hpp hb3
            go_wp2_with fail
            go_roundg f'
            case measure => omega
            case rel => exact ⟨i + rb, T ++ [none, none], s ++ [58, 58], by omega, by omega, by simp; omega, by omega, by go_num, (by first | rfl | exact congrArg Value.string (bytes_append s [58, 58])), HS2, HT2, HX3, HW3⟩
          · have hib' : ¬ ((i : Int) = b) := by omega
            have hib2 : ((i : Int) == b) = false := by simp; omega
            have hGl := HG42.out i
            have HGi := Lib.hid (HG.out i hlt)
            have HDi := Lib.hid (HDI2.out i)
            have HTT : Hid (txtGo z b (f' + 1) (i + 1) (T ++ (if T = [] ∨ T.getLast? = some none then [] else [none]) ++ [some i]) = refTok z) := Lib.hid (by rw [← HTX.out, HTS.out (f' + 1) i T, if_neg (show ¬ 8 ≤ i by omega), if_neg hib])
            have HGI : Hid (flatT G [some i] = G i) := Lib.hid (by simp [flatT])
            by_cases hT : T = []
            · subst hT
              have hs0 : s = [] := HST.out
              subst hs0
              have HT2 : Hid (txtGo z b (f' + 1) (i + 1) [some i] = refTok z) := HTT
              clear HTT HTS HTX HST HT HG HDI2 HGG2 HG42 HRT HRB
              go_wp2_with fail
              refine Calls.mono (HGi.out _) ?_
              rintro e w3 ⟨rfl, hb3⟩
              go_wp2_with fail
              refine Calls.mono (HDi.out _) ?_
              rintro e w4 ⟨rfl, hb4⟩
              have HX4 := Lib.hid ((HX.out.below hb3).below hb4)
              have HW4 := Lib.hid (Below.via (Below.via HW.out hb3) hb4)
              have hcat := concat_small [] (G i) (by simp) (by omega)
              have hl3 : (G i).length ≤ 9223372036854775807 := by omega
              have hl4 : ((G i).length : Int) ≤ 9223372036854775807 := by omega
              clear HX HW hpp hb3 hb4
              go_wp2_with fail
              go_roundg f'
              case measure => omega
              case rel => exact ⟨i + 1, [some i], [] ++ G i, by omega, by omega, by simp; omega, by omega, by go_num, (by first | rfl | exact congrArg Value.string (bytes_append [] (G i))), Lib.hid (by rw [HGI.out]; rfl), HT2, HX4, HW4⟩
            · obtain ⟨l, c, hlc, hc58⟩ := flatT_last HGG2.out T hT
              have hs0 : s = l ++ [c] := by rw [HST.out, hlc]
              have hll : l.length + 1 ≤ 100 := by rw [hs0] at hls; simp at hls; omega
              by_cases hcol : T.getLast? = some none
              · have hc : c = 58 := hc58.2 hcol
                subst hc
                have HT2 : Hid (txtGo z b (f' + 1) (i + 1) (T ++ [some i]) = refTok z) := Lib.hid (by rw [← HTT.out, if_pos (.inr hcol), List.append_nil])
                have HS2 : Hid (s ++ G i = flatT G (T ++ [some i])) := Lib.hid (by rw [flatT_append, HST.out, HGI.out])
                have hix := index_last l 58
                have hsz : s.length = l.length + 1 := by rw [hs0]; simp
                have hne : (l ++ [(58 : UInt8)] == []) = false := by simp
                have hsl : (((l ++ [(58 : UInt8)]).length : Nat) : Int) - 1 = l.length := by simp <;> omega
                have hsl2 : IntKind.i64.wrap (((l ++ [(58 : UInt8)]).length : Int) - 1) = l.length := by rw [hsl]; exact IntWalk.i64_in _ (by omega)
                have hcat := concat_small (l ++ [58]) (G i) (by simp; omega) (by omega)
                clear HTT HTS HTX HST HT HG HDI2 HGG2 HG42 HRT HRB hlc hc58 hcol
                subst hs0
                go_wp2_with fail
                refine Calls.mono (HGi.out _) ?_
                rintro e w3 ⟨rfl, hb3⟩
                go_wp2_with fail
                refine Calls.mono (HDi.out _) ?_
                rintro e w4 ⟨rfl, hb4⟩
                have HX4 := Lib.hid ((HX.out.below hb3).below hb4)
                have HW4 := Lib.hid (Below.via (Below.via HW.out hb3) hb4)
                clear HX HW hpp hb3 hb4
                go_wp2_with fail
                go_roundg f'
                case measure => omega
                case rel => exact ⟨i + 1, T ++ [some i], l ++ [58] ++ G i, by omega, by omega, by simp at hls ⊢; omega, by omega, by go_num, (by first | rfl | exact congrArg Value.string (bytes_append (l ++ [58]) (G i))), HS2, HT2, HX4, HW4⟩
              · have hc : c ≠ 58 := fun e => hcol (hc58.1 e)
                have HT2 : Hid (txtGo z b (f' + 1) (i + 1) (T ++ [none] ++ [some i]) = refTok z) := Lib.hid (by rw [← HTT.out, if_neg (fun h => h.elim hT hcol)])
                have HS2 : Hid (s ++ [58] ++ G i = flatT G (T ++ [none] ++ [some i])) := Lib.hid (by rw [flatT_append, flatT_append, HST.out, HGI.out]; rfl)
                have hix := index_last l c
                have hcN : ¬ c.toNat = 58 := fun e => hc (UInt8.toNat_inj.1 e)
                have hne : (l ++ [c] == []) = false := by simp
                have hsl : (((l ++ [c]).length : Nat) : Int) - 1 = l.length := by simp <;> omega
                have hsl2 : IntKind.i64.wrap (((l ++ [c]).length : Int) - 1) = l.length := by rw [hsl]; exact IntWalk.i64_in _ (by omega)
                have hcat := concat_small (l ++ [c]) [58] (by simp; omega) (by decide)
                have hcat2 := concat_small (l ++ [c] ++ [58]) (G i) (by simp; omega) (by omega)
                have hcI : ¬ ((c.toNat : Int) = 58) := by omega
                have hcB : ((c.toNat : Int) == 58) = false := by simp; omega
                clear HTT HTS HTX HST HT HG HDI2 HGG2 HG42 HRT HRB hlc hc58 hcol
                subst hs0
                generalize c.toNat = cn at *
                go_wp2_with fail
                refine Calls.mono (HGi.out _) ?_
                rintro e w3 ⟨rfl, hb3⟩
                go_wp2_with fail
                refine Calls.mono (HDi.out _) ?_
                rintro e w4 ⟨rfl, hb4⟩
                have HX4 := Lib.hid ((HX.out.below hb3).below hb4)
                have HW4 := Lib.hid (Below.via (Below.via HW.out hb3) hb4)
                clear HX HW hpp hb3 hb4
                go_wp2_with fail
                go_roundg f'
                case measure => omega
                case rel => exact ⟨i + 1, T ++ [none] ++ [some i], l ++ [c] ++ [58] ++ G i, by omega, by omega, by simp at hls ⊢; omega, by omega, by go_num, (by first | rfl | exact congrArg Value.string (bytes_append (l ++ [c] ++ [58]) (G i))), HS2, HT2, HX4, HW4⟩
        · obtain rfl : i = 8 := by omega
          have HF : Hid (T = refTok z) := Lib.hid (by rw [← HTX.out, HTS.out gk 8 T, if_pos (Nat.le_refl _)])
          go_wp2_with fail
          go_ret
          exact .mk (by rw [HT.out, ← HF.out, ← HST.out]; rfl) HW.out
theorem rtext_any (six : Bool) (B : Nat → Int) (hB : U8 B) (w : World) :
    Calls Tryz.prog 31 #[adV six B] w (RetAt w (.string ⟨(adText six B).toArray⟩)) := by
  unfold adText
  by_cases h : rightB six B = true
  · rw [if_pos h]
    cases six
    · exact rtext_four B hB h w
    · exact rtext_six B hB w
  · rw [if_neg h]
    exact rtext_wrong six B (by simpa using h) w
end Go.Proofs.YtcadpcppnllhnaaGreatDoor
end

/- Walks over prefixes: the reference's Has, Within and text. -/
section
set_option linter.unusedSimpArgs false
set_option linter.unusedVariables false
namespace Go.Proofs.YtcadpcppnllhnaaGreatDoor
open Go.RowKit

set_option maxRecDepth 20000 in
set_option maxHeartbeats 8000000 in
theorem rhas_any (s : Bool) (B : Nat → Int) (n : Int) (t : Bool) (A : Nat → Int) (hB : U8 B) (hA : U8 A) (hn0 : -9223372036854775808 ≤ n) (hn1 : n ≤ 9223372036854775807) (w : World) :
    Calls Tryz.prog 38 #[pfV s B n, adV t A] w (RetAt w (.bool (hasV s B n t A))) := by
  have HP := rpright_any s B n hB hn0 hn1
  have HR := fun w => rright_any t A w
  have HC := rcut_right t A n hA
  have HV : Hid (hasV s B n t A = (rightPB s B n && (rightB t A && pfEq t (cutB (clampN t n) A) (clampN t n : Int) s B n))) := Lib.hid rfl
  clear hB hA
  generalize hp : rightPB s B n = bp at *
  generalize hr : rightB t A = br at *
  generalize clampN t n = m at *
  generalize cutB m A = C at *
  cases bp
  · have HE := Lib.hid (HV.out.trans (Bool.false_and _))
    clear HV HC HR
    unfold adV pfV at *
    go_enter Tryz.func38, Tryz.ntmps38
    go_wp2_with fail
    refine wp_region_later (by kernel_rfl) (by kernel_rfl) ?_
    repeat go_big_quiet_step ((go_at_call 37; exact later_call (HP _)))
    refine wpQuiet_nil ?_
    intro x
    go_wp2_with fail
    go_ret
    exact .mk (val_bool HE.out.symm) (Below.lat (Below.all (Below.all (Below.refl _ _) _) _))
  · cases br
    · have HE := Lib.hid (HV.out.trans ((Bool.true_and _).trans (Bool.false_and _)))
      clear HV HC
      unfold adV pfV at *
      go_enter Tryz.func38, Tryz.ntmps38
      go_wp2_with fail
      refine wp_region_later (by kernel_rfl) (by kernel_rfl) ?_
      repeat go_big_quiet_step (first | (go_at_call 37; exact later_call (HP _)) | (go_at_call 19; exact later_call (HR _)))
      refine wpQuiet_nil ?_
      intro x
      go_wp2_with fail
      go_ret
      exact .mk (val_bool HE.out.symm) (Below.lat (Below.all (Below.all (Below.refl _ _) _) _))
    · have HE := Lib.hid (HV.out.trans ((Bool.true_and _).trans (Bool.true_and _)))
      have HC2 := HC rfl hn0 hn1
      clear HV HC
      by_cases hts : t = s
      · subst hts
        have hss : (t == t) = true := by simp
        unfold adV pfV at *
        go_enter Tryz.func38, Tryz.ntmps38
        go_wp2_with fail
        refine wp_region_later (by kernel_rfl) (by kernel_rfl) ?_
        repeat go_big_quiet_step (fail)
        go_big_quiet_step ((go_at_call 37; exact later_call (HP _)))
        repeat go_big_quiet_step (fail)
        go_big_quiet_step ((go_at_call 19; exact later_call (HR _)))
        repeat go_big_quiet_step (fail)
        go_big_quiet_step ((go_at_call 36; exact later_call (HC2 _)))
        repeat go_big_quiet_step (fail)
        refine wpQuiet_nil ?_
        intro x
        go_wp2_with fail
        go_ret
        refine .mk (val_bool ?_) (Below.lat (Below.all (Below.all (Below.refl _ _) _) _))
        rw [HE.out]
        simp [pfEq, b16]
      · have hts2 : (t == s) = false := by simpa using hts
        unfold adV pfV at *
        go_enter Tryz.func38, Tryz.ntmps38
        go_wp2_with fail
        refine wp_region_later (by kernel_rfl) (by kernel_rfl) ?_
        repeat go_big_quiet_step (fail)
        go_big_quiet_step ((go_at_call 37; exact later_call (HP _)))
        repeat go_big_quiet_step (fail)
        go_big_quiet_step ((go_at_call 19; exact later_call (HR _)))
        repeat go_big_quiet_step (fail)
        refine wpQuiet_nil ?_
        intro x
        go_wp2_with fail
        go_ret
        refine .mk (val_bool ?_) (Below.lat (Below.all (Below.all (Below.refl _ _) _) _))
        rw [HE.out]
        simp [pfEq, hts2]

set_option maxRecDepth 20000 in
set_option maxHeartbeats 8000000 in
theorem rwithin_any (s : Bool) (B : Nat → Int) (n : Int) (t : Bool) (A : Nat → Int) (m : Int) (hB : U8 B) (hA : U8 A) (hn0 : -9223372036854775808 ≤ n) (hn1 : n ≤ 9223372036854775807) (hm0 : -9223372036854775808 ≤ m) (hm1 : m ≤ 9223372036854775807) (w : World) :
    Calls Tryz.prog 39 #[pfV s B n, pfV t A m] w (RetAt w (.bool (withinV s B n t A m))) := by
  have HP := rpright_any s B n hB hn0 hn1
  have HH := rhas_any t A m s B hA hB hm0 hm1
  have HV : Hid (withinV s B n t A m = (rightPB s B n && (decide (m ≤ n) && hasV t A m s B))) := Lib.hid rfl
  clear hB hA
  generalize hp : rightPB s B n = bp at *
  generalize hr : hasV t A m s B = br at *
  by_cases hmn : m ≤ n
  all_goals cases bp
  all_goals
    unfold adV pfV at *
    go_enter Tryz.func39, Tryz.ntmps39
    go_wp2_with fail
    refine Calls.later (HP _) ?_
    intro x
    go_wp2_with fail
    first
      | (go_ret
         refine .mk (val_bool ?_) (Below.lat (Below.all (Below.all (Below.refl _ _) _) _))
         rw [HV.out]
         first
           | rfl
           | (rw [decide_eq_false (by omega)]; rfl))
      | skip
  refine Calls.later1 (HH _) ?_
  intro y
  go_wp2_with fail
  go_ret
  refine .mk (val_bool ?_) (Below.lat (Below.all (Below.all (Below.refl _ _) _) _))
  rw [HV.out, decide_eq_true (by omega)]; rfl

set_option maxRecDepth 20000 in
set_option maxHeartbeats 8000000 in
theorem rptext_any (s : Bool) (B : Nat → Int) (n : Int) (hB : U8 B) (hn0 : -9223372036854775808 ≤ n) (hn1 : n ≤ 9223372036854775807) (w : World) :
    Calls Tryz.prog 40 #[pfV s B n] w (RetAt w (.string ⟨(pfText s B n).toArray⟩)) := by
  have HP := Lib.hid (fun w => rpright_any s B n hB hn0 hn1 w)
  have HT := Lib.hid (fun w => rtext_any s B hB w)
  have hl := adText_len s B hB
  have HV : Hid (pfText s B n = if rightPB s B n = true then adText s B ++ [47] ++ Lib.decDigits n.toNat else []) := Lib.hid rfl
  have HN : Hid (rightPB s B n = true → n = (clampN s n : Int)) := Lib.hid fun h => by
    unfold rightPB at h
    simp only [Bool.and_eq_true, beq_iff_eq] at h
    exact h.2.2.symm
  have HCL := clampN_le s n
  clear hB
  generalize pfText s B n = T at *
  generalize adText s B = L at *
  generalize hp : rightPB s B n = bp at *
  have HX : Hid (PfBox (w.alloc (.cells #[.bool s, .int .u8 (B 0), .int .u8 (B 1), .int .u8 (B 2), .int .u8 (B 3), .int .u8 (B 4), .int .u8 (B 5), .int .u8 (B 6), .int .u8 (B 7), .int .u8 (B 8), .int .u8 (B 9), .int .u8 (B 10), .int .u8 (B 11), .int .u8 (B 12), .int .u8 (B 13), .int .u8 (B 14), .int .u8 (B 15), .int .i64 n] 47)) w.heap.size 47 s B n) := Lib.hid (PfBox.made w _ s B n)
  have HW : Hid (Below w.heap.size w (w.alloc (.cells #[.bool s, .int .u8 (B 0), .int .u8 (B 1), .int .u8 (B 2), .int .u8 (B 3), .int .u8 (B 4), .int .u8 (B 5), .int .u8 (B 6), .int .u8 (B 7), .int .u8 (B 8), .int .u8 (B 9), .int .u8 (B 10), .int .u8 (B 11), .int .u8 (B 12), .int .u8 (B 13), .int .u8 (B 14), .int .u8 (B 15), .int .i64 n] 47))) := Lib.hid (Below.all (Below.refl w.heap.size w) _)
  cases bp
  · rw [if_neg (by simp)] at HV
    clear HN HCL
    unfold adV pfV at *
    go_enter Tryz.func40, Tryz.ntmps40
    go_wp2_with fail
    refine Calls.later (HP.out _) ?_
    intro x
    go_wp2_with fail
    go_ret
    exact .mk (by rw [HV.out]; rfl) (Below.lat (Below.all (Below.refl _ _) _))
  · rw [if_pos rfl] at HV
    have hn := HN.out rfl
    generalize clampN s n = m at *
    subst hn
    rw [Int.toNat_natCast] at HV
    unfold adV pfV at *
    go_enter Tryz.func40, Tryz.ntmps40
    go_wp2_with fail
    generalize w.alloc (.cells #[.bool s, .int .u8 (B 0), .int .u8 (B 1), .int .u8 (B 2), .int .u8 (B 3), .int .u8 (B 4), .int .u8 (B 5), .int .u8 (B 6), .int .u8 (B 7), .int .u8 (B 8), .int .u8 (B 9), .int .u8 (B 10), .int .u8 (B 11), .int .u8 (B 12), .int .u8 (B 13), .int .u8 (B 14), .int .u8 (B 15), .int .i64 (m : Int)] 47) = w1 at *
    refine Calls.mono (HP.out _) ?_
    rintro e w2 ⟨rfl, hb2⟩
    have HX2 := Lib.hid (HX.out.below hb2)
    have HW2 := Lib.hid (Below.via HW.out hb2)
    clear hb2 HX HW HP
    go_wp2_with fail
    have hA := HX2.out.ad
    have hN := HX2.out.len
    have hlt := HX2.out.lt
    have hld := decDigits_small m (by omega)
    have HT2 := Lib.hid (fun (x : Later w2) => HT.out x.world)
    have HI2 := Lib.hid (fun (x : Later w2) => digits10_dec m (by omega) x.world)
    generalize Lib.decDigits m = D at *
    have hl1 : L.length + 1 ≤ 9223372036854775807 := by omega
    have hl2 : (L.length : Int) + 1 ≤ 9223372036854775807 := by omega
    have hl3 : L.length + 1 + D.length ≤ 9223372036854775807 := by omega
    have hl4 : (L.length : Int) + 1 + (D.length : Int) ≤ 9223372036854775807 := by omega
    refine wp_region_later (by kernel_rfl) (by kernel_rfl) ?_
    repeat go_big_quiet_step (first | (go_at_call 31; exact later_call (HT2.out _)) | (go_at_call 11; exact later_call (HI2.out _)))
    refine wpQuiet_nil ?_
    intro x
    go_wp2_with fail
    go_ret
    refine .mk ?_ (HW2.out.trans (x.below.mono HW2.out.size))
    rw [HV.out]
    simp only [← bytes_append]
    rfl
end Go.Proofs.YtcadpcppnllhnaaGreatDoor
end

/- Walks over texts: the reference's six. -/
section
set_option linter.unusedSimpArgs false
set_option linter.unusedVariables false
namespace Go.Proofs.YtcadpcppnllhnaaGreatDoor
open Go.RowKit

theorem groupsL_len {s : List UInt8} {L : List Nat} (h : groupsL s = some L) : L.length ≤ s.length + 1 := by
  unfold groupsL at h
  split at h
  · cases h; simp
  · have := mapM_len _ _ _ h
    have := cutsL_count 58 s
    omega
/-- What 'groups' answers, in one form. -/
def GroupsPost2 (w : World) (o : Option (List Nat)) (m : Nat) : Ending → World → Prop := fun e w' => ∃ (oa : Option Addr) (cap : Nat) (G : List Nat) (ok : Bool), e = .returned (.tuple #[.slice oa G.length cap, .bool ok]) ∧
  Owns w' w.heap.size 1 oa G.length cap (G.map fun (n : Nat) => Value.int .i64 (n : Int)) ∧ Below w.heap.size w w' ∧ G.length ≤ m + 1 ∧ ((ok = true ∧ o = some G) ∨ (ok = false ∧ o = none))
theorem groups_two_len (s : ByteArray) {L : List Nat} (h : groupsL s.data.toList = some L) : L.length ≤ s.size + 1 := by
  have h5 := groupsL_len h
  have h6 : s.data.toList.length = s.size := by rw [Array.length_toList, ByteArray.size_data]
  omega
theorem groups_two (s : ByteArray) (w : World) (hs : s.size ≤ 1000) : Calls Tryz.prog 65 #[.string s] w (GroupsPost2 w (groupsL s.data.toList) s.size) := by
  refine Calls.mono (groups_any s w hs) ?_
  rintro e w' (⟨h1, rfl, h3⟩ | ⟨L, oa, cap, h1, rfl, h3, h4⟩)
  · exact ⟨none, 0, [], false, rfl, Owns.nil _ _ _, h3, by simp, .inr ⟨rfl, h1⟩⟩
  · exact ⟨oa, cap, L, true, rfl, h3, h4, groups_two_len s h1, .inl ⟨rfl, h1⟩⟩

/-- Two bytes of a text. -/
theorem slice_two (s : ByteArray) (k : Nat) (h : k + 1 < s.size) (w : World) : (Instr.slice 9 (.string s) (some (.int .i64 (k : Int))) (some (.int .i64 ((k : Int) + 2))) none).run Tryz.prog w = .ok (.string ⟨[s[k], s[k + 1]].toArray⟩) w := by
  have e : s.extract k (k + 2) = ⟨[s[k], s[k + 1]].toArray⟩ := by
    apply WideShapes.bytes_inj
    rw [Lib.extract_data]
    rw [show k + 2 - k = 2 by omega, drop_cons8 s k (by omega), drop_cons8 s (k + 1) h]
    rfl
  rw [run_slice_string w 9 s .i64 .i64 (k : Int) ((k : Int) + 2) Tryz.underlying9 (by omega) (by omega) (by omega)]
  rw [show ((k : Int) + 2).toNat = k + 2 by omega, Int.toNat_natCast, e]
theorem slice_head (s : ByteArray) (k : Nat) (h : k ≤ s.size) (w : World) : (Instr.slice 9 (.string s) none (some (.int .i64 (k : Int))) none).run Tryz.prog w = .ok (.string ⟨(s.data.toList.take k).toArray⟩) w := by
  have e : s.extract 0 k = ⟨(s.data.toList.take k).toArray⟩ := by
    apply WideShapes.bytes_inj
    rw [Lib.extract_data]
    simp
  rw [run_slice_string_h w 9 s Tryz.underlying9 .i64 (k : Int) (by omega) (by omega)]
  rw [Int.toNat_natCast, e]
theorem slice_tail (s : ByteArray) (k : Nat) (i : Int) (hi : i = (k : Int)) (h : k ≤ s.size) (w : World) : (Instr.slice 9 (.string s) (some (.int .i64 i)) none none).run Tryz.prog w = .ok (.string ⟨(s.data.toList.drop k).toArray⟩) w := by
  subst hi
  have e : s.extract k s.size = ⟨(s.data.toList.drop k).toArray⟩ := by
    apply WideShapes.bytes_inj
    rw [Lib.extract_data, List.take_of_length_le (by rw [List.length_drop, Array.length_toList, ByteArray.size_data]; exact Nat.le_refl _)]
  rw [run_slice_string_l w 9 s Tryz.underlying9 .i64 (k : Int) (by omega) (by omega)]
  rw [Int.toNat_natCast, e]

theorem idx_hit (s : ByteArray) (k : Nat) (h : k + 1 < s.size) (h1 : s[k] = 58) (h2 : s[k + 1] = 58) : Lib.index (s.data.toList.drop k) [58, 58] = 0 := by
  rw [drop_cons8 s k (by omega), drop_cons8 s (k + 1) h, h1, h2, index_hit2]
theorem idx_miss (s : ByteArray) (k : Nat) (h : k + 1 < s.size) (h1 : ¬ (s[k] = 58 ∧ s[k + 1] = 58)) : Lib.index (s.data.toList.drop k) [58, 58] = if Lib.index (s.data.toList.drop (k + 1)) [58, 58] = -1 then -1 else Lib.index (s.data.toList.drop (k + 1)) [58, 58] + 1 := by
  rw [drop_cons8 s k (by omega)]
  refine index_step _ _ ?_
  rintro ⟨t, ht⟩
  rw [drop_cons8 s (k + 1) h] at ht
  simp only [List.cons.injEq] at ht
  exact h1 ⟨ht.1, ht.2.1⟩
theorem idx_end (s : ByteArray) (k : Nat) (h : s.size ≤ k + 1) : Lib.index (s.data.toList.drop k) [58, 58] = -1 := by
  by_cases hk : k < s.size
  · rw [drop_cons8 s k hk, List.drop_eq_nil_of_le (by rw [Array.length_toList, ByteArray.size_data]; omega)]
    simp [Lib.index]
  · rw [List.drop_eq_nil_of_le (by rw [Array.length_toList, ByteArray.size_data]; omega)]
    rfl
theorem idx_bd (s : ByteArray) (h : Lib.index s.data.toList [58, 58] ≠ -1) : 0 ≤ Lib.index s.data.toList [58, 58] ∧ Lib.index s.data.toList [58, 58] + 2 ≤ s.size := by
  have h0 := Lib.index_ge s.data.toList [58, 58]
  refine ⟨by omega, ?_⟩
  have hl : ∀ l : List UInt8, Lib.index l [58, 58] ≠ -1 → Lib.index l [58, 58] + 2 ≤ l.length := by
    intro l
    induction l with
    | nil => intro h; exact absurd rfl h
    | cons x r ih =>
      intro h
      by_cases hp : ∃ t, x :: r = 58 :: 58 :: t
      · obtain ⟨t, ht⟩ := hp
        rw [ht, index_hit2]
        simp only [List.length_cons]
        omega
      · rw [index_step x r hp] at h ⊢
        by_cases e : Lib.index r [58, 58] = -1
        · rw [if_pos e] at h; exact absurd rfl h
        · rw [if_neg e]
          have := ih e
          simp only [List.length_cons]
          omega
  have := hl _ h
  rwa [Array.length_toList, ByteArray.size_data] at this

set_option maxRecDepth 20000 in
set_option maxHeartbeats 8000000 in
theorem rsix_any (s : ByteArray) (w : World) (hs : s.size ≤ 1000) : Calls Tryz.prog 48 #[.string s] w (SixPost w (sixL s.data.toList)) := by
  have HX : Hid (AdBox (w.alloc (.cells #[.bool false, .int .u8 ((fun _ => (0 : Int)) 0), .int .u8 ((fun _ => (0 : Int)) 1), .int .u8 ((fun _ => (0 : Int)) 2), .int .u8 ((fun _ => (0 : Int)) 3), .int .u8 ((fun _ => (0 : Int)) 4), .int .u8 ((fun _ => (0 : Int)) 5), .int .u8 ((fun _ => (0 : Int)) 6), .int .u8 ((fun _ => (0 : Int)) 7), .int .u8 ((fun _ => (0 : Int)) 8), .int .u8 ((fun _ => (0 : Int)) 9), .int .u8 ((fun _ => (0 : Int)) 10), .int .u8 ((fun _ => (0 : Int)) 11), .int .u8 ((fun _ => (0 : Int)) 12), .int .u8 ((fun _ => (0 : Int)) 13), .int .u8 ((fun _ => (0 : Int)) 14), .int .u8 ((fun _ => (0 : Int)) 15)] 41)) w.heap.size 41 false fun _ => 0) := Lib.hid (AdBox.made w _ false fun _ => 0)
  have HW : Hid (Below w.heap.size w (w.alloc (.cells #[.bool false, .int .u8 ((fun _ => (0 : Int)) 0), .int .u8 ((fun _ => (0 : Int)) 1), .int .u8 ((fun _ => (0 : Int)) 2), .int .u8 ((fun _ => (0 : Int)) 3), .int .u8 ((fun _ => (0 : Int)) 4), .int .u8 ((fun _ => (0 : Int)) 5), .int .u8 ((fun _ => (0 : Int)) 6), .int .u8 ((fun _ => (0 : Int)) 7), .int .u8 ((fun _ => (0 : Int)) 8), .int .u8 ((fun _ => (0 : Int)) 9), .int .u8 ((fun _ => (0 : Int)) 10), .int .u8 ((fun _ => (0 : Int)) 11), .int .u8 ((fun _ => (0 : Int)) 12), .int .u8 ((fun _ => (0 : Int)) 13), .int .u8 ((fun _ => (0 : Int)) 14), .int .u8 ((fun _ => (0 : Int)) 15)] 41))) := Lib.hid (Below.all (Below.refl w.heap.size w) _)
  have HIE := Lib.hid (fun k h => idx_end s k h)
  have HIM := Lib.hid (fun k h h1 => idx_miss s k h h1)
  have HIH := Lib.hid (fun k h h1 h2 => idx_hit s k h h1 h2)
  have HIB := Lib.hid (idx_bd s)
  have hI0 : Hid (Lib.index s.data.toList [58, 58] = if Lib.index (s.data.toList.drop 0) [58, 58] = -1 then -1 else Lib.index (s.data.toList.drop 0) [58, 58] + (0 : Nat)) := Lib.hid (by rw [List.drop_zero]; split <;> simp_all)
  have HS : Hid (sixL s.data.toList = if Lib.index s.data.toList [58, 58] = -1 then (groupsL s.data.toList).bind fun l => if l.length = 8 then some l else none
    else (groupsL (s.data.toList.take (Lib.index s.data.toList [58, 58]).toNat)).bind fun l => (groupsL (s.data.toList.drop ((Lib.index s.data.toList [58, 58]).toNat + 2))).bind fun m =>
      if l.length + m.length ≤ 7 then some (l ++ List.replicate (8 - l.length - m.length) 0 ++ m) else none) := Lib.hid rfl
  have HRB := Lib.hid (fun (L : List Nat) (h : sixL s.data.toList = some L) => sixL_bd h)
  generalize hI : Lib.index s.data.toList [58, 58] = I at *
  clear hI
  go_enter Tryz.func48, Tryz.ntmps48
  go_wp2_with fail
  generalize w.alloc (.cells #[.bool false, .int .u8 ((fun _ => (0 : Int)) 0), .int .u8 ((fun _ => (0 : Int)) 1), .int .u8 ((fun _ => (0 : Int)) 2), .int .u8 ((fun _ => (0 : Int)) 3), .int .u8 ((fun _ => (0 : Int)) 4), .int .u8 ((fun _ => (0 : Int)) 5), .int .u8 ((fun _ => (0 : Int)) 6), .int .u8 ((fun _ => (0 : Int)) 7), .int .u8 ((fun _ => (0 : Int)) 8), .int .u8 ((fun _ => (0 : Int)) 9), .int .u8 ((fun _ => (0 : Int)) 10), .int .u8 ((fun _ => (0 : Int)) 11), .int .u8 ((fun _ => (0 : Int)) 12), .int .u8 ((fun _ => (0 : Int)) 13), .int .u8 ((fun _ => (0 : Int)) 14), .int .u8 ((fun _ => (0 : Int)) 15)] 41) = w1 at *
  go_loopw [4, 5] (fun u4 u5 wr => ∃ (i : Nat) (at' : Int), i ≤ 1001 ∧ u5 = .int .i64 i ∧ u4 = .int .i64 at' ∧ wr = w1 ∧ ((at' = -1 ∧ Hid (I = if Lib.index (s.data.toList.drop i) [58, 58] = -1 then -1 else Lib.index (s.data.toList.drop i) [58, 58] + (i : Nat))) ∨ (0 ≤ at' ∧ at' ≤ 1001 ∧ I = at'))) (fun _ u5 _ => (1001 : Int) - intOf u5 |>.toNat)
  case atStart => exact ⟨0, -1, by omega, rfl, rfl, rfl, .inl ⟨rfl, hI0⟩⟩
  case round =>
    obtain ⟨i, at', hi, rfl, rfl, rfl, hc⟩ := hrel
    rcases hc with ⟨rfl, HI⟩ | ⟨h0, h1, rfl⟩
    · by_cases hlt : i + 1 < s.size
      · have hlt2 : (i : Int) + 1 < s.size := by omega
        by_cases hm : s[i] = 58 ∧ s[i + 1] = 58
        · have hsl := slice_two s i hlt
          rw [hm.1, hm.2] at hsl
          have HI2 : Hid (I = i) := Lib.hid (by rw [HI.out, HIH.out i hlt hm.1 hm.2]; simp)
          clear hm
          go_wp2_with fail
          go_roundw
          case rel => exact ⟨i + 1, i, by omega, by go_num, rfl, by trivial, .inr ⟨by omega, by omega, HI2.out⟩⟩
          case measure => simp [intOf]; omega
        · have hsl := slice_two s i hlt
          have HMM := Lib.hid hm
          have HI2 := Lib.hid (HIM.out i hlt hm)
          clear hm
          obtain ⟨x, hx⟩ : ∃ x, s[i] = x := ⟨_, rfl⟩
          obtain ⟨y, hy⟩ : ∃ y, s[i + 1] = y := ⟨_, rfl⟩
          rw [hx, hy] at hsl
          have hne : ¬ (x = 58 ∧ y = 58) := fun h => HMM.out (by rw [hx, hy]; exact h)
          have HI3 : Hid (I = if Lib.index (s.data.toList.drop (i + 1)) [58, 58] = -1 then -1 else Lib.index (s.data.toList.drop (i + 1)) [58, 58] + ((i + 1 : Nat) : Int)) := Lib.hid (by
            rw [HI.out, HI2.out]
            have := Lib.index_ge (s.data.toList.drop (i + 1)) [58, 58]
            by_cases e : Lib.index (s.data.toList.drop (i + 1)) [58, 58] = -1
            · rw [if_pos e, if_pos e, if_pos rfl]
            · rw [if_neg e, if_neg e, if_neg (by omega)]; omega)
          clear hx hy HMM HI2 HI
          by_cases h58 : x = 58
          all_goals
            first
              | (have hy5 : (y == 58) = false := by simpa using fun h => hne ⟨h58, h⟩
                 have hx5 : (x == 58) = true := by simpa using h58)
              | (have hx5 : (x == 58) = false := by simpa using h58)
            clear h58 hne
            go_wp2_with fail
            go_roundw
            case rel => exact ⟨i + 1, -1, by omega, by go_num, rfl, by trivial, .inl ⟨rfl, HI3⟩⟩
            case measure => simp [intOf]; omega
      · have hlt2 : ¬ ((i : Int) + 1 < s.size) := by omega
        have HI2 : Hid (I = -1) := Lib.hid (by rw [HI.out, HIE.out i (by omega)]; rfl)
        clear HI HIE HIM HIH HIB hI0
        go_wp2_with fail
        refine Calls.mono (groups_two s wr hs) ?_
        rintro e wz ⟨oa, cap, L, ok, rfl, hO, hb3, hl, hc⟩
        have hbase := HX.out.lt
        have HX2 := Lib.hid (HX.out.below hb3)
        have HW2 := Lib.hid (Below.via HW.out hb3)
        clear HX HW
        have HX := Lib.hid HX2.out
        have HW := Lib.hid HW2.out
        clear HX2 HW2
        have hltz := HX.out.lt
        have HO := Lib.hid hO
        have HC := Lib.hid hc
        clear hO hb3 hc hi
        have HS2 := HS.out
        rw [HI2.out, if_pos rfl] at HS2
        have HS3 := Lib.hid HS2
        clear HS2 HS HI2
        generalize wr.heap.size = base at *
        obtain ⟨n, hn⟩ : ∃ n, L.length = n := ⟨_, rfl⟩
        rw [hn] at HO hl ⊢
        have HN := Lib.hid hn
        clear hn
        cases ok
        · have HF : Hid (sixL s.data.toList = none) := Lib.hid (by
            rcases HC.out with ⟨h, -⟩ | ⟨-, h⟩
            · cases h
            · rw [HS3.out, h]; rfl)
          have hrr := HX.out.row
          have HH := Lib.hid HX.out.heap
          go_wp2_with fail
          refine bodyPost_ret (v := .tuple #[adV false fun _ => 0, .bool false]) ?_ ?_ ?_
          · exact results_ad2 _ _ Tryz.underlying41 info_rad rfl _ _ w.heap.size (.bool false) rfl rfl (partOf_set HH.out)
          · rfl
          · exact ⟨below_setRow HW.out (Nat.le_refl _) _, .inr ⟨HF.out, rfl⟩⟩
        · have HG : Hid (groupsL s.data.toList = some L) := Lib.hid (by rcases HC.out with ⟨-, h⟩ | ⟨h, -⟩; exact h; cases h)
          by_cases h8 : n = 8
          · subst h8
            have HF : Hid (sixL s.data.toList = some L) := Lib.hid (by rw [HS3.out, HG.out]; show (if L.length = 8 then some L else none) = _; rw [if_pos HN.out])
            clear HS3 HC HG
            have HLB := Lib.hid (HRB.out _ HF.out)
            have HLG : Hid (∀ k (h : k < L.length), L[k] < 65536) := Lib.hid fun k h => HLB.out.2 _ (List.getElem_mem h)
            have HL8 := Lib.hid HLB.out.1
            have HLT := Lib.hid (fun a (ha : oa = some a) => HO.out.lt ha)
            clear HLB
            go_wp2_with fail
            have HX0 := Lib.hid (HX.out.alloc (.cells #[.bool true, .int .u8 0, .int .u8 0, .int .u8 0, .int .u8 0, .int .u8 0, .int .u8 0, .int .u8 0, .int .u8 0, .int .u8 0, .int .u8 0, .int .u8 0, .int .u8 0, .int .u8 0, .int .u8 0, .int .u8 0, .int .u8 0] 41))
            have HY0 := Lib.hid (AdBox.made0 wz 41 true)
            have HO0 := Lib.hid (HO.out.alloc (.cells #[.bool true, .int .u8 0, .int .u8 0, .int .u8 0, .int .u8 0, .int .u8 0, .int .u8 0, .int .u8 0, .int .u8 0, .int .u8 0, .int .u8 0, .int .u8 0, .int .u8 0, .int .u8 0, .int .u8 0, .int .u8 0, .int .u8 0] 41))
            have HW0 := Lib.hid (Below.all HW.out (.cells #[.bool true, .int .u8 0, .int .u8 0, .int .u8 0, .int .u8 0, .int .u8 0, .int .u8 0, .int .u8 0, .int .u8 0, .int .u8 0, .int .u8 0, .int .u8 0, .int .u8 0, .int .u8 0, .int .u8 0, .int .u8 0, .int .u8 0] 41))
            clear HX HO HW
            generalize wz.alloc (.cells #[.bool true, .int .u8 0, .int .u8 0, .int .u8 0, .int .u8 0, .int .u8 0, .int .u8 0, .int .u8 0, .int .u8 0, .int .u8 0, .int .u8 0, .int .u8 0, .int .u8 0, .int .u8 0, .int .u8 0, .int .u8 0, .int .u8 0] 41) = wy at *
            generalize wz.heap.size = b3 at *
            go_loopw [13] (fun u13 wr => ∃ k : Nat, k ≤ 8 ∧ u13 = .int .i64 k ∧ Hid (AdBox wr w.heap.size 41 false fun _ => 0) ∧ Hid (AdBox wr b3 41 true (fun j => if j < 2 * k then sixB L j else 0)) ∧ Hid (Owns wr base 1 oa 8 cap (L.map fun (m : Nat) => Value.int .i64 (m : Int))) ∧ Hid (Below w.heap.size w wr)) (fun u13 _ => (8 : Int) - intOf u13 |>.toNat)
            case atStart => exact ⟨0, by omega, rfl, HX0, Lib.hid (HY0.out.congr fun i _ => by simp), HO0, HW0⟩
            case round =>
              obtain ⟨k, hk, rfl, HX, HY, HO, HW⟩ := hrel
              by_cases hlt : k < 8
              · have hkL : k < L.length := by rw [HL8.out]; exact hlt
                obtain ⟨g, off, hop, hbg, hg, hc, ht⟩ := HO.out.here (by omega)
                have hgb := (HLT.out _ hop).2
                subst hop
                simp only at hgb
                have hcl := hc k (.int .i64 (L[k] : Nat)) (by simp [hkL])
                have hnb := HLG.out k hkL
                have HSX : Hid (((L[k] / 256 : Nat) : Int) = sixB L (2 * k) ∧ ((L[k] % 256 : Nat) : Int) = sixB L (2 * k + 1)) := Lib.hid (by
                  unfold sixB
                  rw [if_pos (by omega), if_neg (by omega), show 2 * k / 2 = k by omega, show (2 * k + 1) / 2 = k by omega, List.getD_eq_getElem?_getD, List.getElem?_eq_getElem hkL]
                  exact ⟨rfl, rfl⟩)
                generalize L[k] = n at *
                have hq1 : Int.tdiv (n : Int) 256 = ((n / 256 : Nat) : Int) := by rw [Int.tdiv_eq_ediv_of_nonneg (by omega)]; omega
                have hq2 : Int.tmod (n : Int) 256 = ((n % 256 : Nat) : Int) := by rw [Int.tmod_eq_emod_of_nonneg (by omega)]; omega
                have hq3 : n / 256 < 256 := by omega
                have hq4 : n % 256 < 256 := by omega
                generalize n / 256 = q at *
                generalize n % 256 = r at *
                have hcx := HY.out.cell (2 * k) (by omega)
                have hcy := HY.out.cell (2 * k + 1) (by omega)
                have hfx := HY.out.free (1 + 2 * k)
                have hfy := HY.out.free (1 + (2 * k + 1))
                clear hc ht
                go_wp2_with fail
                go_roundw
                case rel =>
                  refine ⟨k + 1, by omega, by go_num, Lib.hid ((HX.out.other _ _ (by simp only; omega)).other _ _ (by simp only; omega)), Lib.hid (ad_six HY.out hlt HSX.out.1 HSX.out.2), Lib.hid ((HO.out.other ?_ _).other ?_ _), Lib.hid ((HW.out.setCell (by simp only; omega) _).setCell (by simp only; omega) _)⟩
                  · intro a ha; cases ha; simp only; omega
                  · intro a ha; cases ha; simp only; omega
                case measure => simp [intOf]; omega
              · obtain rfl : k = 8 := by omega
                have HZ := HY.out.congr (C := sixB L) fun i hi => by rw [if_pos (by omega)]
                have hpp := HZ.part
                have hrr := HX.out.row
                have HH := Lib.hid HX.out.heap
                clear HZ
                go_wp2_with fail
                refine bodyPost_ret (v := .tuple #[adV true (sixB L), .bool true]) ?_ ?_ ?_
                · exact results_ad2 _ _ Tryz.underlying41 info_rad rfl _ _ w.heap.size (.bool true) rfl rfl (partOf_set HH.out)
                · rfl
                · exact ⟨below_setRow HW.out (Nat.le_refl _) _, .inl ⟨L, HF.out, rfl⟩⟩
          · have HF : Hid (sixL s.data.toList = none) := Lib.hid (by rw [HS3.out, HG.out]; show (if L.length = 8 then some L else none) = _; rw [if_neg (by rw [HN.out]; exact h8)])
            have h8' : ¬ ((n : Int) = 8) := by omega
            have hrr := HX.out.row
            have HH := Lib.hid HX.out.heap
            go_wp2_with fail
            refine bodyPost_ret (v := .tuple #[adV false fun _ => 0, .bool false]) ?_ ?_ ?_
            · exact results_ad2 _ _ Tryz.underlying41 info_rad rfl _ _ w.heap.size (.bool false) rfl rfl (partOf_set HH.out)
            · rfl
            · exact ⟨below_setRow HW.out (Nat.le_refl _) _, .inr ⟨HF.out, rfl⟩⟩
    · obtain ⟨a, rfl⟩ : ∃ a : Nat, I = a := ⟨I.toNat, by omega⟩
      have hib := HIB.out (by omega)
      have HS2 := HS.out
      rw [if_neg (by omega), Int.toNat_natCast] at HS2
      have HS3 := Lib.hid HS2
      have hsh := slice_head s a (by omega)
      have hst := slice_tail s (a + 2) ((a : Int) + 2) (by omega) (by omega)
      have hls : s.data.toList.length = s.size := by rw [Array.length_toList, ByteArray.size_data]
      have hls1 : (s.data.toList.take a).length ≤ 1000 := by rw [List.length_take]; omega
      have hls2 : (s.data.toList.drop (a + 2)).length ≤ 1000 := by rw [List.length_drop]; omega
      clear HS2 HS HIE HIM HIH HIB hI0 hls
      generalize sixL s.data.toList = R at *
      generalize s.data.toList.take a = H at *
      generalize s.data.toList.drop (a + 2) = T at *
      have HG1 : Hid (∀ w, Calls Tryz.prog 65 #[.string ⟨H.toArray⟩] w (GroupsPost2 w (groupsL H) H.length)) := Lib.hid fun w => groups_two ⟨H.toArray⟩ w (by simp [ByteArray.size]; omega)
      have HG2 : Hid (∀ w, Calls Tryz.prog 65 #[.string ⟨T.toArray⟩] w (GroupsPost2 w (groupsL T) T.length)) := Lib.hid fun w => groups_two ⟨T.toArray⟩ w (by simp [ByteArray.size]; omega)
      by_cases hlt : i + 1 < s.size
      all_goals
        go_wp2_with fail
        refine Calls.mono (groups_two s wr hs) ?_
        rintro e w3 ⟨oa0, cap0, G0, ok0, rfl, -, hb3, hl0, -⟩
        have HX3 := Lib.hid (HX.out.below hb3)
        have HW3 := Lib.hid (Below.via HW.out hb3)
        clear hb3 HX HW hlt
        go_wp2_with fail
        refine Calls.mono (HG1.out w3) ?_
        rintro e w4 ⟨oaA, capA, GA, is, rfl, hO, hb, hlA, hcA⟩
        have hlW := HX3.out.lt
        have HX4 := Lib.hid (HX3.out.below hb)
        have HW4 := Lib.hid (Below.via HW3.out hb)
        have HOA4 := Lib.hid (hO.mono (base' := w.heap.size + 1) (by omega))
        have HLA := Lib.hid (fun a ha => (hO.lt (a := a) ha).2)
        have HCA := Lib.hid hcA
        clear hb hO HX3 HW3 hcA hlW hsh
        go_wp2_with fail
        refine Calls.mono (HG2.out w4) ?_
        rintro e w5 ⟨oaB, capB, GB, too, rfl, hO, hb, hlB, hcB⟩
        have hlW := HX4.out.lt
        have HX := Lib.hid (HX4.out.below hb)
        have HW := Lib.hid (Below.via HW4.out hb)
        have HOA := Lib.hid (HOA4.out.below hb)
        have HOB := Lib.hid (hO.mono (base' := w.heap.size + 1) (by omega))
        have HSP : Hid (∀ a b, oaA = some a → oaB = some b → a.block ≠ b.block) := Lib.hid fun a b ha hb' e => by
          have h1 := HLA.out a ha
          have h2 := (hO.lt hb').1
          omega
        have hlW5 := HX.out.lt
        have HCB := Lib.hid hcB
        clear hb hO HX4 HW4 HOA4 hcB HLA hst
        obtain ⟨nA, hnA⟩ : ∃ n, GA.length = n := ⟨_, rfl⟩
        obtain ⟨nB, hnB⟩ : ∃ n, GB.length = n := ⟨_, rfl⟩
        have HNA := Lib.hid hnA
        have HNB := Lib.hid hnB
        rw [hnA] at HOA hlA ⊢
        rw [hnB] at HOB hlB ⊢
        clear hnA hnB
        cases is
        · have HF : Hid (R = none) := Lib.hid (by
            rcases HCA.out with ⟨h, -⟩ | ⟨-, h⟩
            · cases h
            · rw [HS3.out, h]; rfl)
          go_wp2_with fail
          go_loopw [6] (fun u6 wr => u6 = .slice oaA nA capA ∧ wr = w5) (fun _ _ => 0)
          case atStart => exact ⟨rfl, rfl⟩
          case round =>
            obtain ⟨rfl, rfl⟩ := hrel
            go_wp2_with (at_builtin; refine Stopped.of ?_)
            refine Stopped.mk ?_
            refine wpList_append_rows _ rfl _ _ 104 rfl 3 (.int .i64 0) 8 (w.heap.size + 1) (w.heap.size + 1) Tryz.underlying104 info_i64 rfl oaA nA capA _ rfl HOA.out oaB nB capB _ rfl HOB.out ?_ (by unfold maxLen; omega) (by omega) (by omega) ?_
            · intro u hu
              obtain ⟨i, -, rfl⟩ := List.mem_map.1 hu
              rfl
            intro oa' cap' w6 hO6 hg6 hd6
            have HX6 := Lib.hid (HX.out.keep (hg6.block _ (by omega) (fun e => by
              obtain ⟨a, ha, hab⟩ := Option.map_eq_some_iff.1 e.symm
              have := (HOA.out.lt ha).1; omega)))
            have HW6 := Lib.hid (Below.grown HW.out hg6 (by omega) (fun k hk => by
              obtain ⟨a, ha, hab⟩ := Option.map_eq_some_iff.1 hk
              have := (HOA.out.lt ha).1; omega))
            clear hO6 hg6 hd6 HX HW HOA HOB
            have HX := Lib.hid HX6.out
            have HW := Lib.hid HW6.out
            clear HX6 HW6
            have hrr := HX.out.row
            have HH := Lib.hid HX.out.heap
            go_wp2_with fail
            refine bodyPost_ret (v := .tuple #[adV false fun _ => 0, .bool false]) ?_ ?_ ?_
            · exact results_ad2 _ _ Tryz.underlying41 info_rad rfl _ _ w.heap.size (.bool false) rfl rfl (partOf_set HH.out)
            · rfl
            · exact ⟨below_setRow HW.out (Nat.le_refl _) _, .inr ⟨HF.out, rfl⟩⟩
        have HGA : Hid (groupsL H = some GA) := Lib.hid (by rcases HCA.out with ⟨-, h⟩ | ⟨h, -⟩; exact h; cases h)
        cases too
        · have HF : Hid (R = none) := Lib.hid (by
            rcases HCB.out with ⟨h, -⟩ | ⟨-, h⟩
            · cases h
            · rw [HS3.out, HGA.out, h]; rfl)
          go_wp2_with fail
          go_loopw [6] (fun u6 wr => u6 = .slice oaA nA capA ∧ wr = w5) (fun _ _ => 0)
          case atStart => exact ⟨rfl, rfl⟩
          case round =>
            obtain ⟨rfl, rfl⟩ := hrel
            go_wp2_with (at_builtin; refine Stopped.of ?_)
            refine Stopped.mk ?_
            refine wpList_append_rows _ rfl _ _ 104 rfl 3 (.int .i64 0) 8 (w.heap.size + 1) (w.heap.size + 1) Tryz.underlying104 info_i64 rfl oaA nA capA _ rfl HOA.out oaB nB capB _ rfl HOB.out ?_ (by unfold maxLen; omega) (by omega) (by omega) ?_
            · intro u hu
              obtain ⟨i, -, rfl⟩ := List.mem_map.1 hu
              rfl
            intro oa' cap' w6 hO6 hg6 hd6
            have HX6 := Lib.hid (HX.out.keep (hg6.block _ (by omega) (fun e => by
              obtain ⟨a, ha, hab⟩ := Option.map_eq_some_iff.1 e.symm
              have := (HOA.out.lt ha).1; omega)))
            have HW6 := Lib.hid (Below.grown HW.out hg6 (by omega) (fun k hk => by
              obtain ⟨a, ha, hab⟩ := Option.map_eq_some_iff.1 hk
              have := (HOA.out.lt ha).1; omega))
            clear hO6 hg6 hd6 HX HW HOA HOB
            have HX := Lib.hid HX6.out
            have HW := Lib.hid HW6.out
            clear HX6 HW6
            have hrr := HX.out.row
            have HH := Lib.hid HX.out.heap
            go_wp2_with fail
            refine bodyPost_ret (v := .tuple #[adV false fun _ => 0, .bool false]) ?_ ?_ ?_
            · exact results_ad2 _ _ Tryz.underlying41 info_rad rfl _ _ w.heap.size (.bool false) rfl rfl (partOf_set HH.out)
            · rfl
            · exact ⟨below_setRow HW.out (Nat.le_refl _) _, .inr ⟨HF.out, rfl⟩⟩
        have HGB : Hid (groupsL T = some GB) := Lib.hid (by rcases HCB.out with ⟨-, h⟩ | ⟨h, -⟩; exact h; cases h)
        have HS4 : Hid (R = if nA + nB ≤ 7 then some (GA ++ List.replicate (8 - nA - nB) 0 ++ GB) else none) := Lib.hid (by rw [HS3.out, HGA.out, HGB.out, ← HNA.out, ← HNB.out]; rfl)
        clear HS3 HGA HGB HCA HCB HNA HNB
        by_cases h7 : nA + nB ≤ 7
        · have HF0 : Hid (R = some (GA ++ List.replicate (8 - nA - nB) 0 ++ GB)) := Lib.hid (by rw [HS4.out, if_pos h7])
          have h7' : (nA : Int) + nB ≤ 7 := by omega
          have HF := Lib.hid HF0.out
          clear HS4 HF0
          go_wp2_with fail
          go_loopg [6] (8 - nA - nB) (fun g u6 wr => ∃ (m : Nat) (oa : Option Addr) (cap : Nat), m + nB + g = 8 ∧ u6 = .slice oa m cap ∧ Hid (∃ j, m = nA + j ∧ Owns wr (w.heap.size + 1) 1 oa m cap ((GA ++ List.replicate j 0).map fun (m : Nat) => Value.int .i64 (m : Int))) ∧ Hid (Owns wr (w.heap.size + 1) 1 oaB nB capB (GB.map fun (m : Nat) => Value.int .i64 (m : Int))) ∧
            Hid (∀ a b, oa = some a → oaB = some b → a.block ≠ b.block) ∧ Hid (AdBox wr w.heap.size 41 false fun _ => 0) ∧ Hid (Below w.heap.size w wr))
          case atStart => exact ⟨nA, oaA, capA, by omega, rfl, Lib.hid ⟨0, rfl, by simpa using HOA.out⟩, HOB, HSP, HX, HW⟩
          case round =>
            clear HOA HOB HSP HX HW
            obtain ⟨m, oa, cap, hmg, rfl, HOA, HOB, HSP, HX, HW⟩ := hrel
            obtain ⟨j, hmj, hOA⟩ := HOA.out
            have HMJ := Lib.hid hmj
            have hle := hOA.le
            have hlW := HX.out.lt
            by_cases hlt8 : m + nB < 8
            · have hlt9 : (m : Int) + nB < 8 := by omega
              have HOA1 := Lib.hid hOA
              clear hOA hmj
              go_wp2_with (at_builtin; refine Stopped.of ?_)
              refine Stopped.mk ?_
              refine wpList_append_owns _ rfl _ _ 104 rfl 3 (.int .i64 0) 1 8 (w.heap.size + 1) Tryz.underlying104 info_i64 rfl (by decide) oa m cap _ rfl (HOA1.out.alloc _) ⟨wr.heap.size, 0, none⟩ 1 1 [.int .i64 0] rfl rfl ?_ ?_ (by decide) ?_ ?_ ?_ ?_
              · exact news_new _ _ _
              · simp [Value.oneCell']
              · unfold maxLen; omega
              · omega
              · simp only [World.size_alloc]; omega
              intro oa' cap' w6 ho' hg hd
              have HLT := Lib.hid (fun a (ha : oa = some a) => HOA1.out.lt ha)
              have HX6 := Lib.hid ((HX.out.alloc (.cells #[.int .i64 0] 3)).keep (hg.block _ (by simp only [World.size_alloc]; omega) (fun e => by
                obtain ⟨a, ha, hab⟩ := Option.map_eq_some_iff.1 e.symm
                have := (HLT.out a ha).1; omega)))
              have HW6 : Hid (Below w.heap.size w w6) := Lib.hid (Below.appended (Below.all HW.out _) (HOA1.out.alloc _) (by omega) hg (by simp only [World.size_alloc]; omega))
              have HOB6 := Lib.hid ((HOB.out.alloc (.cells #[.int .i64 0] 3)).grown hg (fun b hb e => by
                obtain ⟨a, ha, hab⟩ := Option.map_eq_some_iff.1 e.symm
                exact HSP.out a b ha hb hab))
              have HSP6 : Hid (∀ a b, oa' = some a → oaB = some b → a.block ≠ b.block) := Lib.hid fun a b ha hb => by
                rcases hd a ha with h | h
                · exact HSP.out a b h hb
                · have := (HOB.out.lt hb).2
                  simp only [World.size_alloc] at h
                  omega
              have HOA6 : Hid (∃ j, m + 1 = nA + j ∧ Owns w6 (w.heap.size + 1) 1 oa' (m + 1) cap' ((GA ++ List.replicate j 0).map fun (m : Nat) => Value.int .i64 (m : Int))) := Lib.hid ⟨j + 1, by have := HMJ.out; omega, by
                rw [show List.replicate (j + 1) 0 = List.replicate j 0 ++ [0] from List.replicate_succ', ← List.append_assoc, List.map_append]
                exact ho'⟩
              clear HLT hg hd ho' HOA HOA1 HOB HSP HX HW
              go_wp2_with fail
              go_roundg (8 - (m + 1) - nB)
              case measure => omega
              case rel => exact ⟨m + 1, oa', cap', by omega, rfl, HOA6, HOB6, HSP6, HX6, HW6⟩
            · have hlt9 : ¬ ((m : Int) + nB < 8) := by omega
              have h8 : m + nB = 8 := by omega
              obtain rfl : j = 8 - nA - nB := by omega
              have HOA1 := Lib.hid hOA
              clear hOA hmj
              go_wp2_with (at_builtin; refine Stopped.of ?_)
              refine Stopped.mk ?_
              refine wpList_append_rows _ rfl _ _ 104 rfl 3 (.int .i64 0) 8 (w.heap.size + 1) (w.heap.size + 1) Tryz.underlying104 info_i64 rfl oa m cap _ rfl HOA1.out oaB nB capB _ rfl HOB.out ?_ (by unfold maxLen; omega) (by omega) (by omega) ?_
              · intro u hu
                obtain ⟨i, -, rfl⟩ := List.mem_map.1 hu
                rfl
              intro oa' cap' wz hO6 hg6 hd6
              have HX6 := Lib.hid (HX.out.keep (hg6.block _ (by omega) (fun e => by
                obtain ⟨a, ha, hab⟩ := Option.map_eq_some_iff.1 e.symm
                have := (HOA1.out.lt ha).1; omega)))
              have HW6 := Lib.hid (Below.grown HW.out hg6 (by omega) (fun k hk => by
                obtain ⟨a, ha, hab⟩ := Option.map_eq_some_iff.1 hk
                have := (HOA1.out.lt ha).1; omega))
              rw [h8] at hO6 ⊢
              rw [← List.map_append] at hO6
              have HO := Lib.hid hO6
              clear hO6 hg6 hd6 HX HW HOA HOA1 HOB HSP HMJ
              have HX := Lib.hid HX6.out
              have HW := Lib.hid HW6.out
              have hltz := HX.out.lt
              have hbase : w.heap.size < w.heap.size + 1 := by omega
              clear HX6 HW6 hle hlt8 hlt9 h8
              generalize GA ++ List.replicate (8 - nA - nB) 0 ++ GB = L at *
              generalize w.heap.size + 1 = base at *
              have HLB := Lib.hid (HRB.out _ HF.out)
              have HLG : Hid (∀ k (h : k < L.length), L[k] < 65536) := Lib.hid fun k h => HLB.out.2 _ (List.getElem_mem h)
              have HL8 := Lib.hid HLB.out.1
              have HLT := Lib.hid (fun a (ha : oa' = some a) => HO.out.lt ha)
              clear HLB
              go_wp2_with fail
              have HX0 := Lib.hid (HX.out.alloc (.cells #[.bool true, .int .u8 0, .int .u8 0, .int .u8 0, .int .u8 0, .int .u8 0, .int .u8 0, .int .u8 0, .int .u8 0, .int .u8 0, .int .u8 0, .int .u8 0, .int .u8 0, .int .u8 0, .int .u8 0, .int .u8 0, .int .u8 0] 41))
              have HY0 := Lib.hid (AdBox.made0 wz 41 true)
              have HO0 := Lib.hid (HO.out.alloc (.cells #[.bool true, .int .u8 0, .int .u8 0, .int .u8 0, .int .u8 0, .int .u8 0, .int .u8 0, .int .u8 0, .int .u8 0, .int .u8 0, .int .u8 0, .int .u8 0, .int .u8 0, .int .u8 0, .int .u8 0, .int .u8 0, .int .u8 0] 41))
              have HW0 := Lib.hid (Below.all HW.out (.cells #[.bool true, .int .u8 0, .int .u8 0, .int .u8 0, .int .u8 0, .int .u8 0, .int .u8 0, .int .u8 0, .int .u8 0, .int .u8 0, .int .u8 0, .int .u8 0, .int .u8 0, .int .u8 0, .int .u8 0, .int .u8 0, .int .u8 0] 41))
              clear HX HO HW
              generalize wz.alloc (.cells #[.bool true, .int .u8 0, .int .u8 0, .int .u8 0, .int .u8 0, .int .u8 0, .int .u8 0, .int .u8 0, .int .u8 0, .int .u8 0, .int .u8 0, .int .u8 0, .int .u8 0, .int .u8 0, .int .u8 0, .int .u8 0, .int .u8 0] 41) = wy at *
              generalize wz.heap.size = b3 at *
              go_loopw [13] (fun u13 wr => ∃ k : Nat, k ≤ 8 ∧ u13 = .int .i64 k ∧ Hid (AdBox wr w.heap.size 41 false fun _ => 0) ∧ Hid (AdBox wr b3 41 true (fun j => if j < 2 * k then sixB L j else 0)) ∧ Hid (Owns wr base 1 oa' 8 cap' (L.map fun (m : Nat) => Value.int .i64 (m : Int))) ∧ Hid (Below w.heap.size w wr)) (fun u13 _ => (8 : Int) - intOf u13 |>.toNat)
              case atStart => exact ⟨0, by omega, rfl, HX0, Lib.hid (HY0.out.congr fun i _ => by simp), HO0, HW0⟩
              case round =>
                obtain ⟨k, hk, rfl, HX, HY, HO, HW⟩ := hrel
                by_cases hlt : k < 8
                · have hkL : k < L.length := by rw [HL8.out]; exact hlt
                  obtain ⟨g, off, hop, hbg, hg, hc, ht⟩ := HO.out.here (by omega)
                  have hgb := (HLT.out _ hop).2
                  subst hop
                  simp only at hgb
                  have hcl := hc k (.int .i64 (L[k] : Nat)) (by simp [hkL])
                  have hnb := HLG.out k hkL
                  have HSX : Hid (((L[k] / 256 : Nat) : Int) = sixB L (2 * k) ∧ ((L[k] % 256 : Nat) : Int) = sixB L (2 * k + 1)) := Lib.hid (by
                    unfold sixB
                    rw [if_pos (by omega), if_neg (by omega), show 2 * k / 2 = k by omega, show (2 * k + 1) / 2 = k by omega, List.getD_eq_getElem?_getD, List.getElem?_eq_getElem hkL]
                    exact ⟨rfl, rfl⟩)
                  generalize L[k] = n at *
                  have hq1 : Int.tdiv (n : Int) 256 = ((n / 256 : Nat) : Int) := by rw [Int.tdiv_eq_ediv_of_nonneg (by omega)]; omega
                  have hq2 : Int.tmod (n : Int) 256 = ((n % 256 : Nat) : Int) := by rw [Int.tmod_eq_emod_of_nonneg (by omega)]; omega
                  have hq3 : n / 256 < 256 := by omega
                  have hq4 : n % 256 < 256 := by omega
                  generalize n / 256 = q at *
                  generalize n % 256 = r at *
                  have hcx := HY.out.cell (2 * k) (by omega)
                  have hcy := HY.out.cell (2 * k + 1) (by omega)
                  have hfx := HY.out.free (1 + 2 * k)
                  have hfy := HY.out.free (1 + (2 * k + 1))
                  clear hc ht
                  go_wp2_with fail
                  go_roundw
                  case rel =>
                    refine ⟨k + 1, by omega, by go_num, Lib.hid ((HX.out.other _ _ (by simp only; omega)).other _ _ (by simp only; omega)), Lib.hid (ad_six HY.out hlt HSX.out.1 HSX.out.2), Lib.hid ((HO.out.other ?_ _).other ?_ _), Lib.hid ((HW.out.setCell (by simp only; omega) _).setCell (by simp only; omega) _)⟩
                    · intro a ha; cases ha; simp only; omega
                    · intro a ha; cases ha; simp only; omega
                  case measure => simp [intOf]; omega
                · obtain rfl : k = 8 := by omega
                  have HZ := HY.out.congr (C := sixB L) fun i hi => by rw [if_pos (by omega)]
                  have hpp := HZ.part
                  have hrr := HX.out.row
                  have HH := Lib.hid HX.out.heap
                  clear HZ
                  go_wp2_with fail
                  refine bodyPost_ret (v := .tuple #[adV true (sixB L), .bool true]) ?_ ?_ ?_
                  · exact results_ad2 _ _ Tryz.underlying41 info_rad rfl _ _ w.heap.size (.bool true) rfl rfl (partOf_set HH.out)
                  · rfl
                  · exact ⟨below_setRow HW.out (Nat.le_refl _) _, .inl ⟨L, HF.out, rfl⟩⟩
        · have HF : Hid (R = none) := Lib.hid (by rw [HS4.out, if_neg h7])
          have h7' : ¬ ((nA : Int) + nB ≤ 7) := by omega
          clear HS4
          go_wp2_with fail
          go_loopw [6] (fun u6 wr => u6 = .slice oaA nA capA ∧ wr = w5) (fun _ _ => 0)
          case atStart => exact ⟨rfl, rfl⟩
          case round =>
            obtain ⟨rfl, rfl⟩ := hrel
            go_wp2_with (at_builtin; refine Stopped.of ?_)
            refine Stopped.mk ?_
            refine wpList_append_rows _ rfl _ _ 104 rfl 3 (.int .i64 0) 8 (w.heap.size + 1) (w.heap.size + 1) Tryz.underlying104 info_i64 rfl oaA nA capA _ rfl HOA.out oaB nB capB _ rfl HOB.out ?_ (by unfold maxLen; omega) (by omega) (by omega) ?_
            · intro u hu
              obtain ⟨i, -, rfl⟩ := List.mem_map.1 hu
              rfl
            intro oa' cap' w6 hO6 hg6 hd6
            have HX6 := Lib.hid (HX.out.keep (hg6.block _ (by omega) (fun e => by
              obtain ⟨a, ha, hab⟩ := Option.map_eq_some_iff.1 e.symm
              have := (HOA.out.lt ha).1; omega)))
            have HW6 := Lib.hid (Below.grown HW.out hg6 (by omega) (fun k hk => by
              obtain ⟨a, ha, hab⟩ := Option.map_eq_some_iff.1 hk
              have := (HOA.out.lt ha).1; omega))
            clear hO6 hg6 hd6 HX HW HOA HOB
            have HX := Lib.hid HX6.out
            have HW := Lib.hid HW6.out
            clear HX6 HW6
            have hrr := HX.out.row
            have HH := Lib.hid HX.out.heap
            go_wp2_with fail
            refine bodyPost_ret (v := .tuple #[adV false fun _ => 0, .bool false]) ?_ ?_ ?_
            · exact results_ad2 _ _ Tryz.underlying41 info_rad rfl _ _ w.heap.size (.bool false) rfl rfl (partOf_set HH.out)
            · rfl
            · exact ⟨below_setRow HW.out (Nat.le_refl _) _, .inr ⟨HF.out, rfl⟩⟩
end Go.Proofs.YtcadpcppnllhnaaGreatDoor
end

/- Walks over texts: the reference's Parse. -/
section
set_option linter.unusedSimpArgs false
set_option linter.unusedVariables false
namespace Go.Proofs.YtcadpcppnllhnaaGreatDoor
open Go.RowKit

theorem parseOf_some {F S : Option (List Nat)} (h4 : ∀ m, S = some m → F = none) {l : List Nat} (h : S = some l) : parseOf F S = some (true, sixB l) := by
  rw [h4 l h, h]; rfl
theorem numberL_bd {base most : Nat} {l : List UInt8} {n : Nat} (h0 : 0 < most) (h : numberL base most l = some n) : n < most := by
  unfold numberL at h
  split at h
  · cases h
  · exact numL_lt base most l 0 n h0 h
/-- The four bytes so far. -/
theorem fourB_snoc (l : List Nat) (n k : Nat) (hk : l.length = k) (i : Nat) : fourB (l ++ [n]) i = if i = k then (n : Int) else fourB l i := by
  unfold fourB
  by_cases hik : i = k
  · rw [if_pos hik]
    rw [List.getD_eq_getElem?_getD, List.getElem?_append_right (by omega)]
    simp [hik, hk]
  · rw [if_neg hik, List.getD_eq_getElem?_getD, List.getD_eq_getElem?_getD]
    by_cases hlt2 : i < k
    · rw [List.getElem?_append_left (by omega)]
    · rw [List.getElem?_eq_none (by simp; omega), List.getElem?_eq_none (by omega)]

set_option maxRecDepth 20000 in
set_option maxHeartbeats 8000000 in
theorem rparse_any (s : ByteArray) (w : World) (hs : s.size ≤ 1000) : Calls Tryz.prog 14 #[.string s] w (RetAt w (parseV (parseL s.data.toList))) := by
  have H6 := Lib.hid (fun w => rsix_any s w hs)
  have H46 := Lib.hid (fun m (h : sixL s.data.toList = some m) => four_six s.data.toList h)
  have HFL : Hid (fourL s.data.toList = if (cutsL 46 s.data.toList).length = 4 then (cutsL 46 s.data.toList).mapM (decL 256) else none) := Lib.hid rfl
  have hls : s.data.toList.length = s.size := by rw [Array.length_toList, ByteArray.size_data]
  have HPL : Hid (∀ p ∈ cutsL 46 s.data.toList, p.length ≤ 1000) := Lib.hid (fun p hp => by have := cutsL_len 46 _ p hp; omega)
  have HPC : Hid ((cutsL 46 s.data.toList).length ≤ 1001) := Lib.hid (by have := cutsL_count 46 s.data.toList; omega)
  have HCA := Lib.hid (fun w => cuts_any s 46 w hs)
  rw [parseL_of]
  clear hls hs
  generalize cutsL 46 s.data.toList = P at *
  generalize fourL s.data.toList = F at *
  generalize sixL s.data.toList = S at *
  go_enter Tryz.func14, Tryz.ntmps14
  go_wp2_with fail
  refine Calls.mono (H6.out _) ?_
  rintro e w2 ⟨hb2, hc⟩
  have HX := Lib.hid ((AdBox.made0 w 41 false).below hb2)
  have HW := Lib.hid (Below.via (Below.all (Below.refl w.heap.size w) _) hb2)
  have hlt := HX.out.lt
  clear hb2 H6
  rcases hc with ⟨l, hl, rfl⟩ | ⟨hl, rfl⟩
  · have HR : Hid (parseOf F S = some (true, sixB l)) := Lib.hid (parseOf_some H46.out hl)
    generalize sixB l = C at *
    generalize parseOf F S = R at *
    clear hl
    unfold adV
    have hrr := HX.out.row
    go_wp2_with fail
    exact bodyPost_ret (v := .tuple #[adV true C, .int .i64 0]) (results_ad2 _ _ Tryz.underlying41 info_rad rfl _ _ w.heap.size (.int .i64 0) rfl rfl (part_up (s' := true) (B' := C) HX.out _ _ rfl)) rfl (.mk (by rw [HR.out]; rfl) (Below.all (below_setRow HW.out (Nat.le_refl _) _) _))
  · subst hl
    have HR : Hid (∀ l, F = some l → parseOf F none = some (false, fourB l)) := Lib.hid fun l h => by rw [h]; rfl
    have HR0 : Hid (F = none → parseOf F none = none) := Lib.hid fun h => by rw [h]; rfl
    generalize parseOf F none = R at *
    clear H46
    unfold adV
    have HX2 := Lib.hid (HX.out.alloc (.cells #[.bool false, .int .u8 ((fun _ => (0 : Int)) 0), .int .u8 ((fun _ => (0 : Int)) 1), .int .u8 ((fun _ => (0 : Int)) 2), .int .u8 ((fun _ => (0 : Int)) 3), .int .u8 ((fun _ => (0 : Int)) 4), .int .u8 ((fun _ => (0 : Int)) 5), .int .u8 ((fun _ => (0 : Int)) 6), .int .u8 ((fun _ => (0 : Int)) 7), .int .u8 ((fun _ => (0 : Int)) 8), .int .u8 ((fun _ => (0 : Int)) 9), .int .u8 ((fun _ => (0 : Int)) 10), .int .u8 ((fun _ => (0 : Int)) 11), .int .u8 ((fun _ => (0 : Int)) 12), .int .u8 ((fun _ => (0 : Int)) 13), .int .u8 ((fun _ => (0 : Int)) 14), .int .u8 ((fun _ => (0 : Int)) 15)] 41))
    have HW2 := Lib.hid (Below.all HW.out (.cells #[.bool false, .int .u8 ((fun _ => (0 : Int)) 0), .int .u8 ((fun _ => (0 : Int)) 1), .int .u8 ((fun _ => (0 : Int)) 2), .int .u8 ((fun _ => (0 : Int)) 3), .int .u8 ((fun _ => (0 : Int)) 4), .int .u8 ((fun _ => (0 : Int)) 5), .int .u8 ((fun _ => (0 : Int)) 6), .int .u8 ((fun _ => (0 : Int)) 7), .int .u8 ((fun _ => (0 : Int)) 8), .int .u8 ((fun _ => (0 : Int)) 9), .int .u8 ((fun _ => (0 : Int)) 10), .int .u8 ((fun _ => (0 : Int)) 11), .int .u8 ((fun _ => (0 : Int)) 12), .int .u8 ((fun _ => (0 : Int)) 13), .int .u8 ((fun _ => (0 : Int)) 14), .int .u8 ((fun _ => (0 : Int)) 15)] 41))
    clear HX HW hlt
    go_wp2_with fail
    generalize w2.alloc (.cells #[.bool false, .int .u8 ((fun _ => (0 : Int)) 0), .int .u8 ((fun _ => (0 : Int)) 1), .int .u8 ((fun _ => (0 : Int)) 2), .int .u8 ((fun _ => (0 : Int)) 3), .int .u8 ((fun _ => (0 : Int)) 4), .int .u8 ((fun _ => (0 : Int)) 5), .int .u8 ((fun _ => (0 : Int)) 6), .int .u8 ((fun _ => (0 : Int)) 7), .int .u8 ((fun _ => (0 : Int)) 8), .int .u8 ((fun _ => (0 : Int)) 9), .int .u8 ((fun _ => (0 : Int)) 10), .int .u8 ((fun _ => (0 : Int)) 11), .int .u8 ((fun _ => (0 : Int)) 12), .int .u8 ((fun _ => (0 : Int)) 13), .int .u8 ((fun _ => (0 : Int)) 14), .int .u8 ((fun _ => (0 : Int)) 15)] 41) = w3 at *
    refine Calls.mono (HCA.out _) ?_
    rintro e w4 ⟨op, capp, rfl, HO, HB⟩
    have HX := Lib.hid (HX2.out.below HB)
    have HW := Lib.hid (Below.via HW2.out HB)
    have hlt3 := HX2.out.lt
    have HOO := Lib.hid (HO.mono (base' := w.heap.size + 1) (by omega))
    have HOL := Lib.hid (fun a ha => (HO.lt (a := a) ha).2)
    clear HO HB HX2 HW2 hlt3 HCA
    by_cases h4 : P.length = 4
    · rw [h4] at HOO ⊢
      have HP := Lib.hid h4
      clear h4
      have HX5 := Lib.hid (HX.out.alloc (.cells #[.bool false, .int .u8 ((fun _ => (0 : Int)) 0), .int .u8 ((fun _ => (0 : Int)) 1), .int .u8 ((fun _ => (0 : Int)) 2), .int .u8 ((fun _ => (0 : Int)) 3), .int .u8 ((fun _ => (0 : Int)) 4), .int .u8 ((fun _ => (0 : Int)) 5), .int .u8 ((fun _ => (0 : Int)) 6), .int .u8 ((fun _ => (0 : Int)) 7), .int .u8 ((fun _ => (0 : Int)) 8), .int .u8 ((fun _ => (0 : Int)) 9), .int .u8 ((fun _ => (0 : Int)) 10), .int .u8 ((fun _ => (0 : Int)) 11), .int .u8 ((fun _ => (0 : Int)) 12), .int .u8 ((fun _ => (0 : Int)) 13), .int .u8 ((fun _ => (0 : Int)) 14), .int .u8 ((fun _ => (0 : Int)) 15)] 41))
      have HW5 := Lib.hid (Below.all HW.out (.cells #[.bool false, .int .u8 ((fun _ => (0 : Int)) 0), .int .u8 ((fun _ => (0 : Int)) 1), .int .u8 ((fun _ => (0 : Int)) 2), .int .u8 ((fun _ => (0 : Int)) 3), .int .u8 ((fun _ => (0 : Int)) 4), .int .u8 ((fun _ => (0 : Int)) 5), .int .u8 ((fun _ => (0 : Int)) 6), .int .u8 ((fun _ => (0 : Int)) 7), .int .u8 ((fun _ => (0 : Int)) 8), .int .u8 ((fun _ => (0 : Int)) 9), .int .u8 ((fun _ => (0 : Int)) 10), .int .u8 ((fun _ => (0 : Int)) 11), .int .u8 ((fun _ => (0 : Int)) 12), .int .u8 ((fun _ => (0 : Int)) 13), .int .u8 ((fun _ => (0 : Int)) 14), .int .u8 ((fun _ => (0 : Int)) 15)] 41))
      have HY5 := Lib.hid (AdBox.made0 w4 41 false)
      have HO5 := Lib.hid (HOO.out.alloc (.cells #[.bool false, .int .u8 ((fun _ => (0 : Int)) 0), .int .u8 ((fun _ => (0 : Int)) 1), .int .u8 ((fun _ => (0 : Int)) 2), .int .u8 ((fun _ => (0 : Int)) 3), .int .u8 ((fun _ => (0 : Int)) 4), .int .u8 ((fun _ => (0 : Int)) 5), .int .u8 ((fun _ => (0 : Int)) 6), .int .u8 ((fun _ => (0 : Int)) 7), .int .u8 ((fun _ => (0 : Int)) 8), .int .u8 ((fun _ => (0 : Int)) 9), .int .u8 ((fun _ => (0 : Int)) 10), .int .u8 ((fun _ => (0 : Int)) 11), .int .u8 ((fun _ => (0 : Int)) 12), .int .u8 ((fun _ => (0 : Int)) 13), .int .u8 ((fun _ => (0 : Int)) 14), .int .u8 ((fun _ => (0 : Int)) 15)] 41))
      have hW4 := HX.out.lt
      go_wp2_with fail
      clear HX HW HOO
      generalize w4.alloc (.cells #[.bool false, .int .u8 ((fun _ => (0 : Int)) 0), .int .u8 ((fun _ => (0 : Int)) 1), .int .u8 ((fun _ => (0 : Int)) 2), .int .u8 ((fun _ => (0 : Int)) 3), .int .u8 ((fun _ => (0 : Int)) 4), .int .u8 ((fun _ => (0 : Int)) 5), .int .u8 ((fun _ => (0 : Int)) 6), .int .u8 ((fun _ => (0 : Int)) 7), .int .u8 ((fun _ => (0 : Int)) 8), .int .u8 ((fun _ => (0 : Int)) 9), .int .u8 ((fun _ => (0 : Int)) 10), .int .u8 ((fun _ => (0 : Int)) 11), .int .u8 ((fun _ => (0 : Int)) 12), .int .u8 ((fun _ => (0 : Int)) 13), .int .u8 ((fun _ => (0 : Int)) 14), .int .u8 ((fun _ => (0 : Int)) 15)] 41) = w5 at *
      generalize w4.heap.size = b7 at *
      go_loopw [8] (fun u8 wr => ∃ (k : Nat) (G : List Nat), k ≤ 4 ∧ u8 = .int .i64 k ∧ Hid ((P.take k).mapM (decL 256) = some G) ∧ Hid (AdBox wr w.heap.size 41 false fun _ => 0) ∧ Hid (AdBox wr b7 41 false (fourB G)) ∧ Hid (Owns wr (w.heap.size + 1) 1 op 4 capp (P.map strV)) ∧ Hid (Below w.heap.size w wr)) (fun u8 _ => (4 : Int) - intOf u8 |>.toNat)
      case atStart => exact ⟨0, [], by omega, rfl, Lib.hid rfl, HX5, Lib.hid (HY5.out.congr fun i _ => by simp [fourB]), HO5, HW5⟩
      case round =>
        obtain ⟨k, G, hk, rfl, HG, HX, HY, HR1, HW⟩ := hrel
        by_cases hlt : k < 4
        · have hkP : k < P.length := by rw [HP.out]; exact hlt
          obtain ⟨g, off, hop, hbg, hg, hc, ht⟩ := HR1.out.here (by omega)
          have hgb := HOL.out _ hop
          subst hop
          simp only at hgb
          have hcl := hc k (strV P[k]) (by simp [hkP])
          have hpl := HPL.out P[k] (List.getElem_mem hkP)
          have HTS := Lib.hid (show P.take (k + 1) = P.take k ++ [P[k]] by rw [List.take_succ_eq_append_getElem hkP])
          have HMI := Lib.hid (fun h => mapM_miss (decL 256) P k hkP h)
          clear hc ht
          unfold strV at hcl
          generalize P[k] = p at *
          have hsz : (⟨p.toArray⟩ : ByteArray).size = p.length := by simp [ByteArray.size]
          have hpe : ((⟨p.toArray⟩ : ByteArray).data.toList) = p := by simp
          have hp1 : (⟨p.toArray⟩ : ByteArray).size ≤ 1000 := by omega
          have HNU := Lib.hid (fun w => number_any ⟨p.toArray⟩ 10 256 w hp1 (by decide) (by decide) (by decide))
          rw [hpe] at HNU
          clear hsz hpe hp1
          have hWr := HW.out.size
          cases hn : numberL 10 256 p with
          | none =>
            rw [hn] at HNU
            have HF : Hid (F = none) := Lib.hid (by rw [HFL.out, if_pos HP.out]; exact HMI.out (by unfold decL; rw [hn]))
            clear hn
            go_wp2_with fail
            refine Calls.mono (HNU.out wr) ?_
            rintro e w6 ⟨rfl, hb6⟩
            simp only [numV]
            have hcl2 := hb6.cell (p := ⟨g, off + k, none⟩) hg
            rw [hcl] at hcl2
            have HX6 := Lib.hid (HX.out.below hb6)
            have HW6 := Lib.hid (Below.via HW.out hb6)
            clear hb6
            go_wp2_with fail
            refine wp_region_later (by kernel_rfl) (by kernel_rfl) ?_
            repeat go_big_quiet_step (fail)
            refine wpQuiet_nil ?_
            intro x
            have HX7 := Lib.hid (HX6.out.below x.below)
            have HW7 := Lib.hid (Below.via HW6.out x.below)
            have hrr := HX7.out.row
            have HH := Lib.hid HX7.out.heap
            clear HX6 HW6
            go_wp2_with fail
            exact bodyPost_ret (v := .tuple #[adV false fun _ => 0, .int .i64 40]) (results_ad2 _ _ Tryz.underlying41 info_rad rfl _ _ w.heap.size (.int .i64 40) rfl rfl (partOf_set HH.out)) rfl (.mk (by rw [HR0.out HF.out]; rfl) (below_setRow HW7.out (Nat.le_refl _) _))
          | some n =>
            rw [hn] at HNU
            have hn256 := numberL_bd (by decide) hn
            have HD : Hid (∀ w, Calls Tryz.prog 11 #[.int .i64 (n : Int), .int .i64 10] w (RetAt w (.string ⟨(Lib.decDigits n).toArray⟩))) := Lib.hid fun w => by
              have := digits10_any n (n : Int) w (by omega) (by omega) (by omega)
              rwa [Int.toNat_natCast, digB_ten n n (Nat.le_refl _)] at this
            by_cases hq : Lib.decDigits n = p
            · have hd : decL 256 p = some n := by unfold decL; rw [hn]; simp only; rw [if_pos hq]
              have HM : Hid ((P.take (k + 1)).mapM (decL 256) = some (G ++ [n])) := Lib.hid (by rw [HTS.out]; exact mapM_snoc _ _ _ _ _ HG.out hd)
              have HGk : Hid (G.length = k) := Lib.hid (by rw [mapM_len _ _ _ HG.out, List.length_take]; omega)
              clear hd hn HG HTS HMI
              subst hq
              have hwn : IntKind.u8.wrap (n : Int) = n := u8_wrap _ (by omega) (by omega)
              go_wp2_with fail
              refine Calls.mono (HNU.out wr) ?_
              rintro e w6 ⟨rfl, hb6⟩
              simp only [numV]
              have hcl2 := hb6.cell (p := ⟨g, off + k, none⟩) hg
              rw [hcl] at hcl2
              have hg6 : g < w6.heap.size := Nat.lt_of_lt_of_le hg hb6.size
              have HX6 := Lib.hid (HX.out.below hb6)
              have HY6 := Lib.hid (HY.out.below hb6)
              have HR6 := Lib.hid (HR1.out.below hb6)
              have HW6 := Lib.hid (Below.via HW.out hb6)
              clear hb6 HX HY HR1 HW hcl
              go_wp2_with fail
              refine wp_region_later (by kernel_rfl) (by kernel_rfl) ?_
              repeat go_big_quiet_step ((go_at_call 11; exact later_call (HD.out _)))
              refine wpQuiet_nil ?_
              intro x
              have HX7 := Lib.hid (HX6.out.below x.below)
              have HY7 := Lib.hid (HY6.out.below x.below)
              have HR7 := Lib.hid (HR6.out.below x.below)
              have HW7 := Lib.hid (Below.via HW6.out x.below)
              have hcx := HY7.out.cell k (by omega)
              have hfx := HY7.out.free (1 + k)
              clear HX6 HY6 HR6 HW6
              go_wp2_with fail
              go_roundw
              case rel =>
                refine ⟨k + 1, G ++ [n], by omega, by go_num, HM, Lib.hid (HX7.out.other _ _ (by simp only; omega)), Lib.hid ((HY7.out.set k (by omega) n).congr fun i _ => (fourB_snoc G n k HGk.out i).symm), Lib.hid (HR7.out.other (fun a ha => by cases ha; simp only; omega) _), Lib.hid (HW7.out.setCell (by simp only; omega) _)⟩
              case measure => simp [intOf]; omega
            · have HF : Hid (F = none) := Lib.hid (by rw [HFL.out, if_pos HP.out]; exact HMI.out (by unfold decL; rw [hn]; simp only; rw [if_neg hq]))
              have hqb : (Lib.decDigits n == p) = false := by simpa using hq
              clear hn HG HTS HMI
              go_wp2_with fail
              refine Calls.mono (HNU.out wr) ?_
              rintro e w6 ⟨rfl, hb6⟩
              simp only [numV]
              have hcl2 := hb6.cell (p := ⟨g, off + k, none⟩) hg
              rw [hcl] at hcl2
              have hg6 : g < w6.heap.size := Nat.lt_of_lt_of_le hg hb6.size
              have HX6 := Lib.hid (HX.out.below hb6)
              have HY6 := Lib.hid (HY.out.below hb6)
              have HR6 := Lib.hid (HR1.out.below hb6)
              have HW6 := Lib.hid (Below.via HW.out hb6)
              clear hb6 HX HY HR1 HW hcl
              go_wp2_with fail
              refine wp_region_later (by kernel_rfl) (by kernel_rfl) ?_
              repeat go_big_quiet_step ((go_at_call 11; exact later_call (HD.out _)))
              refine wpQuiet_nil ?_
              intro x
              have HX7 := Lib.hid (HX6.out.below x.below)
              have HW7 := Lib.hid (Below.via HW6.out x.below)
              have hrr := HX7.out.row
              have HH := Lib.hid HX7.out.heap
              clear HX6 HW6
              go_wp2_with fail
              exact bodyPost_ret (v := .tuple #[adV false fun _ => 0, .int .i64 40]) (results_ad2 _ _ Tryz.underlying41 info_rad rfl _ _ w.heap.size (.int .i64 40) rfl rfl (partOf_set HH.out)) rfl (.mk (by rw [HR0.out HF.out]; rfl) (below_setRow HW7.out (Nat.le_refl _) _))
        · obtain rfl : k = 4 := by omega
          have HFF : Hid (F = some G) := Lib.hid (by
            have := HG.out
            rw [List.take_of_length_le (by rw [HP.out]; exact Nat.le_refl _)] at this
            rw [HFL.out, if_pos HP.out, this])
          have hpp := HY.out.part
          have hrr := HX.out.row
          have HH := Lib.hid HX.out.heap
          go_wp2_with fail
          exact bodyPost_ret (v := .tuple #[adV false (fourB G), .int .i64 0]) (results_ad2 _ _ Tryz.underlying41 info_rad rfl _ _ w.heap.size (.int .i64 0) rfl rfl (partOf_set HH.out)) rfl (.mk (by rw [HR.out _ HFF.out]; rfl) (below_setRow HW.out (Nat.le_refl _) _))
    · have h5 : ((P.length : Int) == 4) = false := by simp; omega
      have HF : Hid (F = none) := Lib.hid (by rw [HFL.out, if_neg h4])
      have hrr := HX.out.row
      have HH := Lib.hid HX.out.heap
      have hln := HPC.out
      have hln2 : ¬ ((P.length : Int) = 4) := by omega
      generalize P.length = nP at *
      go_wp2_with fail
      refine bodyPost_ret (v := .tuple #[adV false fun _ => 0, .int .i64 40]) (results_ad2 _ _ Tryz.underlying41 info_rad rfl _ _ w.heap.size (.int .i64 40) rfl rfl (partOf_set HH.out)) rfl (.mk (by rw [HR0.out HF.out]; rfl) (below_setRow HW.out (Nat.le_refl _) _))
end Go.Proofs.YtcadpcppnllhnaaGreatDoor
end
