/- Walks over texts: internal/strconv.ParseUint at base 16, 16 bits. -/
import Derived.Test.YtcadpcppnllhnaaDoorAddrD
import Derived.Lib.ParseIntBMem
import Derived.Laws.Closers25
import Derived.Laws.Closers25b
import Derived.BigCall
import Derived.BigGuard
set_option linter.unusedSimpArgs false
set_option linter.unusedVariables false
namespace Go.Proofs.YtcadpcppnllhnaaDoor
open Go.RowKit

/-- What tells that a text is no number. -/
def badNum : Lib.NumEnd Nat := Lib.parseUintB 64 []
theorem badNum_match : (match badNum with | .ok n => some n | _ => none : Option Nat) = none := rfl
theorem badNum_ok (n : Nat) : badNum ≠ .ok n := fun h => by
  have h2 : (match badNum with | .ok n => some n | _ => none : Option Nat) = some n := by rw [h]
  rw [badNum_match] at h2
  cases h2
/-- ParseUint(s, 16, 16), behind what was told. -/
def hexEnd (acc : Nat) : List UInt8 → Lib.NumEnd Nat
  | [] => .ok acc
  | c :: r => if 16 ≤ digitN c then badNum else if 65535 < acc * 16 + digitN c then .range else hexEnd (acc * 16 + digitN c) r
theorem hexEnd_numL : ∀ (l : List UInt8) (acc : Nat), numL 16 65536 acc l = match hexEnd acc l with | .ok n => some n | _ => none
  | [], acc => rfl
  | c :: r, acc => by
    rw [numL, hexEnd]
    by_cases h1 : 16 ≤ digitN c
    · rw [if_pos (.inl h1), if_pos h1]; rfl
    · by_cases h2 : 65535 < acc * 16 + digitN c
      · rw [if_pos (.inr (by omega)), if_neg h1, if_pos h2]
      · rw [if_neg (by omega), if_neg h1, if_neg h2, hexEnd_numL r]
theorem low_up : ∀ n : Nat, n < 256 → 65 ≤ n → n ≤ 70 → bits .or .u8 (n : Int) 32 = (n : Int) + 32 := by decide +kernel
theorem low_low : ∀ n : Nat, n < 256 → 97 ≤ n → n ≤ 102 → bits .or .u8 (n : Int) 32 = (n : Int) := by decide +kernel
theorem low_other : ∀ n : Nat, n < 256 → ¬ (65 ≤ n ∧ n ≤ 70) → ¬ (97 ≤ n ∧ n ≤ 102) → bits .or .u8 (n : Int) 32 < 97 ∨ 103 ≤ bits .or .u8 (n : Int) 32 := by decide +kernel

set_option maxHeartbeats 32000000 in
set_option maxRecDepth 100000 in
theorem parse16_in (t : ByteArray) (hne : t.size ≠ 0) (hmax : t.size ≤ 1000) (w : World) :
    Calls Tryd.prog 83 #[.string t, .int .i64 16, .int .i64 16] w fun e w' => e = .returned (Lib.uintTupleM 122 65535 (hexEnd 0 t.data.toList)) ∧ w' = Lib.bytesWorld w 5 t := by
  have hemp : t.toList.isEmpty = false := by
    rw [← decide_eq_emptyBytes]
    exact decide_eq_false (fun h => hne (by rw [h]; rfl))
  have hcv := Lib.run_convert_string_bytes (P := Tryd.prog) w 9 43 5 t (u := .string) Tryd.underlying9 Tryd.underlying43 Tryd.underlying5
  have hB : ∀ j, j < t.size → (Lib.bytesWorld w 5 t).cell? ⟨w.heap.size, j, none⟩ = some (.int .u8 (t.data.toList.getD j 0).toNat) := fun j hj => Lib.bytesWorld_cell w 5 t j hj
  obtain ⟨W1, hW1⟩ : ∃ W1, W1 = Lib.bytesWorld w 5 t := ⟨_, rfl⟩
  rw [← hW1] at hcv hB ⊢
  clear hW1
  obtain ⟨bs, hL⟩ : ∃ bs, bs = t.data.toList := ⟨_, rfl⟩
  have hLn : bs.length = t.size := by rw [hL, Lib.size_eq]
  rw [← hL] at hB ⊢
  clear hL
  have hmv : IntKind.u64.wrap (IntKind.u64.wrap 65536 - 1) = 65535 := by
    rw [IntKind.wrap_u64, IntKind.wrap_u64]
    decide
  go_enter Tryd.func83, Tryd.ntmps83
  go_wp2_with fail
  go_loopw [12, 13, 101] (fun vu vn vi wr => ∃ (k acc : Nat) (a : Int), vu = .bool false ∧ vn = .int .u64 a ∧ vi = .int .i64 k ∧ k ≤ t.size ∧ Hid (a = (acc : Int) ∧ acc ≤ 65535 ∧ hexEnd 0 bs = hexEnd acc (bs.drop k)) ∧ wr = W1)
    (fun _ _ vi _ => t.size - (intOf vi).toNat)
  case atStart => exact ⟨0, 0, 0, rfl, rfl, rfl, by omega, ⟨rfl, by omega, rfl⟩, rfl⟩
  case round =>
    obtain ⟨k, acc, a, rfl, rfl, rfl, hk, hh, rfl⟩ := hrel
    obtain ⟨ha, hacc, hdec⟩ := hh.out
    clear hh
    have a0 : 0 ≤ a := by omega
    have a1 : a ≤ 65535 := by omega
    by_cases hkn : k < t.size
    · have hc := hB k hkn
      have hdrop : bs.drop k = bs[k]'(by omega) :: bs.drop (k + 1) := List.drop_eq_getElem_cons (by omega)
      have hget : bs.getD k 0 = bs[k]'(by omega) := by simp [List.getD, List.getElem?_eq_getElem (show k < bs.length by omega)]
      rw [hdrop] at hdec
      rw [hget] at hc
      generalize bs[k]'(by omega) = c at hc hdec
      have hc256 : c.toNat < 256 := c.toNat_lt
      clear hB hdrop hget
      have hdN : digitN c = if 65 ≤ c.toNat ∧ c.toNat ≤ 70 then c.toNat - 55 else if 97 ≤ c.toNat ∧ c.toNat ≤ 102 then c.toNat - 87 else if 48 ≤ c.toNat ∧ c.toNat ≤ 57 then c.toNat - 48 else 99 := rfl
      have hstep : ∀ d, digitN c = d → d < 16 → hexEnd 0 bs = if 65535 < acc * 16 + d then .range else hexEnd (acc * 16 + d) (bs.drop (k + 1)) := by
        intro d h1 h2
        rw [hdec, hexEnd, h1, if_neg (by omega)]
      have hsyn : 16 ≤ digitN c → hexEnd 0 bs = badNum := by
        intro h1
        rw [hdec, hexEnd, if_pos h1]
      clear hdec
      have hlo := low_other c.toNat hc256
      have hup := low_up c.toNat hc256
      have hlw := low_low c.toNat hc256
      by_cases hdig : 48 ≤ c.toNat ∧ c.toNat ≤ 57
      · obtain ⟨hd0, hd1⟩ := hdig
        have hs := hstep (c.toNat - 48) (by rw [hdN, if_neg (by omega), if_neg (by omega), if_pos ⟨hd0, hd1⟩]) (by omega)
        clear hstep hsyn hdN hlo hup hlw
        by_cases hov : 65535 < acc * 16 + (c.toNat - 48)
        · rw [if_pos hov] at hs
          have iov : 65535 < a * 16 + ((c.toNat : Int) - 48) := by omega
          have HS := Lib.hid hs
          clear hov ha hacc hs
          go_wp2_with fail
          go_ret2
          exact ⟨by rw [HS.out]; rfl, rfl⟩
        · rw [if_neg hov] at hs
          have HN : Hid (a * 16 + ((c.toNat : Int) - 48) = ((acc * 16 + (c.toNat - 48) : Nat) : Int) ∧ acc * 16 + (c.toNat - 48) ≤ 65535 ∧ hexEnd 0 bs = hexEnd (acc * 16 + (c.toNat - 48)) (bs.drop (k + 1))) := Lib.hid ⟨by omega, by omega, hs⟩
          have iov : a * 16 + ((c.toNat : Int) - 48) ≤ 65535 := by omega
          clear hov ha hacc hs
          go_wp2_with fail
          go_roundw
          case rel => exact ⟨k + 1, acc * 16 + (c.toNat - 48), a * 16 + ((c.toNat : Int) - 48), rfl, (by first | rfl | (congr 1; omega)), (by first | rfl | (congr 1; omega)), by omega, HN, trivial⟩
          case measure => simp [intOf]; omega
      · by_cases hU : 65 ≤ c.toNat ∧ c.toNat ≤ 70
        · obtain ⟨hd0, hd1⟩ := hU
          have hs := hstep (c.toNat - 55) (by rw [hdN, if_pos ⟨hd0, hd1⟩]) (by omega)
          have hv := hup hd0 hd1
          have hlc : ∀ w, Calls Tryd.prog 104 #[.int .u8 (c.toNat : Int)] w fun e w' => e = .returned (.int .u8 ((c.toNat : Int) + 32)) ∧ w' = w := fun w => by rw [← hv]; exact Tryd.internal_strconv_lower _ _
          clear hstep hsyn hdN hlo hup hlw hdig hv
          by_cases hov : 65535 < acc * 16 + (c.toNat - 55)
          · rw [if_pos hov] at hs
            have iov : 65535 < a * 16 + ((c.toNat : Int) - 55) := by omega
            have HS := Lib.hid hs
            clear hov ha hacc hs
            go_wp2_with (go_at_call 104; refine (hlc _).mono ?_; rintro e w' ⟨rfl, rfl⟩)
            go_ret2
            exact ⟨by rw [HS.out]; rfl, rfl⟩
          · rw [if_neg hov] at hs
            have HN : Hid (a * 16 + ((c.toNat : Int) - 55) = ((acc * 16 + (c.toNat - 55) : Nat) : Int) ∧ acc * 16 + (c.toNat - 55) ≤ 65535 ∧ hexEnd 0 bs = hexEnd (acc * 16 + (c.toNat - 55)) (bs.drop (k + 1))) := Lib.hid ⟨by omega, by omega, hs⟩
            have iov : a * 16 + ((c.toNat : Int) - 55) ≤ 65535 := by omega
            clear hov ha hacc hs
            go_wp2_with (go_at_call 104; refine (hlc _).mono ?_; rintro e w' ⟨rfl, rfl⟩)
            go_roundw
            case rel => exact ⟨k + 1, acc * 16 + (c.toNat - 55), a * 16 + ((c.toNat : Int) - 55), rfl, (by first | rfl | (congr 1; omega)), (by first | rfl | (congr 1; omega)), by omega, HN, trivial⟩
            case measure => simp [intOf]; omega
        · by_cases hL : 97 ≤ c.toNat ∧ c.toNat ≤ 102
          · obtain ⟨hd0, hd1⟩ := hL
            have hs := hstep (c.toNat - 87) (by rw [hdN, if_neg hU, if_pos ⟨hd0, hd1⟩]) (by omega)
            have hv := hlw hd0 hd1
            have hlc : ∀ w, Calls Tryd.prog 104 #[.int .u8 (c.toNat : Int)] w fun e w' => e = .returned (.int .u8 (c.toNat : Int)) ∧ w' = w := fun w => by
              have h := Tryd.internal_strconv_lower (c.toNat : Int) w
              rw [hv] at h; exact h
            clear hstep hsyn hdN hlo hup hlw hdig hv hU
            by_cases hov : 65535 < acc * 16 + (c.toNat - 87)
            · rw [if_pos hov] at hs
              have iov : 65535 < a * 16 + ((c.toNat : Int) - 87) := by omega
              have HS := Lib.hid hs
              clear hov ha hacc hs
              go_wp2_with (go_at_call 104; refine (hlc _).mono ?_; rintro e w' ⟨rfl, rfl⟩)
              go_ret2
              exact ⟨by rw [HS.out]; rfl, rfl⟩
            · rw [if_neg hov] at hs
              have HN : Hid (a * 16 + ((c.toNat : Int) - 87) = ((acc * 16 + (c.toNat - 87) : Nat) : Int) ∧ acc * 16 + (c.toNat - 87) ≤ 65535 ∧ hexEnd 0 bs = hexEnd (acc * 16 + (c.toNat - 87)) (bs.drop (k + 1))) := Lib.hid ⟨by omega, by omega, hs⟩
              have iov : a * 16 + ((c.toNat : Int) - 87) ≤ 65535 := by omega
              clear hov ha hacc hs
              go_wp2_with (go_at_call 104; refine (hlc _).mono ?_; rintro e w' ⟨rfl, rfl⟩)
              go_roundw
              case rel => exact ⟨k + 1, acc * 16 + (c.toNat - 87), a * 16 + ((c.toNat : Int) - 87), rfl, (by first | rfl | (congr 1; omega)), (by first | rfl | (congr 1; omega)), by omega, HN, trivial⟩
              case measure => simp [intOf]; omega
          · have HS := Lib.hid (hsyn (by rw [hdN, if_neg hU, if_neg hL, if_neg hdig]; decide))
            have hlo' := hlo hU hL
            have hv0 := bits_lo_u8 .or (c.toNat : Int) 32
            have hv1 := bits_hi_u8 .or (c.toNat : Int) 32
            have hlc : ∀ w, Calls Tryd.prog 104 #[.int .u8 (c.toNat : Int)] w fun e w' => e = .returned (.int .u8 (bits .or .u8 (c.toNat : Int) 32)) ∧ w' = w := fun w => Tryd.internal_strconv_lower _ _
            have hd' : (c.toNat : Int) < 48 ∨ 57 < (c.toNat : Int) := by omega
            have hci0 : (0 : Int) ≤ (c.toNat : Int) := by omega
            have hci1 : (c.toNat : Int) ≤ 255 := by omega
            clear hstep hsyn hdN hlo hup hlw hU hL hdig hc256 ha hacc
            generalize bits .or .u8 (c.toNat : Int) 32 = v at *
            generalize (c.toNat : Int) = ci at *
            by_cases h95 : ci = 95
            all_goals try subst h95
            all_goals rcases hlo' with hl | hl
            all_goals rcases hd' with hd | hd
            all_goals try (exfalso; omega)
            all_goals by_cases hz : v ≤ 122
            all_goals try (exfalso; omega)
            all_goals go_wp2_with (go_at_call 104; refine (hlc _).mono ?_; rintro e w' ⟨rfl, rfl⟩)
            all_goals go_ret2
            all_goals exact ⟨by rw [HS.out]; rfl, rfl⟩
    · have hkk : k = t.size := by omega
      subst hkk
      have hF : hexEnd acc (bs.drop t.size) = .ok acc := by rw [List.drop_eq_nil_of_le (by omega)]; rfl
      rw [hF] at hdec
      subst ha
      have HS := Lib.hid hdec
      clear hacc hF a0 a1 hdec
      go_wp2_with fail
      go_ret2
      exact ⟨by rw [HS.out]; rfl, rfl⟩
end Go.Proofs.YtcadpcppnllhnaaDoor
