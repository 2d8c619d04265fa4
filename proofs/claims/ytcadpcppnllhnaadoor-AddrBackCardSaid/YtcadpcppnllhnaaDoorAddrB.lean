/- Walks over texts: Digits, decimal. -/
import Derived.Test.YtcadpcppnllhnaaDoorAddrA
import Derived.Deep.QuietTactic
import Derived.BigQuiet
import Derived.Lib.AtoiAllCases
import Derived.Lib.AppendIntMem
set_option linter.unusedSimpArgs false
set_option linter.unusedVariables false
namespace Go.Proofs.YtcadpcppnllhnaaDoor
open Go.RowKit

/-- A digit's sign. -/
def hexc (d : Nat) : UInt8 := if d < 10 then UInt8.ofNat (48 + d) else UInt8.ofNat (87 + d)
/-- The digits of a number to a base. -/
def digB (b u : Nat) : List UInt8 := if h : u < b ∨ b < 2 then [hexc u] else digB b (u / b) ++ [hexc (u % b)]
termination_by u
decreasing_by exact Nat.div_lt_self (by omega) (by omega)
theorem digB_ten : ∀ (k u : Nat), u ≤ k → digB 10 u = Lib.decDigits u
  | 0, u, h => by
    obtain rfl : u = 0 := by omega
    rw [digB, dif_pos (by omega), Lib.decDigits, dif_pos (by omega)]; rfl
  | k + 1, u, h => by
    rw [digB, Lib.decDigits]
    by_cases hu : u < 10
    · rw [dif_pos (.inl hu), dif_pos hu, hexc, if_pos hu]
    · rw [dif_neg (by omega), dif_neg hu, digB_ten k (u / 10) (by omega), hexc, if_pos (by omega)]

theorem toList_data8 (s : ByteArray) : s.toList = s.data.toList := ByteArray.toList_eq s
theorem digB_len (b : Nat) : ∀ (k u : Nat), u ≤ k → (digB b u).length ≤ u + 1
  | 0, u, h => by
    obtain rfl : u = 0 := by omega
    rw [digB]; split
    · simp
    · rename_i h'; simp only [not_or, Nat.not_lt] at h'; omega
  | k + 1, u, h => by
    rw [digB]; split
    · simp
    · rename_i h'
      simp only [not_or, Nat.not_lt] at h'
      have hlt : u / b < u := Nat.div_lt_self (by omega) (by omega)
      have := digB_len b k (u / b) (by omega)
      rw [List.length_append, List.length_singleton]
      omega
theorem concat_small (a b : List UInt8) (ha : a.length ≤ 100000) (hb : b.length ≤ 100000) (w : World) : (binOp .add 9 (.string ⟨a.toArray⟩) (.string ⟨b.toArray⟩)).run Tryd.prog w = .ok (.string ⟨(a ++ b).toArray⟩) w := by
  have e : (⟨a.toArray⟩ : ByteArray) ++ ⟨b.toArray⟩ = ⟨(a ++ b).toArray⟩ := by
    apply ByteArray.ext
    simp
  have h := run_string_add_sum (P := Tryd.prog) w ⟨a.toArray⟩ ⟨b.toArray⟩ (by simp [ByteArray.size]; omega)
  rw [e] at h
  simpa [binOp] using h
theorem slice_digit0 (w : World) : (Instr.slice 9 (.string ⟨#[48, 49, 50, 51, 52, 53, 54, 55, 56, 57, 97, 98, 99, 100, 101, 102]⟩) (some (.int .i64 ((0 : Nat) : Int))) (some (.int .i64 (((0 : Nat) : Int) + 1))) none).run Tryd.prog w = .ok (.string ⟨#[hexc 0]⟩) w := by kernel_rfl
theorem slice_digit1 (w : World) : (Instr.slice 9 (.string ⟨#[48, 49, 50, 51, 52, 53, 54, 55, 56, 57, 97, 98, 99, 100, 101, 102]⟩) (some (.int .i64 ((1 : Nat) : Int))) (some (.int .i64 (((1 : Nat) : Int) + 1))) none).run Tryd.prog w = .ok (.string ⟨#[hexc 1]⟩) w := by kernel_rfl
theorem slice_digit2 (w : World) : (Instr.slice 9 (.string ⟨#[48, 49, 50, 51, 52, 53, 54, 55, 56, 57, 97, 98, 99, 100, 101, 102]⟩) (some (.int .i64 ((2 : Nat) : Int))) (some (.int .i64 (((2 : Nat) : Int) + 1))) none).run Tryd.prog w = .ok (.string ⟨#[hexc 2]⟩) w := by kernel_rfl
theorem slice_digit3 (w : World) : (Instr.slice 9 (.string ⟨#[48, 49, 50, 51, 52, 53, 54, 55, 56, 57, 97, 98, 99, 100, 101, 102]⟩) (some (.int .i64 ((3 : Nat) : Int))) (some (.int .i64 (((3 : Nat) : Int) + 1))) none).run Tryd.prog w = .ok (.string ⟨#[hexc 3]⟩) w := by kernel_rfl
theorem slice_digit4 (w : World) : (Instr.slice 9 (.string ⟨#[48, 49, 50, 51, 52, 53, 54, 55, 56, 57, 97, 98, 99, 100, 101, 102]⟩) (some (.int .i64 ((4 : Nat) : Int))) (some (.int .i64 (((4 : Nat) : Int) + 1))) none).run Tryd.prog w = .ok (.string ⟨#[hexc 4]⟩) w := by kernel_rfl
theorem slice_digit5 (w : World) : (Instr.slice 9 (.string ⟨#[48, 49, 50, 51, 52, 53, 54, 55, 56, 57, 97, 98, 99, 100, 101, 102]⟩) (some (.int .i64 ((5 : Nat) : Int))) (some (.int .i64 (((5 : Nat) : Int) + 1))) none).run Tryd.prog w = .ok (.string ⟨#[hexc 5]⟩) w := by kernel_rfl
theorem slice_digit6 (w : World) : (Instr.slice 9 (.string ⟨#[48, 49, 50, 51, 52, 53, 54, 55, 56, 57, 97, 98, 99, 100, 101, 102]⟩) (some (.int .i64 ((6 : Nat) : Int))) (some (.int .i64 (((6 : Nat) : Int) + 1))) none).run Tryd.prog w = .ok (.string ⟨#[hexc 6]⟩) w := by kernel_rfl
theorem slice_digit7 (w : World) : (Instr.slice 9 (.string ⟨#[48, 49, 50, 51, 52, 53, 54, 55, 56, 57, 97, 98, 99, 100, 101, 102]⟩) (some (.int .i64 ((7 : Nat) : Int))) (some (.int .i64 (((7 : Nat) : Int) + 1))) none).run Tryd.prog w = .ok (.string ⟨#[hexc 7]⟩) w := by kernel_rfl
theorem slice_digit8 (w : World) : (Instr.slice 9 (.string ⟨#[48, 49, 50, 51, 52, 53, 54, 55, 56, 57, 97, 98, 99, 100, 101, 102]⟩) (some (.int .i64 ((8 : Nat) : Int))) (some (.int .i64 (((8 : Nat) : Int) + 1))) none).run Tryd.prog w = .ok (.string ⟨#[hexc 8]⟩) w := by kernel_rfl
theorem slice_digit9 (w : World) : (Instr.slice 9 (.string ⟨#[48, 49, 50, 51, 52, 53, 54, 55, 56, 57, 97, 98, 99, 100, 101, 102]⟩) (some (.int .i64 ((9 : Nat) : Int))) (some (.int .i64 (((9 : Nat) : Int) + 1))) none).run Tryd.prog w = .ok (.string ⟨#[hexc 9]⟩) w := by kernel_rfl
theorem slice_digit10 (w : World) : (Instr.slice 9 (.string ⟨#[48, 49, 50, 51, 52, 53, 54, 55, 56, 57, 97, 98, 99, 100, 101, 102]⟩) (some (.int .i64 ((10 : Nat) : Int))) (some (.int .i64 (((10 : Nat) : Int) + 1))) none).run Tryd.prog w = .ok (.string ⟨#[hexc 10]⟩) w := by kernel_rfl
theorem slice_digit11 (w : World) : (Instr.slice 9 (.string ⟨#[48, 49, 50, 51, 52, 53, 54, 55, 56, 57, 97, 98, 99, 100, 101, 102]⟩) (some (.int .i64 ((11 : Nat) : Int))) (some (.int .i64 (((11 : Nat) : Int) + 1))) none).run Tryd.prog w = .ok (.string ⟨#[hexc 11]⟩) w := by kernel_rfl
theorem slice_digit12 (w : World) : (Instr.slice 9 (.string ⟨#[48, 49, 50, 51, 52, 53, 54, 55, 56, 57, 97, 98, 99, 100, 101, 102]⟩) (some (.int .i64 ((12 : Nat) : Int))) (some (.int .i64 (((12 : Nat) : Int) + 1))) none).run Tryd.prog w = .ok (.string ⟨#[hexc 12]⟩) w := by kernel_rfl
theorem slice_digit13 (w : World) : (Instr.slice 9 (.string ⟨#[48, 49, 50, 51, 52, 53, 54, 55, 56, 57, 97, 98, 99, 100, 101, 102]⟩) (some (.int .i64 ((13 : Nat) : Int))) (some (.int .i64 (((13 : Nat) : Int) + 1))) none).run Tryd.prog w = .ok (.string ⟨#[hexc 13]⟩) w := by kernel_rfl
theorem slice_digit14 (w : World) : (Instr.slice 9 (.string ⟨#[48, 49, 50, 51, 52, 53, 54, 55, 56, 57, 97, 98, 99, 100, 101, 102]⟩) (some (.int .i64 ((14 : Nat) : Int))) (some (.int .i64 (((14 : Nat) : Int) + 1))) none).run Tryd.prog w = .ok (.string ⟨#[hexc 14]⟩) w := by kernel_rfl
theorem slice_digit15 (w : World) : (Instr.slice 9 (.string ⟨#[48, 49, 50, 51, 52, 53, 54, 55, 56, 57, 97, 98, 99, 100, 101, 102]⟩) (some (.int .i64 ((15 : Nat) : Int))) (some (.int .i64 (((15 : Nat) : Int) + 1))) none).run Tryd.prog w = .ok (.string ⟨#[hexc 15]⟩) w := by kernel_rfl
theorem slice_digit (d : Nat) (h : d < 16) (w : World) : (Instr.slice 9 (.string ⟨#[48, 49, 50, 51, 52, 53, 54, 55, 56, 57, 97, 98, 99, 100, 101, 102]⟩) (some (.int .i64 (d : Int))) (some (.int .i64 ((d : Int) + 1))) none).run Tryd.prog w = .ok (.string ⟨#[hexc d]⟩) w := by
  have : d = 0 ∨ d = 1 ∨ d = 2 ∨ d = 3 ∨ d = 4 ∨ d = 5 ∨ d = 6 ∨ d = 7 ∨ d = 8 ∨ d = 9 ∨ d = 10 ∨ d = 11 ∨ d = 12 ∨ d = 13 ∨ d = 14 ∨ d = 15 := by omega
  rcases this with rfl | rfl | rfl | rfl | rfl | rfl | rfl | rfl | rfl | rfl | rfl | rfl | rfl | rfl | rfl | rfl
  · exact slice_digit0 w
  · exact slice_digit1 w
  · exact slice_digit2 w
  · exact slice_digit3 w
  · exact slice_digit4 w
  · exact slice_digit5 w
  · exact slice_digit6 w
  · exact slice_digit7 w
  · exact slice_digit8 w
  · exact slice_digit9 w
  · exact slice_digit10 w
  · exact slice_digit11 w
  · exact slice_digit12 w
  · exact slice_digit13 w
  · exact slice_digit14 w
  · exact slice_digit15 w
theorem val_string {a b : ByteArray} (h : a = b) : Value.string a = .string b := by rw [h]
theorem bytes_append (l r : List UInt8) : (⟨l.toArray⟩ : ByteArray) ++ ⟨r.toArray⟩ = ⟨(l ++ r).toArray⟩ := by
  apply ByteArray.ext
  simp

set_option maxHeartbeats 1000000 in
theorem digits10_any (k : Nat) : ∀ (m : Int) (w : World), 0 ≤ m → m < 65536 → m ≤ k → Calls Tryd.prog 36 #[.int .i64 m, .int .i64 10] w (RetAt w (.string ⟨(digB 10 m.toNat).toArray⟩)) := by
  induction k with
  | zero =>
    intro m w h0 h1 hk
    obtain rfl : m = 0 := by omega
    have hsl := slice_digit 0 (by decide)
    go_enter Tryd.func36, Tryd.ntmps36
    go_wp2_with fail
    go_ret
    exact .mk (val_string (by decide +kernel)) (Below.refl _ _)
  | succ k ih =>
    intro m w h0 h1 hk
    by_cases hm : m < 10
    · obtain ⟨d, rfl⟩ : ∃ d : Nat, m = d := ⟨m.toNat, by omega⟩
      have hsl := slice_digit d (by omega)
      clear ih
      go_enter Tryd.func36, Tryd.ntmps36
      go_wp2_with fail
      go_ret
      refine .mk (val_string ?_) (Below.refl _ _)
      rw [Int.toNat_natCast, digB, dif_pos (by omega)]
    · have IH := Lib.hid ih
      have q1 : m.tdiv 10 = m / 10 := Int.tdiv_eq_ediv_of_nonneg h0
      have q2 : m.tmod 10 = m % 10 := Int.tmod_eq_emod_of_nonneg h0
      have q3 : IntKind.i64.wrap (m / 10) = m / 10 := IntWalk.i64_in _ (by omega)
      have q4 : IntKind.i64.wrap (m % 10) = m % 10 := IntWalk.i64_in _ (by omega)
      have hl1 : (digB 10 (m / 10).toNat).length ≤ 100000 := by have := digB_len 10 _ _ (Nat.le_refl (m / 10).toNat); omega
      have hl2 : (digB 10 (m % 10).toNat).length ≤ 100000 := by have := digB_len 10 _ _ (Nat.le_refl (m % 10).toNat); omega
      have hl3 : (digB 10 (m / 10).toNat).length + (digB 10 (m % 10).toNat).length ≤ 9223372036854775807 := by omega
      have hl4 : ((digB 10 (m / 10).toNat).length : Int) + ((digB 10 (m % 10).toNat).length : Int) ≤ 9223372036854775807 := by omega
      have hcat := concat_small (digB 10 (m / 10).toNat) (digB 10 (m % 10).toNat) (by have := digB_len 10 _ _ (Nat.le_refl (m / 10).toNat); omega) (by have := digB_len 10 _ _ (Nat.le_refl (m % 10).toNat); omega)
      clear ih
      go_enter Tryd.func36, Tryd.ntmps36
      go_wp2_with fail
      refine wp_region_later (by kernel_rfl) (by kernel_rfl) ?_
      iterate 4 go_big_quiet_step (fail)
      go_big_quiet_step ((go_at_call 36; exact later_call (IH.out (m / 10) _ (by omega) (by omega) (by omega))))
      iterate 4 go_big_quiet_step (fail)
      go_big_quiet_step ((go_at_call 36; exact later_call (IH.out (m % 10) _ (by omega) (by omega) (by omega))))
      repeat go_big_quiet_step (fail)
      refine wpQuiet_nil ?_
      intro x
      go_wp2_with fail
      go_ret
      refine .mk (val_string ?_) x.below
      have e1 : m.toNat / 10 = (m / 10).toNat := by omega
      have e2 : m.toNat % 10 = (m % 10).toNat := by omega
      rw [digB.eq_def 10 m.toNat, dif_neg (by omega), e1, e2, digB.eq_def 10 (m % 10).toNat, dif_pos (by omega)]
      exact bytes_append _ [_]

/-- The program's decimal number: the number, and whether the text is just its digits. -/
def DecPost (w : World) (most : Nat) (l : List UInt8) : Ending → World → Prop := fun e w' => ∃ (n : Int) (ok : Bool), e = .returned (.tuple #[.int .i64 n, .bool ok]) ∧ -9223372036854775808 ≤ n ∧ n ≤ 9223372036854775807 ∧ ((ok = true ∧ 0 ≤ n ∧ decL most l = some n.toNat) ∨ (ok = false ∧ decL most l = none)) ∧ Below w.heap.size w w'

theorem bytesWorld_below (w : World) (s : ByteArray) : Below w.heap.size w (Lib.bytesWorld w 5 s) := by
  exact Joins.below_bytesWorld _ _ _ _ (Nat.le_refl _)

theorem DecPost.no {w w' : World} {most : Nat} {l : List UInt8} {n : Int} {b : Bool} (h : decL most l = none) (hb : b = false) (h1 : -9223372036854775808 ≤ n) (h2 : n ≤ 9223372036854775807) (hw : Below w.heap.size w w') : DecPost w most l (.returned (.tuple #[.int .i64 n, .bool b])) w' :=
  ⟨n, b, rfl, h1, h2, .inr ⟨hb, h⟩, hw⟩
theorem atoiSat_bd (l : List UInt8) : -9223372036854775808 ≤ Lib.atoiSat l ∧ Lib.atoiSat l ≤ 9223372036854775807 := by
  unfold Lib.atoiSat; split <;> decide

set_option maxHeartbeats 2000000 in
theorem decimal_any (s : ByteArray) (most : Nat) (hmost : most ≤ 1000000) (hs : s.size ≤ 1000) (w : World) (henv : Env w) : Calls Tryd.prog 38 #[.string s, .int .i64 most] w (DecPost w most s.data.toList) := by
  have hd := decL_atoi most hmost s.data.toList
  have HE := Lib.hid henv
  clear henv
  cases hv : Lib.atoiAll s.data.toList with
  | ok v =>
    rw [hv] at hd
    simp only at hd
    have hat := Lib.hid (fun w => Tryd.strconv_Atoi_ok s (by omega) v hv w)
    have hvb : -9223372036854775808 ≤ v ∧ v ≤ 9223372036854775807 := Lib.atoiAll_bounds hv
    clear hv
    by_cases h0 : 0 ≤ v
    · by_cases h1 : v < most
      · have HD := Lib.hid hd
        clear hd
        go_enter Tryd.func38, Tryd.ntmps38
        go_wp2_with fail
        refine Calls.mono (hat.out w) ?_
        rintro e w1 ⟨rfl, hw⟩
        have hb : Below w.heap.size w w1 := by
          rcases hw with rfl | ⟨t, rfl⟩
          · exact Below.refl _ _
          · exact bytesWorld_below _ _
        clear hw
        go_wp2_with fail
        refine Calls.mono (Tryd.strconv_Itoa v hvb.1 hvb.2 w1 (HE.out.below hb).tab) ?_
        rintro e w2 ⟨rfl, hw⟩
        have hb2 : Below w.heap.size w w2 := by
          obtain ⟨k, os, rfl⟩ := hw
          exact hb.trans (Lib.below_grow _ _ hb.size _ _)
        clear hw
        go_wp2_with fail
        go_ret2
        refine ⟨v, _, rfl, hvb.1, hvb.2, ?_, hb2⟩
        have hdd := HD.out
        by_cases h2 : Lib.itoa v = s.data.toList
        · rw [if_pos ⟨h0, h1, h2⟩] at hdd
          refine .inl ⟨?_, h0, hdd⟩
          have h3 : Lib.itoa v = s.toList := by rw [h2, toList_data8]
          simp [h3]
        · rw [if_neg (by simp [h2])] at hdd
          refine .inr ⟨?_, hdd⟩
          have h3 : ¬ Lib.itoa v = s.toList := fun e => h2 (by rw [e, toList_data8])
          simpa using h3
      · have hn : decL most s.data.toList = none := by rw [hd, if_neg (by omega)]
        have HD := Lib.hid hn
        clear hd hn
        go_enter Tryd.func38, Tryd.ntmps38
        go_wp2_with fail
        refine Calls.mono (hat.out w) ?_
        rintro e w1 ⟨rfl, hw⟩
        have hb : Below w.heap.size w w1 := by
          rcases hw with rfl | ⟨t, rfl⟩
          · exact Below.refl _ _
          · exact bytesWorld_below _ _
        clear hw
        go_wp2_with fail
        go_ret2
        exact .no HD.out rfl hvb.1 hvb.2 hb
    · have hn : decL most s.data.toList = none := by rw [hd, if_neg (by omega)]
      have HD := Lib.hid hn
      clear hd hn
      go_enter Tryd.func38, Tryd.ntmps38
      go_wp2_with fail
      refine Calls.mono (hat.out w) ?_
      rintro e w1 ⟨rfl, hw⟩
      have hb : Below w.heap.size w w1 := by
        rcases hw with rfl | ⟨t, rfl⟩
        · exact Below.refl _ _
        · exact bytesWorld_below _ _
      clear hw
      go_wp2_with fail
      go_ret2
      exact .no HD.out rfl hvb.1 hvb.2 hb
  | range =>
    rw [hv] at hd
    obtain ⟨te, pe, hev⟩ := HE.out.rng
    have hat := Lib.hid (Tryd.strconv_Atoi_range s (by omega) hv _ w hev (.inr ⟨te, pe, rfl⟩))
    have HD := Lib.hid hd
    have hsb := atoiSat_bd s.data.toList
    clear hd hv hev
    generalize Lib.atoiSat s.data.toList = sat at *
    go_enter Tryd.func38, Tryd.ntmps38
    go_wp2_with fail
    refine Calls.mono hat.out ?_
    rintro e w1 ⟨N, rfl, -, -, hb⟩
    go_wp2_with fail
    go_ret2
    exact .no HD.out rfl hsb.1 hsb.2 hb
  | _ =>
    rw [hv] at hd
    obtain ⟨te, pe, hev⟩ := HE.out.syn
    have hat := Lib.hid (Tryd.strconv_Atoi_syntax s (by omega) hv _ w hev (.inr ⟨te, pe, rfl⟩))
    have HD := Lib.hid hd
    clear hd hv hev
    go_enter Tryd.func38, Tryd.ntmps38
    go_wp2_with fail
    refine Calls.mono hat.out ?_
    rintro e w1 ⟨N, rfl, -, -, hb⟩
    go_wp2_with fail
    go_ret2
    exact .no HD.out rfl (by decide) (by decide) hb
end Go.Proofs.YtcadpcppnllhnaaDoor
