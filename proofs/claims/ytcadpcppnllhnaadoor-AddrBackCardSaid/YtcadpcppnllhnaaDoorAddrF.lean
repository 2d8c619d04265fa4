/- Walks over texts: strconv.ParseUint at base 16, 16 bits; digit; IndexFunc over what is no digit. -/
import Derived.Test.YtcadpcppnllhnaaDoorAddrE
set_option linter.unusedSimpArgs false
set_option linter.unusedVariables false
namespace Go.Proofs.YtcadpcppnllhnaaDoor
open Go.RowKit

/-- A call that returns a number, or an error. -/
def UintPost (w : World) (o : Option Nat) : Ending → World → Prop := fun e w' => ∃ (u : Int) (er : Value), e = .returned (.tuple #[.int .u64 u, er]) ∧ 0 ≤ u ∧ u ≤ 65535 ∧
  ((∃ n : Nat, o = some n ∧ u = n ∧ er = .nilIface) ∨ (o = none ∧ ∃ te pe, er = .iface te pe)) ∧ Below w.heap.size w w'

theorem parse16_all (t : ByteArray) (hmax : t.size ≤ 1000) (w : World) :
    Calls Tryd.prog 83 #[.string t, .int .i64 16, .int .i64 16] w fun e w' => e = .returned (Lib.uintTupleM 122 65535 (if t.size = 0 then badNum else hexEnd 0 t.data.toList)) ∧ Below w.heap.size w w' := by
  by_cases h : t.size = 0
  · obtain rfl : t = ⟨#[]⟩ := by
      cases t; rename_i d
      have : d.size = 0 := h
      rw [Array.eq_empty_of_size_eq_zero this]
    refine (Tryd.internal_strconv_ParseUint_empty 16 16 w).mono ?_
    rintro e w' ⟨rfl, rfl⟩
    exact ⟨rfl, Below.refl _ _⟩
  · refine (parse16_in t h hmax w).mono ?_
    rintro e w' ⟨rfl, rfl⟩
    exact ⟨by rw [if_neg h], bytesWorld_below _ _⟩

theorem hexEnd_le : ∀ (l : List UInt8) (acc n : Nat), acc ≤ 65535 → hexEnd acc l = .ok n → n ≤ 65535
  | [], acc, n, h, e => by simp only [hexEnd, Lib.NumEnd.ok.injEq] at e; omega
  | c :: r, acc, n, h, e => by
    rw [hexEnd] at e
    split at e
    · exact absurd e (badNum_ok n)
    · split at e
      · cases e
      · exact hexEnd_le r _ n (by omega) e

set_option maxHeartbeats 4000000 in
theorem ParseUint_any (t : ByteArray) (hmax : t.size ≤ 1000) (w : World) (henv : Env w) :
    Calls Tryd.prog 65 #[.string t, .int .i64 16, .int .i64 16] w (UintPost w (numberL 16 65536 t.data.toList)) := by
  have HE := Lib.hid henv
  clear henv
  have hnum : numberL 16 65536 t.data.toList = match (if t.size = 0 then badNum else hexEnd 0 t.data.toList) with | .ok n => some n | _ => none := by
    have hl : t.data.toList.length = t.size := by rw [Array.length_toList, ByteArray.size_data]
    rw [numberL]
    by_cases h : t.size = 0
    · rw [if_pos h, if_pos (List.length_eq_zero_iff.1 (by omega))]; rfl
    · rw [if_neg h, if_neg (fun e => h (by rw [← hl, e]; rfl)), hexEnd_numL]
      cases hexEnd 0 t.data.toList <;> rfl
  have hle : ∀ n, (if t.size = 0 then badNum else hexEnd 0 t.data.toList) = Lib.NumEnd.ok n → n ≤ 65535 := by
    intro n h
    split at h
    · exact absurd h (badNum_ok n)
    · exact hexEnd_le _ _ _ (by omega) h
  have HC := Lib.hid (parse16_all t hmax w)
  cases hR : (if t.size = 0 then badNum else hexEnd 0 t.data.toList) with
  | ok n =>
    rw [hR] at HC hnum
    have HN := Lib.hid hnum
    have hn := hle n hR
    clear hR hle hnum
    go_enter Tryd.func65, Tryd.ntmps65
    go_wp2_with fail
    refine Calls.mono HC.out ?_
    rintro e w1 ⟨rfl, hb⟩
    simp only [Lib.uintTupleM]
    go_wp2_with fail
    go_ret2
    exact ⟨n, .nilIface, rfl, by omega, by omega, .inl ⟨n, HN.out, rfl, rfl⟩, hb⟩
  | range =>
    rw [hR] at HC hnum
    have HN := Lib.hid hnum
    clear hR hle hnum
    go_enter Tryd.func65, Tryd.ntmps65
    go_wp2_with fail
    refine Calls.mono HC.out ?_
    rintro e w1 ⟨rfl, hb⟩
    simp only [Lib.uintTupleM]
    obtain ⟨te, pe, hev⟩ := (HE.out.below hb).rng
    have HT := Lib.hid (Tryd.strconv_toError_range ⟨#[80, 97, 114, 115, 101, 85, 105, 110, 116]⟩ t 16 16 _ w1 (by omega) hev (.inr ⟨te, pe, rfl⟩))
    go_wp2_with fail
    refine Calls.mono HT.out ?_
    rintro e w2 ⟨N, rfl, -, -, hb2⟩
    go_wp2_with fail
    go_ret2
    exact ⟨65535, _, rfl, by omega, by omega, .inr ⟨HN.out, _, _, rfl⟩, Below.via hb hb2⟩
  | _ =>
    rw [hR] at HC hnum
    have HN := Lib.hid hnum
    clear hR hle hnum
    go_enter Tryd.func65, Tryd.ntmps65
    go_wp2_with fail
    refine Calls.mono HC.out ?_
    rintro e w1 ⟨rfl, hb⟩
    simp only [Lib.uintTupleM]
    obtain ⟨te, pe, hev⟩ := (HE.out.below hb).syn
    have HT := Lib.hid (Tryd.strconv_toError_syntax ⟨#[80, 97, 114, 115, 101, 85, 105, 110, 116]⟩ t 16 16 _ w1 (by omega) hev (.inr ⟨te, pe, rfl⟩))
    go_wp2_with fail
    refine Calls.mono HT.out ?_
    rintro e w2 ⟨N, rfl, -, -, hb2⟩
    go_wp2_with fail
    go_ret2
    exact ⟨0, _, rfl, by omega, by omega, .inr ⟨HN.out, _, _, rfl⟩, Below.via hb hb2⟩
end Go.Proofs.YtcadpcppnllhnaaDoor
