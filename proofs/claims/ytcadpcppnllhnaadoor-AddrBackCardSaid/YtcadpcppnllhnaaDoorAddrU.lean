/- Walks over texts: ParsePrefix, both. -/
import Derived.Test.YtcadpcppnllhnaaDoorAddrT
import Derived.Test.YtcadpcppnllhnaaDoorAddrM5
set_option linter.unusedSimpArgs false
set_option linter.unusedVariables false
namespace Go.Proofs.YtcadpcppnllhnaaDoor
open Go.RowKit

theorem ppart_up {w : World} {b : Nat} {t : TypeId} {s s' : Bool} {B B' : Nat → Int} {n n' : Int} (h : PfBox w b t s B n) (cs : Array Value) (o : Obj) (hc : cs = #[.bool s', .int .u8 (B' 0), .int .u8 (B' 1), .int .u8 (B' 2), .int .u8 (B' 3), .int .u8 (B' 4), .int .u8 (B' 5), .int .u8 (B' 6), .int .u8 (B' 7), .int .u8 (B' 8), .int .u8 (B' 9), .int .u8 (B' 10), .int .u8 (B' 11), .int .u8 (B' 12), .int .u8 (B' 13), .int .u8 (B' 14), .int .u8 (B' 15), .int .i64 n'] := by rfl) : partOf ((w.setRow b cs).alloc o) b 0 18 = #[.bool s', .int .u8 (B' 0), .int .u8 (B' 1), .int .u8 (B' 2), .int .u8 (B' 3), .int .u8 (B' 4), .int .u8 (B' 5), .int .u8 (B' 6), .int .u8 (B' 7), .int .u8 (B' 8), .int .u8 (B' 9), .int .u8 (B' 10), .int .u8 (B' 11), .int .u8 (B' 12), .int .u8 (B' 13), .int .u8 (B' 14), .int .u8 (B' 15), .int .i64 n'] := by
  rw [partOf_old _ _ _ _ _ (by have := h.lt; simpa using this)]
  subst hc
  exact partOf_set2 h.heap
theorem PfBox.made0 (w : World) (t : TypeId) : PfBox (w.alloc (.cells #[.bool false, .int .u8 0, .int .u8 0, .int .u8 0, .int .u8 0, .int .u8 0, .int .u8 0, .int .u8 0, .int .u8 0, .int .u8 0, .int .u8 0, .int .u8 0, .int .u8 0, .int .u8 0, .int .u8 0, .int .u8 0, .int .u8 0, .int .i64 0] t)) w.heap.size t false (fun _ => 0) 0 := PfBox.made w t false (fun _ => 0) 0
/-- What a parsed address is, or none. -/
theorem parseV_cases (s : List UInt8) : (∃ (six : Bool) (B : Nat → Int), parseL s = some (six, B) ∧ rightB six B = true ∧ U8 B ∧ parseV (parseL s) = .tuple #[adV six B, .int .i64 0]) ∨ (parseL s = none ∧ parseV (parseL s) = .tuple #[adV false fun _ => 0, .int .i64 40]) := by
  cases h : parseL s with
  | none => exact .inr ⟨rfl, rfl⟩
  | some p =>
    obtain ⟨six, B⟩ := p
    have := parseL_right h
    exact .inl ⟨six, B, rfl, this.1, this.2, rfl⟩

set_option maxRecDepth 20000 in
set_option maxHeartbeats 8000000 in
theorem pparse_any (s : ByteArray) (w : World) (hs : s.size ≤ 1000) (henv : Env w) : Calls Tryd.prog 9 #[.string s] w (RetAt w (ppV (ppL s.data.toList))) := by
  have HE := Lib.hid henv
  obtain ⟨m, hm⟩ := henv.len
  have hls : s.data.toList.length = s.size := by rw [Array.length_toList, ByteArray.size_data]
  have hcl := cut_len s.data.toList [47]
  have HC := Lib.hid (fun (w : World) h => Tryd.strings_Cut s ⟨#[47]⟩ m w (by omega) h)
  have HM := Lib.hid hm
  have HPP : Hid (ppL s.data.toList = pfOf (parseL (Lib.cut s.data.toList [47]).1) (decL 129 (Lib.cut s.data.toList [47]).2.1)) := Lib.hid rfl
  rw [show (⟨#[47]⟩ : ByteArray).data.toList = [47] from rfl] at HC
  clear henv hm
  generalize ppL s.data.toList = R at *
  generalize Lib.cut s.data.toList [47] = C at *
  obtain ⟨H, T, short⟩ := C
  obtain ⟨hH, hT⟩ := hcl
  simp only at hH hT HC HPP
  have HPA : Hid (∀ w, Env w → Calls Tryd.prog 7 #[.string ⟨H.toArray⟩] w (RetAt w (parseV (parseL H)))) := Lib.hid fun w h => parse_any ⟨H.toArray⟩ w (by simp [ByteArray.size]; omega) h
  have HDE : Hid (∀ w, Env w → Calls Tryd.prog 38 #[.string ⟨T.toArray⟩, .int .i64 (129 : Nat)] w (DecPost w 129 T)) := Lib.hid fun w h => decimal_any ⟨T.toArray⟩ 129 (by decide) (by simp [ByteArray.size]; omega) w h
  have HPV := Lib.hid (parseV_cases H)
  clear hH hT hls
  have HB0 : Hid (Below w.heap.size w (w.alloc (.cells #[.bool false, .int .u8 ((fun _ => (0 : Int)) 0), .int .u8 ((fun _ => (0 : Int)) 1), .int .u8 ((fun _ => (0 : Int)) 2), .int .u8 ((fun _ => (0 : Int)) 3), .int .u8 ((fun _ => (0 : Int)) 4), .int .u8 ((fun _ => (0 : Int)) 5), .int .u8 ((fun _ => (0 : Int)) 6), .int .u8 ((fun _ => (0 : Int)) 7), .int .u8 ((fun _ => (0 : Int)) 8), .int .u8 ((fun _ => (0 : Int)) 9), .int .u8 ((fun _ => (0 : Int)) 10), .int .u8 ((fun _ => (0 : Int)) 11), .int .u8 ((fun _ => (0 : Int)) 12), .int .u8 ((fun _ => (0 : Int)) 13), .int .u8 ((fun _ => (0 : Int)) 14), .int .u8 ((fun _ => (0 : Int)) 15), .int .i64 0] 33))) := Lib.hid (Below.all (Below.refl _ _) _)
  have HX0 : Hid (PfBox (w.alloc (.cells #[.bool false, .int .u8 ((fun _ => (0 : Int)) 0), .int .u8 ((fun _ => (0 : Int)) 1), .int .u8 ((fun _ => (0 : Int)) 2), .int .u8 ((fun _ => (0 : Int)) 3), .int .u8 ((fun _ => (0 : Int)) 4), .int .u8 ((fun _ => (0 : Int)) 5), .int .u8 ((fun _ => (0 : Int)) 6), .int .u8 ((fun _ => (0 : Int)) 7), .int .u8 ((fun _ => (0 : Int)) 8), .int .u8 ((fun _ => (0 : Int)) 9), .int .u8 ((fun _ => (0 : Int)) 10), .int .u8 ((fun _ => (0 : Int)) 11), .int .u8 ((fun _ => (0 : Int)) 12), .int .u8 ((fun _ => (0 : Int)) 13), .int .u8 ((fun _ => (0 : Int)) 14), .int .u8 ((fun _ => (0 : Int)) 15), .int .i64 0] 33)) w.heap.size 33 false (fun _ => 0) 0) := Lib.hid (PfBox.made0 w _)
  go_enter Tryd.func9, Tryd.ntmps9
  go_wp2_with fail
  have hd0 : ∀ (v : World) (n : Nat), Below v.heap.size v (v.drewN n) := fun v n => ⟨rfl, rfl, rfl, Nat.le_refl _, fun _ _ => rfl⟩
  refine Calls.mono (HC.out _ ((HB0.out.cell (World.block_lt_of_cell? w _ HM.out)).trans HM.out)) ?_
  rintro e w1 ⟨rfl, nd, rfl⟩
  have HX1 := Lib.hid (HX0.out.below (hd0 _ nd))
  have HB1 := Lib.hid (Below.via HB0.out (hd0 _ nd))
  clear hd0 HB0 HC HM HX0
  generalize World.drewN _ nd = w1 at *
  go_wp2_with fail
  refine Calls.mono (HPA.out _ (HE.out.below HB1.out)) ?_
  rintro e w2 ⟨rfl, hb2⟩
  have HX2 := Lib.hid (HX1.out.below hb2)
  have HB2 := Lib.hid (Below.via HB1.out hb2)
  clear hb2 HX1 HB1 HPA
  rcases HPV.out with ⟨six, B, hp, hr, hU, hv⟩ | ⟨hp, hv⟩
  · rw [hv]
    have HP := Lib.hid hp
    have HRI := Lib.hid hr
    have HU := Lib.hid hU
    clear HPV hp hr hU hv
    unfold adV
    have HX3 := Lib.hid (HX2.out.alloc (.cells #[.bool six, .int .u8 (B 0), .int .u8 (B 1), .int .u8 (B 2), .int .u8 (B 3), .int .u8 (B 4), .int .u8 (B 5), .int .u8 (B 6), .int .u8 (B 7), .int .u8 (B 8), .int .u8 (B 9), .int .u8 (B 10), .int .u8 (B 11), .int .u8 (B 12), .int .u8 (B 13), .int .u8 (B 14), .int .u8 (B 15)] 25))
    have HB3 := Lib.hid (Below.all HB2.out (.cells #[.bool six, .int .u8 (B 0), .int .u8 (B 1), .int .u8 (B 2), .int .u8 (B 3), .int .u8 (B 4), .int .u8 (B 5), .int .u8 (B 6), .int .u8 (B 7), .int .u8 (B 8), .int .u8 (B 9), .int .u8 (B 10), .int .u8 (B 11), .int .u8 (B 12), .int .u8 (B 13), .int .u8 (B 14), .int .u8 (B 15)] 25))
    have HY3 := Lib.hid (AdBox.made w2 25 six B)
    clear HX2 HB2
    go_wp2_with fail
    generalize w2.alloc (.cells #[.bool six, .int .u8 (B 0), .int .u8 (B 1), .int .u8 (B 2), .int .u8 (B 3), .int .u8 (B 4), .int .u8 (B 5), .int .u8 (B 6), .int .u8 (B 7), .int .u8 (B 8), .int .u8 (B 9), .int .u8 (B 10), .int .u8 (B 11), .int .u8 (B 12), .int .u8 (B 13), .int .u8 (B 14), .int .u8 (B 15)] 25) = w3 at *
    refine Calls.mono (HDE.out _ (HE.out.below HB3.out)) ?_
    rintro e w4 ⟨n, ok, rfl, hn0, hn1, hc, hb4⟩
    have HX4 := Lib.hid (HX3.out.below hb4)
    have HB4 := Lib.hid (Below.via HB3.out hb4)
    have hpp := (HY3.out.below hb4).part
    have hlt4 := HX4.out.lt
    have HCC := Lib.hid hc
    clear hb4 HX3 HB3 HY3 hc HDE
    cases ok
    · have HR : Hid (R = none) := Lib.hid (by
        rcases HCC.out with ⟨h, -⟩ | ⟨-, h⟩
        · cases h
        · rw [HPP.out, h]; exact pfOf_none _)
      have hrr := HX4.out.row
      go_wp2_with fail
      exact bodyPost_ret (v := .tuple #[pfV false (fun _ => 0) 0, .int .i64 40]) (results_pf2 _ _ Tryd.underlying33 info_pf rfl _ _ w.heap.size (.int .i64 40) rfl rfl (ppart_up (s' := false) (B' := fun _ => 0) (n' := 0) HX4.out _ _ rfl)) rfl (.mk (by rw [HR.out]; rfl) (Below.all (below_setRow HB4.out (Nat.le_refl _) _) _))
    · have HD : Hid (0 ≤ n ∧ decL 129 T = some n.toNat) := Lib.hid (by
        rcases HCC.out with ⟨-, h⟩ | ⟨h, -⟩
        · exact h
        · cases h)
      have HR : Hid (R = if rightPB six B n = true then some (six, B, n.toNat) else none) := Lib.hid (by
        rw [HPP.out, HP.out, HD.out.2]
        show (if rightPB six B (n.toNat : Int) = true then some (six, B, n.toNat) else none) = _
        rw [show ((n.toNat : Nat) : Int) = n by have := HD.out.1; omega])
      have HPR := Lib.hid (fun w => pright_any six B n HU.out hn0 hn1 w)
      clear HCC HPP HP
      unfold pfV at HPR
      have HX5 := Lib.hid (HX4.out.alloc (.cells #[.bool six, .int .u8 (B 0), .int .u8 (B 1), .int .u8 (B 2), .int .u8 (B 3), .int .u8 (B 4), .int .u8 (B 5), .int .u8 (B 6), .int .u8 (B 7), .int .u8 (B 8), .int .u8 (B 9), .int .u8 (B 10), .int .u8 (B 11), .int .u8 (B 12), .int .u8 (B 13), .int .u8 (B 14), .int .u8 (B 15), .int .i64 n] 33))
      have HB5 := Lib.hid (Below.all HB4.out (.cells #[.bool six, .int .u8 (B 0), .int .u8 (B 1), .int .u8 (B 2), .int .u8 (B 3), .int .u8 (B 4), .int .u8 (B 5), .int .u8 (B 6), .int .u8 (B 7), .int .u8 (B 8), .int .u8 (B 9), .int .u8 (B 10), .int .u8 (B 11), .int .u8 (B 12), .int .u8 (B 13), .int .u8 (B 14), .int .u8 (B 15), .int .i64 n] 33))
      have HY5 := Lib.hid (PfBox.made w4 33 six B n)
      clear HX4 HB4
      go_wp2_with fail
      generalize w4.alloc (.cells #[.bool six, .int .u8 (B 0), .int .u8 (B 1), .int .u8 (B 2), .int .u8 (B 3), .int .u8 (B 4), .int .u8 (B 5), .int .u8 (B 6), .int .u8 (B 7), .int .u8 (B 8), .int .u8 (B 9), .int .u8 (B 10), .int .u8 (B 11), .int .u8 (B 12), .int .u8 (B 13), .int .u8 (B 14), .int .u8 (B 15), .int .i64 n] 33) = w5 at *
      refine Calls.mono (HPR.out _) ?_
      rintro e w6 ⟨rfl, hb6⟩
      have HX6 := Lib.hid (HX5.out.below hb6)
      have HB6 := Lib.hid (Below.via HB5.out hb6)
      have hp6 := (HY5.out.below hb6).part
      have hrr := HX6.out.row
      have HH := Lib.hid HX6.out.heap
      clear hb6 HX5 HB5 HY5 hpp hlt4
      generalize hrb : rightPB six B n = rb at *
      cases rb
      · rw [if_neg (by simp)] at HR
        go_wp2_with fail
        exact bodyPost_ret (v := .tuple #[pfV false (fun _ => 0) 0, .int .i64 40]) (results_pf2 _ _ Tryd.underlying33 info_pf rfl _ _ w.heap.size (.int .i64 40) rfl rfl (partOf_set2 HH.out)) rfl (.mk (by rw [HR.out]; rfl) (below_setRow HB6.out (Nat.le_refl _) _))
      · rw [if_pos rfl] at HR
        go_wp2_with fail
        refine bodyPost_ret (v := .tuple #[pfV six B n, .int .i64 0]) (results_pf2 _ _ Tryd.underlying33 info_pf rfl _ _ w.heap.size (.int .i64 0) rfl rfl (partOf_set2 HH.out)) rfl (.mk ?_ (below_setRow HB6.out (Nat.le_refl _) _))
        rw [HR.out]
        show Value.tuple #[pfV six B n, .int .i64 0] = .tuple #[pfV six B (n.toNat : Int), .int .i64 0]
        rw [show ((n.toNat : Nat) : Int) = n by have := HD.out.1; omega]
  · rw [hv]
    have HR : Hid (R = none) := Lib.hid (by rw [HPP.out, hp]; rfl)
    clear HPV hp hv HPP
    unfold adV
    have HX3 := Lib.hid (HX2.out.alloc (.cells #[.bool false, .int .u8 ((fun _ => (0 : Int)) 0), .int .u8 ((fun _ => (0 : Int)) 1), .int .u8 ((fun _ => (0 : Int)) 2), .int .u8 ((fun _ => (0 : Int)) 3), .int .u8 ((fun _ => (0 : Int)) 4), .int .u8 ((fun _ => (0 : Int)) 5), .int .u8 ((fun _ => (0 : Int)) 6), .int .u8 ((fun _ => (0 : Int)) 7), .int .u8 ((fun _ => (0 : Int)) 8), .int .u8 ((fun _ => (0 : Int)) 9), .int .u8 ((fun _ => (0 : Int)) 10), .int .u8 ((fun _ => (0 : Int)) 11), .int .u8 ((fun _ => (0 : Int)) 12), .int .u8 ((fun _ => (0 : Int)) 13), .int .u8 ((fun _ => (0 : Int)) 14), .int .u8 ((fun _ => (0 : Int)) 15)] 25))
    have HB3 := Lib.hid (Below.all HB2.out (.cells #[.bool false, .int .u8 ((fun _ => (0 : Int)) 0), .int .u8 ((fun _ => (0 : Int)) 1), .int .u8 ((fun _ => (0 : Int)) 2), .int .u8 ((fun _ => (0 : Int)) 3), .int .u8 ((fun _ => (0 : Int)) 4), .int .u8 ((fun _ => (0 : Int)) 5), .int .u8 ((fun _ => (0 : Int)) 6), .int .u8 ((fun _ => (0 : Int)) 7), .int .u8 ((fun _ => (0 : Int)) 8), .int .u8 ((fun _ => (0 : Int)) 9), .int .u8 ((fun _ => (0 : Int)) 10), .int .u8 ((fun _ => (0 : Int)) 11), .int .u8 ((fun _ => (0 : Int)) 12), .int .u8 ((fun _ => (0 : Int)) 13), .int .u8 ((fun _ => (0 : Int)) 14), .int .u8 ((fun _ => (0 : Int)) 15)] 25))
    have HY3 := Lib.hid (AdBox.made w2 25 false (fun _ => 0))
    clear HX2 HB2
    go_wp2_with fail
    generalize w2.alloc (.cells #[.bool false, .int .u8 ((fun _ => (0 : Int)) 0), .int .u8 ((fun _ => (0 : Int)) 1), .int .u8 ((fun _ => (0 : Int)) 2), .int .u8 ((fun _ => (0 : Int)) 3), .int .u8 ((fun _ => (0 : Int)) 4), .int .u8 ((fun _ => (0 : Int)) 5), .int .u8 ((fun _ => (0 : Int)) 6), .int .u8 ((fun _ => (0 : Int)) 7), .int .u8 ((fun _ => (0 : Int)) 8), .int .u8 ((fun _ => (0 : Int)) 9), .int .u8 ((fun _ => (0 : Int)) 10), .int .u8 ((fun _ => (0 : Int)) 11), .int .u8 ((fun _ => (0 : Int)) 12), .int .u8 ((fun _ => (0 : Int)) 13), .int .u8 ((fun _ => (0 : Int)) 14), .int .u8 ((fun _ => (0 : Int)) 15)] 25) = w3 at *
    refine Calls.mono (HDE.out _ (HE.out.below HB3.out)) ?_
    rintro e w4 ⟨n, ok, rfl, hn0, hn1, hc, hb4⟩
    have HX4 := Lib.hid (HX3.out.below hb4)
    have HB4 := Lib.hid (Below.via HB3.out hb4)
    have hpp := (HY3.out.below hb4).part
    have hlt4 := HX4.out.lt
    clear hb4 HX3 HB3 HY3 hc HDE
    have hrr := HX4.out.row
    go_wp2_with fail
    exact bodyPost_ret (v := .tuple #[pfV false (fun _ => 0) 0, .int .i64 40]) (results_pf2 _ _ Tryd.underlying33 info_pf rfl _ _ w.heap.size (.int .i64 40) rfl rfl (ppart_up (s' := false) (B' := fun _ => 0) (n' := 0) HX4.out _ _ rfl)) rfl (.mk (by rw [HR.out]; rfl) (Below.all (below_setRow HB4.out (Nat.le_refl _) _) _))
end Go.Proofs.YtcadpcppnllhnaaDoor
