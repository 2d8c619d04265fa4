/- Walks over texts: ParsePrefix, both. -/
import Derived.Test.YtcadpcppnllhnaaGreatDoorJ9
import Derived.Test.YtcadpcppnllhnaaGreatDoorJ3
import Derived.Test.YtcadpcppnllhnaaGreatDoorJ8
import Derived.Test.YtcadpcppnllhnaaGreatDoorJ1

section
set_option linter.unusedSimpArgs false
set_option linter.unusedVariables false
namespace Go.Proofs.YtcadpcppnllhnaaGreatDoor
open Go.RowKit

theorem ppart_up {w : World} {b : Nat} {t : TypeId} {s s' : Bool} {B B' : Nat → Int} {n n' : Int} (h : PfBox w b t s B n) (cs : Array Value) (o : Obj) (hc : cs = #[.bool s', .int .u8 (B' 0), .int .u8 (B' 1), .int .u8 (B' 2), .int .u8 (B' 3), .int .u8 (B' 4), .int .u8 (B' 5), .int .u8 (B' 6), .int .u8 (B' 7), .int .u8 (B' 8), .int .u8 (B' 9), .int .u8 (B' 10), .int .u8 (B' 11), .int .u8 (B' 12), .int .u8 (B' 13), .int .u8 (B' 14), .int .u8 (B' 15), .int .i64 n'] := by rfl) : partOf ((w.setRow b cs).alloc o) b 0 18 = #[.bool s', .int .u8 (B' 0), .int .u8 (B' 1), .int .u8 (B' 2), .int .u8 (B' 3), .int .u8 (B' 4), .int .u8 (B' 5), .int .u8 (B' 6), .int .u8 (B' 7), .int .u8 (B' 8), .int .u8 (B' 9), .int .u8 (B' 10), .int .u8 (B' 11), .int .u8 (B' 12), .int .u8 (B' 13), .int .u8 (B' 14), .int .u8 (B' 15), .int .i64 n'] := by
  rw [partOf_old _ _ _ _ _ (by have := h.lt; simpa using this)]
  subst hc
  exact partOf_set2 h.heap
theorem PfBox.made0 (w : World) (t : TypeId) : PfBox (w.alloc (.cells #[.bool false, .int .u8 0, .int .u8 0, .int .u8 0, .int .u8 0, .int .u8 0, .int .u8 0, .int .u8 0, .int .u8 0, .int .u8 0, .int .u8 0, .int .u8 0, .int .u8 0, .int .u8 0, .int .u8 0, .int .u8 0, .int .u8 0, .int .i64 0] t)) w.heap.size t false (fun _ => 0) 0 := PfBox.made w t false (fun _ => 0) 0
/-- What a parsed address is, or none. -/
theorem parseV_cases (s : List UInt8) : (∃ (six : Bool) (B : Nat → Int), parseL s = some (six, B) ∧ rightB six B = true ∧ U8 B ∧ parseV (parseL s) = .tuple #[adV six B, .int .i64 0]) ∨ (parseL s = none ∧ parseV (parseL s) = .tuple #[adV false fun _ => 0, .int .i64 40]) := by
  cases h : parseL s with
  | none => exact .inr ⟨rfl, rfl⟩
  | some p =>
    obtain ⟨six, B⟩ := p
    have := parseL_right h
    exact .inl ⟨six, B, rfl, this.1, this.2, rfl⟩

set_option maxRecDepth 20000 in
set_option maxHeartbeats 8000000 in
theorem pparse_any (s : ByteArray) (w : World) (hs : s.size ≤ 1000) (henv : Env w) : Calls Tryz.prog 15 #[.string s] w (RetAt w (ppV (ppL s.data.toList))) := by
  have HE := Lib.hid henv
  obtain ⟨m, hm⟩ := henv.len
  have hls : s.data.toList.length = s.size := by rw [Array.length_toList, ByteArray.size_data]
  have hcl := cut_len s.data.toList [47]
  have HC := Lib.hid (fun (w : World) h => Tryz.strings_Cut s ⟨#[47]⟩ m w (by omega) h)
  have HM := Lib.hid hm
  have HPP : Hid (ppL s.data.toList = pfOf (parseL (Lib.cut s.data.toList [47]).1) (decL 129 (Lib.cut s.data.toList [47]).2.1)) := Lib.hid rfl
  rw [show (⟨#[47]⟩ : ByteArray).data.toList = [47] from rfl] at HC
  clear henv hm
  generalize ppL s.data.toList = R at *
  generalize Lib.cut s.data.toList [47] = C at *
  obtain ⟨H, T, short⟩ := C
  obtain ⟨hH, hT⟩ := hcl
  simp only at hH hT HC HPP
  have HPA : Hid (∀ w, Env w → Calls Tryz.prog 13 #[.string ⟨H.toArray⟩] w (RetAt w (parseV (parseL H)))) := Lib.hid fun w h => parse_any ⟨H.toArray⟩ w (by simp [ByteArray.size]; omega) h
  have HDE : Hid (∀ w, Env w → Calls Tryz.prog 52 #[.string ⟨T.toArray⟩, .int .i64 (129 : Nat)] w (DecPost w 129 T)) := Lib.hid fun w h => decimal_any ⟨T.toArray⟩ 129 (by decide) (by simp [ByteArray.size]; omega) w h
  have HPV := Lib.hid (parseV_cases H)
  clear hH hT hls
  have HB0 : Hid (Below w.heap.size w (w.alloc (.cells #[.bool false, .int .u8 ((fun _ => (0 : Int)) 0), .int .u8 ((fun _ => (0 : Int)) 1), .int .u8 ((fun _ => (0 : Int)) 2), .int .u8 ((fun _ => (0 : Int)) 3), .int .u8 ((fun _ => (0 : Int)) 4), .int .u8 ((fun _ => (0 : Int)) 5), .int .u8 ((fun _ => (0 : Int)) 6), .int .u8 ((fun _ => (0 : Int)) 7), .int .u8 ((fun _ => (0 : Int)) 8), .int .u8 ((fun _ => (0 : Int)) 9), .int .u8 ((fun _ => (0 : Int)) 10), .int .u8 ((fun _ => (0 : Int)) 11), .int .u8 ((fun _ => (0 : Int)) 12), .int .u8 ((fun _ => (0 : Int)) 13), .int .u8 ((fun _ => (0 : Int)) 14), .int .u8 ((fun _ => (0 : Int)) 15), .int .i64 0] 33))) := Lib.hid (Below.all (Below.refl _ _) _)
  have HX0 : Hid (PfBox (w.alloc (.cells #[.bool false, .int .u8 ((fun _ => (0 : Int)) 0), .int .u8 ((fun _ => (0 : Int)) 1), .int .u8 ((fun _ => (0 : Int)) 2), .int .u8 ((fun _ => (0 : Int)) 3), .int .u8 ((fun _ => (0 : Int)) 4), .int .u8 ((fun _ => (0 : Int)) 5), .int .u8 ((fun _ => (0 : Int)) 6), .int .u8 ((fun _ => (0 : Int)) 7), .int .u8 ((fun _ => (0 : Int)) 8), .int .u8 ((fun _ => (0 : Int)) 9), .int .u8 ((fun _ => (0 : Int)) 10), .int .u8 ((fun _ => (0 : Int)) 11), .int .u8 ((fun _ => (0 : Int)) 12), .int .u8 ((fun _ => (0 : Int)) 13), .int .u8 ((fun _ => (0 : Int)) 14), .int .u8 ((fun _ => (0 : Int)) 15), .int .i64 0] 33)) w.heap.size 33 false (fun _ => 0) 0) := Lib.hid (PfBox.made0 w _)
  go_enter Tryz.func15, Tryz.ntmps15
  go_wp2_with fail
  have hd0 : ∀ (v : World) (n : Nat), Below v.heap.size v (v.drewN n) := fun v n => ⟨rfl, rfl, rfl, Nat.le_refl _, fun _ _ => rfl⟩
  refine Calls.mono (HC.out _ ((HB0.out.cell (World.block_lt_of_cell? w _ HM.out)).trans HM.out)) ?_
  rintro e w1 ⟨rfl, nd, rfl⟩
  have HX1 := Lib.hid (HX0.out.below (hd0 _ nd))
  have HB1 := Lib.hid (Below.via HB0.out (hd0 _ nd))
  clear hd0 HB0 HC HM HX0
  generalize World.drewN _ nd = w1 at *
  go_wp2_with fail
  refine Calls.mono (HPA.out _ (HE.out.below HB1.out)) ?_
  rintro e w2 ⟨rfl, hb2⟩
  have HX2 := Lib.hid (HX1.out.below hb2)
  have HB2 := Lib.hid (Below.via HB1.out hb2)
  clear hb2 HX1 HB1 HPA
  rcases HPV.out with ⟨six, B, hp, hr, hU, hv⟩ | ⟨hp, hv⟩
  · rw [hv]
    have HP := Lib.hid hp
    have HRI := Lib.hid hr
    have HU := Lib.hid hU
    clear HPV hp hr hU hv
    unfold adV
    have HX3 := Lib.hid (HX2.out.alloc (.cells #[.bool six, .int .u8 (B 0), .int .u8 (B 1), .int .u8 (B 2), .int .u8 (B 3), .int .u8 (B 4), .int .u8 (B 5), .int .u8 (B 6), .int .u8 (B 7), .int .u8 (B 8), .int .u8 (B 9), .int .u8 (B 10), .int .u8 (B 11), .int .u8 (B 12), .int .u8 (B 13), .int .u8 (B 14), .int .u8 (B 15)] 26))
    have HB3 := Lib.hid (Below.all HB2.out (.cells #[.bool six, .int .u8 (B 0), .int .u8 (B 1), .int .u8 (B 2), .int .u8 (B 3), .int .u8 (B 4), .int .u8 (B 5), .int .u8 (B 6), .int .u8 (B 7), .int .u8 (B 8), .int .u8 (B 9), .int .u8 (B 10), .int .u8 (B 11), .int .u8 (B 12), .int .u8 (B 13), .int .u8 (B 14), .int .u8 (B 15)] 26))
    have HY3 := Lib.hid (AdBox.made w2 26 six B)
    clear HX2 HB2
    go_wp2_with fail
    generalize w2.alloc (.cells #[.bool six, .int .u8 (B 0), .int .u8 (B 1), .int .u8 (B 2), .int .u8 (B 3), .int .u8 (B 4), .int .u8 (B 5), .int .u8 (B 6), .int .u8 (B 7), .int .u8 (B 8), .int .u8 (B 9), .int .u8 (B 10), .int .u8 (B 11), .int .u8 (B 12), .int .u8 (B 13), .int .u8 (B 14), .int .u8 (B 15)] 26) = w3 at *
    refine Calls.mono (HDE.out _ (HE.out.below HB3.out)) ?_
    rintro e w4 ⟨n, ok, rfl, hn0, hn1, hc, hb4⟩
    have HX4 := Lib.hid (HX3.out.below hb4)
    have HB4 := Lib.hid (Below.via HB3.out hb4)
    have hpp := (HY3.out.below hb4).part
    have hlt4 := HX4.out.lt
    have HCC := Lib.hid hc
    clear hb4 HX3 HB3 HY3 hc HDE
    cases ok
    · have HR : Hid (R = none) := Lib.hid (by
        rcases HCC.out with ⟨h, -⟩ | ⟨-, h⟩
        · cases h
        · rw [HPP.out, h]; exact pfOf_none _)
      have hrr := HX4.out.row
      go_wp2_with fail
      exact bodyPost_ret (v := .tuple #[pfV false (fun _ => 0) 0, .int .i64 40]) (results_pf2 _ _ Tryz.underlying33 info_pf rfl _ _ w.heap.size (.int .i64 40) rfl rfl (ppart_up (s' := false) (B' := fun _ => 0) (n' := 0) HX4.out _ _ rfl)) rfl (.mk (by rw [HR.out]; rfl) (Below.all (below_setRow HB4.out (Nat.le_refl _) _) _))
    · have HD : Hid (0 ≤ n ∧ decL 129 T = some n.toNat) := Lib.hid (by
        rcases HCC.out with ⟨-, h⟩ | ⟨h, -⟩
        · exact h
        · cases h)
      have HR : Hid (R = if rightPB six B n = true then some (six, B, n.toNat) else none) := Lib.hid (by
        rw [HPP.out, HP.out, HD.out.2]
        show (if rightPB six B (n.toNat : Int) = true then some (six, B, n.toNat) else none) = _
        rw [show ((n.toNat : Nat) : Int) = n by have := HD.out.1; omega])
      have HPR := Lib.hid (fun w => pright_any six B n HU.out hn0 hn1 w)
      clear HCC HPP HP
      unfold pfV at HPR
      have HX5 := Lib.hid (HX4.out.alloc (.cells #[.bool six, .int .u8 (B 0), .int .u8 (B 1), .int .u8 (B 2), .int .u8 (B 3), .int .u8 (B 4), .int .u8 (B 5), .int .u8 (B 6), .int .u8 (B 7), .int .u8 (B 8), .int .u8 (B 9), .int .u8 (B 10), .int .u8 (B 11), .int .u8 (B 12), .int .u8 (B 13), .int .u8 (B 14), .int .u8 (B 15), .int .i64 n] 33))
      have HB5 := Lib.hid (Below.all HB4.out (.cells #[.bool six, .int .u8 (B 0), .int .u8 (B 1), .int .u8 (B 2), .int .u8 (B 3), .int .u8 (B 4), .int .u8 (B 5), .int .u8 (B 6), .int .u8 (B 7), .int .u8 (B 8), .int .u8 (B 9), .int .u8 (B 10), .int .u8 (B 11), .int .u8 (B 12), .int .u8 (B 13), .int .u8 (B 14), .int .u8 (B 15), .int .i64 n] 33))
      have HY5 := Lib.hid (PfBox.made w4 33 six B n)
      clear HX4 HB4
      go_wp2_with fail
      generalize w4.alloc (.cells #[.bool six, .int .u8 (B 0), .int .u8 (B 1), .int .u8 (B 2), .int .u8 (B 3), .int .u8 (B 4), .int .u8 (B 5), .int .u8 (B 6), .int .u8 (B 7), .int .u8 (B 8), .int .u8 (B 9), .int .u8 (B 10), .int .u8 (B 11), .int .u8 (B 12), .int .u8 (B 13), .int .u8 (B 14), .int .u8 (B 15), .int .i64 n] 33) = w5 at *
      refine Calls.mono (HPR.out _) ?_
      rintro e w6 ⟨rfl, hb6⟩
      have HX6 := Lib.hid (HX5.out.below hb6)
      have HB6 := Lib.hid (Below.via HB5.out hb6)
      have hp6 := (HY5.out.below hb6).part
      have hrr := HX6.out.row
      have HH := Lib.hid HX6.out.heap
      clear hb6 HX5 HB5 HY5 hpp hlt4
      generalize hrb : rightPB six B n = rb at *
      cases rb
      · rw [if_neg (by simp)] at HR
        go_wp2_with fail
        exact bodyPost_ret (v := .tuple #[pfV false (fun _ => 0) 0, .int .i64 40]) (results_pf2 _ _ Tryz.underlying33 info_pf rfl _ _ w.heap.size (.int .i64 40) rfl rfl (partOf_set2 HH.out)) rfl (.mk (by rw [HR.out]; rfl) (below_setRow HB6.out (Nat.le_refl _) _))
      · rw [if_pos rfl] at HR
        go_wp2_with fail
        refine bodyPost_ret (v := .tuple #[pfV six B n, .int .i64 0]) (results_pf2 _ _ Tryz.underlying33 info_pf rfl _ _ w.heap.size (.int .i64 0) rfl rfl (partOf_set2 HH.out)) rfl (.mk ?_ (below_setRow HB6.out (Nat.le_refl _) _))
        rw [HR.out]
        show Value.tuple #[pfV six B n, .int .i64 0] = .tuple #[pfV six B (n.toNat : Int), .int .i64 0]
        rw [show ((n.toNat : Nat) : Int) = n by have := HD.out.1; omega]
  · rw [hv]
    have HR : Hid (R = none) := Lib.hid (by rw [HPP.out, hp]; rfl)
    clear HPV hp hv HPP
    unfold adV
    have HX3 := Lib.hid (HX2.out.alloc (.cells #[.bool false, .int .u8 ((fun _ => (0 : Int)) 0), .int .u8 ((fun _ => (0 : Int)) 1), .int .u8 ((fun _ => (0 : Int)) 2), .int .u8 ((fun _ => (0 : Int)) 3), .int .u8 ((fun _ => (0 : Int)) 4), .int .u8 ((fun _ => (0 : Int)) 5), .int .u8 ((fun _ => (0 : Int)) 6), .int .u8 ((fun _ => (0 : Int)) 7), .int .u8 ((fun _ => (0 : Int)) 8), .int .u8 ((fun _ => (0 : Int)) 9), .int .u8 ((fun _ => (0 : Int)) 10), .int .u8 ((fun _ => (0 : Int)) 11), .int .u8 ((fun _ => (0 : Int)) 12), .int .u8 ((fun _ => (0 : Int)) 13), .int .u8 ((fun _ => (0 : Int)) 14), .int .u8 ((fun _ => (0 : Int)) 15)] 26))
    have HB3 := Lib.hid (Below.all HB2.out (.cells #[.bool false, .int .u8 ((fun _ => (0 : Int)) 0), .int .u8 ((fun _ => (0 : Int)) 1), .int .u8 ((fun _ => (0 : Int)) 2), .int .u8 ((fun _ => (0 : Int)) 3), .int .u8 ((fun _ => (0 : Int)) 4), .int .u8 ((fun _ => (0 : Int)) 5), .int .u8 ((fun _ => (0 : Int)) 6), .int .u8 ((fun _ => (0 : Int)) 7), .int .u8 ((fun _ => (0 : Int)) 8), .int .u8 ((fun _ => (0 : Int)) 9), .int .u8 ((fun _ => (0 : Int)) 10), .int .u8 ((fun _ => (0 : Int)) 11), .int .u8 ((fun _ => (0 : Int)) 12), .int .u8 ((fun _ => (0 : Int)) 13), .int .u8 ((fun _ => (0 : Int)) 14), .int .u8 ((fun _ => (0 : Int)) 15)] 26))
    have HY3 := Lib.hid (AdBox.made w2 26 false (fun _ => 0))
    clear HX2 HB2
    go_wp2_with fail
    generalize w2.alloc (.cells #[.bool false, .int .u8 ((fun _ => (0 : Int)) 0), .int .u8 ((fun _ => (0 : Int)) 1), .int .u8 ((fun _ => (0 : Int)) 2), .int .u8 ((fun _ => (0 : Int)) 3), .int .u8 ((fun _ => (0 : Int)) 4), .int .u8 ((fun _ => (0 : Int)) 5), .int .u8 ((fun _ => (0 : Int)) 6), .int .u8 ((fun _ => (0 : Int)) 7), .int .u8 ((fun _ => (0 : Int)) 8), .int .u8 ((fun _ => (0 : Int)) 9), .int .u8 ((fun _ => (0 : Int)) 10), .int .u8 ((fun _ => (0 : Int)) 11), .int .u8 ((fun _ => (0 : Int)) 12), .int .u8 ((fun _ => (0 : Int)) 13), .int .u8 ((fun _ => (0 : Int)) 14), .int .u8 ((fun _ => (0 : Int)) 15)] 26) = w3 at *
    refine Calls.mono (HDE.out _ (HE.out.below HB3.out)) ?_
    rintro e w4 ⟨n, ok, rfl, hn0, hn1, hc, hb4⟩
    have HX4 := Lib.hid (HX3.out.below hb4)
    have HB4 := Lib.hid (Below.via HB3.out hb4)
    have hpp := (HY3.out.below hb4).part
    have hlt4 := HX4.out.lt
    clear hb4 HX3 HB3 HY3 hc HDE
    have hrr := HX4.out.row
    go_wp2_with fail
    exact bodyPost_ret (v := .tuple #[pfV false (fun _ => 0) 0, .int .i64 40]) (results_pf2 _ _ Tryz.underlying33 info_pf rfl _ _ w.heap.size (.int .i64 40) rfl rfl (ppart_up (s' := false) (B' := fun _ => 0) (n' := 0) HX4.out _ _ rfl)) rfl (.mk (by rw [HR.out]; rfl) (Below.all (below_setRow HB4.out (Nat.le_refl _) _) _))
end Go.Proofs.YtcadpcppnllhnaaGreatDoor
end

/- Walks over texts: the reference's ParsePrefix. -/
section
set_option linter.unusedSimpArgs false
set_option linter.unusedVariables false
namespace Go.Proofs.YtcadpcppnllhnaaGreatDoor
open Go.RowKit

set_option maxRecDepth 20000 in
set_option maxHeartbeats 8000000 in
theorem rpparse_any (s : ByteArray) (w : World) (hs : s.size ≤ 1000) : Calls Tryz.prog 16 #[.string s] w (RetAt w (ppV (ppL s.data.toList))) := by
  have hls : s.data.toList.length = s.size := by rw [Array.length_toList, ByteArray.size_data]
  have HPL : Hid (∀ p ∈ cutsL 47 s.data.toList, p.length ≤ 1000) := Lib.hid (fun p hp => by have := cutsL_len 47 _ p hp; omega)
  have HPC : Hid ((cutsL 47 s.data.toList).length ≤ 1001) := Lib.hid (by have := cutsL_count 47 s.data.toList; omega)
  have HCA := Lib.hid (fun w => cuts_any s 47 w hs)
  have HPP := Lib.hid (ppL_cuts s.data.toList)
  have HPR := Lib.hid (fun p (h : ppL s.data.toList = some p) => ppL_right h)
  clear hls
  generalize ppL s.data.toList = R at *
  generalize cutsL 47 s.data.toList = P at *
  have HB0 : Hid (Below w.heap.size w (w.alloc (.cells #[.bool false, .int .u8 ((fun _ => (0 : Int)) 0), .int .u8 ((fun _ => (0 : Int)) 1), .int .u8 ((fun _ => (0 : Int)) 2), .int .u8 ((fun _ => (0 : Int)) 3), .int .u8 ((fun _ => (0 : Int)) 4), .int .u8 ((fun _ => (0 : Int)) 5), .int .u8 ((fun _ => (0 : Int)) 6), .int .u8 ((fun _ => (0 : Int)) 7), .int .u8 ((fun _ => (0 : Int)) 8), .int .u8 ((fun _ => (0 : Int)) 9), .int .u8 ((fun _ => (0 : Int)) 10), .int .u8 ((fun _ => (0 : Int)) 11), .int .u8 ((fun _ => (0 : Int)) 12), .int .u8 ((fun _ => (0 : Int)) 13), .int .u8 ((fun _ => (0 : Int)) 14), .int .u8 ((fun _ => (0 : Int)) 15), .int .i64 0] 47))) := Lib.hid (Below.all (Below.refl _ _) _)
  have HX0 : Hid (PfBox (w.alloc (.cells #[.bool false, .int .u8 ((fun _ => (0 : Int)) 0), .int .u8 ((fun _ => (0 : Int)) 1), .int .u8 ((fun _ => (0 : Int)) 2), .int .u8 ((fun _ => (0 : Int)) 3), .int .u8 ((fun _ => (0 : Int)) 4), .int .u8 ((fun _ => (0 : Int)) 5), .int .u8 ((fun _ => (0 : Int)) 6), .int .u8 ((fun _ => (0 : Int)) 7), .int .u8 ((fun _ => (0 : Int)) 8), .int .u8 ((fun _ => (0 : Int)) 9), .int .u8 ((fun _ => (0 : Int)) 10), .int .u8 ((fun _ => (0 : Int)) 11), .int .u8 ((fun _ => (0 : Int)) 12), .int .u8 ((fun _ => (0 : Int)) 13), .int .u8 ((fun _ => (0 : Int)) 14), .int .u8 ((fun _ => (0 : Int)) 15), .int .i64 0] 47)) w.heap.size 47 false (fun _ => 0) 0) := Lib.hid (PfBox.made0 w _)
  go_enter Tryz.func16, Tryz.ntmps16
  go_wp2_with fail
  refine Calls.mono (HCA.out _) ?_
  rintro e w1 ⟨op, capp, rfl, HO, HB⟩
  have HX1 := Lib.hid (HX0.out.below HB)
  have HB1 := Lib.hid (Below.via HB0.out HB)
  have HOO := Lib.hid HO
  clear HO HB HX0 HB0 HCA
  rcases HPP.out with ⟨a, b, rfl, hP⟩ | ⟨hn2, hP⟩
  · have HP := Lib.hid hP
    have hla := HPL.out a (by simp)
    have hlb := HPL.out b (by simp)
    clear HPP hP HPL HPC HPR
    obtain ⟨g, off, hop, hbg, hg, hc, ht⟩ := HOO.out.here (by simp)
    subst hop
    have hca := hc 0 (strV a) (by simp)
    have hcb := hc 1 (strV b) (by simp)
    clear hc ht HOO
    unfold strV at hca hcb
    have HPA : Hid (∀ w, Calls Tryz.prog 14 #[.string ⟨a.toArray⟩] w (RetAt w (parseV (parseL a)))) := Lib.hid fun w => rparse_any ⟨a.toArray⟩ w (by simp [ByteArray.size]; omega)
    have HNU : Hid (∀ w, Calls Tryz.prog 50 #[.string ⟨b.toArray⟩, .int .i64 (10 : Nat), .int .i64 (129 : Nat)] w (RetAt w (numV (numberL 10 129 b)))) := Lib.hid fun w => number_any ⟨b.toArray⟩ 10 129 w (by simp [ByteArray.size]; omega) (by decide) (by decide) (by decide)
    have HPV := Lib.hid (parseV_cases a)
    simp only [List.length_cons, List.length_nil]
    rw [show off + 0 = off from rfl] at hca
    go_wp2_with fail
    refine Calls.mono (HPA.out _) ?_
    rintro e w2 ⟨rfl, hb2⟩
    have HX2 := Lib.hid (HX1.out.below hb2)
    have HB2 := Lib.hid (Below.via HB1.out hb2)
    have hca2 := (hb2.cell (World.block_lt_of_cell? w1 _ hca)).trans hca
    have hcb2 := (hb2.cell (World.block_lt_of_cell? w1 _ hcb)).trans hcb
    clear hb2 HX1 HB1 HPA hca hcb
    rcases HPV.out with ⟨six, B, hp, hr, hU, hv⟩ | ⟨hp, hv⟩
    · rw [hv]
      have HPs := Lib.hid hp
      have HRI := Lib.hid hr
      have HU := Lib.hid hU
      clear HPV hp hr hU hv
      unfold adV
      have HX3 := Lib.hid (HX2.out.alloc (.cells #[.bool six, .int .u8 (B 0), .int .u8 (B 1), .int .u8 (B 2), .int .u8 (B 3), .int .u8 (B 4), .int .u8 (B 5), .int .u8 (B 6), .int .u8 (B 7), .int .u8 (B 8), .int .u8 (B 9), .int .u8 (B 10), .int .u8 (B 11), .int .u8 (B 12), .int .u8 (B 13), .int .u8 (B 14), .int .u8 (B 15)] 41))
      have HB3 := Lib.hid (Below.all HB2.out (.cells #[.bool six, .int .u8 (B 0), .int .u8 (B 1), .int .u8 (B 2), .int .u8 (B 3), .int .u8 (B 4), .int .u8 (B 5), .int .u8 (B 6), .int .u8 (B 7), .int .u8 (B 8), .int .u8 (B 9), .int .u8 (B 10), .int .u8 (B 11), .int .u8 (B 12), .int .u8 (B 13), .int .u8 (B 14), .int .u8 (B 15)] 41))
      have HY3 := Lib.hid (AdBox.made w2 41 six B)
      have hcb3 : (w2.alloc (.cells #[.bool six, .int .u8 (B 0), .int .u8 (B 1), .int .u8 (B 2), .int .u8 (B 3), .int .u8 (B 4), .int .u8 (B 5), .int .u8 (B 6), .int .u8 (B 7), .int .u8 (B 8), .int .u8 (B 9), .int .u8 (B 10), .int .u8 (B 11), .int .u8 (B 12), .int .u8 (B 13), .int .u8 (B 14), .int .u8 (B 15)] 41)).cell? ⟨g, off + 1, none⟩ = some (.string ⟨b.toArray⟩) := ((Below.all (Below.refl _ _) _).cell (World.block_lt_of_cell? w2 _ hcb2)).trans hcb2
      clear HX2 HB2 hca2 hcb2
      go_wp2_with fail
      generalize w2.alloc (.cells #[.bool six, .int .u8 (B 0), .int .u8 (B 1), .int .u8 (B 2), .int .u8 (B 3), .int .u8 (B 4), .int .u8 (B 5), .int .u8 (B 6), .int .u8 (B 7), .int .u8 (B 8), .int .u8 (B 9), .int .u8 (B 10), .int .u8 (B 11), .int .u8 (B 12), .int .u8 (B 13), .int .u8 (B 14), .int .u8 (B 15)] 41) = w3 at *
      refine Calls.mono (HNU.out w3) ?_
      rintro e w4 ⟨rfl, hb4⟩
      have HX4 := Lib.hid (HX3.out.below hb4)
      have HB4 := Lib.hid (Below.via HB3.out hb4)
      have hpp := (HY3.out.below hb4).part
      have hlt4 := HX4.out.lt
      have hcb4 := (hb4.cell (World.block_lt_of_cell? w3 _ hcb3)).trans hcb3
      clear hb4 HX3 HB3 HY3 hcb3
      cases hn : numberL 10 129 b with
      | none =>
        have HR : Hid (R = none) := Lib.hid (by rw [HP.out, show decL 129 b = none by unfold decL; rw [hn]]; exact pfOf_none _)
        simp only [numV]
        clear hn
        unfold pfV at *
        have HX8 := Lib.hid (HX4.out.alloc (.cells #[.bool six, .int .u8 (B 0), .int .u8 (B 1), .int .u8 (B 2), .int .u8 (B 3), .int .u8 (B 4), .int .u8 (B 5), .int .u8 (B 6), .int .u8 (B 7), .int .u8 (B 8), .int .u8 (B 9), .int .u8 (B 10), .int .u8 (B 11), .int .u8 (B 12), .int .u8 (B 13), .int .u8 (B 14), .int .u8 (B 15), .int .i64 (0 : Int)] 47))
        have HB8 := Lib.hid (Below.all HB4.out (.cells #[.bool six, .int .u8 (B 0), .int .u8 (B 1), .int .u8 (B 2), .int .u8 (B 3), .int .u8 (B 4), .int .u8 (B 5), .int .u8 (B 6), .int .u8 (B 7), .int .u8 (B 8), .int .u8 (B 9), .int .u8 (B 10), .int .u8 (B 11), .int .u8 (B 12), .int .u8 (B 13), .int .u8 (B 14), .int .u8 (B 15), .int .i64 (0 : Int)] 47))
        have HY8 := Lib.hid (PfBox.made w4 47 six B (0 : Int))
        have hcb8 : (w4.alloc (.cells #[.bool six, .int .u8 (B 0), .int .u8 (B 1), .int .u8 (B 2), .int .u8 (B 3), .int .u8 (B 4), .int .u8 (B 5), .int .u8 (B 6), .int .u8 (B 7), .int .u8 (B 8), .int .u8 (B 9), .int .u8 (B 10), .int .u8 (B 11), .int .u8 (B 12), .int .u8 (B 13), .int .u8 (B 14), .int .u8 (B 15), .int .i64 (0 : Int)] 47)).cell? ⟨g, off + 1, none⟩ = some (.string ⟨b.toArray⟩) := ((Below.all (Below.refl _ _) _).cell (World.block_lt_of_cell? w4 _ hcb4)).trans hcb4
        go_wp2_with fail
        clear HX4 HB4 hcb4 hpp
        generalize w4.alloc (.cells #[.bool six, .int .u8 (B 0), .int .u8 (B 1), .int .u8 (B 2), .int .u8 (B 3), .int .u8 (B 4), .int .u8 (B 5), .int .u8 (B 6), .int .u8 (B 7), .int .u8 (B 8), .int .u8 (B 9), .int .u8 (B 10), .int .u8 (B 11), .int .u8 (B 12), .int .u8 (B 13), .int .u8 (B 14), .int .u8 (B 15), .int .i64 (0 : Int)] 47) = w8 at *
        have hp8 := HY8.out.part
        have hl8 := HY8.out.lt
        have hg8 : g < w8.heap.size := World.block_lt_of_cell? w8 _ hcb8
        refine wp_region_later (by kernel_rfl) (by kernel_rfl) ?_
        repeat go_big_quiet_step (fail)
        refine wpQuiet_nil ?_
        intro x
        have HX9 := Lib.hid (HX8.out.below x.below)
        have HB9 := Lib.hid (Below.via HB8.out x.below)
        have hrr := HX9.out.row
        have HH := Lib.hid HX9.out.heap
        go_wp2_with fail
        exact bodyPost_ret (v := .tuple #[pfV false (fun _ => 0) 0, .int .i64 40]) (results_pf2 _ _ Tryz.underlying47 info_rpf rfl _ _ w.heap.size (.int .i64 40) rfl rfl (partOf_set2 HH.out)) rfl (.mk (by rw [HR.out]; rfl) (below_setRow HB9.out (Nat.le_refl _) _))
      | some n =>
        simp only [numV]
        have hn129 := numberL_bd (by decide) hn
        have HD : Hid (∀ w, Calls Tryz.prog 11 #[.int .i64 (n : Int), .int .i64 10] w (RetAt w (.string ⟨(Lib.decDigits n).toArray⟩))) := Lib.hid fun w => by
          have := digits10_any n (n : Int) w (by omega) (by omega) (by omega)
          rwa [Int.toNat_natCast, digB_ten n n (Nat.le_refl _)] at this
        by_cases hq : Lib.decDigits n = b
        · have hd : decL 129 b = some n := by unfold decL; rw [hn]; simp only; rw [if_pos hq]
          have HR : Hid (R = if rightPB six B (n : Int) = true then some (six, B, n) else none) := Lib.hid (by rw [HP.out, HPs.out, hd]; rfl)
          have HPR := Lib.hid (fun w => rpright_any six B (n : Int) HU.out (by omega) (by omega) w)
          clear hd hn HP HPs hlb hla HNU
          subst hq
          unfold pfV at *
          have HX8 := Lib.hid (HX4.out.alloc (.cells #[.bool six, .int .u8 (B 0), .int .u8 (B 1), .int .u8 (B 2), .int .u8 (B 3), .int .u8 (B 4), .int .u8 (B 5), .int .u8 (B 6), .int .u8 (B 7), .int .u8 (B 8), .int .u8 (B 9), .int .u8 (B 10), .int .u8 (B 11), .int .u8 (B 12), .int .u8 (B 13), .int .u8 (B 14), .int .u8 (B 15), .int .i64 (n : Int)] 47))
          have HB8 := Lib.hid (Below.all HB4.out (.cells #[.bool six, .int .u8 (B 0), .int .u8 (B 1), .int .u8 (B 2), .int .u8 (B 3), .int .u8 (B 4), .int .u8 (B 5), .int .u8 (B 6), .int .u8 (B 7), .int .u8 (B 8), .int .u8 (B 9), .int .u8 (B 10), .int .u8 (B 11), .int .u8 (B 12), .int .u8 (B 13), .int .u8 (B 14), .int .u8 (B 15), .int .i64 (n : Int)] 47))
          have HY8 := Lib.hid (PfBox.made w4 47 six B (n : Int))
          have hcb8 : (w4.alloc (.cells #[.bool six, .int .u8 (B 0), .int .u8 (B 1), .int .u8 (B 2), .int .u8 (B 3), .int .u8 (B 4), .int .u8 (B 5), .int .u8 (B 6), .int .u8 (B 7), .int .u8 (B 8), .int .u8 (B 9), .int .u8 (B 10), .int .u8 (B 11), .int .u8 (B 12), .int .u8 (B 13), .int .u8 (B 14), .int .u8 (B 15), .int .i64 (n : Int)] 47)).cell? ⟨g, off + 1, none⟩ = some (.string ⟨(Lib.decDigits n).toArray⟩) := ((Below.all (Below.refl _ _) _).cell (World.block_lt_of_cell? w4 _ hcb4)).trans hcb4
          go_wp2_with fail
          clear HX4 HB4 hcb4 hpp
          generalize w4.alloc (.cells #[.bool six, .int .u8 (B 0), .int .u8 (B 1), .int .u8 (B 2), .int .u8 (B 3), .int .u8 (B 4), .int .u8 (B 5), .int .u8 (B 6), .int .u8 (B 7), .int .u8 (B 8), .int .u8 (B 9), .int .u8 (B 10), .int .u8 (B 11), .int .u8 (B 12), .int .u8 (B 13), .int .u8 (B 14), .int .u8 (B 15), .int .i64 (n : Int)] 47) = w8 at *
          have hp8 := HY8.out.part
          have hl8 := HY8.out.lt
          have hg8 : g < w8.heap.size := World.block_lt_of_cell? w8 _ hcb8
          generalize hrb : rightPB six B (n : Int) = rb at *
          cases rb
          · rw [if_neg (by simp)] at HR
            refine wp_region_later (by kernel_rfl) (by kernel_rfl) ?_
            repeat go_big_quiet_step ((first | (go_at_call 11; exact later_call (HD.out _)) | (go_at_call 37; exact later_call (HPR.out _))))
            refine wpQuiet_nil ?_
            intro x
            have HX9 := Lib.hid (HX8.out.below x.below)
            have HB9 := Lib.hid (Below.via HB8.out x.below)
            have hrr := HX9.out.row
            have HH := Lib.hid HX9.out.heap
            go_wp2_with fail
            exact bodyPost_ret (v := .tuple #[pfV false (fun _ => 0) 0, .int .i64 40]) (results_pf2 _ _ Tryz.underlying47 info_rpf rfl _ _ w.heap.size (.int .i64 40) rfl rfl (partOf_set2 HH.out)) rfl (.mk (by rw [HR.out]; rfl) (below_setRow HB9.out (Nat.le_refl _) _))
          · rw [if_pos rfl] at HR
            refine wp_region_later (by kernel_rfl) (by kernel_rfl) ?_
            repeat go_big_quiet_step ((first | (go_at_call 11; exact later_call (HD.out _)) | (go_at_call 37; exact later_call (HPR.out _))))
            refine wpQuiet_nil ?_
            intro x
            have HX9 := Lib.hid (HX8.out.below x.below)
            have HB9 := Lib.hid (Below.via HB8.out x.below)
            have hp9 := (HY8.out.below x.below).part
            have hrr := HX9.out.row
            have HH := Lib.hid HX9.out.heap
            go_wp2_with fail
            exact bodyPost_ret (v := .tuple #[pfV six B (n : Int), .int .i64 0]) (results_pf2 _ _ Tryz.underlying47 info_rpf rfl _ _ w.heap.size (.int .i64 0) rfl rfl (partOf_set2 HH.out)) rfl (.mk (by rw [HR.out]; rfl) (below_setRow HB9.out (Nat.le_refl _) _))
        · have HR : Hid (R = none) := Lib.hid (by rw [HP.out, show decL 129 b = none by unfold decL; rw [hn]; simp only; rw [if_neg hq]]; exact pfOf_none _)
          have hqb : (Lib.decDigits n == b) = false := by simpa using hq
          clear hn hq
          unfold pfV at *
          have HX8 := Lib.hid (HX4.out.alloc (.cells #[.bool six, .int .u8 (B 0), .int .u8 (B 1), .int .u8 (B 2), .int .u8 (B 3), .int .u8 (B 4), .int .u8 (B 5), .int .u8 (B 6), .int .u8 (B 7), .int .u8 (B 8), .int .u8 (B 9), .int .u8 (B 10), .int .u8 (B 11), .int .u8 (B 12), .int .u8 (B 13), .int .u8 (B 14), .int .u8 (B 15), .int .i64 (n : Int)] 47))
          have HB8 := Lib.hid (Below.all HB4.out (.cells #[.bool six, .int .u8 (B 0), .int .u8 (B 1), .int .u8 (B 2), .int .u8 (B 3), .int .u8 (B 4), .int .u8 (B 5), .int .u8 (B 6), .int .u8 (B 7), .int .u8 (B 8), .int .u8 (B 9), .int .u8 (B 10), .int .u8 (B 11), .int .u8 (B 12), .int .u8 (B 13), .int .u8 (B 14), .int .u8 (B 15), .int .i64 (n : Int)] 47))
          have HY8 := Lib.hid (PfBox.made w4 47 six B (n : Int))
          have hcb8 : (w4.alloc (.cells #[.bool six, .int .u8 (B 0), .int .u8 (B 1), .int .u8 (B 2), .int .u8 (B 3), .int .u8 (B 4), .int .u8 (B 5), .int .u8 (B 6), .int .u8 (B 7), .int .u8 (B 8), .int .u8 (B 9), .int .u8 (B 10), .int .u8 (B 11), .int .u8 (B 12), .int .u8 (B 13), .int .u8 (B 14), .int .u8 (B 15), .int .i64 (n : Int)] 47)).cell? ⟨g, off + 1, none⟩ = some (.string ⟨b.toArray⟩) := ((Below.all (Below.refl _ _) _).cell (World.block_lt_of_cell? w4 _ hcb4)).trans hcb4
          go_wp2_with fail
          clear HX4 HB4 hcb4 hpp
          generalize w4.alloc (.cells #[.bool six, .int .u8 (B 0), .int .u8 (B 1), .int .u8 (B 2), .int .u8 (B 3), .int .u8 (B 4), .int .u8 (B 5), .int .u8 (B 6), .int .u8 (B 7), .int .u8 (B 8), .int .u8 (B 9), .int .u8 (B 10), .int .u8 (B 11), .int .u8 (B 12), .int .u8 (B 13), .int .u8 (B 14), .int .u8 (B 15), .int .i64 (n : Int)] 47) = w8 at *
          have hp8 := HY8.out.part
          have hl8 := HY8.out.lt
          have hg8 : g < w8.heap.size := World.block_lt_of_cell? w8 _ hcb8
          refine wp_region_later (by kernel_rfl) (by kernel_rfl) ?_
          repeat go_big_quiet_step ((go_at_call 11; exact later_call (HD.out _)))
          refine wpQuiet_nil ?_
          intro x
          have HX9 := Lib.hid (HX8.out.below x.below)
          have HB9 := Lib.hid (Below.via HB8.out x.below)
          have hrr := HX9.out.row
          have HH := Lib.hid HX9.out.heap
          go_wp2_with fail
          exact bodyPost_ret (v := .tuple #[pfV false (fun _ => 0) 0, .int .i64 40]) (results_pf2 _ _ Tryz.underlying47 info_rpf rfl _ _ w.heap.size (.int .i64 40) rfl rfl (partOf_set2 HH.out)) rfl (.mk (by rw [HR.out]; rfl) (below_setRow HB9.out (Nat.le_refl _) _))
    · rw [hv]
      have HR : Hid (R = none) := Lib.hid (by rw [HP.out, hp]; rfl)
      clear HPV hp hv HP
      unfold adV
      have HX3 := Lib.hid (HX2.out.alloc (.cells #[.bool false, .int .u8 ((fun _ => (0 : Int)) 0), .int .u8 ((fun _ => (0 : Int)) 1), .int .u8 ((fun _ => (0 : Int)) 2), .int .u8 ((fun _ => (0 : Int)) 3), .int .u8 ((fun _ => (0 : Int)) 4), .int .u8 ((fun _ => (0 : Int)) 5), .int .u8 ((fun _ => (0 : Int)) 6), .int .u8 ((fun _ => (0 : Int)) 7), .int .u8 ((fun _ => (0 : Int)) 8), .int .u8 ((fun _ => (0 : Int)) 9), .int .u8 ((fun _ => (0 : Int)) 10), .int .u8 ((fun _ => (0 : Int)) 11), .int .u8 ((fun _ => (0 : Int)) 12), .int .u8 ((fun _ => (0 : Int)) 13), .int .u8 ((fun _ => (0 : Int)) 14), .int .u8 ((fun _ => (0 : Int)) 15)] 41))
      have HB3 := Lib.hid (Below.all HB2.out (.cells #[.bool false, .int .u8 ((fun _ => (0 : Int)) 0), .int .u8 ((fun _ => (0 : Int)) 1), .int .u8 ((fun _ => (0 : Int)) 2), .int .u8 ((fun _ => (0 : Int)) 3), .int .u8 ((fun _ => (0 : Int)) 4), .int .u8 ((fun _ => (0 : Int)) 5), .int .u8 ((fun _ => (0 : Int)) 6), .int .u8 ((fun _ => (0 : Int)) 7), .int .u8 ((fun _ => (0 : Int)) 8), .int .u8 ((fun _ => (0 : Int)) 9), .int .u8 ((fun _ => (0 : Int)) 10), .int .u8 ((fun _ => (0 : Int)) 11), .int .u8 ((fun _ => (0 : Int)) 12), .int .u8 ((fun _ => (0 : Int)) 13), .int .u8 ((fun _ => (0 : Int)) 14), .int .u8 ((fun _ => (0 : Int)) 15)] 41))
      have HY3 := Lib.hid (AdBox.made w2 41 false (fun _ => (0 : Int)))
      have hcb3 : (w2.alloc (.cells #[.bool false, .int .u8 ((fun _ => (0 : Int)) 0), .int .u8 ((fun _ => (0 : Int)) 1), .int .u8 ((fun _ => (0 : Int)) 2), .int .u8 ((fun _ => (0 : Int)) 3), .int .u8 ((fun _ => (0 : Int)) 4), .int .u8 ((fun _ => (0 : Int)) 5), .int .u8 ((fun _ => (0 : Int)) 6), .int .u8 ((fun _ => (0 : Int)) 7), .int .u8 ((fun _ => (0 : Int)) 8), .int .u8 ((fun _ => (0 : Int)) 9), .int .u8 ((fun _ => (0 : Int)) 10), .int .u8 ((fun _ => (0 : Int)) 11), .int .u8 ((fun _ => (0 : Int)) 12), .int .u8 ((fun _ => (0 : Int)) 13), .int .u8 ((fun _ => (0 : Int)) 14), .int .u8 ((fun _ => (0 : Int)) 15)] 41)).cell? ⟨g, off + 1, none⟩ = some (.string ⟨b.toArray⟩) := ((Below.all (Below.refl _ _) _).cell (World.block_lt_of_cell? w2 _ hcb2)).trans hcb2
      clear HX2 HB2 hca2 hcb2
      go_wp2_with fail
      generalize w2.alloc (.cells #[.bool false, .int .u8 ((fun _ => (0 : Int)) 0), .int .u8 ((fun _ => (0 : Int)) 1), .int .u8 ((fun _ => (0 : Int)) 2), .int .u8 ((fun _ => (0 : Int)) 3), .int .u8 ((fun _ => (0 : Int)) 4), .int .u8 ((fun _ => (0 : Int)) 5), .int .u8 ((fun _ => (0 : Int)) 6), .int .u8 ((fun _ => (0 : Int)) 7), .int .u8 ((fun _ => (0 : Int)) 8), .int .u8 ((fun _ => (0 : Int)) 9), .int .u8 ((fun _ => (0 : Int)) 10), .int .u8 ((fun _ => (0 : Int)) 11), .int .u8 ((fun _ => (0 : Int)) 12), .int .u8 ((fun _ => (0 : Int)) 13), .int .u8 ((fun _ => (0 : Int)) 14), .int .u8 ((fun _ => (0 : Int)) 15)] 41) = w3 at *
      refine Calls.mono (HNU.out w3) ?_
      rintro e w4 ⟨rfl, hb4⟩
      have HX4 := Lib.hid (HX3.out.below hb4)
      have HB4 := Lib.hid (Below.via HB3.out hb4)
      have hpp := (HY3.out.below hb4).part
      have hlt4 := HX4.out.lt
      have hcb4 := (hb4.cell (World.block_lt_of_cell? w3 _ hcb3)).trans hcb3
      clear hb4 HX3 HB3 HY3 hcb3
      cases hn : numberL 10 129 b with
      | none =>
        simp only [numV]
        clear hn
        unfold pfV at *
        have HX8 := Lib.hid (HX4.out.alloc (.cells #[.bool false, .int .u8 ((fun _ => (0 : Int)) 0), .int .u8 ((fun _ => (0 : Int)) 1), .int .u8 ((fun _ => (0 : Int)) 2), .int .u8 ((fun _ => (0 : Int)) 3), .int .u8 ((fun _ => (0 : Int)) 4), .int .u8 ((fun _ => (0 : Int)) 5), .int .u8 ((fun _ => (0 : Int)) 6), .int .u8 ((fun _ => (0 : Int)) 7), .int .u8 ((fun _ => (0 : Int)) 8), .int .u8 ((fun _ => (0 : Int)) 9), .int .u8 ((fun _ => (0 : Int)) 10), .int .u8 ((fun _ => (0 : Int)) 11), .int .u8 ((fun _ => (0 : Int)) 12), .int .u8 ((fun _ => (0 : Int)) 13), .int .u8 ((fun _ => (0 : Int)) 14), .int .u8 ((fun _ => (0 : Int)) 15), .int .i64 (0 : Int)] 47))
        have HB8 := Lib.hid (Below.all HB4.out (.cells #[.bool false, .int .u8 ((fun _ => (0 : Int)) 0), .int .u8 ((fun _ => (0 : Int)) 1), .int .u8 ((fun _ => (0 : Int)) 2), .int .u8 ((fun _ => (0 : Int)) 3), .int .u8 ((fun _ => (0 : Int)) 4), .int .u8 ((fun _ => (0 : Int)) 5), .int .u8 ((fun _ => (0 : Int)) 6), .int .u8 ((fun _ => (0 : Int)) 7), .int .u8 ((fun _ => (0 : Int)) 8), .int .u8 ((fun _ => (0 : Int)) 9), .int .u8 ((fun _ => (0 : Int)) 10), .int .u8 ((fun _ => (0 : Int)) 11), .int .u8 ((fun _ => (0 : Int)) 12), .int .u8 ((fun _ => (0 : Int)) 13), .int .u8 ((fun _ => (0 : Int)) 14), .int .u8 ((fun _ => (0 : Int)) 15), .int .i64 (0 : Int)] 47))
        have HY8 := Lib.hid (PfBox.made w4 47 false (fun _ => (0 : Int)) (0 : Int))
        have hcb8 : (w4.alloc (.cells #[.bool false, .int .u8 ((fun _ => (0 : Int)) 0), .int .u8 ((fun _ => (0 : Int)) 1), .int .u8 ((fun _ => (0 : Int)) 2), .int .u8 ((fun _ => (0 : Int)) 3), .int .u8 ((fun _ => (0 : Int)) 4), .int .u8 ((fun _ => (0 : Int)) 5), .int .u8 ((fun _ => (0 : Int)) 6), .int .u8 ((fun _ => (0 : Int)) 7), .int .u8 ((fun _ => (0 : Int)) 8), .int .u8 ((fun _ => (0 : Int)) 9), .int .u8 ((fun _ => (0 : Int)) 10), .int .u8 ((fun _ => (0 : Int)) 11), .int .u8 ((fun _ => (0 : Int)) 12), .int .u8 ((fun _ => (0 : Int)) 13), .int .u8 ((fun _ => (0 : Int)) 14), .int .u8 ((fun _ => (0 : Int)) 15), .int .i64 (0 : Int)] 47)).cell? ⟨g, off + 1, none⟩ = some (.string ⟨b.toArray⟩) := ((Below.all (Below.refl _ _) _).cell (World.block_lt_of_cell? w4 _ hcb4)).trans hcb4
        go_wp2_with fail
        clear HX4 HB4 hcb4 hpp
        generalize w4.alloc (.cells #[.bool false, .int .u8 ((fun _ => (0 : Int)) 0), .int .u8 ((fun _ => (0 : Int)) 1), .int .u8 ((fun _ => (0 : Int)) 2), .int .u8 ((fun _ => (0 : Int)) 3), .int .u8 ((fun _ => (0 : Int)) 4), .int .u8 ((fun _ => (0 : Int)) 5), .int .u8 ((fun _ => (0 : Int)) 6), .int .u8 ((fun _ => (0 : Int)) 7), .int .u8 ((fun _ => (0 : Int)) 8), .int .u8 ((fun _ => (0 : Int)) 9), .int .u8 ((fun _ => (0 : Int)) 10), .int .u8 ((fun _ => (0 : Int)) 11), .int .u8 ((fun _ => (0 : Int)) 12), .int .u8 ((fun _ => (0 : Int)) 13), .int .u8 ((fun _ => (0 : Int)) 14), .int .u8 ((fun _ => (0 : Int)) 15), .int .i64 (0 : Int)] 47) = w8 at *
        have hp8 := HY8.out.part
        have hl8 := HY8.out.lt
        have hg8 : g < w8.heap.size := World.block_lt_of_cell? w8 _ hcb8
        refine wp_region_later (by kernel_rfl) (by kernel_rfl) ?_
        repeat go_big_quiet_step (fail)
        refine wpQuiet_nil ?_
        intro x
        have HX9 := Lib.hid (HX8.out.below x.below)
        have HB9 := Lib.hid (Below.via HB8.out x.below)
        have hrr := HX9.out.row
        have HH := Lib.hid HX9.out.heap
        go_wp2_with fail
        exact bodyPost_ret (v := .tuple #[pfV false (fun _ => 0) 0, .int .i64 40]) (results_pf2 _ _ Tryz.underlying47 info_rpf rfl _ _ w.heap.size (.int .i64 40) rfl rfl (partOf_set2 HH.out)) rfl (.mk (by rw [HR.out]; rfl) (below_setRow HB9.out (Nat.le_refl _) _))
      | some n =>
        simp only [numV]
        have hn129 := numberL_bd (by decide) hn
        clear hn
        unfold pfV at *
        have HX8 := Lib.hid (HX4.out.alloc (.cells #[.bool false, .int .u8 ((fun _ => (0 : Int)) 0), .int .u8 ((fun _ => (0 : Int)) 1), .int .u8 ((fun _ => (0 : Int)) 2), .int .u8 ((fun _ => (0 : Int)) 3), .int .u8 ((fun _ => (0 : Int)) 4), .int .u8 ((fun _ => (0 : Int)) 5), .int .u8 ((fun _ => (0 : Int)) 6), .int .u8 ((fun _ => (0 : Int)) 7), .int .u8 ((fun _ => (0 : Int)) 8), .int .u8 ((fun _ => (0 : Int)) 9), .int .u8 ((fun _ => (0 : Int)) 10), .int .u8 ((fun _ => (0 : Int)) 11), .int .u8 ((fun _ => (0 : Int)) 12), .int .u8 ((fun _ => (0 : Int)) 13), .int .u8 ((fun _ => (0 : Int)) 14), .int .u8 ((fun _ => (0 : Int)) 15), .int .i64 (n : Int)] 47))
        have HB8 := Lib.hid (Below.all HB4.out (.cells #[.bool false, .int .u8 ((fun _ => (0 : Int)) 0), .int .u8 ((fun _ => (0 : Int)) 1), .int .u8 ((fun _ => (0 : Int)) 2), .int .u8 ((fun _ => (0 : Int)) 3), .int .u8 ((fun _ => (0 : Int)) 4), .int .u8 ((fun _ => (0 : Int)) 5), .int .u8 ((fun _ => (0 : Int)) 6), .int .u8 ((fun _ => (0 : Int)) 7), .int .u8 ((fun _ => (0 : Int)) 8), .int .u8 ((fun _ => (0 : Int)) 9), .int .u8 ((fun _ => (0 : Int)) 10), .int .u8 ((fun _ => (0 : Int)) 11), .int .u8 ((fun _ => (0 : Int)) 12), .int .u8 ((fun _ => (0 : Int)) 13), .int .u8 ((fun _ => (0 : Int)) 14), .int .u8 ((fun _ => (0 : Int)) 15), .int .i64 (n : Int)] 47))
        have HY8 := Lib.hid (PfBox.made w4 47 false (fun _ => (0 : Int)) (n : Int))
        have hcb8 : (w4.alloc (.cells #[.bool false, .int .u8 ((fun _ => (0 : Int)) 0), .int .u8 ((fun _ => (0 : Int)) 1), .int .u8 ((fun _ => (0 : Int)) 2), .int .u8 ((fun _ => (0 : Int)) 3), .int .u8 ((fun _ => (0 : Int)) 4), .int .u8 ((fun _ => (0 : Int)) 5), .int .u8 ((fun _ => (0 : Int)) 6), .int .u8 ((fun _ => (0 : Int)) 7), .int .u8 ((fun _ => (0 : Int)) 8), .int .u8 ((fun _ => (0 : Int)) 9), .int .u8 ((fun _ => (0 : Int)) 10), .int .u8 ((fun _ => (0 : Int)) 11), .int .u8 ((fun _ => (0 : Int)) 12), .int .u8 ((fun _ => (0 : Int)) 13), .int .u8 ((fun _ => (0 : Int)) 14), .int .u8 ((fun _ => (0 : Int)) 15), .int .i64 (n : Int)] 47)).cell? ⟨g, off + 1, none⟩ = some (.string ⟨b.toArray⟩) := ((Below.all (Below.refl _ _) _).cell (World.block_lt_of_cell? w4 _ hcb4)).trans hcb4
        go_wp2_with fail
        clear HX4 HB4 hcb4 hpp
        generalize w4.alloc (.cells #[.bool false, .int .u8 ((fun _ => (0 : Int)) 0), .int .u8 ((fun _ => (0 : Int)) 1), .int .u8 ((fun _ => (0 : Int)) 2), .int .u8 ((fun _ => (0 : Int)) 3), .int .u8 ((fun _ => (0 : Int)) 4), .int .u8 ((fun _ => (0 : Int)) 5), .int .u8 ((fun _ => (0 : Int)) 6), .int .u8 ((fun _ => (0 : Int)) 7), .int .u8 ((fun _ => (0 : Int)) 8), .int .u8 ((fun _ => (0 : Int)) 9), .int .u8 ((fun _ => (0 : Int)) 10), .int .u8 ((fun _ => (0 : Int)) 11), .int .u8 ((fun _ => (0 : Int)) 12), .int .u8 ((fun _ => (0 : Int)) 13), .int .u8 ((fun _ => (0 : Int)) 14), .int .u8 ((fun _ => (0 : Int)) 15), .int .i64 (n : Int)] 47) = w8 at *
        have hp8 := HY8.out.part
        have hl8 := HY8.out.lt
        have hg8 : g < w8.heap.size := World.block_lt_of_cell? w8 _ hcb8
        refine wp_region_later (by kernel_rfl) (by kernel_rfl) ?_
        repeat go_big_quiet_step (fail)
        refine wpQuiet_nil ?_
        intro x
        have HX9 := Lib.hid (HX8.out.below x.below)
        have HB9 := Lib.hid (Below.via HB8.out x.below)
        have hrr := HX9.out.row
        have HH := Lib.hid HX9.out.heap
        go_wp2_with fail
        exact bodyPost_ret (v := .tuple #[pfV false (fun _ => 0) 0, .int .i64 40]) (results_pf2 _ _ Tryz.underlying47 info_rpf rfl _ _ w.heap.size (.int .i64 40) rfl rfl (partOf_set2 HH.out)) rfl (.mk (by rw [HR.out]; rfl) (below_setRow HB9.out (Nat.le_refl _) _))
  · have HR := Lib.hid hP
    have hln := HPC.out
    clear HPP hP HPL HPC HOO
    have hn3 : ¬ ((P.length : Int) = 2) := by omega
    generalize P.length = nP at *
    have hrr := HX1.out.row
    have HH := Lib.hid HX1.out.heap
    go_wp2_with fail
    exact bodyPost_ret (v := .tuple #[pfV false (fun _ => 0) 0, .int .i64 40]) (results_pf2 _ _ Tryz.underlying47 info_rpf rfl _ _ w.heap.size (.int .i64 40) rfl rfl (partOf_set2 HH.out)) rfl (.mk (by rw [HR.out]; rfl) (below_setRow HB1.out (Nat.le_refl _) _))
end Go.Proofs.YtcadpcppnllhnaaGreatDoor
end

/- The walk over the chapter's examples (works). -/
section
set_option linter.unusedSimpArgs false
set_option linter.unusedVariables false
namespace Go.Proofs.YtcadpcppnllhnaaGreatDoor
open Go.RowKit

theorem ex1 : fourL [49, 48, 46, 48, 46, 48, 46, 50, 53, 53] = some [10, 0, 0, 255] := by decide +kernel
theorem ex2a : fourL [50, 48, 48, 49, 58, 68, 66, 56, 58, 48, 58, 48, 58, 49, 58, 48, 58, 48, 58, 49] = none := by decide +kernel
theorem ex2b : sixL [50, 48, 48, 49, 58, 68, 66, 56, 58, 48, 58, 48, 58, 49, 58, 48, 58, 48, 58, 49] = some [8193, 3512, 0, 0, 1, 0, 0, 1] := by decide +kernel
theorem ex3a : fourL [49, 58, 58] = none := by decide +kernel
theorem ex3b : sixL [49, 58, 58] = some [1, 0, 0, 0, 0, 0, 0, 0] := by decide +kernel
theorem ex4a : fourL [48, 49, 46, 50, 46, 51, 46, 52] = none := by decide +kernel
theorem ex4b : sixL [48, 49, 46, 50, 46, 51, 46, 52] = none := by decide +kernel
theorem ex5a : fourL [49, 58, 58, 50, 58, 58, 51] = none := by decide +kernel
theorem ex5b : sixL [49, 58, 58, 50, 58, 58, 51] = none := by decide +kernel
theorem ex6a : fourL [49, 48, 46, 48, 46, 48, 46, 49] = some [10, 0, 0, 1] := by decide +kernel
theorem ex6b : decL 129 [56] = some 8 := by decide +kernel
theorem ex6c : Lib.cut [49, 48, 46, 48, 46, 48, 46, 49, 47, 56] [47] = ([49, 48, 46, 48, 46, 48, 46, 49], [56], true) := by decide +kernel
theorem ex6d : rightPB false (fourB [10, 0, 0, 1]) 8 = false := by decide +kernel
theorem ex6 : ppL [49, 48, 46, 48, 46, 48, 46, 49, 47, 56] = none := by
  unfold ppL
  rw [ex6c, parseL_of, ex6a, ex6b]
  show (if rightPB false (fourB [10, 0, 0, 1]) 8 = true then some (false, fourB [10, 0, 0, 1], 8) else none) = none
  rw [ex6d]; rfl
theorem ex2t : adText true (sixB [8193, 3512, 0, 0, 1, 0, 0, 1]) = [50, 48, 48, 49, 58, 100, 98, 56, 58, 58, 49, 58, 48, 58, 48, 58, 49] := by decide +kernel
theorem exc1 (w : World) (h : Env w) : Calls Tryz.prog 13 #[.string ⟨#[49, 48, 46, 48, 46, 48, 46, 50, 53, 53]⟩] w (RetAt w (.tuple #[.agg #[.bool false, .int .u8 10, .int .u8 0, .int .u8 0, .int .u8 255, .int .u8 0, .int .u8 0, .int .u8 0, .int .u8 0, .int .u8 0, .int .u8 0, .int .u8 0, .int .u8 0, .int .u8 0, .int .u8 0, .int .u8 0, .int .u8 0], .int .i64 0])) := by
  have h1 := parse_any ⟨#[49, 48, 46, 48, 46, 48, 46, 50, 53, 53]⟩ w (by decide) h
  rw [show (⟨#[49, 48, 46, 48, 46, 48, 46, 50, 53, 53]⟩ : ByteArray).data.toList = [49, 48, 46, 48, 46, 48, 46, 50, 53, 53] from rfl, parseL_of, ex1] at h1
  exact h1
theorem exc2 (w : World) (h : Env w) : Calls Tryz.prog 13 #[.string ⟨#[50, 48, 48, 49, 58, 68, 66, 56, 58, 48, 58, 48, 58, 49, 58, 48, 58, 48, 58, 49]⟩] w (RetAt w (.tuple #[.agg #[.bool true, .int .u8 32, .int .u8 1, .int .u8 13, .int .u8 184, .int .u8 0, .int .u8 0, .int .u8 0, .int .u8 0, .int .u8 0, .int .u8 1, .int .u8 0, .int .u8 0, .int .u8 0, .int .u8 0, .int .u8 0, .int .u8 1], .int .i64 0])) := by
  have h1 := parse_any ⟨#[50, 48, 48, 49, 58, 68, 66, 56, 58, 48, 58, 48, 58, 49, 58, 48, 58, 48, 58, 49]⟩ w (by decide) h
  rw [show (⟨#[50, 48, 48, 49, 58, 68, 66, 56, 58, 48, 58, 48, 58, 49, 58, 48, 58, 48, 58, 49]⟩ : ByteArray).data.toList = [50, 48, 48, 49, 58, 68, 66, 56, 58, 48, 58, 48, 58, 49, 58, 48, 58, 48, 58, 49] from rfl, parseL_of, ex2a, ex2b] at h1
  exact h1
theorem exc3 (w : World) (h : Env w) : Calls Tryz.prog 13 #[.string ⟨#[49, 58, 58]⟩] w (RetAt w (.tuple #[.agg #[.bool true, .int .u8 0, .int .u8 1, .int .u8 0, .int .u8 0, .int .u8 0, .int .u8 0, .int .u8 0, .int .u8 0, .int .u8 0, .int .u8 0, .int .u8 0, .int .u8 0, .int .u8 0, .int .u8 0, .int .u8 0, .int .u8 0], .int .i64 0])) := by
  have h1 := parse_any ⟨#[49, 58, 58]⟩ w (by decide) h
  rw [show (⟨#[49, 58, 58]⟩ : ByteArray).data.toList = [49, 58, 58] from rfl, parseL_of, ex3a, ex3b] at h1
  exact h1
theorem exc4 (w : World) (h : Env w) : Calls Tryz.prog 13 #[.string ⟨#[48, 49, 46, 50, 46, 51, 46, 52]⟩] w (RetAt w (.tuple #[.agg #[.bool false, .int .u8 0, .int .u8 0, .int .u8 0, .int .u8 0, .int .u8 0, .int .u8 0, .int .u8 0, .int .u8 0, .int .u8 0, .int .u8 0, .int .u8 0, .int .u8 0, .int .u8 0, .int .u8 0, .int .u8 0, .int .u8 0], .int .i64 40])) := by
  have h1 := parse_any ⟨#[48, 49, 46, 50, 46, 51, 46, 52]⟩ w (by decide) h
  rw [show (⟨#[48, 49, 46, 50, 46, 51, 46, 52]⟩ : ByteArray).data.toList = [48, 49, 46, 50, 46, 51, 46, 52] from rfl, parseL_of, ex4a, ex4b] at h1
  exact h1
theorem exc5 (w : World) (h : Env w) : Calls Tryz.prog 13 #[.string ⟨#[49, 58, 58, 50, 58, 58, 51]⟩] w (RetAt w (.tuple #[.agg #[.bool false, .int .u8 0, .int .u8 0, .int .u8 0, .int .u8 0, .int .u8 0, .int .u8 0, .int .u8 0, .int .u8 0, .int .u8 0, .int .u8 0, .int .u8 0, .int .u8 0, .int .u8 0, .int .u8 0, .int .u8 0, .int .u8 0], .int .i64 40])) := by
  have h1 := parse_any ⟨#[49, 58, 58, 50, 58, 58, 51]⟩ w (by decide) h
  rw [show (⟨#[49, 58, 58, 50, 58, 58, 51]⟩ : ByteArray).data.toList = [49, 58, 58, 50, 58, 58, 51] from rfl, parseL_of, ex5a, ex5b] at h1
  exact h1
theorem exc6 (w : World) (h : Env w) : Calls Tryz.prog 15 #[.string ⟨#[49, 48, 46, 48, 46, 48, 46, 49, 47, 56]⟩] w (RetAt w (.tuple #[.agg #[.bool false, .int .u8 0, .int .u8 0, .int .u8 0, .int .u8 0, .int .u8 0, .int .u8 0, .int .u8 0, .int .u8 0, .int .u8 0, .int .u8 0, .int .u8 0, .int .u8 0, .int .u8 0, .int .u8 0, .int .u8 0, .int .u8 0, .int .i64 0], .int .i64 40])) := by
  have h1 := pparse_any ⟨#[49, 48, 46, 48, 46, 48, 46, 49, 47, 56]⟩ w (by decide) h
  rw [show (⟨#[49, 48, 46, 48, 46, 48, 46, 49, 47, 56]⟩ : ByteArray).data.toList = [49, 48, 46, 48, 46, 48, 46, 49, 47, 56] from rfl, ex6] at h1
  exact h1
theorem exc7 (w : World) (h : Env w) : Calls Tryz.prog 10 #[.agg #[.bool true, .int .u8 32, .int .u8 1, .int .u8 13, .int .u8 184, .int .u8 0, .int .u8 0, .int .u8 0, .int .u8 0, .int .u8 0, .int .u8 1, .int .u8 0, .int .u8 0, .int .u8 0, .int .u8 0, .int .u8 0, .int .u8 1]] w (RetAt w (.string ⟨#[50, 48, 48, 49, 58, 100, 98, 56, 58, 58, 49, 58, 48, 58, 48, 58, 49]⟩)) := by
  have h1 := text_any true (sixB [8193, 3512, 0, 0, 1, 0, 0, 1]) (sixB_u8 (by decide)) w h
  rw [ex2t] at h1
  exact h1

theorem cell_up {w w' : World} (h : Below w.heap.size w w') {b : Nat} {cs : Array Value} {t : TypeId} (hc : w.heap[b]? = some (.cells cs t (0, 0))) : w'.heap[b]? = some (.cells cs t (0, 0)) := (h.block _ (Array.getElem?_eq_some_iff.1 hc).1).trans hc

set_option maxRecDepth 20000 in
set_option maxHeartbeats 16000000 in
theorem works_any (w : World) (henv : Env w) : Calls Tryz.prog 12 #[] w (RetAt w (.bool true)) := by
  have HE := Lib.hid henv
  clear henv
  have he1 : eqL [10, 0, 0, 255, 0, 0, 0, 0, 0, 0, 0, 0, 0, 0, 0, 0] [10, 0, 0, 255, 0, 0, 0, 0, 0, 0, 0, 0, 0, 0, 0, 0] = true := by decide
  have he3 : eqL [0, 1, 0, 0, 0, 0, 0, 0, 0, 0, 0, 0, 0, 0, 0, 0] [0, 1, 0, 0, 0, 0, 0, 0, 0, 0, 0, 0, 0, 0, 0, 0] = true := by decide
  go_enter Tryz.func12, Tryz.ntmps12
  go_wp2_with fail
  refine Calls.mono (exc1 _ (HE.out)) ?_
  rintro e w1 ⟨rfl, hb⟩
  have HB1 : Hid (Below w.heap.size w (w1.alloc (.cells #[.bool false, .int .u8 10, .int .u8 0, .int .u8 0, .int .u8 255, .int .u8 0, .int .u8 0, .int .u8 0, .int .u8 0, .int .u8 0, .int .u8 0, .int .u8 0, .int .u8 0, .int .u8 0, .int .u8 0, .int .u8 0, .int .u8 0] 26))) := Lib.hid (Below.all (Below.via (Below.refl _ _) hb) _)
  have hz1 : w1.heap.size < (w1.alloc (.cells #[.bool false, .int .u8 10, .int .u8 0, .int .u8 0, .int .u8 255, .int .u8 0, .int .u8 0, .int .u8 0, .int .u8 0, .int .u8 0, .int .u8 0, .int .u8 0, .int .u8 0, .int .u8 0, .int .u8 0, .int .u8 0, .int .u8 0] 26)).heap.size := by simp
  have HC1 : Hid ((w1.alloc (.cells #[.bool false, .int .u8 10, .int .u8 0, .int .u8 0, .int .u8 255, .int .u8 0, .int .u8 0, .int .u8 0, .int .u8 0, .int .u8 0, .int .u8 0, .int .u8 0, .int .u8 0, .int .u8 0, .int .u8 0, .int .u8 0, .int .u8 0] 26)).heap[w1.heap.size]? = some (.cells #[.bool false, .int .u8 10, .int .u8 0, .int .u8 0, .int .u8 255, .int .u8 0, .int .u8 0, .int .u8 0, .int .u8 0, .int .u8 0, .int .u8 0, .int .u8 0, .int .u8 0, .int .u8 0, .int .u8 0, .int .u8 0, .int .u8 0] 26 (0, 0))) := Lib.hid (heap_alloc_new w1 _)
  clear hb
  go_wp2_with fail
  generalize w1.alloc (.cells #[.bool false, .int .u8 10, .int .u8 0, .int .u8 0, .int .u8 255, .int .u8 0, .int .u8 0, .int .u8 0, .int .u8 0, .int .u8 0, .int .u8 0, .int .u8 0, .int .u8 0, .int .u8 0, .int .u8 0, .int .u8 0, .int .u8 0] 26) = v1 at *
  refine Calls.mono (exc2 _ (HE.out.below HB1.out)) ?_
  rintro e w2 ⟨rfl, hb⟩
  have HB2 : Hid (Below w.heap.size w (w2.alloc (.cells #[.bool true, .int .u8 32, .int .u8 1, .int .u8 13, .int .u8 184, .int .u8 0, .int .u8 0, .int .u8 0, .int .u8 0, .int .u8 0, .int .u8 1, .int .u8 0, .int .u8 0, .int .u8 0, .int .u8 0, .int .u8 0, .int .u8 1] 26))) := Lib.hid (Below.all (Below.via (HB1.out) hb) _)
  have hz2 : w2.heap.size < (w2.alloc (.cells #[.bool true, .int .u8 32, .int .u8 1, .int .u8 13, .int .u8 184, .int .u8 0, .int .u8 0, .int .u8 0, .int .u8 0, .int .u8 0, .int .u8 1, .int .u8 0, .int .u8 0, .int .u8 0, .int .u8 0, .int .u8 0, .int .u8 1] 26)).heap.size := by simp
  have HC1 := Lib.hid (cell_up (Below.all hb (.cells #[.bool true, .int .u8 32, .int .u8 1, .int .u8 13, .int .u8 184, .int .u8 0, .int .u8 0, .int .u8 0, .int .u8 0, .int .u8 0, .int .u8 1, .int .u8 0, .int .u8 0, .int .u8 0, .int .u8 0, .int .u8 0, .int .u8 1] 26)) HC1.out)
  have HC2 : Hid ((w2.alloc (.cells #[.bool true, .int .u8 32, .int .u8 1, .int .u8 13, .int .u8 184, .int .u8 0, .int .u8 0, .int .u8 0, .int .u8 0, .int .u8 0, .int .u8 1, .int .u8 0, .int .u8 0, .int .u8 0, .int .u8 0, .int .u8 0, .int .u8 1] 26)).heap[w2.heap.size]? = some (.cells #[.bool true, .int .u8 32, .int .u8 1, .int .u8 13, .int .u8 184, .int .u8 0, .int .u8 0, .int .u8 0, .int .u8 0, .int .u8 0, .int .u8 1, .int .u8 0, .int .u8 0, .int .u8 0, .int .u8 0, .int .u8 0, .int .u8 1] 26 (0, 0))) := Lib.hid (heap_alloc_new w2 _)
  clear hb
  go_wp2_with fail
  generalize w2.alloc (.cells #[.bool true, .int .u8 32, .int .u8 1, .int .u8 13, .int .u8 184, .int .u8 0, .int .u8 0, .int .u8 0, .int .u8 0, .int .u8 0, .int .u8 1, .int .u8 0, .int .u8 0, .int .u8 0, .int .u8 0, .int .u8 0, .int .u8 1] 26) = v2 at *
  refine Calls.mono (exc3 _ (HE.out.below HB2.out)) ?_
  rintro e w3 ⟨rfl, hb⟩
  have HB3 : Hid (Below w.heap.size w (w3.alloc (.cells #[.bool true, .int .u8 0, .int .u8 1, .int .u8 0, .int .u8 0, .int .u8 0, .int .u8 0, .int .u8 0, .int .u8 0, .int .u8 0, .int .u8 0, .int .u8 0, .int .u8 0, .int .u8 0, .int .u8 0, .int .u8 0, .int .u8 0] 26))) := Lib.hid (Below.all (Below.via (HB2.out) hb) _)
  have hz3 : w3.heap.size < (w3.alloc (.cells #[.bool true, .int .u8 0, .int .u8 1, .int .u8 0, .int .u8 0, .int .u8 0, .int .u8 0, .int .u8 0, .int .u8 0, .int .u8 0, .int .u8 0, .int .u8 0, .int .u8 0, .int .u8 0, .int .u8 0, .int .u8 0, .int .u8 0] 26)).heap.size := by simp
  have HC1 := Lib.hid (cell_up (Below.all hb (.cells #[.bool true, .int .u8 0, .int .u8 1, .int .u8 0, .int .u8 0, .int .u8 0, .int .u8 0, .int .u8 0, .int .u8 0, .int .u8 0, .int .u8 0, .int .u8 0, .int .u8 0, .int .u8 0, .int .u8 0, .int .u8 0, .int .u8 0] 26)) HC1.out)
  have HC2 := Lib.hid (cell_up (Below.all hb (.cells #[.bool true, .int .u8 0, .int .u8 1, .int .u8 0, .int .u8 0, .int .u8 0, .int .u8 0, .int .u8 0, .int .u8 0, .int .u8 0, .int .u8 0, .int .u8 0, .int .u8 0, .int .u8 0, .int .u8 0, .int .u8 0, .int .u8 0] 26)) HC2.out)
  have HC3 : Hid ((w3.alloc (.cells #[.bool true, .int .u8 0, .int .u8 1, .int .u8 0, .int .u8 0, .int .u8 0, .int .u8 0, .int .u8 0, .int .u8 0, .int .u8 0, .int .u8 0, .int .u8 0, .int .u8 0, .int .u8 0, .int .u8 0, .int .u8 0, .int .u8 0] 26)).heap[w3.heap.size]? = some (.cells #[.bool true, .int .u8 0, .int .u8 1, .int .u8 0, .int .u8 0, .int .u8 0, .int .u8 0, .int .u8 0, .int .u8 0, .int .u8 0, .int .u8 0, .int .u8 0, .int .u8 0, .int .u8 0, .int .u8 0, .int .u8 0, .int .u8 0] 26 (0, 0))) := Lib.hid (heap_alloc_new w3 _)
  clear hb
  go_wp2_with fail
  generalize w3.alloc (.cells #[.bool true, .int .u8 0, .int .u8 1, .int .u8 0, .int .u8 0, .int .u8 0, .int .u8 0, .int .u8 0, .int .u8 0, .int .u8 0, .int .u8 0, .int .u8 0, .int .u8 0, .int .u8 0, .int .u8 0, .int .u8 0, .int .u8 0] 26) = v3 at *
  refine Calls.mono (exc4 _ (HE.out.below HB3.out)) ?_
  rintro e w4 ⟨rfl, hb⟩
  have HB4 : Hid (Below w.heap.size w (w4.alloc (.cells #[.bool false, .int .u8 0, .int .u8 0, .int .u8 0, .int .u8 0, .int .u8 0, .int .u8 0, .int .u8 0, .int .u8 0, .int .u8 0, .int .u8 0, .int .u8 0, .int .u8 0, .int .u8 0, .int .u8 0, .int .u8 0, .int .u8 0] 26))) := Lib.hid (Below.all (Below.via (HB3.out) hb) _)
  have hz4 : w4.heap.size < (w4.alloc (.cells #[.bool false, .int .u8 0, .int .u8 0, .int .u8 0, .int .u8 0, .int .u8 0, .int .u8 0, .int .u8 0, .int .u8 0, .int .u8 0, .int .u8 0, .int .u8 0, .int .u8 0, .int .u8 0, .int .u8 0, .int .u8 0, .int .u8 0] 26)).heap.size := by simp
  have HC1 := Lib.hid (cell_up (Below.all hb (.cells #[.bool false, .int .u8 0, .int .u8 0, .int .u8 0, .int .u8 0, .int .u8 0, .int .u8 0, .int .u8 0, .int .u8 0, .int .u8 0, .int .u8 0, .int .u8 0, .int .u8 0, .int .u8 0, .int .u8 0, .int .u8 0, .int .u8 0] 26)) HC1.out)
  have HC2 := Lib.hid (cell_up (Below.all hb (.cells #[.bool false, .int .u8 0, .int .u8 0, .int .u8 0, .int .u8 0, .int .u8 0, .int .u8 0, .int .u8 0, .int .u8 0, .int .u8 0, .int .u8 0, .int .u8 0, .int .u8 0, .int .u8 0, .int .u8 0, .int .u8 0, .int .u8 0] 26)) HC2.out)
  have HC3 := Lib.hid (cell_up (Below.all hb (.cells #[.bool false, .int .u8 0, .int .u8 0, .int .u8 0, .int .u8 0, .int .u8 0, .int .u8 0, .int .u8 0, .int .u8 0, .int .u8 0, .int .u8 0, .int .u8 0, .int .u8 0, .int .u8 0, .int .u8 0, .int .u8 0, .int .u8 0] 26)) HC3.out)
  clear hb
  go_wp2_with fail
  generalize w4.alloc (.cells #[.bool false, .int .u8 0, .int .u8 0, .int .u8 0, .int .u8 0, .int .u8 0, .int .u8 0, .int .u8 0, .int .u8 0, .int .u8 0, .int .u8 0, .int .u8 0, .int .u8 0, .int .u8 0, .int .u8 0, .int .u8 0, .int .u8 0] 26) = v4 at *
  refine Calls.mono (exc5 _ (HE.out.below HB4.out)) ?_
  rintro e w5 ⟨rfl, hb⟩
  have HB5 : Hid (Below w.heap.size w (w5.alloc (.cells #[.bool false, .int .u8 0, .int .u8 0, .int .u8 0, .int .u8 0, .int .u8 0, .int .u8 0, .int .u8 0, .int .u8 0, .int .u8 0, .int .u8 0, .int .u8 0, .int .u8 0, .int .u8 0, .int .u8 0, .int .u8 0, .int .u8 0] 26))) := Lib.hid (Below.all (Below.via (HB4.out) hb) _)
  have hz5 : w5.heap.size < (w5.alloc (.cells #[.bool false, .int .u8 0, .int .u8 0, .int .u8 0, .int .u8 0, .int .u8 0, .int .u8 0, .int .u8 0, .int .u8 0, .int .u8 0, .int .u8 0, .int .u8 0, .int .u8 0, .int .u8 0, .int .u8 0, .int .u8 0, .int .u8 0] 26)).heap.size := by simp
  have HC1 := Lib.hid (cell_up (Below.all hb (.cells #[.bool false, .int .u8 0, .int .u8 0, .int .u8 0, .int .u8 0, .int .u8 0, .int .u8 0, .int .u8 0, .int .u8 0, .int .u8 0, .int .u8 0, .int .u8 0, .int .u8 0, .int .u8 0, .int .u8 0, .int .u8 0, .int .u8 0] 26)) HC1.out)
  have HC2 := Lib.hid (cell_up (Below.all hb (.cells #[.bool false, .int .u8 0, .int .u8 0, .int .u8 0, .int .u8 0, .int .u8 0, .int .u8 0, .int .u8 0, .int .u8 0, .int .u8 0, .int .u8 0, .int .u8 0, .int .u8 0, .int .u8 0, .int .u8 0, .int .u8 0, .int .u8 0] 26)) HC2.out)
  have HC3 := Lib.hid (cell_up (Below.all hb (.cells #[.bool false, .int .u8 0, .int .u8 0, .int .u8 0, .int .u8 0, .int .u8 0, .int .u8 0, .int .u8 0, .int .u8 0, .int .u8 0, .int .u8 0, .int .u8 0, .int .u8 0, .int .u8 0, .int .u8 0, .int .u8 0, .int .u8 0] 26)) HC3.out)
  clear hb
  go_wp2_with fail
  generalize w5.alloc (.cells #[.bool false, .int .u8 0, .int .u8 0, .int .u8 0, .int .u8 0, .int .u8 0, .int .u8 0, .int .u8 0, .int .u8 0, .int .u8 0, .int .u8 0, .int .u8 0, .int .u8 0, .int .u8 0, .int .u8 0, .int .u8 0, .int .u8 0] 26) = v5 at *
  refine Calls.mono (exc6 _ (HE.out.below HB5.out)) ?_
  rintro e w6 ⟨rfl, hb⟩
  have HB6 : Hid (Below w.heap.size w (w6.alloc (.cells #[.bool false, .int .u8 0, .int .u8 0, .int .u8 0, .int .u8 0, .int .u8 0, .int .u8 0, .int .u8 0, .int .u8 0, .int .u8 0, .int .u8 0, .int .u8 0, .int .u8 0, .int .u8 0, .int .u8 0, .int .u8 0, .int .u8 0, .int .i64 0] 33))) := Lib.hid (Below.all (Below.via (HB5.out) hb) _)
  have hz6 : w6.heap.size < (w6.alloc (.cells #[.bool false, .int .u8 0, .int .u8 0, .int .u8 0, .int .u8 0, .int .u8 0, .int .u8 0, .int .u8 0, .int .u8 0, .int .u8 0, .int .u8 0, .int .u8 0, .int .u8 0, .int .u8 0, .int .u8 0, .int .u8 0, .int .u8 0, .int .i64 0] 33)).heap.size := by simp
  have HC1 := Lib.hid (cell_up (Below.all hb (.cells #[.bool false, .int .u8 0, .int .u8 0, .int .u8 0, .int .u8 0, .int .u8 0, .int .u8 0, .int .u8 0, .int .u8 0, .int .u8 0, .int .u8 0, .int .u8 0, .int .u8 0, .int .u8 0, .int .u8 0, .int .u8 0, .int .u8 0, .int .i64 0] 33)) HC1.out)
  have HC2 := Lib.hid (cell_up (Below.all hb (.cells #[.bool false, .int .u8 0, .int .u8 0, .int .u8 0, .int .u8 0, .int .u8 0, .int .u8 0, .int .u8 0, .int .u8 0, .int .u8 0, .int .u8 0, .int .u8 0, .int .u8 0, .int .u8 0, .int .u8 0, .int .u8 0, .int .u8 0, .int .i64 0] 33)) HC2.out)
  have HC3 := Lib.hid (cell_up (Below.all hb (.cells #[.bool false, .int .u8 0, .int .u8 0, .int .u8 0, .int .u8 0, .int .u8 0, .int .u8 0, .int .u8 0, .int .u8 0, .int .u8 0, .int .u8 0, .int .u8 0, .int .u8 0, .int .u8 0, .int .u8 0, .int .u8 0, .int .u8 0, .int .i64 0] 33)) HC3.out)
  clear hb
  have hp1 : partOf (w6.alloc (.cells #[.bool false, .int .u8 0, .int .u8 0, .int .u8 0, .int .u8 0, .int .u8 0, .int .u8 0, .int .u8 0, .int .u8 0, .int .u8 0, .int .u8 0, .int .u8 0, .int .u8 0, .int .u8 0, .int .u8 0, .int .u8 0, .int .u8 0, .int .i64 0] 33)) w1.heap.size 1 16 = #[.int .u8 10, .int .u8 0, .int .u8 0, .int .u8 255, .int .u8 0, .int .u8 0, .int .u8 0, .int .u8 0, .int .u8 0, .int .u8 0, .int .u8 0, .int .u8 0, .int .u8 0, .int .u8 0, .int .u8 0, .int .u8 0] := by rw [partOf_row _ _ _ _ _ _ _ HC1.out]; rfl
  have hp2 : partOf (w6.alloc (.cells #[.bool false, .int .u8 0, .int .u8 0, .int .u8 0, .int .u8 0, .int .u8 0, .int .u8 0, .int .u8 0, .int .u8 0, .int .u8 0, .int .u8 0, .int .u8 0, .int .u8 0, .int .u8 0, .int .u8 0, .int .u8 0, .int .u8 0, .int .i64 0] 33)) w2.heap.size 0 17 = #[.bool true, .int .u8 32, .int .u8 1, .int .u8 13, .int .u8 184, .int .u8 0, .int .u8 0, .int .u8 0, .int .u8 0, .int .u8 0, .int .u8 1, .int .u8 0, .int .u8 0, .int .u8 0, .int .u8 0, .int .u8 0, .int .u8 1] := by rw [partOf_row _ _ _ _ _ _ _ HC2.out]; rfl
  have hp3 : partOf (w6.alloc (.cells #[.bool false, .int .u8 0, .int .u8 0, .int .u8 0, .int .u8 0, .int .u8 0, .int .u8 0, .int .u8 0, .int .u8 0, .int .u8 0, .int .u8 0, .int .u8 0, .int .u8 0, .int .u8 0, .int .u8 0, .int .u8 0, .int .u8 0, .int .i64 0] 33)) w3.heap.size 0 17 = #[.bool true, .int .u8 0, .int .u8 1, .int .u8 0, .int .u8 0, .int .u8 0, .int .u8 0, .int .u8 0, .int .u8 0, .int .u8 0, .int .u8 0, .int .u8 0, .int .u8 0, .int .u8 0, .int .u8 0, .int .u8 0, .int .u8 0] := by rw [partOf_row _ _ _ _ _ _ _ HC3.out]; rfl
  have hq3 := (Array.getElem?_eq_some_iff.1 HC3.out).1
  go_wp2_with fail
  generalize w6.alloc (.cells #[.bool false, .int .u8 0, .int .u8 0, .int .u8 0, .int .u8 0, .int .u8 0, .int .u8 0, .int .u8 0, .int .u8 0, .int .u8 0, .int .u8 0, .int .u8 0, .int .u8 0, .int .u8 0, .int .u8 0, .int .u8 0, .int .u8 0, .int .i64 0] 33) = v6 at *
  refine Calls.later (exc7 _ (HE.out.below HB6.out)) ?_
  intro x
  go_wp2_with fail
  go_ret
  exact .mk rfl (HB6.out.trans (x.below.mono HB6.out.size))
end Go.Proofs.YtcadpcppnllhnaaGreatDoor
end

/- A region that draws its order: reads and calls that make memory of their own; two allocations that wait for nothing; what writes stands behind them all. -/
section
set_option linter.unusedSimpArgs false
set_option linter.unusedVariables false
namespace Go.Proofs.YtcadpcppnllhnaaGreatDoor
open Go.RowKit

section
variable {P : Program} {ops : Array Oper} {md : Region.Mode}

def LaterC (w : World) : World → Prop := fun w' => ∃ x : Later w, w' = x.world
def YieldsAll (P : Program) (ops : Array Oper) (w : World) (o : Oper) (v : Value) (a : Act) : Prop := ∀ w1, Below w.heap.size w w1 → YieldsIn P ops (LaterC w1) o v a
def Live (w' : World) (gs : List (Nat × Obj)) : Prop := ∀ g ∈ gs, w'.heap[g.1]? = some g.2
def ptrTo (g : Nat) : Value := .pointer (some ⟨g, 0, none⟩)

/-- An allocation, whatever the state. -/
structure Makes (P : Program) (ops : Array Oper) (o : Oper) (ob : Obj) : Prop where
  wanted : ∀ a : Act, Region.wanted o (yielded ops a.tmps) = true
  run : ∀ (a : Act) (w' : World), (execOp a.eval o).run P w' = .ok (.value (ptrTo w'.heap.size)) (w'.alloc ob)

def wpFresh (P : Program) (md : Region.Mode) (ops : Array Oper) (w : World) (n : Nat) (al : Nat → Option Obj) (L : Array Bool → Act → List (Nat × Obj) → Prop) : Nat → Array Bool → Act → List (Nat × Obj) → Prop
  | 0, listed, a, gs => L listed a gs
  | f + 1, listed, a, gs => Region.ready md ops listed ≠ [] ∧ ∀ i ∈ Region.ready md ops listed, i < n ∧ ∀ oi, ops[i]? = some oi →
      ((al i = none → ∃ v, YieldsAll P ops w oi v a ∧ wpFresh P md ops w n al L f (listed.setIfInBounds i true) (a.put oi.dst v) gs) ∧
       (∀ ob, al i = some ob → Makes P ops oi ob ∧ ∀ g, w.heap.size ≤ g → (∀ p ∈ gs, p.1 < g) → wpFresh P md ops w n al L f (listed.setIfInBounds i true) (a.put oi.dst (ptrTo g)) ((g, ob) :: gs)))

theorem Live.lt {w' : World} {gs : List (Nat × Obj)} (h : Live w' gs) : ∀ p ∈ gs, p.1 < w'.heap.size := fun p hp => (Array.getElem?_eq_some_iff.1 (h p hp)).1
theorem Live.below {w' w'' : World} {gs : List (Nat × Obj)} (h : Live w' gs) (hb : Below w'.heap.size w' w'') : Live w'' gs := fun p hp => (hb.block _ (h.lt p hp)).trans (h p hp)

theorem wpAny_of_fresh {w : World} {n g : Nat} {al : Nat → Option Obj} {L : Array Bool → Act → List (Nat × Obj) → Prop} {Q' : Exit → Act → World → Prop}
    (hL : ∀ listed a gs w', Below w.heap.size w w' → Live w' gs → L listed a gs → wpAny P md ops Q' g listed a w') :
    ∀ (f : Nat) (listed : Array Bool) (a : Act) (gs : List (Nat × Obj)) (w' : World), Below w.heap.size w w' → Live w' gs → wpFresh P md ops w n al L f listed a gs → wpAny P md ops Q' (f + g) listed a w'
  | 0, listed, a, gs, w', hw, hl, h => by rw [Nat.zero_add]; exact hL _ _ _ _ hw hl h
  | f + 1, listed, a, gs, w', hw, hl, h => by
    rw [show f + 1 + g = (f + g) + 1 by omega]
    refine ⟨fun h0 => absurd h0 h.1, fun i hi => ?_⟩
    obtain ⟨_, oi, hoi, _⟩ := mem_ready.1 hi
    obtain ⟨h1, h2⟩ := (h.2 i hi).2 oi hoi
    cases hal : al i with
    | none =>
      obtain ⟨v, hy, hk⟩ := h1 hal
      refine wpOp_of_qOp (C := LaterC w') (K := fun a' => a' = a.put oi.dst v) ⟨⟨w', Below.refl _ _⟩, rfl⟩ (fun a' w'' hw'' ha => ?_) ((hy w' hw).qOp hoi rfl)
      obtain ⟨x, rfl⟩ := hw''
      subst ha
      exact wpAny_of_fresh hL f _ _ gs _ (Below.via hw x.below) (hl.below x.below) hk
    | some ob =>
      obtain ⟨hm, hk⟩ := h2 ob hal
      unfold wpOp
      simp only [hoi, hm.wanted a, if_true]
      refine .inl ?_
      unfold Oper.wp
      rw [hm.run]
      have hnew : (w'.alloc ob).heap[w'.heap.size]? = some ob := heap_alloc_new w' ob
      have hb : Below w'.heap.size w' (w'.alloc ob) := Below.all (Below.refl _ _) ob
      refine wpAny_of_fresh hL f _ _ _ _ (Below.via hw hb) ?_ (hk _ hw.size hl.lt)
      intro p hp
      rcases List.mem_cons.1 hp with rfl | hp
      · exact hnew
      · exact hl.below hb p hp

theorem YieldsAll.of_put {w : World} {oi oj : Oper} {v u : Value} {a : Act} (hsi : ∀ cs b, oi.op ≠ .select cs b) (h : YieldsAll P ops w oi v a) (hap : ∀ d, oj.dst = some d → d ∉ oi.looksAt ops) : YieldsAll P ops w oi v (a.put oj.dst u) :=
  fun w1 hb => (h w1 hb).of_same (execOp_put oi hsi a oj.dst u hap) (wanted_put oi a oj.dst u hap)
theorem YieldsAll.of_unput {w : World} {oi oj : Oper} {v u : Value} {a : Act} (hsi : ∀ cs b, oi.op ≠ .select cs b) (h : YieldsAll P ops w oi v (a.put oj.dst u)) (hap : ∀ d, oj.dst = some d → d ∉ oi.looksAt ops) : YieldsAll P ops w oi v a :=
  fun w1 hb => (h w1 hb).of_same (execOp_put oi hsi a oj.dst u hap).symm (wanted_put oi a oj.dst u hap).symm

theorem wpFresh_first {w : World} {n i : Nat} {oi : Oper} {v : Value} {al : Nat → Option Obj} {L : Array Bool → Act → List (Nat × Obj) → Prop} (hi : ops[i]? = some oi) (hal : al i = none) (hsel : ∀ (j : Nat) (o : Oper) cs b, ops[j]? = some o → o.op ≠ .select cs b)
    (hs : Region.sinkB md ops n = true) (hc : Region.chainB md ops n = true) (hn : n < ops.size) (hin : i < n)
    (hdone : ∀ listed a gs, L listed a gs → ∀ j ∈ Region.ready md ops listed, n ≤ j) :
    ∀ (f : Nat) (listed : Array Bool) (a : Act) (gs : List (Nat × Obj)), HeadInv md ops n listed →
      (∀ j oj, ops[j]? = some oj → j ≠ i → listed.getD j true = false → (∀ e ∈ oj.after, Region.binds md e = true → e.on ≠ i) → oi.apart ops oj = true) →
      i ∈ Region.ready md ops listed → YieldsAll P ops w oi v a →
      wpFresh P md ops w n al L f (listed.setIfInBounds i true) (a.put oi.dst v) gs → wpFresh P md ops w n al L (f + 1) listed a gs := by
  intro f
  induction f with
  | zero =>
    intro listed a gs inv _ hr hy H
    have hun := (mem_ready.1 hr).1
    refine ⟨fun h => (by rw [h] at hr; cases hr), fun j hj => ?_⟩
    have hjn : j < n := by
      rcases Nat.lt_or_ge j n with h | h
      · exact h
      · exact absurd hj (tail_waits hs hc hn inv _ i rfl hin hun j h)
    refine ⟨hjn, fun oj hoj => ?_⟩
    by_cases hji : j = i
    · subst hji
      obtain rfl : oi = oj := Option.some.inj (hi.symm.trans hoj)
      exact ⟨fun _ => ⟨v, hy, H⟩, fun ob h => by rw [hal] at h; cases h⟩
    · have := hdone _ _ _ H j (ready_mono hj hji)
      omega
  | succ f ih =>
    intro listed a gs inv hfree hr hy H
    have hun := (mem_ready.1 hr).1
    refine ⟨fun h => (by rw [h] at hr; cases hr), fun j hj => ?_⟩
    have hjn : j < n := by
      rcases Nat.lt_or_ge j n with h | h
      · exact h
      · exact absurd hj (tail_waits hs hc hn inv _ i rfl hin hun j h)
    refine ⟨hjn, fun oj hoj => ?_⟩
    by_cases hji : j = i
    · subst hji
      obtain rfl : oi = oj := Option.some.inj (hi.symm.trans hoj)
      exact ⟨fun _ => ⟨v, hy, H⟩, fun ob h => by rw [hal] at h; cases h⟩
    · obtain ⟨H1, H2⟩ := (H.2 j (ready_mono hj hji)).2 oj hoj
      obtain ⟨hjun, oj', hoj', hall⟩ := mem_ready.1 hj
      obtain rfl : oj = oj' := Option.some.inj (hoj.symm.trans hoj')
      have hnot : ∀ e ∈ oj.after, Region.binds md e = true → e.on ≠ i := fun e he hb heq => by
        have h1 := hall e he hb
        rw [heq, getD_both hun] at h1
        cases h1
      obtain ⟨ap1, ap2, ap3⟩ := Oper.apart_spec (hfree j oj hoj hji hjun hnot)
      have hfree' : ∀ k ok, ops[k]? = some ok → k ≠ i → (listed.setIfInBounds j true).getD k true = false →
          (∀ e ∈ ok.after, Region.binds md e = true → e.on ≠ i) → oi.apart ops ok = true := fun k ok hk hki hun hno => by
        refine hfree k ok hk hki ?_ hno
        by_cases hjk : j = k
        · subst hjk; exact hjun
        · rw [getD_set_ne true hjk] at hun; exact hun
      have go : ∀ (u : Value) gs', wpFresh P md ops w n al L f ((listed.setIfInBounds i true).setIfInBounds j true) ((a.put oi.dst v).put oj.dst u) gs' → wpFresh P md ops w n al L (f + 1) (listed.setIfInBounds j true) (a.put oj.dst u) gs' := fun u gs' h => by
        refine ih (listed.setIfInBounds j true) (a.put oj.dst u) gs' (inv.set hj hjn) hfree' (ready_mono hr (Ne.symm hji)) (hy.of_put (fun cs b => hsel i oi cs b hi) ap3) ?_
        rw [Array.setIfInBounds_comm _ _ hji, ← Act.put_comm a v u ap2]
        exact h
      refine ⟨fun hj0 => ?_, fun ob hob => ?_⟩
      · obtain ⟨u, hu, hk⟩ := H1 hj0
        exact ⟨u, hu.of_unput (fun cs b => hsel j oj cs b hoj) ap1, go u gs hk⟩
      · obtain ⟨hm, hk⟩ := H2 ob hob
        exact ⟨hm, fun g hg hp => go _ _ (hk g hg hp)⟩

def lexFree (md : Region.Mode) (ops : Array Oper) : Nat → Nat → Array Bool → Bool
  | 0, _, _ => true
  | f + 1, k, listed => (Region.ready md ops listed).contains k && Region.free md ops listed k && lexFree md ops f (k + 1) (listed.setIfInBounds k true)
def listedTo : Nat → Nat → Array Bool → Array Bool
  | 0, _, listed => listed
  | f + 1, k, listed => listedTo f (k + 1) (listed.setIfInBounds k true)

def wpFam (P : Program) (ops : Array Oper) (w : World) (Lq : Act → Prop) : List Oper → Act → Prop
  | [], a => Lq a
  | o :: rest, a => ∃ v, YieldsAll P ops w o v a ∧ wpFam P ops w Lq rest (a.put o.dst v)

theorem wpFresh_lex {w : World} {n m r : Nat} {al : Nat → Option Obj} {L : Array Bool → Act → List (Nat × Obj) → Prop} {Lq : Act → Prop} (hsel : Region.noSelect ops = true) (hs : Region.sinkB md ops n = true) (hc : Region.chainB md ops n = true) (hn : n < ops.size) (hmn : m ≤ n)
    (hal : ∀ i, i < m → al i = none) (hdone : ∀ listed a gs, L listed a gs → ∀ j ∈ Region.ready md ops listed, n ≤ j) :
    ∀ (l : List Oper) (k : Nat) (listed : Array Bool) (a : Act), (∀ j, j < l.length → l[j]? = ops[k + j]?) → k + l.length = m → HeadInv md ops n listed →
    lexFree md ops l.length k listed = true → (∀ a', Lq a' → wpFresh P md ops w n al L r (listedTo l.length k listed) a' []) → wpFam P ops w Lq l a → wpFresh P md ops w n al L (l.length + r) listed a []
  | [], k, listed, a, _, hk, _, hB, hb, h => by
    rw [List.length_nil, Nat.zero_add]; exact hb a h
  | o :: l, k, listed, a, hl, hk, inv, hB, hb, h => by
    have h0 : ops[k]? = some o := by simpa using (hl 0 (by simp)).symm
    simp only [List.length_cons, lexFree, Bool.and_eq_true] at hB
    obtain ⟨⟨hr, hf⟩, hB'⟩ := hB
    have hkm : k < m := by simp only [List.length_cons] at hk; omega
    have hr' : k ∈ Region.ready md ops listed := by simpa using hr
    obtain ⟨v, hy, hK⟩ := h
    rw [show (o :: l).length + r = (l.length + r) + 1 by simp only [List.length_cons]; omega]
    exact wpFresh_first h0 (hal k hkm) (Region.noSelect_spec hsel) hs hc hn (by omega) hdone (l.length + r) listed a [] inv (Region.free_spec h0 hf) hr' hy
      (wpFresh_lex hsel hs hc hn hmn hal hdone l (k + 1) _ _ (fun j hj => by have := hl (j + 1) (by simp; omega); simpa [Nat.add_assoc, Nat.add_comm 1 j] using this) (by simp only [List.length_cons] at hk; omega) (inv.set hr' (by omega)) hB' hb hK)

/-! ### One value for all classes -/
theorem yieldsIn_cons {C : World → Prop} {Q : Act → Prop} {o : Oper} {rest : List Oper} {a : Act} (h : wpQuiet P ops C Q (o :: rest) a) : ∃ v, YieldsIn P ops C o v a ∧ wpQuiet P ops C Q rest (a.put o.dst v) := by
  rw [wpQuiet] at h
  by_cases hw : Region.wanted o (yielded ops a.tmps) = true
  · simp only [hw, if_true] at h
    obtain ⟨v, h1, h2⟩ := h
    exact ⟨v, .inl ⟨hw, h1⟩, h2⟩
  · simp only [hw] at h
    exact ⟨undef, .inr ⟨by simpa using hw, rfl⟩, h⟩
def dstsB (n : Nat) : List Oper → Bool
  | [] => true
  | o :: l => (match o.dst with | some d => decide (d < n) && l.all fun p => p.dst != some d | none => false) && dstsB n l
theorem put_size (a : Act) (d : Option Tmp) (v : Value) : (a.put d v).tmps.size = a.tmps.size := by
  cases d <;> simp [Act.put]
theorem quiet_keeps {C : World → Prop} {aF : Act} {d : Tmp} : ∀ (l : List Oper) (a : Act), (∀ o ∈ l, o.dst ≠ some d) → wpQuiet P ops C (fun a' => a' = aF) l a → aF.tmps[d]? = a.tmps[d]?
  | [], a, _, h => by have h : a = aF := h; rw [h]
  | o :: l, a, hd, h => by
    obtain ⟨v, -, h2⟩ := yieldsIn_cons h
    rw [quiet_keeps l _ (fun p hp => hd p (by simp [hp])) h2]
    have := hd o (by simp)
    cases ho : o.dst with
    | none => rfl
    | some e =>
      rw [ho] at this
      have hne : e ≠ d := fun h => this (by rw [h])
      simp [Act.put, Array.getElem?_setIfInBounds, hne]
theorem fam_of {w : World} {aF : Act} : ∀ (l : List Oper) (a : Act), dstsB a.tmps.size l = true → (∀ w1, Below w.heap.size w w1 → wpQuiet P ops (LaterC w1) (fun a' => a' = aF) l a) → wpFam P ops w (fun a' => a' = aF) l a
  | [], a, _, h => h w (Below.refl _ _)
  | o :: l, a, hd, h => by
    rw [dstsB, Bool.and_eq_true] at hd
    obtain ⟨hd1, hd2⟩ := hd
    cases ho : o.dst with
    | none => rw [ho] at hd1; cases hd1
    | some d =>
      rw [ho] at hd1
      simp only [Bool.and_eq_true, decide_eq_true_eq, List.all_eq_true] at hd1
      have hne : ∀ p ∈ l, p.dst ≠ some d := fun p hp e => by have := hd1.2 p hp; rw [e] at this; simp at this
      have val : ∀ {C : World → Prop} {v : Value}, wpQuiet P ops C (fun a' => a' = aF) l (a.put o.dst v) → aF.tmps[d]? = some v := fun {C v} h => by
        rw [quiet_keeps l _ hne h, ho]
        simp [Act.put, Array.getElem?_setIfInBounds, hd1.1]
      obtain ⟨v, -, hv⟩ := yieldsIn_cons (h w (Below.refl _ _))
      have e := val hv
      have H : ∀ w1, Below w.heap.size w w1 → YieldsIn P ops (LaterC w1) o v a ∧ wpQuiet P ops (LaterC w1) (fun a' => a' = aF) l (a.put o.dst v) := fun w1 hb => by
        obtain ⟨u, h1, h2⟩ := yieldsIn_cons (h w1 hb)
        have := val h2
        rw [e] at this
        obtain rfl : v = u := Option.some.inj this
        exact ⟨h1, h2⟩
      exact ⟨v, fun w1 hb => (H w1 hb).1, fam_of l _ (by rw [put_size]; exact hd2) fun w1 hb => (H w1 hb).2⟩

/-! ### The rule -/
def fresh2B (ops : Array Oper) (m : Nat) : Bool :=
  let L := listedTo m 0 (Array.replicate ops.size false)
  Region.noSelect ops && (decide (m + 2 < ops.size) && (Region.sinkB .any ops (m + 2) && (Region.chainB .any ops (m + 2) && (lexFree .any ops m 0 (Array.replicate ops.size false) &&
    (decide (Region.ready .any ops L = [m, m + 1]) && (decide (Region.ready .any ops (L.setIfInBounds m true) = [m + 1]) && (decide (Region.ready .any ops (L.setIfInBounds (m + 1) true) = [m]) &&
      (Region.seqB .any ops (ops.size - (m + 2)) (m + 2) ((L.setIfInBounds m true).setIfInBounds (m + 1) true)))))))))

theorem wp_region_fresh2 {id : Nat} {Q : Exit → Act → World → Prop} {a : Act} {w : World} {l : List Oper} (m : Nat) {o1 o2 : Oper} {d1 d2 : Tmp} {b1 b2 : Obj} (aF : Act) (hm : P.follows .mixedOrders = true) (hB : fresh2B l.toArray m = true)
    (h1 : l[m]? = some o1) (h2 : l[m + 1]? = some o2) (e1 : o1.dst = some d1) (e2 : o2.dst = some d2) (hne : d1 ≠ d2) (hd : dstsB a.tmps.size (l.take m) = true)
    (M1 : Makes P l.toArray o1 b1) (M2 : Makes P l.toArray o2 b2)
    (H : ∀ w1, Below w.heap.size w w1 → wpQuiet P l.toArray (LaterC w1) (fun a' => a' = aF) (l.take m) a)
    (K : ∀ g1 g2 w', Below w.heap.size w w' → w.heap.size ≤ g1 → w.heap.size ≤ g2 → g1 ≠ g2 → w'.heap[g1]? = some b1 → w'.heap[g2]? = some b2 →
      wpList P l.toArray Q (l.drop (m + 2)) ((aF.put (some d1) (ptrTo g1)).put (some d2) (ptrTo g2)) w') : (Code.region id l.toArray true).wp P Q a w := by
  simp only [fresh2B, Bool.and_eq_true, decide_eq_true_eq] at hB
  obtain ⟨hsel, hn, hs, hc, hlex, r0, r1, r2, hseq⟩ := hB
  have hn' : m + 2 < l.length := by simpa using hn
  have htl : (l.take m).length = m := by simp; omega
  have hdl : (l.drop (m + 2)).length = l.toArray.size - (m + 2) := by simp
  have inv0 : HeadInv .any l.toArray (m + 2) (Array.replicate l.toArray.size false) :=
    ⟨by simp, fun j oj _ hl => (by rw [getD_replicate_false] at hl; cases hl), fun t _ ht => getD_in (by simpa using ht) (getD_replicate_false _ _)⟩
  let al : Nat → Option Obj := fun i => if i = m then some b1 else if i = m + 1 then some b2 else none
  have al1 : al m = some b1 := by simp [al]
  have al2 : al (m + 1) = some b2 := by simp [al]
  let LL : Array Bool → Act → List (Nat × Obj) → Prop := fun listed a' gs => Region.seqB .any l.toArray (l.toArray.size - (m + 2)) (m + 2) listed = true ∧
    ∀ w', Below w.heap.size w w' → Live w' gs → wpList P l.toArray Q (l.drop (m + 2)) a' w'
  have o1' : l.toArray[m]? = some o1 := by simpa using h1
  have o2' : l.toArray[m + 1]? = some o2 := by simpa using h2
  have base : ∀ a', a' = aF → wpFresh P .any l.toArray w (m + 2) al LL 2 (listedTo (l.take m).length 0 (Array.replicate l.toArray.size false)) a' [] := by
    rintro a' rfl
    rw [htl]
    refine ⟨(by rw [r0]; simp), fun i hi => ?_⟩
    rw [r0] at hi
    rcases List.mem_cons.1 hi with rfl | hi
    · refine ⟨by omega, fun oi hoi => ⟨fun h => (by rw [al1] at h; cases h), fun ob hob => ?_⟩⟩
      obtain rfl : o1 = oi := Option.some.inj (o1'.symm.trans hoi)
      obtain rfl : b1 = ob := Option.some.inj (al1.symm.trans hob)
      refine ⟨M1, fun g1 hg1 _ => ⟨(by rw [r1]; simp), fun j hj => ?_⟩⟩
      rw [r1] at hj
      obtain rfl : j = i + 1 := by simpa using hj
      refine ⟨by omega, fun oj hoj => ⟨fun h => (by rw [al2] at h; cases h), fun ob hob => ?_⟩⟩
      obtain rfl : o2 = oj := Option.some.inj (o2'.symm.trans hoj)
      obtain rfl : b2 = ob := Option.some.inj (al2.symm.trans hob)
      refine ⟨M2, fun g2 hg2 hlt => ⟨hseq, fun w' hw hl => ?_⟩⟩
      have := hlt (g1, b1) (by simp)
      rw [e1, e2]
      exact K g1 g2 w' hw hg1 hg2 (by simp at this; omega) (hl (g1, b1) (by simp)) (hl (g2, b2) (by simp))
    · obtain rfl : i = m + 1 := by simpa using hi
      refine ⟨by omega, fun oi hoi => ⟨fun h => (by rw [al2] at h; cases h), fun ob hob => ?_⟩⟩
      obtain rfl : o2 = oi := Option.some.inj (o2'.symm.trans hoi)
      obtain rfl : b2 = ob := Option.some.inj (al2.symm.trans hob)
      refine ⟨M2, fun g2 hg2 _ => ⟨(by rw [r2]; simp), fun j hj => ?_⟩⟩
      rw [r2] at hj
      obtain rfl : j = m := by simpa using hj
      refine ⟨by omega, fun oj hoj => ⟨fun h => (by rw [al1] at h; cases h), fun ob hob => ?_⟩⟩
      obtain rfl : o1 = oj := Option.some.inj (o1'.symm.trans hoj)
      obtain rfl : b1 = ob := Option.some.inj (al1.symm.trans hob)
      refine ⟨M1, fun g1 hg1 hlt => ⟨by rw [Array.setIfInBounds_comm _ _ (by omega)]; exact hseq, fun w' hw hl => ?_⟩⟩
      have := hlt (g2, b2) (by simp)
      rw [e1, e2, Act.put_comm _ _ _ (fun d hd he => hne (Option.some.inj (he.trans hd.symm)))]
      exact K g1 g2 w' hw hg1 hg2 (by simp at this; omega) (hl (g1, b1) (by simp)) (hl (g2, b2) (by simp))
  have HF := wpFresh_lex (md := .any) (m := m) (r := 2) (al := al) (L := LL) hsel hs hc hn (by omega) (fun i hi => by simp only [al]; rw [if_neg (by omega), if_neg (by omega)]) (fun listed a' gs hL => seqB_ready hL.1)
    (l.take m) 0 _ a (fun j hj => by
      have hj' : j < m := by rw [htl] at hj; exact hj
      simp [hj']) (by simpa using htl) inv0 (by rw [htl]; exact hlex) base (fam_of (l.take m) a hd H)
  refine wp_region_any hm ?_
  have := wpAny_of_fresh (Q' := Q) (g := l.toArray.size - (m + 2)) (fun listed a' gs w' hw' hl hL => by
    have := wpAny_of_seq (md := .any) (Q' := Q) (l.drop (m + 2)) (m + 2) listed a' w' (fun j => by simp [List.getElem?_drop]) (by rw [hdl]; exact hL.1) (hL.2 w' hw' hl)
    rwa [hdl] at this) _ _ _ [] _ (Below.refl w.heap.size w).drew (fun p hp => by cases hp) HF
  rw [htl, show m + 2 + (l.toArray.size - (m + 2)) = l.toArray.size by omega] at this
  exact this
theorem wp_region_fresh {id : Nat} {Q : Exit → Act → World → Prop} {a : Act} {w : World} {l : List Oper} (m : Nat) (b1 b2 : Obj) {o1 o2 : Oper} {d1 d2 : Tmp} (hm : P.follows .mixedOrders = true) (hB : fresh2B l.toArray m = true)
    (h1 : l[m]? = some o1) (h2 : l[m + 1]? = some o2) (e1 : o1.dst = some d1) (e2 : o2.dst = some d2) (hne : d1 ≠ d2) (hd : dstsB a.tmps.size (l.take m) = true)
    (M1 : Makes P l.toArray o1 b1) (M2 : Makes P l.toArray o2 b2)
    (h : ∃ aF : Act, (∀ w1, Below w.heap.size w w1 → wpQuiet P l.toArray (fun w' => ∃ x : Later w1, w' = x.world) (fun a' => a' = aF) (l.take m) a) ∧
      (∀ g1 g2 w', Below w.heap.size w w' → w.heap.size ≤ g1 → w.heap.size ≤ g2 → g1 ≠ g2 → w'.heap[g1]? = some b1 → w'.heap[g2]? = some b2 →
        wpList P l.toArray Q (l.drop (m + 2)) ((aF.put (some d1) (ptrTo g1)).put (some d2) (ptrTo g2)) w')) : (Code.region id l.toArray true).wp P Q a w := by
  obtain ⟨aF, H, K⟩ := h
  exact wp_region_fresh2 m aF hm hB h1 h2 e1 e2 hne hd M1 M2 H K
end
end Go.Proofs.YtcadpcppnllhnaaGreatDoor
end
