/- Walks over texts: Parse. -/
import Derived.Test.YtcadpcppnllhnaaDoorAddrM
set_option linter.unusedSimpArgs false
set_option linter.unusedVariables false
namespace Go.Proofs.YtcadpcppnllhnaaDoor
open Go.RowKit

/-- The address, by what 'four' and 'six' tell. -/
def parseOf (F S : Option (List Nat)) : Option (Bool × (Nat → Int)) := match F with
  | some l => some (false, fourB l)
  | none => match S with
    | some l => some (true, sixB l)
    | none => none
theorem parseL_of (L : List UInt8) : parseL L = parseOf (fourL L) (sixL L) := rfl
theorem parseOf_none (S : Option (List Nat)) : (∀ l, S = some l → parseOf none S = some (true, sixB l)) ∧ (S = none → parseOf none S = none) := ⟨fun l h => by rw [h]; rfl, fun h => by rw [h]; rfl⟩
/-- The whole value was laid into the block, ahead of a block more. -/
theorem part_up {w : World} {b : Nat} {t : TypeId} {s s' : Bool} {B B' : Nat → Int} (h : AdBox w b t s B) (cs : Array Value) (o : Obj) (hc : cs = #[.bool s', .int .u8 (B' 0), .int .u8 (B' 1), .int .u8 (B' 2), .int .u8 (B' 3), .int .u8 (B' 4), .int .u8 (B' 5), .int .u8 (B' 6), .int .u8 (B' 7), .int .u8 (B' 8), .int .u8 (B' 9), .int .u8 (B' 10), .int .u8 (B' 11), .int .u8 (B' 12), .int .u8 (B' 13), .int .u8 (B' 14), .int .u8 (B' 15)] := by rfl) : partOf ((w.setRow b cs).alloc o) b 0 17 = #[.bool s', .int .u8 (B' 0), .int .u8 (B' 1), .int .u8 (B' 2), .int .u8 (B' 3), .int .u8 (B' 4), .int .u8 (B' 5), .int .u8 (B' 6), .int .u8 (B' 7), .int .u8 (B' 8), .int .u8 (B' 9), .int .u8 (B' 10), .int .u8 (B' 11), .int .u8 (B' 12), .int .u8 (B' 13), .int .u8 (B' 14), .int .u8 (B' 15)] := by
  rw [partOf_old _ _ _ _ _ (by have := h.lt; simpa using this)]
  subst hc
  exact partOf_set h.heap

set_option maxRecDepth 20000 in
set_option maxHeartbeats 8000000 in
theorem parse_any (s : ByteArray) (w : World) (hs : s.size ≤ 1000) (henv : Env w) : Calls Tryd.prog 7 #[.string s] w (RetAt w (parseV (parseL s.data.toList))) := by
  have HE := Lib.hid henv
  have H4 := Lib.hid (fun w h => four_any s w hs h)
  have H6 := Lib.hid (fun w h => six_any s w hs h)
  rw [parseL_of]
  clear henv hs
  generalize s.data.toList = L at *
  generalize fourL L = F at *
  generalize sixL L = S at *
  go_enter Tryd.func7, Tryd.ntmps7
  go_wp2_with fail
  refine Calls.mono (H4.out _ (HE.out.below (Below.all (Below.refl _ _) _))) ?_
  rintro e w2 ⟨B, ok, rfl, hb2, hc⟩
  have HX := Lib.hid ((AdBox.made0 w 25 false).below hb2)
  have HW := Lib.hid (Below.via (Below.all (Below.refl w.heap.size w) _) hb2)
  have hlt := HX.out.lt
  have HC := Lib.hid hc
  clear hb2 hc
  cases ok
  · have hF : F = none := by rcases HC.out with ⟨h, -⟩ | ⟨-, h⟩; cases h; exact h
    subst hF
    have HP2 := Lib.hid (parseOf_none S)
    generalize parseOf none S = R at *
    unfold adV
    have HX2 := Lib.hid (HX.out.alloc (.cells #[.bool false, .int .u8 (B 0), .int .u8 (B 1), .int .u8 (B 2), .int .u8 (B 3), .int .u8 (B 4), .int .u8 (B 5), .int .u8 (B 6), .int .u8 (B 7), .int .u8 (B 8), .int .u8 (B 9), .int .u8 (B 10), .int .u8 (B 11), .int .u8 (B 12), .int .u8 (B 13), .int .u8 (B 14), .int .u8 (B 15)] 25))
    have HW2 := Lib.hid (Below.all HW.out (.cells #[.bool false, .int .u8 (B 0), .int .u8 (B 1), .int .u8 (B 2), .int .u8 (B 3), .int .u8 (B 4), .int .u8 (B 5), .int .u8 (B 6), .int .u8 (B 7), .int .u8 (B 8), .int .u8 (B 9), .int .u8 (B 10), .int .u8 (B 11), .int .u8 (B 12), .int .u8 (B 13), .int .u8 (B 14), .int .u8 (B 15)] 25))
    clear HC HX HW hlt
    go_wp2_with fail
    generalize w2.alloc (.cells #[.bool false, .int .u8 (B 0), .int .u8 (B 1), .int .u8 (B 2), .int .u8 (B 3), .int .u8 (B 4), .int .u8 (B 5), .int .u8 (B 6), .int .u8 (B 7), .int .u8 (B 8), .int .u8 (B 9), .int .u8 (B 10), .int .u8 (B 11), .int .u8 (B 12), .int .u8 (B 13), .int .u8 (B 14), .int .u8 (B 15)] 25) = w3 at *
    refine Calls.mono (H6.out _ (HE.out.below HW2.out)) ?_
    rintro e w4 ⟨hb4, hc⟩
    have HX4 := Lib.hid (HX2.out.below hb4)
    have HW4 := Lib.hid (Below.via HW2.out hb4)
    have hlt := HX4.out.lt
    clear hb4 HX2 HW2
    rcases hc with ⟨l, hl, rfl⟩ | ⟨hl, rfl⟩
    · have HR : Hid (R = some (true, sixB l)) := Lib.hid (HP2.out.1 l hl)
      generalize sixB l = C at *
      have HX4 := Lib.hid HX4.out
      clear hl HP2
      unfold adV
      have hrr := HX4.out.row
      go_wp2_with fail
      exact bodyPost_ret (v := .tuple #[adV true C, .int .i64 0]) (results_ad2 _ _ Tryd.underlying25 info_ad rfl _ _ w.heap.size (.int .i64 0) rfl rfl (part_up (s' := true) (B' := C) HX4.out _ _ rfl)) rfl (.mk (by rw [HR.out]; rfl) (Below.all (below_setRow HW4.out (Nat.le_refl _) _) _))
    · have HR : Hid (R = none) := Lib.hid (HP2.out.2 hl)
      clear hl HP2
      unfold adV
      have hrr := HX4.out.row
      go_wp2_with fail
      exact bodyPost_ret (v := .tuple #[adV false fun _ => 0, .int .i64 40]) (results_ad2 _ _ Tryd.underlying25 info_ad rfl _ _ w.heap.size (.int .i64 40) rfl rfl (part_up (s' := false) (B' := fun _ => 0) HX4.out _ _ rfl)) rfl (.mk (by rw [HR.out]; rfl) (Below.all (below_setRow HW4.out (Nat.le_refl _) _) _))
  · obtain ⟨l, rfl, hB⟩ : ∃ l, F = some l ∧ ∀ i, i < 16 → B i = fourB l i := by
      rcases HC.out with ⟨-, h⟩ | ⟨h, -⟩
      · exact h
      · cases h
    have HBE := Lib.hid (ad_congr (six := false) hB)
    clear HC hB H6
    unfold adV at *
    have hrr := HX.out.row
    go_wp2_with fail
    refine bodyPost_ret (v := .tuple #[adV false B, .int .i64 0]) (results_ad2 _ _ Tryd.underlying25 info_ad rfl _ _ w.heap.size (.int .i64 0) rfl rfl (part_up (s' := false) (B' := B) HX.out _ _ rfl)) rfl (.mk ?_ (Below.all (below_setRow HW.out (Nat.le_refl _) _) _))
    show Value.tuple #[adV false B, .int .i64 0] = .tuple #[adV false (fourB l), .int .i64 0]
    rw [show adV false B = adV false (fourB l) from HBE.out]
end Go.Proofs.YtcadpcppnllhnaaDoor
