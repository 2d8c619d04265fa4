/- The walk over the law AddrReads. -/
import Derived.Test.YtcadpcppnllhnaaDoorAddrX
set_option linter.unusedSimpArgs false
set_option linter.unusedVariables false
namespace Go.Proofs.YtcadpcppnllhnaaDoor
open Go.RowKit

theorem parseV_form (o : Option (Bool × (Nat → Int))) : ∃ (six : Bool) (B : Nat → Int) (e : Int), parseV o = .tuple #[adV six B, .int .i64 e] := by
  cases o with
  | none => exact ⟨false, _, 40, rfl⟩
  | some p => exact ⟨p.1, p.2, 0, rfl⟩
theorem ppV_form (o : Option (Bool × (Nat → Int) × Nat)) : ∃ (six : Bool) (B : Nat → Int) (n e : Int), ppV o = .tuple #[pfV six B n, .int .i64 e] := by
  cases o with
  | none => exact ⟨false, _, 0, 40, rfl⟩
  | some p => exact ⟨p.1, p.2.1, (p.2.2 : Int), 0, rfl⟩
theorem eqL_self (l : List Int) : eqL l l = true := (eqL_iff l l).2 rfl

set_option maxRecDepth 20000 in
set_option maxHeartbeats 16000000 in
theorem reads_any (s : ByteArray) (w : World) (henv : Env w) : Calls Tryd.prog 3 #[.string s] w (RetAt w (.bool true)) := by
  have HE := Lib.hid henv
  clear henv
  by_cases hs : s.size ≤ 100
  · obtain ⟨six, B, e, hv⟩ := parseV_form (parseL s.data.toList)
    obtain ⟨six2, B2, n2, e2, hv2⟩ := ppV_form (ppL s.data.toList)
    have H1 := Lib.hid (fun w h => parse_any s w (by omega) h)
    have H2 := Lib.hid (fun w => rparse_any s w (by omega))
    have H3 := Lib.hid (fun w h => pparse_any s w (by omega) h)
    have H4 := Lib.hid (fun w => rpparse_any s w (by omega))
    rw [hv] at H1 H2
    rw [hv2] at H3 H4
    have he1 := eqL_self [B 0, B 1, B 2, B 3, B 4, B 5, B 6, B 7, B 8, B 9, B 10, B 11, B 12, B 13, B 14, B 15]
    have he2 := eqL_self [B2 0, B2 1, B2 2, B2 3, B2 4, B2 5, B2 6, B2 7, B2 8, B2 9, B2 10, B2 11, B2 12, B2 13, B2 14, B2 15]
    have HD1 := Lib.hid (fun w => docsaddr_any six B w)
    have HD2 := Lib.hid (fun w => docspf_any six2 B2 n2 w)
    have hs2 : ¬ ((s.size : Int) > 100) := by omega
    clear hv hv2 hs
    unfold adV pfV at *
    go_enter Tryd.func3, Tryd.ntmps3
    go_wp2_with fail
    refine Calls.mono (H1.out _ (HE.out)) ?_
    rintro e' w1 ⟨rfl, hb⟩
    have HB1 : Hid (Below w.heap.size w (w1.alloc (.cells #[.bool six, .int .u8 (B 0), .int .u8 (B 1), .int .u8 (B 2), .int .u8 (B 3), .int .u8 (B 4), .int .u8 (B 5), .int .u8 (B 6), .int .u8 (B 7), .int .u8 (B 8), .int .u8 (B 9), .int .u8 (B 10), .int .u8 (B 11), .int .u8 (B 12), .int .u8 (B 13), .int .u8 (B 14), .int .u8 (B 15)] 25))) := Lib.hid (Below.all (Below.via (Below.refl _ _) hb) _)
    have hz1 : w1.heap.size < (w1.alloc (.cells #[.bool six, .int .u8 (B 0), .int .u8 (B 1), .int .u8 (B 2), .int .u8 (B 3), .int .u8 (B 4), .int .u8 (B 5), .int .u8 (B 6), .int .u8 (B 7), .int .u8 (B 8), .int .u8 (B 9), .int .u8 (B 10), .int .u8 (B 11), .int .u8 (B 12), .int .u8 (B 13), .int .u8 (B 14), .int .u8 (B 15)] 25)).heap.size := by simp
    have HC1 : Hid ((w1.alloc (.cells #[.bool six, .int .u8 (B 0), .int .u8 (B 1), .int .u8 (B 2), .int .u8 (B 3), .int .u8 (B 4), .int .u8 (B 5), .int .u8 (B 6), .int .u8 (B 7), .int .u8 (B 8), .int .u8 (B 9), .int .u8 (B 10), .int .u8 (B 11), .int .u8 (B 12), .int .u8 (B 13), .int .u8 (B 14), .int .u8 (B 15)] 25)).heap[w1.heap.size]? = some (.cells #[.bool six, .int .u8 (B 0), .int .u8 (B 1), .int .u8 (B 2), .int .u8 (B 3), .int .u8 (B 4), .int .u8 (B 5), .int .u8 (B 6), .int .u8 (B 7), .int .u8 (B 8), .int .u8 (B 9), .int .u8 (B 10), .int .u8 (B 11), .int .u8 (B 12), .int .u8 (B 13), .int .u8 (B 14), .int .u8 (B 15)] 25 (0, 0))) := Lib.hid (heap_alloc_new w1 _)
    clear hb H1
    go_wp2_with fail
    generalize w1.alloc (.cells #[.bool six, .int .u8 (B 0), .int .u8 (B 1), .int .u8 (B 2), .int .u8 (B 3), .int .u8 (B 4), .int .u8 (B 5), .int .u8 (B 6), .int .u8 (B 7), .int .u8 (B 8), .int .u8 (B 9), .int .u8 (B 10), .int .u8 (B 11), .int .u8 (B 12), .int .u8 (B 13), .int .u8 (B 14), .int .u8 (B 15)] 25) = v1 at *
    refine Calls.mono (H2.out _) ?_
    rintro e' w2 ⟨rfl, hb⟩
    have HB2 : Hid (Below w.heap.size w (w2.alloc (.cells #[.bool six, .int .u8 (B 0), .int .u8 (B 1), .int .u8 (B 2), .int .u8 (B 3), .int .u8 (B 4), .int .u8 (B 5), .int .u8 (B 6), .int .u8 (B 7), .int .u8 (B 8), .int .u8 (B 9), .int .u8 (B 10), .int .u8 (B 11), .int .u8 (B 12), .int .u8 (B 13), .int .u8 (B 14), .int .u8 (B 15)] 29))) := Lib.hid (Below.all (Below.via (HB1.out) hb) _)
    have hz2 : w2.heap.size < (w2.alloc (.cells #[.bool six, .int .u8 (B 0), .int .u8 (B 1), .int .u8 (B 2), .int .u8 (B 3), .int .u8 (B 4), .int .u8 (B 5), .int .u8 (B 6), .int .u8 (B 7), .int .u8 (B 8), .int .u8 (B 9), .int .u8 (B 10), .int .u8 (B 11), .int .u8 (B 12), .int .u8 (B 13), .int .u8 (B 14), .int .u8 (B 15)] 29)).heap.size := by simp
    have HC1 := Lib.hid (cell_up (Below.all hb (.cells #[.bool six, .int .u8 (B 0), .int .u8 (B 1), .int .u8 (B 2), .int .u8 (B 3), .int .u8 (B 4), .int .u8 (B 5), .int .u8 (B 6), .int .u8 (B 7), .int .u8 (B 8), .int .u8 (B 9), .int .u8 (B 10), .int .u8 (B 11), .int .u8 (B 12), .int .u8 (B 13), .int .u8 (B 14), .int .u8 (B 15)] 29)) HC1.out)
    have HC2 : Hid ((w2.alloc (.cells #[.bool six, .int .u8 (B 0), .int .u8 (B 1), .int .u8 (B 2), .int .u8 (B 3), .int .u8 (B 4), .int .u8 (B 5), .int .u8 (B 6), .int .u8 (B 7), .int .u8 (B 8), .int .u8 (B 9), .int .u8 (B 10), .int .u8 (B 11), .int .u8 (B 12), .int .u8 (B 13), .int .u8 (B 14), .int .u8 (B 15)] 29)).heap[w2.heap.size]? = some (.cells #[.bool six, .int .u8 (B 0), .int .u8 (B 1), .int .u8 (B 2), .int .u8 (B 3), .int .u8 (B 4), .int .u8 (B 5), .int .u8 (B 6), .int .u8 (B 7), .int .u8 (B 8), .int .u8 (B 9), .int .u8 (B 10), .int .u8 (B 11), .int .u8 (B 12), .int .u8 (B 13), .int .u8 (B 14), .int .u8 (B 15)] 29 (0, 0))) := Lib.hid (heap_alloc_new w2 _)
    clear hb H2
    go_wp2_with fail
    generalize w2.alloc (.cells #[.bool six, .int .u8 (B 0), .int .u8 (B 1), .int .u8 (B 2), .int .u8 (B 3), .int .u8 (B 4), .int .u8 (B 5), .int .u8 (B 6), .int .u8 (B 7), .int .u8 (B 8), .int .u8 (B 9), .int .u8 (B 10), .int .u8 (B 11), .int .u8 (B 12), .int .u8 (B 13), .int .u8 (B 14), .int .u8 (B 15)] 29) = v2 at *
    refine Calls.mono (H3.out _ (HE.out.below HB2.out)) ?_
    rintro e' w3 ⟨rfl, hb⟩
    have HB3 : Hid (Below w.heap.size w (w3.alloc (.cells #[.bool six2, .int .u8 (B2 0), .int .u8 (B2 1), .int .u8 (B2 2), .int .u8 (B2 3), .int .u8 (B2 4), .int .u8 (B2 5), .int .u8 (B2 6), .int .u8 (B2 7), .int .u8 (B2 8), .int .u8 (B2 9), .int .u8 (B2 10), .int .u8 (B2 11), .int .u8 (B2 12), .int .u8 (B2 13), .int .u8 (B2 14), .int .u8 (B2 15), .int .i64 n2] 33))) := Lib.hid (Below.all (Below.via (HB2.out) hb) _)
    have hz3 : w3.heap.size < (w3.alloc (.cells #[.bool six2, .int .u8 (B2 0), .int .u8 (B2 1), .int .u8 (B2 2), .int .u8 (B2 3), .int .u8 (B2 4), .int .u8 (B2 5), .int .u8 (B2 6), .int .u8 (B2 7), .int .u8 (B2 8), .int .u8 (B2 9), .int .u8 (B2 10), .int .u8 (B2 11), .int .u8 (B2 12), .int .u8 (B2 13), .int .u8 (B2 14), .int .u8 (B2 15), .int .i64 n2] 33)).heap.size := by simp
    have HC1 := Lib.hid (cell_up (Below.all hb (.cells #[.bool six2, .int .u8 (B2 0), .int .u8 (B2 1), .int .u8 (B2 2), .int .u8 (B2 3), .int .u8 (B2 4), .int .u8 (B2 5), .int .u8 (B2 6), .int .u8 (B2 7), .int .u8 (B2 8), .int .u8 (B2 9), .int .u8 (B2 10), .int .u8 (B2 11), .int .u8 (B2 12), .int .u8 (B2 13), .int .u8 (B2 14), .int .u8 (B2 15), .int .i64 n2] 33)) HC1.out)
    have HC2 := Lib.hid (cell_up (Below.all hb (.cells #[.bool six2, .int .u8 (B2 0), .int .u8 (B2 1), .int .u8 (B2 2), .int .u8 (B2 3), .int .u8 (B2 4), .int .u8 (B2 5), .int .u8 (B2 6), .int .u8 (B2 7), .int .u8 (B2 8), .int .u8 (B2 9), .int .u8 (B2 10), .int .u8 (B2 11), .int .u8 (B2 12), .int .u8 (B2 13), .int .u8 (B2 14), .int .u8 (B2 15), .int .i64 n2] 33)) HC2.out)
    have HC3 : Hid ((w3.alloc (.cells #[.bool six2, .int .u8 (B2 0), .int .u8 (B2 1), .int .u8 (B2 2), .int .u8 (B2 3), .int .u8 (B2 4), .int .u8 (B2 5), .int .u8 (B2 6), .int .u8 (B2 7), .int .u8 (B2 8), .int .u8 (B2 9), .int .u8 (B2 10), .int .u8 (B2 11), .int .u8 (B2 12), .int .u8 (B2 13), .int .u8 (B2 14), .int .u8 (B2 15), .int .i64 n2] 33)).heap[w3.heap.size]? = some (.cells #[.bool six2, .int .u8 (B2 0), .int .u8 (B2 1), .int .u8 (B2 2), .int .u8 (B2 3), .int .u8 (B2 4), .int .u8 (B2 5), .int .u8 (B2 6), .int .u8 (B2 7), .int .u8 (B2 8), .int .u8 (B2 9), .int .u8 (B2 10), .int .u8 (B2 11), .int .u8 (B2 12), .int .u8 (B2 13), .int .u8 (B2 14), .int .u8 (B2 15), .int .i64 n2] 33 (0, 0))) := Lib.hid (heap_alloc_new w3 _)
    clear hb H3
    go_wp2_with fail
    generalize w3.alloc (.cells #[.bool six2, .int .u8 (B2 0), .int .u8 (B2 1), .int .u8 (B2 2), .int .u8 (B2 3), .int .u8 (B2 4), .int .u8 (B2 5), .int .u8 (B2 6), .int .u8 (B2 7), .int .u8 (B2 8), .int .u8 (B2 9), .int .u8 (B2 10), .int .u8 (B2 11), .int .u8 (B2 12), .int .u8 (B2 13), .int .u8 (B2 14), .int .u8 (B2 15), .int .i64 n2] 33) = v3 at *
    refine Calls.mono (H4.out _) ?_
    rintro e' w4 ⟨rfl, hb⟩
    have HB4 : Hid (Below w.heap.size w (w4.alloc (.cells #[.bool six2, .int .u8 (B2 0), .int .u8 (B2 1), .int .u8 (B2 2), .int .u8 (B2 3), .int .u8 (B2 4), .int .u8 (B2 5), .int .u8 (B2 6), .int .u8 (B2 7), .int .u8 (B2 8), .int .u8 (B2 9), .int .u8 (B2 10), .int .u8 (B2 11), .int .u8 (B2 12), .int .u8 (B2 13), .int .u8 (B2 14), .int .u8 (B2 15), .int .i64 n2] 37))) := Lib.hid (Below.all (Below.via (HB3.out) hb) _)
    have hz4 : w4.heap.size < (w4.alloc (.cells #[.bool six2, .int .u8 (B2 0), .int .u8 (B2 1), .int .u8 (B2 2), .int .u8 (B2 3), .int .u8 (B2 4), .int .u8 (B2 5), .int .u8 (B2 6), .int .u8 (B2 7), .int .u8 (B2 8), .int .u8 (B2 9), .int .u8 (B2 10), .int .u8 (B2 11), .int .u8 (B2 12), .int .u8 (B2 13), .int .u8 (B2 14), .int .u8 (B2 15), .int .i64 n2] 37)).heap.size := by simp
    have HC1 := Lib.hid (cell_up (Below.all hb (.cells #[.bool six2, .int .u8 (B2 0), .int .u8 (B2 1), .int .u8 (B2 2), .int .u8 (B2 3), .int .u8 (B2 4), .int .u8 (B2 5), .int .u8 (B2 6), .int .u8 (B2 7), .int .u8 (B2 8), .int .u8 (B2 9), .int .u8 (B2 10), .int .u8 (B2 11), .int .u8 (B2 12), .int .u8 (B2 13), .int .u8 (B2 14), .int .u8 (B2 15), .int .i64 n2] 37)) HC1.out)
    have HC2 := Lib.hid (cell_up (Below.all hb (.cells #[.bool six2, .int .u8 (B2 0), .int .u8 (B2 1), .int .u8 (B2 2), .int .u8 (B2 3), .int .u8 (B2 4), .int .u8 (B2 5), .int .u8 (B2 6), .int .u8 (B2 7), .int .u8 (B2 8), .int .u8 (B2 9), .int .u8 (B2 10), .int .u8 (B2 11), .int .u8 (B2 12), .int .u8 (B2 13), .int .u8 (B2 14), .int .u8 (B2 15), .int .i64 n2] 37)) HC2.out)
    have HC3 := Lib.hid (cell_up (Below.all hb (.cells #[.bool six2, .int .u8 (B2 0), .int .u8 (B2 1), .int .u8 (B2 2), .int .u8 (B2 3), .int .u8 (B2 4), .int .u8 (B2 5), .int .u8 (B2 6), .int .u8 (B2 7), .int .u8 (B2 8), .int .u8 (B2 9), .int .u8 (B2 10), .int .u8 (B2 11), .int .u8 (B2 12), .int .u8 (B2 13), .int .u8 (B2 14), .int .u8 (B2 15), .int .i64 n2] 37)) HC3.out)
    have HC4 : Hid ((w4.alloc (.cells #[.bool six2, .int .u8 (B2 0), .int .u8 (B2 1), .int .u8 (B2 2), .int .u8 (B2 3), .int .u8 (B2 4), .int .u8 (B2 5), .int .u8 (B2 6), .int .u8 (B2 7), .int .u8 (B2 8), .int .u8 (B2 9), .int .u8 (B2 10), .int .u8 (B2 11), .int .u8 (B2 12), .int .u8 (B2 13), .int .u8 (B2 14), .int .u8 (B2 15), .int .i64 n2] 37)).heap[w4.heap.size]? = some (.cells #[.bool six2, .int .u8 (B2 0), .int .u8 (B2 1), .int .u8 (B2 2), .int .u8 (B2 3), .int .u8 (B2 4), .int .u8 (B2 5), .int .u8 (B2 6), .int .u8 (B2 7), .int .u8 (B2 8), .int .u8 (B2 9), .int .u8 (B2 10), .int .u8 (B2 11), .int .u8 (B2 12), .int .u8 (B2 13), .int .u8 (B2 14), .int .u8 (B2 15), .int .i64 n2] 37 (0, 0))) := Lib.hid (heap_alloc_new w4 _)
    clear hb H4
    go_wp2_with fail
    generalize w4.alloc (.cells #[.bool six2, .int .u8 (B2 0), .int .u8 (B2 1), .int .u8 (B2 2), .int .u8 (B2 3), .int .u8 (B2 4), .int .u8 (B2 5), .int .u8 (B2 6), .int .u8 (B2 7), .int .u8 (B2 8), .int .u8 (B2 9), .int .u8 (B2 10), .int .u8 (B2 11), .int .u8 (B2 12), .int .u8 (B2 13), .int .u8 (B2 14), .int .u8 (B2 15), .int .i64 n2] 37) = v4 at *
    have hp1 : partOf v4 w1.heap.size 0 17 = #[.bool six, .int .u8 (B 0), .int .u8 (B 1), .int .u8 (B 2), .int .u8 (B 3), .int .u8 (B 4), .int .u8 (B 5), .int .u8 (B 6), .int .u8 (B 7), .int .u8 (B 8), .int .u8 (B 9), .int .u8 (B 10), .int .u8 (B 11), .int .u8 (B 12), .int .u8 (B 13), .int .u8 (B 14), .int .u8 (B 15)] := by rw [partOf_row _ _ _ _ _ _ _ HC1.out]; simp
    have hq1 := (Array.getElem?_eq_some_iff.1 HC1.out).1
    have hp2 : partOf v4 w2.heap.size 0 17 = #[.bool six, .int .u8 (B 0), .int .u8 (B 1), .int .u8 (B 2), .int .u8 (B 3), .int .u8 (B 4), .int .u8 (B 5), .int .u8 (B 6), .int .u8 (B 7), .int .u8 (B 8), .int .u8 (B 9), .int .u8 (B 10), .int .u8 (B 11), .int .u8 (B 12), .int .u8 (B 13), .int .u8 (B 14), .int .u8 (B 15)] := by rw [partOf_row _ _ _ _ _ _ _ HC2.out]; simp
    have hq2 := (Array.getElem?_eq_some_iff.1 HC2.out).1
    have hp3 : partOf v4 w3.heap.size 0 18 = #[.bool six2, .int .u8 (B2 0), .int .u8 (B2 1), .int .u8 (B2 2), .int .u8 (B2 3), .int .u8 (B2 4), .int .u8 (B2 5), .int .u8 (B2 6), .int .u8 (B2 7), .int .u8 (B2 8), .int .u8 (B2 9), .int .u8 (B2 10), .int .u8 (B2 11), .int .u8 (B2 12), .int .u8 (B2 13), .int .u8 (B2 14), .int .u8 (B2 15), .int .i64 n2] := by rw [partOf_row _ _ _ _ _ _ _ HC3.out]; simp
    have hq3 := (Array.getElem?_eq_some_iff.1 HC3.out).1
    have hp4 : partOf v4 w4.heap.size 0 18 = #[.bool six2, .int .u8 (B2 0), .int .u8 (B2 1), .int .u8 (B2 2), .int .u8 (B2 3), .int .u8 (B2 4), .int .u8 (B2 5), .int .u8 (B2 6), .int .u8 (B2 7), .int .u8 (B2 8), .int .u8 (B2 9), .int .u8 (B2 10), .int .u8 (B2 11), .int .u8 (B2 12), .int .u8 (B2 13), .int .u8 (B2 14), .int .u8 (B2 15), .int .i64 n2] := by rw [partOf_row _ _ _ _ _ _ _ HC4.out]; simp
    have hq4 := (Array.getElem?_eq_some_iff.1 HC4.out).1
    clear hz1 hz2 hz3 hz4
    have HWO := Lib.hid (fun (x : Later v4) => works_any x.world ((HE.out.below HB4.out).later x))
    refine wp_region_later (by kernel_rfl) (by kernel_rfl) ?_
    repeat go_big_quiet_step (first | (go_at_call 11; exact later_call (HD1.out _)) | (go_at_call 12; exact later_call (HD2.out _)) | (go_at_call 6; exact later_call (HWO.out _)))
    refine wpQuiet_nil ?_
    intro x
    go_wp2_with fail
    go_ret
    exact .mk rfl (HB4.out.trans (x.below.mono HB4.out.size))
  · have hs2 : (s.size : Int) > 100 := by omega
    go_enter Tryd.func3, Tryd.ntmps3
    go_wp2_with fail
    refine Calls.later (works_any _ HE.out) ?_
    intro x
    go_wp2_with fail
    go_ret
    exact .mk rfl (Below.lat (Below.refl _ _))
end Go.Proofs.YtcadpcppnllhnaaDoor
