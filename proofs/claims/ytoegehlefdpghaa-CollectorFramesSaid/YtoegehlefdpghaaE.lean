/- Walks over rows: Join, Own, Same, the reference's numbers. -/
import Derived.Test.YtoegehlefdpghaaD
set_option linter.unusedSimpArgs false
set_option linter.unusedVariables false
namespace Go.Proofs.Ytoegehlefdpghaa
open Go.RowKit

set_option maxHeartbeats 400000 in
theorem join_any (A : Option Addr) (m c : Nat) (l : List Int) (A2 : Option Addr) (m2 c2 : Nat) (l2 : List Int) (w : World) (hr : Reads w A m c l) (hr2 : Reads w A2 m2 c2 l2) (hm : m ≤ 1000000) (hm2 : m2 ≤ 1000000) :
    Calls Try.prog 22 #[.slice A m c, .slice A2 m2 c2] w (NewBytes w (l ++ l2)) := by
  obtain rfl := hr.len
  obtain rfl := hr2.len
  go_enter Try.func22, Try.ntmps22
  go_wp2_with (at_builtin; refine Stopped.of ?_)
  refine Stopped.mk ?_
  refine wpList_append_reads _ rfl _ _ 24 rfl 5 w.heap.size Try.underlying24 info5 none 0 0 [] rfl (Owns.nil _ _ _) A l.length c l rfl hr (by omega) (Nat.le_refl _) ?_
  intro oa' cap' w' ho hg hd
  simp only [Nat.zero_add, List.nil_append] at ho ⊢
  have hb : Below w.heap.size w w' := Below.grown (Below.refl _ _) hg (Nat.le_refl _) (fun k hk => by simp at hk)
  clear hg hd
  go_wp2_with (at_builtin; refine Stopped.of ?_)
  refine Stopped.mk ?_
  refine wpList_append_reads _ rfl _ _ 24 rfl 5 w.heap.size Try.underlying24 info5 oa' l.length cap' _ rfl ho A2 l2.length c2 l2 rfl (hr2.below hb) (by omega) hb.size ?_
  intro oa'' cap'' w'' ho2 hg hd
  rw [← List.map_append] at ho2
  have hb2 : Below w.heap.size w w'' := Below.appended hb ho (Nat.le_refl _) hg hb.size
  clear hg hd
  go_wp2_with fail
  go_ret
  exact .mk ho2 (by rw [List.length_append]) hb2

set_option maxHeartbeats 400000 in
theorem own_any (A : Option Addr) (m c : Nat) (l : List Int) (w : World) (hr : Reads w A m c l) (hm : m ≤ 1000000) : Calls Try.prog 20 #[.slice A m c] w (NewBytes w l) := by
  obtain rfl := hr.len
  go_enter Try.func20, Try.ntmps20
  go_wp2_with (at_builtin; refine Stopped.of ?_)
  refine Stopped.mk ?_
  refine wpList_append_reads _ rfl _ _ 24 rfl 5 w.heap.size Try.underlying24 info5 none 0 0 [] rfl (Owns.nil _ _ _) A l.length c l rfl hr (by omega) (Nat.le_refl _) ?_
  intro oa' cap' w' ho hg hd
  simp only [Nat.zero_add, List.nil_append] at ho ⊢
  have hb : Below w.heap.size w w' := Below.grown (Below.refl _ _) hg (Nat.le_refl _) (fun k hk => by simp at hk)
  clear hg hd
  go_wp2_with fail
  go_ret
  exact .mk ho rfl hb

set_option maxHeartbeats 400000 in
theorem same_any (A : Option Addr) (m c : Nat) (A2 : Option Addr) (m2 c2 : Nat) (l : List Int) (w : World) (hr : Reads w A m c l) (hr2 : Reads w A2 m2 c2 l) : Calls Try.prog 13 #[.slice A m c, .slice A2 m2 c2] w (RetAt w (.bool true)) := by
  have h1 := run_string_reads (P := Try.prog) 24 5 Try.underlying24 Try.underlying5 hr 9 Try.underlying9
  have h2 := run_string_reads (P := Try.prog) 24 5 Try.underlying24 Try.underlying5 hr2 9 Try.underlying9
  go_enter Try.func13, Try.ntmps13
  go_wp2_with fail
  go_ret
  exact .mk (by simp) (Below.refl _ _)

/-- The reference's bytes of a number. -/
def refPut (v : Int) : Nat → List Int
  | 0 => []
  | n + 1 => refPut (v / 256) n ++ [v % 256]
theorem refPut_len (v : Int) (n : Nat) : (refPut v n).length = n := by
  induction n generalizing v with
  | zero => rfl
  | succ n ih => rw [refPut, List.length_append, ih]; rfl
theorem refPut_byte (v : Int) (n : Nat) : ∀ x ∈ refPut v n, 0 ≤ x ∧ x < 256 := by
  induction n generalizing v with
  | zero => simp [refPut]
  | succ n ih =>
    intro x hx
    rw [refPut] at hx
    rcases List.mem_append.1 hx with h | h
    · exact ih _ x h
    · simp at h; omega
theorem refPut4 (v : Int) : refPut v 4 = be4 v := by
  simp [refPut, be4]; omega
theorem refPut8 (v : Int) : refPut v 8 = be8 v := by
  simp [refPut, be8, be4]; omega

set_option maxHeartbeats 400000 in
theorem refput_any (n : Nat) : ∀ (v : Int) (w : World), n ≤ 8 → 0 ≤ v → v < 18446744073709551616 → Calls Try.prog 23 #[.int .u64 v, .int .i64 n] w (NewBytes w (refPut v n)) := by
  induction n with
  | zero =>
    intro v w hn h0 h1
    go_enter Try.func23, Try.ntmps23
    go_wp2_with fail
    go_ret
    exact ⟨none, 0, rfl, Owns.nil _ _ _, Below.refl _ _⟩
  | succ n ih =>
    intro v w hn h0 h1
    go_enter Try.func23, Try.ntmps23
    go_wp2_with fail
    refine Calls.mono (ih (v / 256) _ (by omega) (by omega) (by omega)) ?_
    rintro e w2 ⟨oa, cap, rfl, ho, hb⟩
    clear ih
    have hlen := refPut_len (v / 256) n
    obtain ⟨L, hL⟩ : ∃ L, refPut (v / 256) n = L := ⟨_, rfl⟩
    have hR : refPut v (n + 1) = L ++ [v % 256] := by rw [refPut, hL]
    have HR := Lib.hid hR
    rw [hL] at ho hlen ⊢
    rw [hlen] at ho ⊢
    have HL := Lib.hid hlen
    clear hR hL hlen
    have hsz := hb.size
    go_wp2_with (at_builtin; refine Stopped.of ?_)
    refine Stopped.mk ?_
    refine wpList_append_reads _ rfl _ _ 24 rfl 5 w.heap.size Try.underlying24 info5 oa n cap _ rfl (ho.alloc _) _ 1 1 [v % 256] rfl ((Owns.made (base := 0) (size := 1) #[.int .u8 (v % 256)] 1 1 5 _ (Nat.zero_le _) (Nat.le_refl 1) (Nat.le_refl 1) (by decide) rfl).reads (by simp; omega)) (by omega) (by simp; omega) ?_
    intro oa' cap' w' ho' hg hd
    rw [← List.map_append] at ho'
    have hb2 : Below w.heap.size w w' := Below.appended (hb.alloc hsz _) (ho.alloc _) (Nat.le_refl _) hg (by simp; omega)
    clear hg hd
    go_wp2_with fail
    go_ret
    rw [HR.out]
    exact .mk ho' (by rw [List.length_append, HL.out]; rfl) hb2

/-- What stands in bytes from a place on. -/
def numAt (l : List Int) (at_ size : Nat) : Int := numOf ((l.drop at_).take size)
theorem numAt_bd (l : List Int) (hb : ∀ v ∈ l, 0 ≤ v ∧ v < 256) (i n : Nat) (hn : i + n ≤ l.length) : 0 ≤ numAt l i n ∧ numAt l i n < 256 ^ n := by
  have h := numOf_bd ((l.drop i).take n) fun v hv => hb v (List.mem_of_mem_drop (List.mem_of_mem_take hv))
  rwa [List.length_take, List.length_drop, Nat.min_eq_left (by omega)] at h
theorem take_drop_snoc (l : List Int) (i k : Nat) (h : i + k < l.length) : (l.drop i).take (k + 1) = (l.drop i).take k ++ [l.getD (i + k) 0] := by
  rw [take_snoc' _ _ (by rw [List.length_drop]; omega)]
  simp [List.getD_eq_getElem?_getD, List.getElem?_drop]
theorem numAt_snoc (l : List Int) (i k : Nat) (h : i + k < l.length) : numAt l i (k + 1) = numAt l i k * 256 + l.getD (i + k) 0 := by
  unfold numAt; rw [take_drop_snoc l i k h, numOf_snoc]

set_option maxHeartbeats 400000 in
/-- The reference's number at a place, where it stands. -/
theorem refget_ok (oa : Option Addr) (n cap : Nat) (l : List Int) (i sz : Nat) (w : World) (hr : Reads w oa n cap l) (h1 : 1 ≤ sz) (h8 : sz ≤ 8) (hle : i + sz ≤ n) (hn : n ≤ 1000000) :
    Calls Try.prog 34 #[.slice oa n cap, .int .i64 i, .int .i64 sz] w (RetAt w (.tuple #[.int .u64 (numAt l i sz), .int .i64 0])) := by
  have HR := Lib.hid hr
  clear hr
  go_enter Try.func34, Try.ntmps34
  go_wp2_with fail
  go_loopw [8, 9] (fun u8 u9 wr => ∃ k : Nat, k ≤ sz ∧ u9 = .int .i64 k ∧ u8 = .int .u64 (numAt l i k) ∧ wr = w) (fun _ u9 _ => (sz : Int) - intOf u9 |>.toNat)
  case atStart => exact ⟨0, Nat.zero_le _, rfl, rfl, rfl⟩
  case round =>
    obtain ⟨k, hk, rfl, rfl, rfl⟩ := hrel
    by_cases hlt : k < sz
    · obtain ⟨g, off, rfl, hg, hc⟩ := HR.out.here (by omega)
      have hts := numAt_snoc l i k (by rw [HR.out.len]; omega)
      have hck := hc (i + k) (by omega)
      have hbk := HR.out.getD (i + k)
      clear hc
      obtain ⟨x, hx⟩ : ∃ x, l.getD (i + k) 0 = x := ⟨_, rfl⟩
      rw [hx] at hts hck hbk
      clear hx
      have hb := numAt_bd l HR.out.byte i k (by rw [HR.out.len]; omega)
      have hp := pow_le7 k (by omega)
      have hb0 := hb.1
      have hb1 : numAt l i k < 72057594037927936 := by omega
      have hx0 := hbk.1
      have hx1 := hbk.2
      have HT := Lib.hid hts
      have hd1 : decide ((i : Int) > n) = false := by simp; omega
      have hd2 : decide ((i : Int) + k ≥ n) = false := by simp; omega
      clear hb hp hbk hts
      go_wp2_with fail
      go_roundw
      case rel => exact ⟨k + 1, by omega, by go_num, by rw [HT.out], trivial⟩
      case measure => simp [intOf]; omega
    · obtain rfl : k = sz := by omega
      go_wp2_with fail
      go_ret2
      exact .mk rfl (Below.refl _ _)
end Go.Proofs.Ytoegehlefdpghaa
