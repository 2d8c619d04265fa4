/- Walks over the writer and the reader of numbers. -/
import Derived.Test.YtoegehlefdpghaaC
import Derived.Deep.QuietTactic
import Derived.BigQuiet
import Derived.IntWalk
import Derived.WalkSpells
set_option linter.unusedSimpArgs false
set_option linter.unusedVariables false
namespace Go.Proofs.Ytoegehlefdpghaa
open Go.RowKit

theorem elem24 : Try.prog.underlying 24 = some (.slice (Try.prog.elem 24)) := by kernel_rfl
theorem size24 : (Try.prog.info? (Try.prog.elem 24)).map (·.size) = some 1 := by kernel_rfl

/-- x | y, the low 8 digits of x being 0. -/
theorem bits_or_byte (v x : Int) (hv : 0 ≤ v) (hv' : v < 72057594037927936) (hx : 0 ≤ x) (hx' : x < 256) : bits .or .u64 (v * 256) x = v * 256 + x := by
  obtain ⟨a, rfl⟩ : ∃ a : Nat, v = a := ⟨v.toNat, by omega⟩
  obtain ⟨b, rfl⟩ : ∃ b : Nat, x = b := ⟨x.toNat, by omega⟩
  have e : ((BitVec.ofInt 64 ((a : Int) * 256)) ||| (BitVec.ofInt 64 (b : Int))).toNat = a * 256 + b := by
    rw [BitVec.toNat_or, show ((a : Int) * 256) = ((a * 256 : Nat) : Int) by omega, BitVec.ofInt_natCast, BitVec.ofInt_natCast, BitVec.toNat_ofNat, BitVec.toNat_ofNat, Nat.mod_eq_of_lt (by omega), Nat.mod_eq_of_lt (by omega)]
    have := Nat.two_pow_add_eq_or_of_lt (i := 8) (b := b) (by omega) a
    rw [Nat.mul_comm a 256]
    exact this.symm
  show IntKind.u64.wrap (((BitVec.ofInt 64 ((a : Int) * 256)) ||| (BitVec.ofInt 64 (b : Int))).toNat : Int) = _
  rw [e, IntWalk.u64_in _ (by omega)]
  omega

set_option maxHeartbeats 400000 in
theorem value_any (oa : Option Addr) (n cap : Nat) (l : List Int) (w : World) (hr : Reads w oa n cap l) (hn : n ≤ 8) : Calls Try.prog 42 #[.slice oa n cap] w (RetAt w (.int .u64 (numOf l))) := by
  have HR := Lib.hid hr
  clear hr
  go_enter Try.func42, Try.ntmps42
  go_wp2_with fail
  go_loopw [2, 7] (fun u2 u7 wr => ∃ k : Nat, k ≤ n ∧ u7 = .int .i64 k ∧ u2 = .int .u64 (numOf (l.take k)) ∧ wr = w) (fun _ u7 _ => (n : Int) - intOf u7 |>.toNat)
  case atStart => exact ⟨0, Nat.zero_le _, rfl, rfl, rfl⟩
  case round =>
    obtain ⟨k, hk, rfl, rfl, rfl⟩ := hrel
    by_cases hlt : k < n
    · obtain ⟨g, off, rfl, hg, hc⟩ := HR.out.here (by omega)
      have hts := take_snoc' l k (by rw [HR.out.len]; exact hlt)
      have hck := hc k hlt
      have hbk := HR.out.getD k
      clear hc
      obtain ⟨x, hx⟩ : ∃ x, l.getD k 0 = x := ⟨_, rfl⟩
      rw [hx] at hts hck hbk
      clear hx
      have hb := numOf_bd (l.take k) (fun v hv => HR.out.byte v (List.mem_of_mem_take hv))
      have hl : (l.take k).length = k := by rw [List.length_take, HR.out.len]; omega
      rw [hl] at hb
      have hp := pow_le7 k (by omega)
      have hb0 := hb.1
      have hb1 : numOf (l.take k) < 72057594037927936 := by omega
      have hx0 := hbk.1
      have hx1 := hbk.2
      have ho := bits_or_byte _ x hb0 hb1 hx0 hx1
      have HO := Lib.hid ho
      have HT := Lib.hid hts
      clear hb hp hl hbk ho hts
      go_wp2_with fail
      go_roundw
      case rel => exact ⟨k + 1, by omega, by go_num, by rw [HT.out, numOf_snoc, ← HO.out], trivial⟩
      case measure => simp [intOf]; omega
    · obtain rfl : k = n := by omega
      go_wp2_with fail
      go_ret
      refine .mk (val_int ?_) (Below.refl _ _)
      rw [List.take_of_length_le (by rw [HR.out.len]; exact Nat.le_refl _)]

/-- A copy in new memory. -/
theorem eqNil (oa : Option Addr) (n c : Nat) (w : World) : (binOp .eql 24 (.slice oa n c) (.slice none 0 0)).run Try.prog w = .ok (.bool oa.isNone) w := Lib.run_eql_slice_nil w 24 5 oa n c 0 0 Try.underlying24
set_option maxHeartbeats 400000 in
theorem clone_any (oa : Option Addr) (n cap : Nat) (l : List Int) (w : World) (hr : Reads w oa n cap l) (hn : n ≤ 1000000) : Calls Try.prog 30 #[.slice oa n cap] w (NewBytes w l) := by
  have HR := Lib.hid hr
  clear hr
  rcases oa with _ | a0
  · have hq := eqNil none n cap
    simp only [Option.isNone] at hq
    go_enter Try.func30, Try.ntmps30
    go_wp2_with fail
    go_ret
    have hl : l = [] := by
      rcases HR.out.at' with h0 | ⟨g, off, e, -⟩
      · exact List.eq_nil_of_length_eq_zero (by rw [HR.out.len, h0])
      · cases e
    subst hl
    exact ⟨none, 0, rfl, Owns.nil _ _ _, Below.refl _ _⟩
  · have hq := eqNil (some a0) n cap
    simp only [Option.isNone] at hq
    go_enter Try.func30, Try.ntmps30
    go_wp2_with (at_builtin; refine Stopped.of ?_)
    refine Stopped.mk ?_
    obtain rfl := HR.out.len
    refine wpList_append_reads _ rfl _ _ 24 rfl 5 w.heap.size Try.underlying24 info5 _ 0 0 [] rfl (Owns.made #[] 0 0 5 [] (Nat.le_refl _) (Nat.le_refl _) (Nat.le_refl _) (Nat.zero_le _) rfl) (some a0) l.length cap l rfl (HR.out.alloc _) (by omega) (by simp) ?_
    intro oa' cap' w' ho hg hd
    simp only [Nat.zero_add, List.nil_append] at ho ⊢
    have hb : Below w.heap.size w w' := Below.grown ((Below.refl _ _).alloc (Nat.le_refl _) _) hg (by simp) (fun k hk => by simp at hk; omega)
    clear hg hd
    go_wp2_with fail
    go_ret
    exact .mk ho rfl hb

/-- A writer behind a pointer: what was put. -/
structure Wr (w : World) (p : Nat) (l : List Int) : Prop where
  row : ∃ oa cap, w.cell? ⟨p, 0, none⟩ = some (.slice oa l.length cap) ∧ Owns w (p + 1) 1 oa l.length cap (l.map (.int .u8))
  free : w.frozen? ⟨p, 0, none⟩ = false
  lt : p < w.heap.size
  byte : ∀ v ∈ l, 0 ≤ v ∧ v < 256

theorem Wr.below {w w' : World} {p : Nat} {l : List Int} (h : Wr w p l) (hb : Below w.heap.size w w') : Wr w' p l := by
  obtain ⟨oa, cap, hc, ho⟩ := h.row
  exact ⟨⟨oa, cap, (hb.cell (p := ⟨p, 0, none⟩) h.lt).trans hc, ho.below hb⟩, (hb.frozen (p := ⟨p, 0, none⟩) h.lt).trans h.free, Nat.lt_of_lt_of_le h.lt hb.size, h.byte⟩
theorem Wr.later {w : World} {p : Nat} {l : List Int} (h : Wr w p l) (x : Later w) : Wr x.world p l := h.below x.below
def WrPost (w : World) (p : Nat) (l : List Int) : Ending → World → Prop := fun e w' => e = .returned (.int .i64 0) ∧ Wr w' p l ∧ Below p w w'

set_option maxHeartbeats 400000 in
theorem raw_any (p : Nat) (l : List Int) (A : Option Addr) (m c : Nat) (l2 : List Int) (w : World) (hw : Wr w p l) (hr : Reads w A m c l2) (hm : l.length + l2.length ≤ 1000000) :
    Calls Try.prog 27 #[.pointer (some ⟨p, 0, none⟩), .slice A m c] w (WrPost w p (l ++ l2)) := by
  obtain rfl := hr.len
  obtain ⟨oa, cap, hc, ho⟩ := hw.row
  have hf := hw.free
  have hlt := hw.lt
  go_enter Try.func27, Try.ntmps27
  go_wp2_with (at_builtin; refine Stopped.of ?_)
  refine Stopped.mk ?_
  refine wpList_append_reads _ rfl _ _ 24 rfl 5 (p + 1) Try.underlying24 info5 oa l.length cap _ rfl ho A l2.length c l2 rfl hr (by omega) hlt ?_
  intro oa' cap' w' ho' hg hd
  rw [← List.map_append] at ho'
  have hb : Below (p + 1) w w' := Below.appended (Below.refl _ _) ho (Nat.le_refl _) hg hlt
  have hc' := (hb.cell (p := ⟨p, 0, none⟩) (Nat.lt_succ_self p)).trans hc
  have hf' := (hb.frozen (p := ⟨p, 0, none⟩) (Nat.lt_succ_self p)).trans hf
  have hlt' : p < w'.heap.size := Nat.lt_of_lt_of_le hlt hb.size
  clear hg hd hc hf hlt
  go_wp2_with fail
  go_ret
  refine ⟨rfl, ⟨⟨oa', cap', ?_, ?_⟩, ?_, ?_, ?_⟩, ?_⟩
  · rw [World.cell?_setCell_same _ _ _ hc', List.length_append]
  · rw [List.length_append]
    exact ho'.other (fun a ha => by have := (ho'.lt ha).1; simp only; omega) _
  · rw [World.frozen?_setCell]; exact hf'
  · simpa using hlt'
  · intro v hv
    rcases List.mem_append.1 hv with h | h
    · exact hw.byte v h
    · exact hr.byte v h
  · exact (hb.mono (Nat.le_succ p)).setCell (Nat.le_refl _) _

theorem be4_byte (v : Int) : ∀ x ∈ be4 v, 0 ≤ x ∧ x < 256 := by
  intro x hx
  simp only [be4, List.mem_cons, List.not_mem_nil, or_false] at hx
  omega
theorem be8_byte (v : Int) : ∀ x ∈ be8 v, 0 ≤ x ∧ x < 256 := by
  intro x hx
  rcases List.mem_append.1 hx with h | h <;> exact be4_byte _ x h

set_option maxHeartbeats 400000 in
theorem put1_any (p : Nat) (l : List Int) (v : Int) (h0 : 0 ≤ v) (h1 : v < 256) (w : World) (hw : Wr w p l) (hm : l.length ≤ 900000) :
    Calls Try.prog 26 #[.pointer (some ⟨p, 0, none⟩), .int .u64 v, .int .i64 1] w (WrPost w p (l ++ [v])) := by
  have HW := Lib.hid hw
  clear hw
  go_enter Try.func26, Try.ntmps26
  go_wp2_with (go_at_call 35; refine Calls.later (fits_any v 1 h0 (by omega) (by decide) (by decide) _) ?_; intro x)
  refine Calls.mono (of1_any v h0 h1 _) ?_
  rintro e w2 ⟨oa, cap, rfl, ho, hb⟩
  go_wp2_with fail
  refine Calls.mono (raw_any p l oa _ cap [v] w2 ((HW.out.later x).below hb) (ho.reads (by simp; omega)) (by simp; omega)) ?_
  rintro e w3 ⟨rfl, hW3, hb3⟩
  go_wp2_with fail
  go_ret
  exact ⟨rfl, hW3, ((x.below.mono (Nat.le_of_lt HW.out.lt)).trans (hb.mono (Nat.le_of_lt (Nat.lt_of_lt_of_le HW.out.lt x.below.size)))).trans hb3⟩
set_option maxHeartbeats 400000 in
theorem put4_any (p : Nat) (l : List Int) (v : Int) (h0 : 0 ≤ v) (h1 : v < 4294967296) (w : World) (hw : Wr w p l) (hm : l.length ≤ 900000) :
    Calls Try.prog 26 #[.pointer (some ⟨p, 0, none⟩), .int .u64 v, .int .i64 4] w (WrPost w p (l ++ be4 v)) := by
  have HW := Lib.hid hw
  clear hw
  go_enter Try.func26, Try.ntmps26
  go_wp2_with (go_at_call 35; refine Calls.later (fits_any v 4 h0 (by omega) (by decide) (by decide) _) ?_; intro x)
  refine Calls.mono (of4_any v h0 h1 _) ?_
  rintro e w2 ⟨oa, cap, rfl, ho, hb⟩
  go_wp2_with fail
  refine Calls.mono (raw_any p l oa _ cap (be4 v) w2 ((HW.out.later x).below hb) (ho.reads (be4_byte v)) (by simp [be4]; omega)) ?_
  rintro e w3 ⟨rfl, hW3, hb3⟩
  go_wp2_with fail
  go_ret
  exact ⟨rfl, hW3, ((x.below.mono (Nat.le_of_lt HW.out.lt)).trans (hb.mono (Nat.le_of_lt (Nat.lt_of_lt_of_le HW.out.lt x.below.size)))).trans hb3⟩
set_option maxHeartbeats 400000 in
theorem put8_any (p : Nat) (l : List Int) (v : Int) (h0 : 0 ≤ v) (h1 : v < 18446744073709551616) (w : World) (hw : Wr w p l) (hm : l.length ≤ 900000) :
    Calls Try.prog 26 #[.pointer (some ⟨p, 0, none⟩), .int .u64 v, .int .i64 8] w (WrPost w p (l ++ be8 v)) := by
  have HW := Lib.hid hw
  clear hw
  go_enter Try.func26, Try.ntmps26
  go_wp2_with (go_at_call 35; refine Calls.later (fits_any v 8 h0 (by omega) (by decide) (by decide) _) ?_; intro x)
  refine Calls.mono (of8_any v h0 h1 _) ?_
  rintro e w2 ⟨oa, cap, rfl, ho, hb⟩
  go_wp2_with fail
  refine Calls.mono (raw_any p l oa _ cap (be8 v) w2 ((HW.out.later x).below hb) (ho.reads (be8_byte v)) (by simp [be8, be4]; omega)) ?_
  rintro e w3 ⟨rfl, hW3, hb3⟩
  go_wp2_with fail
  go_ret
  exact ⟨rfl, hW3, ((x.below.mono (Nat.le_of_lt HW.out.lt)).trans (hb.mono (Nat.le_of_lt (Nat.lt_of_lt_of_le HW.out.lt x.below.size)))).trans hb3⟩

set_option maxHeartbeats 400000 in
theorem bytes_any (p : Nat) (l : List Int) (w : World) (hw : Wr w p l) (hm : l.length ≤ 1000000) :
    Calls Try.prog 28 #[.pointer (some ⟨p, 0, none⟩)] w (NewBytes w l) := by
  obtain ⟨oa, cap, hc, ho⟩ := hw.row
  go_enter Try.func28, Try.ntmps28
  go_wp2_with fail
  refine Calls.mono (clone_any oa _ cap l w (ho.reads hw.byte) hm) ?_
  rintro e w2 ⟨oa', cap', rfl, ho', hb⟩
  go_wp2_with fail
  go_ret
  exact ⟨_, _, rfl, ho', hb⟩
end Go.Proofs.Ytoegehlefdpghaa
