/- Walks over the reader of numbers. -/
import Derived.Test.YtoegehlefdpghaaE
set_option linter.unusedSimpArgs false
set_option linter.unusedVariables false
namespace Go.Proofs.Ytoegehlefdpghaa
open Go.RowKit

set_option maxHeartbeats 400000 in
theorem get24_any (oa : Option Addr) (n cap : Nat) (l : List Int) (i sz : Nat) (w : World) (hr : Reads w oa n cap l) (h1 : 1 ≤ sz) (h8 : sz ≤ 8) (hle : i + sz ≤ n) (hn : n ≤ 1000000) :
    Calls Try.prog 24 #[.slice oa n cap, .int .i64 i, .int .i64 sz] w (RetAt w (.int .u64 (numAt l i sz))) := by
  have HR := Lib.hid hr
  clear hr
  go_enter Try.func24, Try.ntmps24
  go_wp2_with (go_at_call 34; refine Calls.later (refget_ok oa n cap l i sz _ HR.out h1 h8 hle hn) ?_; intro x)
  go_ret
  exact .mk rfl x.below

set_option maxHeartbeats 400000 in
theorem get_ok (oa : Option Addr) (n cap : Nat) (l : List Int) (i sz : Nat) (w : World) (hr : Reads w oa n cap l) (h1 : 1 ≤ sz) (h8 : sz ≤ 8) (hle : i + sz ≤ n) (hn : n ≤ 1000000) :
    Calls Try.prog 41 #[.slice oa n cap, .int .i64 i, .int .i64 sz] w (RetAt w (.tuple #[.int .u64 (numAt l i sz), .int .i64 0])) := by
  have HR := Lib.hid hr
  clear hr
  have hrt : rightB sz = true := by simp [rightB]; omega
  have hcap := HR.out.le
  have hcut : ∀ w, (Instr.slice 24 (.slice oa n cap) (some (.int .i64 (i : Int))) (some (.int .i64 ((i : Int) + sz))) none).run Try.prog w = .ok (.slice (cutAddr oa i cap 1) sz (cap - i)) w := fun w => by
    have := run_cutBoth (P := Try.prog) 24 oa n cap 1 elem24 size24 i (i + sz) i ((i : Int) + sz) rfl (by omega) (by omega) (by omega) w
    rwa [show i + sz - i = sz by omega] at this
  go_enter Try.func41, Try.ntmps41
  go_wp2_with (first
    | (go_at_call 39; refine Calls.later (right_any _ _) ?_; intro x; rw [hrt])
    | (go_at_call 42; refine Calls.later1 (value_any (cutAddr oa i cap 1) sz (cap - i) ((l.drop i).take sz) _ ?_ h8) ?_))
  · have := ((HR.out.later x).cut i (by omega)).take sz (by omega)
    exact this
  · intro y
    go_wp2_with fail
    go_ret2
    exact .mk rfl y.below

set_option maxHeartbeats 400000 in
theorem get_short (oa : Option Addr) (n cap : Nat) (i sz : Nat) (w : World) (h1 : 1 ≤ sz) (h8 : sz ≤ 8) (hgt : n < i + sz) (hn : n ≤ 1000000) (hi : i ≤ 1000000) :
    Calls Try.prog 41 #[.slice oa n cap, .int .i64 i, .int .i64 sz] w (RetAt w (.tuple #[.int .u64 0, .int .i64 10])) := by
  have hrt : rightB sz = true := by simp [rightB]; omega
  by_cases hin : n < i
  · have hd : decide ((i : Int) > n) = true := by simp; omega
    go_enter Try.func41, Try.ntmps41
    go_wp2_with (go_at_call 39; refine Calls.later (right_any _ _) ?_; intro x; rw [hrt])
    go_ret2
    exact .mk rfl x.below
  · have hd : decide ((i : Int) > n) = false := by simp; omega
    have hd2 : decide ((n : Int) - i < sz) = true := by simp; omega
    go_enter Try.func41, Try.ntmps41
    go_wp2_with (go_at_call 39; refine Calls.later (right_any _ _) ?_; intro x; rw [hrt])
    go_ret2
    exact .mk rfl x.below

/-- A reader behind a pointer: of which bytes, and where it stands. -/
structure Rd (w : World) (b p : Nat) (l : List Int) (i : Nat) : Prop where
  row : ∃ oa cap, w.cell? ⟨p, 0, none⟩ = some (.slice oa l.length cap) ∧ Reads w oa l.length cap l ∧ ∀ a, oa = some a → b ≤ a.block ∧ a.block < p
  pos : w.cell? ⟨p, 1, none⟩ = some (.int .i64 (i : Int))
  free : ∀ j, w.frozen? ⟨p, j, none⟩ = false
  lt : p < w.heap.size

theorem Rd.below {w w' : World} {b p : Nat} {l : List Int} {i : Nat} (h : Rd w b p l i) (hb : Below w.heap.size w w') : Rd w' b p l i := by
  obtain ⟨oa, cap, hc, hr, ha⟩ := h.row
  exact ⟨⟨oa, cap, (hb.cell (p := ⟨p, 0, none⟩) h.lt).trans hc, hr.below hb, ha⟩, (hb.cell (p := ⟨p, 1, none⟩) h.lt).trans h.pos, fun j => (hb.frozen (p := ⟨p, j, none⟩) h.lt).trans (h.free j), Nat.lt_of_lt_of_le h.lt hb.size⟩
theorem Rd.later {w : World} {b p : Nat} {l : List Int} {i : Nat} (h : Rd w b p l i) (x : Later w) : Rd x.world b p l i := h.below x.below
theorem Rd.step {w : World} {b p : Nat} {l : List Int} {i : Nat} (h : Rd w b p l i) (k : Nat) : Rd (w.setCell ⟨p, 1, none⟩ (.int .i64 (k : Int))) b p l k := by
  obtain ⟨oa, cap, hc, hr, ha⟩ := h.row
  refine ⟨⟨oa, cap, ?_, hr.other (fun a e => by have := (ha a e).2; simp only; omega) _, ha⟩, World.cell?_setCell_same _ _ _ h.pos, fun j => ?_, by simpa using h.lt⟩
  · rw [World.cell?_setCell_other _ _ _ _ (by simp)]; exact hc
  · rw [World.frozen?_setCell]; exact h.free j

theorem Rd.other {w : World} {b p : Nat} {l : List Int} {i : Nat} (h : Rd w b p l i) {a : Addr} (ha : a.block < b) (hb : b ≤ p) (u : Value) : Rd (w.setCell a u) b p l i := by
  obtain ⟨oa, cap, hc, hr, hra⟩ := h.row
  have e : (w.setCell a u).heap[p]? = w.heap[p]? := Below.heap_setCell _ _ _ _ (by omega)
  refine ⟨⟨oa, cap, (World.cell?_of_block (a := ⟨p, 0, none⟩) e).trans hc, hr.other (fun a' e' => by have := (hra a' e').1; omega) _, hra⟩, (World.cell?_of_block (a := ⟨p, 1, none⟩) e).trans h.pos, fun j => (World.frozen?_of_block (a := ⟨p, j, none⟩) e).trans (h.free j), by simpa using h.lt⟩

def NewReader (w : World) (l : List Int) : Ending → World → Prop := fun e w' => ∃ p, e = .returned (.pointer (some ⟨p, 0, none⟩)) ∧ w.heap.size ≤ p ∧ Rd w' w.heap.size p l 0 ∧ Below w.heap.size w w'

set_option maxHeartbeats 400000 in
theorem read_any (oa : Option Addr) (n cap : Nat) (l : List Int) (w : World) (hr : Reads w oa n cap l) (hb : n ≤ 1000000) : Calls Try.prog 37 #[.slice oa n cap] w (NewReader w l) := by
  have HB := hr.byte
  have HB := Lib.hid HB
  go_enter Try.func37, Try.ntmps37
  go_wp2_with fail
  refine Calls.mono (clone_any oa n cap l _ hr hb) ?_
  rintro e w2 ⟨oa', cap', rfl, ho, hb2⟩
  go_wp2_with fail
  go_ret
  have hsz := hb2.size
  have hrd := (ho.reads HB.out).alloc (.cells #[.slice oa' l.length cap', .int .i64 0] 89)
  refine ⟨w2.heap.size, rfl, hb2.size, ⟨⟨oa', cap', by go_cell, hrd, fun a ha => ho.lt ha⟩, by go_cell, fun j => by go_cell, by simp⟩, hb2.alloc hb2.size _⟩

def RdPost (w : World) (b p : Nat) (l : List Int) (i : Nat) (v err : Int) : Ending → World → Prop := fun e w' => e = .returned (.tuple #[.int .u64 v, .int .i64 err]) ∧ Rd w' b p l i ∧ Below p w w'

set_option maxHeartbeats 400000 in
theorem next_ok (b p : Nat) (l : List Int) (i sz : Nat) (w : World) (hw : Rd w b p l i) (h1 : 1 ≤ sz) (h8 : sz ≤ 8) (hle : i + sz ≤ l.length) (hn : l.length ≤ 1000000) :
    Calls Try.prog 38 #[.pointer (some ⟨p, 0, none⟩), .int .i64 sz] w (RdPost w b p l (i + sz) (numAt l i sz) 0) := by
  have HW := Lib.hid hw
  obtain ⟨oa, cap, hc, hr, ha⟩ := hw.row
  have hpos := hw.pos
  have hlt := hw.lt
  have hf := hw.free 1
  have HR := Lib.hid hr
  clear ha hr hw
  go_enter Try.func38, Try.ntmps38
  go_wp2_with fail
  refine wp_region_later (by kernel_rfl) (by kernel_rfl) ?_
  repeat go_big_quiet_step ((go_at_call 41; exact later_call (get_ok oa l.length cap l i sz _ (HR.out.later _) h1 h8 hle hn)))
  refine wpQuiet_nil ?_
  intro x
  go_wp2_with fail
  go_ret2
  refine ⟨rfl, ?_, ?_⟩
  · have := (HW.out.later x).step (i + sz)
    exact this
  · exact (x.below.mono (Nat.le_of_lt hlt)).setCell (Nat.le_refl _) _

set_option maxHeartbeats 400000 in
theorem next_short (b p : Nat) (l : List Int) (i sz : Nat) (w : World) (hw : Rd w b p l i) (h1 : 1 ≤ sz) (h8 : sz ≤ 8) (hgt : l.length < i + sz) (hn : l.length ≤ 1000000) (hi : i ≤ 1000000) :
    Calls Try.prog 38 #[.pointer (some ⟨p, 0, none⟩), .int .i64 sz] w (RdPost w b p l i 0 10) := by
  have HW := Lib.hid hw
  obtain ⟨oa, cap, hc, hr, ha⟩ := hw.row
  have hpos := hw.pos
  have hlt := hw.lt
  clear ha hr hw
  go_enter Try.func38, Try.ntmps38
  go_wp2_with fail
  refine wp_region_later (by kernel_rfl) (by kernel_rfl) ?_
  repeat go_big_quiet_step ((go_at_call 41; exact later_call (get_short oa l.length cap i sz _ h1 h8 hgt hn hi)))
  refine wpQuiet_nil ?_
  intro x
  go_wp2_with fail
  go_ret2
  exact ⟨rfl, HW.out.later x, x.below.mono (Nat.le_of_lt hlt)⟩
end Go.Proofs.Ytoegehlefdpghaa
