/- Walk over the reference's datagram that is parsed. -/
import Derived.Test.YtoegehlefdpghaaL
set_option linter.unusedSimpArgs false
set_option linter.unusedVariables false
namespace Go.Proofs.Ytoegehlefdpghaa
open Go.RowKit

theorem later_deep1 {w : World} {o o1 : Obj} (x : Later (w.alloc o)) (y : Later (x.world.alloc o1)) : Below (w.heap.size + 1) (w.alloc o) y.world := by
  have hx := x.below.size
  simp only [World.size_alloc] at hx
  have h1 : Below (w.heap.size + 1) (w.alloc o) x.world := x.below.mono (by simp)
  have h2 := h1.alloc hx o1
  exact h2.trans (y.below.mono (by simp only [World.size_alloc]; omega))

set_option maxHeartbeats 2000000 in
theorem refparsedata_yes (oa : Option Addr) (n cap : Nat) (l : List Int) (w : World) (hr : Reads w oa n cap l) (hn : n ≤ 1000) (hlen : 17 ≤ n) (hk : l.getD 0 0 = 1) (hm : mayB (numAt l 1 4) (numAt l 5 8) (numAt l 13 4) = true) :
    Calls Try.prog 7 #[.slice oa n cap] w (NewParse w (numAt l 1 4) (numAt l 5 8) (numAt l 13 4) (l.drop 17) 0) := by
  have HR := Lib.hid hr
  have hl := hr.len
  have b1 := numAt4 l hr.byte 1 (by omega)
  have b2 := numAt8 l hr.byte 5 (by omega)
  have b3 := numAt4 l hr.byte 13 (by omega)
  have hcap := hr.le
  obtain ⟨g, off, rfl, hg, hc⟩ := hr.here (by omega)
  have hc0 := hc 0 (by omega)
  rw [hk, Nat.add_zero] at hc0
  have hd17 : decide ((n : Int) < 17) = false := by simp; omega
  clear hr hl hk hc
  have hcut : ∀ w, (Instr.slice 24 (.slice (some ⟨g, off, none⟩) n cap) (some (.int .i64 17)) none none).run Try.prog w = .ok (.slice (cutAddr (some ⟨g, off, none⟩) 17 cap 1) (n - 17) (cap - 17)) w := fun w => run_cut (P := Try.prog) 24 (some ⟨g, off, none⟩) n cap 1 elem24 size24 17 17 rfl hlen w
  go_enter Try.func7, Try.ntmps7
  go_wp2_with fail
  refine Calls.later (get24_any (some ⟨g, off, none⟩) n cap l 1 4 _ (HR.out.alloc _) (by decide) (by decide) (by omega) (by omega)) ?_
  intro x1
  go_wp2_with fail
  refine Calls.later1 (get24_any (some ⟨g, off, none⟩) n cap l 5 8 _ ((HR.out.alloc _).later _) (by decide) (by decide) (by omega) (by omega)) ?_
  intro x2
  go_wp2_with fail
  refine Calls.later1 (get24_any (some ⟨g, off, none⟩) n cap l 13 4 _ ((HR.out.alloc _).later _) (by decide) (by decide) (by omega) (by omega)) ?_
  intro x
  clear x1 x2
  go_wp2_with fail
  refine Calls.later (refmay_any _ _ _ _ _ _ _) ?_
  intro y
  rw [hm]
  clear hc0
  go_wp2_with fail
  have hx := x.below.size
  simp only [World.size_alloc] at hx
  have hy := y.below.size
  simp only [World.size_alloc] at hy
  refine Calls.fresh (fun w1 => Below w.heap.size w w1 ∧ Hid (Reads w1 (some ⟨g, off, none⟩) n cap l) ∧ w.heap.size < w1.heap.size ∧ x.world.heap.size < w1.heap.size ∧
    (w1.cell? ⟨x.world.heap.size, 0, none⟩ = some (.int .u32 (numAt l 1 4)) ∧ w1.cell? ⟨x.world.heap.size, 1, none⟩ = some (.int .u64 (numAt l 5 8)) ∧ w1.cell? ⟨x.world.heap.size, 2, none⟩ = some (.int .u32 (numAt l 13 4)) ∧ w1.cell? ⟨x.world.heap.size, 3, none⟩ = some (.slice none 0 0)) ∧
    (w1.cell? ⟨w.heap.size, 0, none⟩ = some (.int .u32 0) ∧ w1.cell? ⟨w.heap.size, 1, none⟩ = some (.int .u64 0) ∧ w1.cell? ⟨w.heap.size, 2, none⟩ = some (.int .u32 0) ∧ w1.cell? ⟨w.heap.size, 3, none⟩ = some (.slice none 0 0)) ∧
    (∀ j, w1.frozen? ⟨x.world.heap.size, j, none⟩ = false) ∧ (∀ j, w1.frozen? ⟨w.heap.size, j, none⟩ = false)) ?_ ?_
  · have hd := later_deep1 x y
    refine ⟨?_, ?_, by omega, by omega, ⟨by go_cell, by go_cell, by go_cell, by go_cell⟩, ⟨(hd.cell (p := ⟨_, _, none⟩) (Nat.lt_succ_self _)).trans (by go_cell), (hd.cell (p := ⟨_, _, none⟩) (Nat.lt_succ_self _)).trans (by go_cell), (hd.cell (p := ⟨_, _, none⟩) (Nat.lt_succ_self _)).trans (by go_cell), (hd.cell (p := ⟨_, _, none⟩) (Nat.lt_succ_self _)).trans (by go_cell)⟩, fun j => by go_cell, fun j => (hd.frozen (p := ⟨_, j, none⟩) (Nat.lt_succ_self _)).trans (by go_cell)⟩
    · exact (by repeat' (first | (with_reducible assumption) | (with_reducible exact Below.refl _ _) | (with_reducible refine Below.lat ?_) | (with_reducible refine Below.all ?_ _) | (with_reducible refine Below.drew ?_)))
    · exact Lib.hid (HR.out.below (by repeat' (first | (with_reducible assumption) | (with_reducible exact Below.refl _ _) | (with_reducible refine Below.lat ?_) | (with_reducible refine Below.all ?_ _) | (with_reducible refine Below.drew ?_))))
  rintro w1 ⟨hb1, HR1, hs0, hs1, hc, hd, hf, hg0⟩
  have HC := Lib.hid hc
  have HD := Lib.hid hd
  have HF := Lib.hid hf
  have HG := Lib.hid hg0
  have HB1 := Lib.hid hb1
  have hq : w.heap.size < x.world.heap.size := by omega
  clear hc hd hf hg0 hb1 hx hy HR
  generalize x.world.heap.size = q at *
  clear x y
  refine Calls.mono (join_any none 0 0 [] (cutAddr (some ⟨g, off, none⟩) 17 cap 1) (n - 17) (cap - 17) (l.drop 17) w1 (Reads.nil _) (HR1.out.cut 17 hlen) (by decide) (by omega)) ?_
  rw [List.nil_append]
  rintro en w2 ⟨oa2, cap2, rfl, ho2, hb2⟩
  have hs2 : w.heap.size < w2.heap.size := Nat.lt_of_lt_of_le hs0 hb2.size
  have hs3 : q < w2.heap.size := Nat.lt_of_lt_of_le hs1 hb2.size
  have c0 := (hb2.cell (p := ⟨q, 0, none⟩) hs1).trans HC.out.1
  have c1 := (hb2.cell (p := ⟨q, 1, none⟩) hs1).trans HC.out.2.1
  have c2 := (hb2.cell (p := ⟨q, 2, none⟩) hs1).trans HC.out.2.2.1
  have c3 := (hb2.cell (p := ⟨q, 3, none⟩) hs1).trans HC.out.2.2.2
  have d0 := (hb2.cell (p := ⟨w.heap.size, 0, none⟩) hs0).trans HD.out.1
  have d1 := (hb2.cell (p := ⟨w.heap.size, 1, none⟩) hs0).trans HD.out.2.1
  have d2 := (hb2.cell (p := ⟨w.heap.size, 2, none⟩) hs0).trans HD.out.2.2.1
  have d3 := (hb2.cell (p := ⟨w.heap.size, 3, none⟩) hs0).trans HD.out.2.2.2
  have f0 := fun j => (hb2.frozen (p := ⟨q, j, none⟩) hs1).trans (HF.out j)
  have g0 := fun j => (hb2.frozen (p := ⟨w.heap.size, j, none⟩) hs0).trans (HG.out j)
  have hne : q ≠ w.heap.size := by omega
  have hne' : w.heap.size ≠ q := by omega
  go_wp2_with fail
  have nq : ∀ a, oa2 = some a → a.block ≠ q := fun a ha => by have := (ho2.lt ha).1; omega
  have nw : ∀ a, oa2 = some a → a.block ≠ w.heap.size := fun a ha => by have := (ho2.lt ha).1; omega
  have hbb : Below w.heap.size w w2 := HB1.out.trans (hb2.mono (by omega))
  refine bodyPost_ret (v := .tuple #[.agg #[.int .u32 (numAt l 1 4), .int .u64 (numAt l 5 8), .int .u32 (numAt l 13 4), .slice oa2 (l.drop 17).length cap2], .int .i64 0]) (by simp [results, Try.results7, go_sem, c0, c1, c2, c3, d0, d1, d2, d3]) rfl ⟨oa2, cap2, rfl, ?_, ?_⟩
  · exact (((((ho2.other nq _).other nw _).other nw _).other nw _).other nw _).mono (by omega)
  · exact ((((hbb.setCell (Nat.le_of_lt hq) _).setCell (by simp) _).setCell (by simp) _).setCell (by simp) _).setCell (by simp) _

set_option maxHeartbeats 2000000 in
theorem refparsedata_may (oa : Option Addr) (n cap : Nat) (l : List Int) (w : World) (hr : Reads w oa n cap l) (hn : n ≤ 1000) (hlen : 17 ≤ n) (hk : l.getD 0 0 = 1) (hm : mayB (numAt l 1 4) (numAt l 5 8) (numAt l 13 4) = false) :
    Calls Try.prog 7 #[.slice oa n cap] w (NewParse w 0 0 0 [] 290) := by
  have HR := Lib.hid hr
  have hl := hr.len
  have b1 := numAt4 l hr.byte 1 (by omega)
  have b2 := numAt8 l hr.byte 5 (by omega)
  have b3 := numAt4 l hr.byte 13 (by omega)
  have hcap := hr.le
  obtain ⟨g, off, rfl, hg, hc⟩ := hr.here (by omega)
  have hc0 := hc 0 (by omega)
  rw [hk, Nat.add_zero] at hc0
  have hd17 : decide ((n : Int) < 17) = false := by simp; omega
  clear hr hl hk hc
  go_enter Try.func7, Try.ntmps7
  go_wp2_with fail
  refine Calls.later (get24_any (some ⟨g, off, none⟩) n cap l 1 4 _ (HR.out.alloc _) (by decide) (by decide) (by omega) (by omega)) ?_
  intro x1
  go_wp2_with fail
  refine Calls.later1 (get24_any (some ⟨g, off, none⟩) n cap l 5 8 _ ((HR.out.alloc _).later _) (by decide) (by decide) (by omega) (by omega)) ?_
  intro x2
  go_wp2_with fail
  refine Calls.later1 (get24_any (some ⟨g, off, none⟩) n cap l 13 4 _ ((HR.out.alloc _).later _) (by decide) (by decide) (by omega) (by omega)) ?_
  intro x
  clear x1 x2
  go_wp2_with fail
  refine Calls.later (refmay_any _ _ _ _ _ _ _) ?_
  intro y
  rw [hm]
  clear hc0
  have hd := later_deep1 x y
  have d0 := (hd.cell (p := ⟨w.heap.size, 0, none⟩) (Nat.lt_succ_self _)).trans (show _ = some (Value.int .u32 0) by go_cell)
  have d1 := (hd.cell (p := ⟨w.heap.size, 1, none⟩) (Nat.lt_succ_self _)).trans (show _ = some (Value.int .u64 0) by go_cell)
  have d2 := (hd.cell (p := ⟨w.heap.size, 2, none⟩) (Nat.lt_succ_self _)).trans (show _ = some (Value.int .u32 0) by go_cell)
  have d3 := (hd.cell (p := ⟨w.heap.size, 3, none⟩) (Nat.lt_succ_self _)).trans (show _ = some (Value.slice none 0 0) by go_cell)
  have g0 := fun j => (hd.frozen (p := ⟨w.heap.size, j, none⟩) (Nat.lt_succ_self _)).trans (show _ = false by go_cell)
  have hs := hd.size
  simp only [World.size_alloc] at hs
  have hs2 : w.heap.size < y.world.heap.size := by omega
  clear hd hs
  go_wp2_with fail
  refine bodyPost_ret (v := .tuple #[.agg #[.int .u32 0, .int .u64 0, .int .u32 0, .slice none 0 0], .int .i64 290]) (by simp [results, Try.results7, go_sem, d0, d1, d2, d3]) rfl ⟨none, 0, rfl, Owns.nil _ _ _, ?_⟩
  repeat' (first | (with_reducible assumption) | (with_reducible exact Below.refl _ _) | (with_reducible refine Below.lat ?_) | (with_reducible refine Below.all ?_ _) | (with_reducible refine Below.drew ?_) | (with_reducible refine Below.setCell ?_ (by simp) _))

set_option maxHeartbeats 1000000 in
theorem refparsedata_head (oa : Option Addr) (n cap : Nat) (l : List Int) (w : World) (hr : Reads w oa n cap l) (hn : n ≤ 1000) (h : ¬ (17 ≤ n ∧ l.getD 0 0 = 1)) :
    Calls Try.prog 7 #[.slice oa n cap] w (NewParse w 0 0 0 [] 290) := by
  by_cases hlen : n < 17
  · have hd17 : decide ((n : Int) < 17) = true := by simp; omega
    clear hr h
    go_enter Try.func7, Try.ntmps7
    go_wp2_with fail
    refine bodyPost_ret (v := .tuple #[.agg #[.int .u32 0, .int .u64 0, .int .u32 0, .slice none 0 0], .int .i64 290]) (by simp [results, Try.results7, go_sem]) rfl ⟨none, 0, rfl, Owns.nil _ _ _, ?_⟩
    repeat' (first | (with_reducible assumption) | (with_reducible exact Below.refl _ _) | (with_reducible refine Below.lat ?_) | (with_reducible refine Below.all ?_ _) | (with_reducible refine Below.drew ?_) | (with_reducible refine Below.setCell ?_ (by simp) _))
  · have hd17 : decide ((n : Int) < 17) = false := by simp; omega
    obtain ⟨g, off, rfl, hg, hc⟩ := hr.here (by omega)
    have hc0 := hc 0 (by omega)
    rw [Nat.add_zero] at hc0
    obtain ⟨x, hx⟩ : ∃ x, l.getD 0 0 = x := ⟨_, rfl⟩
    rw [hx] at hc0
    have hne : (x == 1) = false := by
      have : x ≠ 1 := fun e => h ⟨by omega, by rw [hx, e]⟩
      simpa using this
    have hne2 : (x != 1) = true := by
      have : x ≠ 1 := fun e => h ⟨by omega, by rw [hx, e]⟩
      simpa using this
    have hle := hr.le
    have hlen' : 17 ≤ n := by omega
    clear hr hc h hx hlen
    go_enter Try.func7, Try.ntmps7
    go_wp2_with fail
    refine bodyPost_ret (v := .tuple #[.agg #[.int .u32 0, .int .u64 0, .int .u32 0, .slice none 0 0], .int .i64 290]) (by simp [results, Try.results7, go_sem]) rfl ⟨none, 0, rfl, Owns.nil _ _ _, ?_⟩
    repeat' (first | (with_reducible assumption) | (with_reducible exact Below.refl _ _) | (with_reducible refine Below.lat ?_) | (with_reducible refine Below.all ?_ _) | (with_reducible refine Below.drew ?_) | (with_reducible refine Below.setCell ?_ (by simp) _))

/-- What bytes are parsed as. -/
def okB (l : List Int) : Bool := decide (17 ≤ l.length ∧ l.getD 0 0 = 1) && mayB (numAt l 1 4) (numAt l 5 8) (numAt l 13 4)
def entE (l : List Int) : Int := if okB l = true then numAt l 1 4 else 0
def entN (l : List Int) : Int := if okB l = true then numAt l 5 8 else 0
def entP (l : List Int) : Int := if okB l = true then numAt l 13 4 else 0
def entB (l : List Int) : List Int := if okB l = true then l.drop 17 else []
def entX (l : List Int) : Int := if okB l = true then 0 else 290
theorem parsedata_any (oa : Option Addr) (n cap : Nat) (l : List Int) (w : World) (hr : Reads w oa n cap l) (hn : n ≤ 1000) : Calls Try.prog 10 #[.slice oa n cap] w (NewParse w (entE l) (entN l) (entP l) (entB l) (entX l)) := by
  have hlen := hr.len
  by_cases h : okB l = true
  · simp only [entE, entN, entP, entB, entX, if_pos h]
    simp only [okB, Bool.and_eq_true, decide_eq_true_eq] at h
    exact parsedata_yes oa n cap l w hr hn (by omega) h.1.2 h.2
  · simp only [entE, entN, entP, entB, entX, if_neg h]
    simp only [okB, Bool.and_eq_true, decide_eq_true_eq] at h
    exact parsedata_no oa n cap l w hr hn (fun h' => h ⟨⟨by omega, h'.2.1⟩, h'.2.2⟩)
theorem refparsedata_any (oa : Option Addr) (n cap : Nat) (l : List Int) (w : World) (hr : Reads w oa n cap l) (hn : n ≤ 1000) : Calls Try.prog 7 #[.slice oa n cap] w (NewParse w (entE l) (entN l) (entP l) (entB l) (entX l)) := by
  have hlen := hr.len
  by_cases h : okB l = true
  · simp only [entE, entN, entP, entB, entX, if_pos h]
    simp only [okB, Bool.and_eq_true, decide_eq_true_eq] at h
    exact refparsedata_yes oa n cap l w hr hn (by omega) h.1.2 h.2
  · simp only [entE, entN, entP, entB, entX, if_neg h]
    simp only [okB, Bool.and_eq_true, decide_eq_true_eq] at h
    by_cases h' : 17 ≤ n ∧ l.getD 0 0 = 1
    · refine refparsedata_may oa n cap l w hr hn h'.1 h'.2 ?_
      by_cases e : mayB (numAt l 1 4) (numAt l 5 8) (numAt l 13 4) = true
      · exact absurd ⟨⟨by omega, h'.2⟩, e⟩ h
      · simpa using e
    · exact refparsedata_head oa n cap l w hr hn h'

/-- .. and as an acknowledgement. -/
def ackB (l : List Int) : Bool := decide (l.length = 17 ∧ l.getD 0 0 = 2)
def ackD (l : List Int) : Int := if ackB l = true then numAt l 1 4 else 0
def ackE (l : List Int) : Int := if ackB l = true then numAt l 5 4 else 0
def ackN (l : List Int) : Int := if ackB l = true then numAt l 9 8 else 0
def ackX (l : List Int) : Int := if ackB l = true then 0 else 290
theorem parseack_any (oa : Option Addr) (n cap : Nat) (l : List Int) (w : World) (hr : Reads w oa n cap l) (hn : n ≤ 1000) :
    Calls Try.prog 11 #[.slice oa n cap] w (RetAt w (.tuple #[.agg #[.int .u32 (ackD l), .int .u32 (ackE l), .int .u64 (ackN l)], .int .i64 (ackX l)])) := by
  have hlen := hr.len
  by_cases h : ackB l = true
  · simp only [ackD, ackE, ackN, ackX, if_pos h]
    simp only [ackB, decide_eq_true_eq] at h
    obtain rfl : n = 17 := by omega
    exact parseack_yes oa cap l w hr h.2
  · simp only [ackD, ackE, ackN, ackX, if_neg h]
    simp only [ackB, decide_eq_true_eq] at h
    exact parseack_no oa n cap l w hr hn (fun h' => h ⟨by omega, h'.2⟩)
theorem refparseack_any (oa : Option Addr) (n cap : Nat) (l : List Int) (w : World) (hr : Reads w oa n cap l) (hn : n ≤ 1000) :
    Calls Try.prog 8 #[.slice oa n cap] w (RetAt w (.tuple #[.agg #[.int .u32 (ackD l), .int .u32 (ackE l), .int .u64 (ackN l)], .int .i64 (ackX l)])) := by
  have hlen := hr.len
  by_cases h : ackB l = true
  · simp only [ackD, ackE, ackN, ackX, if_pos h]
    simp only [ackB, decide_eq_true_eq] at h
    obtain rfl : n = 17 := by omega
    exact refparseack_yes oa cap l w hr h.2
  · simp only [ackD, ackE, ackN, ackX, if_neg h]
    simp only [ackB, decide_eq_true_eq] at h
    exact refparseack_no oa n cap l w hr hn (fun h' => h ⟨by omega, h'.2⟩)
end Go.Proofs.Ytoegehlefdpghaa
