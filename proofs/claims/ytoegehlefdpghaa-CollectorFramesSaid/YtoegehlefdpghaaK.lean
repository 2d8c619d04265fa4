/- Walks over the datagrams that are parsed. -/
import Derived.Test.YtoegehlefdpghaaG
import Derived.Test.YtoegehlefdpghaaH
set_option linter.unusedSimpArgs false
set_option linter.unusedVariables false
namespace Go.Proofs.Ytoegehlefdpghaa
open Go.RowKit

/-- A call that returns an entry with a row of its own, and an error. -/
def NewParse (w : World) (e n p : Int) (l : List Int) (err : Int) : Ending → World → Prop := fun en w' =>
  ∃ oa cap, en = .returned (.tuple #[.agg #[.int .u32 e, .int .u64 n, .int .u32 p, .slice oa l.length cap], .int .i64 err]) ∧ Owns w' w.heap.size 1 oa l.length cap (l.map (.int .u8)) ∧ Below w.heap.size w w'

theorem numAt4 (l : List Int) (hb : ∀ v ∈ l, 0 ≤ v ∧ v < 256) (i : Nat) (h : i + 4 ≤ l.length) : 0 ≤ numAt l i 4 ∧ numAt l i 4 < 4294967296 := numAt_bd l hb i 4 h
theorem numAt8 (l : List Int) (hb : ∀ v ∈ l, 0 ≤ v ∧ v < 256) (i : Nat) (h : i + 8 ≤ l.length) : 0 ≤ numAt l i 8 ∧ numAt l i 8 < 18446744073709551616 := numAt_bd l hb i 8 h

theorem later_deep2 {w : World} {o o1 o2 : Obj} (x : Later (w.alloc o)) (y : Later ((x.world.alloc o1).alloc o2)) : Below (w.heap.size + 1) (w.alloc o) y.world := by
  have hx := x.below.size
  simp only [World.size_alloc] at hx
  have h1 : Below (w.heap.size + 1) (w.alloc o) x.world := x.below.mono (by simp)
  have h2 := (h1.alloc hx o1).alloc (by simp only [World.size_alloc]; omega) o2
  exact h2.trans (y.below.mono (by simp only [World.size_alloc]; omega))

set_option maxHeartbeats 1000000 in
theorem parsedata_yes (oa : Option Addr) (n cap : Nat) (l : List Int) (w : World) (hr : Reads w oa n cap l) (hn : n ≤ 1000) (hlen : 17 ≤ n) (hk : l.getD 0 0 = 1) (hm : mayB (numAt l 1 4) (numAt l 5 8) (numAt l 13 4) = true) :
    Calls Try.prog 10 #[.slice oa n cap] w (NewParse w (numAt l 1 4) (numAt l 5 8) (numAt l 13 4) (l.drop 17) 0) := by
  have HR := Lib.hid hr
  have hl := hr.len
  have b1 := numAt4 l hr.byte 1 (by omega)
  have b2 := numAt8 l hr.byte 5 (by omega)
  have b3 := numAt4 l hr.byte 13 (by omega)
  have HL := Lib.hid hl
  have HK := Lib.hid hk
  clear hr hl hk
  have hcap := HR.out.le
  have hcut : ∀ w, (Instr.slice 24 (.slice oa n cap) (some (.int .i64 17)) none none).run Try.prog w = .ok (.slice (cutAddr oa 17 cap 1) (n - 17) (cap - 17)) w := fun w => run_cut (P := Try.prog) 24 oa n cap 1 elem24 size24 17 17 rfl hlen w
  go_enter Try.func10, Try.ntmps10
  go_wp2_with (go_at_call 29; refine Calls.later (numbers_ok oa n cap l 1 4 8 4 _ (HR.out.alloc _) (by omega) (by decide) (by decide) (by decide) (by omega) HK.out) ?_; intro x)
  go_wp2_with (go_at_call 25; refine Calls.later (may_any _ _ _ _ _ _ _) ?_; intro y; rw [hm])
  have hx := x.below.size
  simp only [World.size_alloc] at hx
  have hy := y.below.size
  simp only [World.size_alloc] at hy
  refine Calls.fresh (fun w1 => Below w.heap.size w w1 ∧ Hid (Reads w1 oa n cap l) ∧ w.heap.size < w1.heap.size ∧ x.world.heap.size + 1 < w1.heap.size ∧
    (w1.cell? ⟨x.world.heap.size + 1, 0, none⟩ = some (.int .u32 (numAt l 1 4)) ∧ w1.cell? ⟨x.world.heap.size + 1, 1, none⟩ = some (.int .u64 (numAt l 5 8)) ∧ w1.cell? ⟨x.world.heap.size + 1, 2, none⟩ = some (.int .u32 (numAt l 13 4)) ∧ w1.cell? ⟨x.world.heap.size + 1, 3, none⟩ = some (.slice none 0 0)) ∧
    (w1.cell? ⟨w.heap.size, 0, none⟩ = some (.int .u32 0) ∧ w1.cell? ⟨w.heap.size, 1, none⟩ = some (.int .u64 0) ∧ w1.cell? ⟨w.heap.size, 2, none⟩ = some (.int .u32 0) ∧ w1.cell? ⟨w.heap.size, 3, none⟩ = some (.slice none 0 0)) ∧
    (∀ j, w1.frozen? ⟨x.world.heap.size + 1, j, none⟩ = false) ∧ (∀ j, w1.frozen? ⟨w.heap.size, j, none⟩ = false)) ?_ ?_
  · have hd := later_deep2 x y
    refine ⟨?_, ?_, by omega, by omega, ⟨by go_cell, by go_cell, by go_cell, by go_cell⟩, ⟨(hd.cell (p := ⟨_, _, none⟩) (Nat.lt_succ_self _)).trans (by go_cell), (hd.cell (p := ⟨_, _, none⟩) (Nat.lt_succ_self _)).trans (by go_cell), (hd.cell (p := ⟨_, _, none⟩) (Nat.lt_succ_self _)).trans (by go_cell), (hd.cell (p := ⟨_, _, none⟩) (Nat.lt_succ_self _)).trans (by go_cell)⟩, fun j => by go_cell, fun j => (hd.frozen (p := ⟨_, j, none⟩) (Nat.lt_succ_self _)).trans (by go_cell)⟩
    · exact (by repeat' (first | (with_reducible assumption) | (with_reducible exact Below.refl _ _) | (with_reducible refine Below.lat ?_) | (with_reducible refine Below.all ?_ _) | (with_reducible refine Below.drew ?_)))
    · exact Lib.hid (HR.out.below ((by repeat' (first | (with_reducible assumption) | (with_reducible exact Below.refl _ _) | (with_reducible refine Below.lat ?_) | (with_reducible refine Below.all ?_ _) | (with_reducible refine Below.drew ?_)))))
  rintro w1 ⟨hb1, HR1, hs0, hs1, hc, hd, hf, hg⟩
  have HC := Lib.hid hc
  have HD := Lib.hid hd
  have HF := Lib.hid hf
  have HG := Lib.hid hg
  have HB1 := Lib.hid hb1
  have hq : w.heap.size < x.world.heap.size + 1 := by omega
  clear hc hd hf hg hb1 hx hy HR
  generalize x.world.heap.size = q0 at *
  clear x y
  refine Calls.mono (clone_any (cutAddr oa 17 cap 1) (n - 17) (cap - 17) (l.drop 17) _ (HR1.out.cut 17 hlen) (by omega)) ?_
  rintro en w2 ⟨oa2, cap2, rfl, ho2, hb2⟩
  have hs2 : w.heap.size < w2.heap.size := Nat.lt_of_lt_of_le hs0 hb2.size
  have hs3 : q0 + 1 < w2.heap.size := Nat.lt_of_lt_of_le hs1 hb2.size
  have c0 := (hb2.cell (p := ⟨q0 + 1, 0, none⟩) hs1).trans HC.out.1
  have c1 := (hb2.cell (p := ⟨q0 + 1, 1, none⟩) hs1).trans HC.out.2.1
  have c2 := (hb2.cell (p := ⟨q0 + 1, 2, none⟩) hs1).trans HC.out.2.2.1
  have c3 := (hb2.cell (p := ⟨q0 + 1, 3, none⟩) hs1).trans HC.out.2.2.2
  have d0 := (hb2.cell (p := ⟨w.heap.size, 0, none⟩) hs0).trans HD.out.1
  have d1 := (hb2.cell (p := ⟨w.heap.size, 1, none⟩) hs0).trans HD.out.2.1
  have d2 := (hb2.cell (p := ⟨w.heap.size, 2, none⟩) hs0).trans HD.out.2.2.1
  have d3 := (hb2.cell (p := ⟨w.heap.size, 3, none⟩) hs0).trans HD.out.2.2.2
  have f0 := fun j => (hb2.frozen (p := ⟨q0 + 1, j, none⟩) hs1).trans (HF.out j)
  have g0 := fun j => (hb2.frozen (p := ⟨w.heap.size, j, none⟩) hs0).trans (HG.out j)
  have hne : q0 + 1 ≠ w.heap.size := by omega
  have hne' : w.heap.size ≠ q0 + 1 := by omega
  go_wp2_with fail
  have nq : ∀ a, oa2 = some a → a.block ≠ q0 + 1 := fun a ha => by have := (ho2.lt ha).1; omega
  have nw : ∀ a, oa2 = some a → a.block ≠ w.heap.size := fun a ha => by have := (ho2.lt ha).1; omega
  have hbb : Below w.heap.size w w2 := HB1.out.trans (hb2.mono (by omega))
  refine bodyPost_ret (v := .tuple #[.agg #[.int .u32 (numAt l 1 4), .int .u64 (numAt l 5 8), .int .u32 (numAt l 13 4), .slice oa2 (l.drop 17).length cap2], .int .i64 0]) (by simp [results, Try.results10, go_sem, c0, c1, c2, c3, d0, d1, d2, d3]) rfl ⟨oa2, cap2, rfl, ?_, ?_⟩
  · exact (((((ho2.other nq _).other nw _).other nw _).other nw _).other nw _).mono (by omega)
  · exact ((((hbb.setCell (Nat.le_of_lt hq) _).setCell (by simp) _).setCell (by simp) _).setCell (by simp) _).setCell (by simp) _

set_option maxHeartbeats 1000000 in
theorem parsedata_no (oa : Option Addr) (n cap : Nat) (l : List Int) (w : World) (hr : Reads w oa n cap l) (hn : n ≤ 1000) (h : ¬ (17 ≤ n ∧ l.getD 0 0 = 1 ∧ mayB (numAt l 1 4) (numAt l 5 8) (numAt l 13 4) = true)) :
    Calls Try.prog 10 #[.slice oa n cap] w (NewParse w 0 0 0 [] 290) := by
  have HR := Lib.hid hr
  by_cases hnum : 17 ≤ n ∧ l.getD 0 0 = 1
  · obtain ⟨hlen, hk⟩ := hnum
    have hm : mayB (numAt l 1 4) (numAt l 5 8) (numAt l 13 4) = false := by
      by_cases e : mayB (numAt l 1 4) (numAt l 5 8) (numAt l 13 4) = true
      · exact absurd ⟨hlen, hk, e⟩ h
      · simpa using e
    clear h
    have hl := hr.len
    have b1 := numAt4 l hr.byte 1 (by omega)
    have b2 := numAt8 l hr.byte 5 (by omega)
    have b3 := numAt4 l hr.byte 13 (by omega)
    have HK := Lib.hid hk
    clear hr hl hk
    go_enter Try.func10, Try.ntmps10
    go_wp2_with (go_at_call 29; refine Calls.later (numbers_ok oa n cap l 1 4 8 4 _ (HR.out.alloc _) (by omega) (by decide) (by decide) (by decide) (by omega) HK.out) ?_; intro x)
    refine Calls.later (may_any _ _ _ _ _ _ _) ?_
    intro y
    rw [hm]
    have hd := later_deep2 x y
    have d0 := (hd.cell (p := ⟨w.heap.size, 0, none⟩) (Nat.lt_succ_self _)).trans (show _ = some (Value.int .u32 0) by go_cell)
    have d1 := (hd.cell (p := ⟨w.heap.size, 1, none⟩) (Nat.lt_succ_self _)).trans (show _ = some (Value.int .u64 0) by go_cell)
    have d2 := (hd.cell (p := ⟨w.heap.size, 2, none⟩) (Nat.lt_succ_self _)).trans (show _ = some (Value.int .u32 0) by go_cell)
    have d3 := (hd.cell (p := ⟨w.heap.size, 3, none⟩) (Nat.lt_succ_self _)).trans (show _ = some (Value.slice none 0 0) by go_cell)
    have g0 := fun j => (hd.frozen (p := ⟨w.heap.size, j, none⟩) (Nat.lt_succ_self _)).trans (show _ = false by go_cell)
    have hs := hd.size
    simp only [World.size_alloc] at hs
    have hs2 : w.heap.size < y.world.heap.size := by omega
    clear hd hs
    go_wp2_with fail
    refine bodyPost_ret (v := .tuple #[.agg #[.int .u32 0, .int .u64 0, .int .u32 0, .slice none 0 0], .int .i64 290]) (by simp [results, Try.results10, go_sem, d0, d1, d2, d3]) rfl ⟨none, 0, rfl, Owns.nil _ _ _, ?_⟩
    repeat' (first | (with_reducible assumption) | (with_reducible exact Below.refl _ _) | (with_reducible refine Below.lat ?_) | (with_reducible refine Below.all ?_ _) | (with_reducible refine Below.drew ?_) | (with_reducible refine Below.setCell ?_ (by simp) _))
  · clear h
    have HN := Lib.hid hnum
    clear hnum hr
    go_enter Try.func10, Try.ntmps10
    go_wp2_with fail
    refine Calls.mono (numbers_no oa n cap l 1 4 8 4 _ (HR.out.alloc _) (by omega) (by decide) (by decide) (by decide) (fun h => HN.out ⟨by omega, h.2⟩)) ?_
    rintro en w1 ⟨u, v, z, rfl, hb1⟩
    obtain ⟨x, rfl⟩ : ∃ x : Later (w.alloc (.cells #[.int .u32 0, .int .u64 0, .int .u32 0, .slice none 0 0] 26)), w1 = x.world := ⟨⟨_, hb1⟩, rfl⟩
    clear hb1
    go_wp2_with fail
    refine bodyPost_ret (v := .tuple #[.agg #[.int .u32 0, .int .u64 0, .int .u32 0, .slice none 0 0], .int .i64 290]) (by simp [results, Try.results10, go_sem]) rfl ⟨none, 0, rfl, Owns.nil _ _ _, ?_⟩
    repeat' (first | (with_reducible assumption) | (with_reducible exact Below.refl _ _) | (with_reducible refine Below.lat ?_) | (with_reducible refine Below.all ?_ _) | (with_reducible refine Below.drew ?_) | (with_reducible refine Below.setCell ?_ (by simp) _))
end Go.Proofs.Ytoegehlefdpghaa
