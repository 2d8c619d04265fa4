/- Walks over the datagrams that are parsed, more. -/
import Derived.Test.YtoegehlefdpghaaK
set_option linter.unusedSimpArgs false
set_option linter.unusedVariables false
namespace Go.Proofs.Ytoegehlefdpghaa
open Go.RowKit

set_option maxHeartbeats 1000000 in
theorem parseack_yes (oa : Option Addr) (cap : Nat) (l : List Int) (w : World) (hr : Reads w oa 17 cap l) (hk : l.getD 0 0 = 2) :
    Calls Try.prog 11 #[.slice oa 17 cap] w (RetAt w (.tuple #[.agg #[.int .u32 (numAt l 1 4), .int .u32 (numAt l 5 4), .int .u64 (numAt l 9 8)], .int .i64 0])) := by
  have HR := Lib.hid hr
  have hl := hr.len
  have b1 := numAt4 l hr.byte 1 (by omega)
  have b2 := numAt4 l hr.byte 5 (by omega)
  have b3 := numAt8 l hr.byte 9 (by omega)
  have HK := Lib.hid hk
  clear hr hl hk
  go_enter Try.func11, Try.ntmps11
  go_wp2_with (go_at_call 29; refine Calls.later (numbers_ok oa 17 cap l 2 4 4 8 _ (HR.out.alloc _) (by omega) (by decide) (by decide) (by decide) (by omega) HK.out) ?_; intro x)
  refine bodyPost_ret (v := .tuple #[.agg #[.int .u32 (numAt l 1 4), .int .u32 (numAt l 5 4), .int .u64 (numAt l 9 8)], .int .i64 0]) (by simp [results, Try.results11, go_sem]) rfl ⟨rfl, ?_⟩
  repeat' (first | (with_reducible assumption) | (with_reducible exact Below.refl _ _) | (with_reducible refine Below.lat ?_) | (with_reducible refine Below.all ?_ _) | (with_reducible refine Below.drew ?_) | (with_reducible refine Below.setCell ?_ (by simp) _))

set_option maxHeartbeats 1000000 in
theorem parseack_no (oa : Option Addr) (n cap : Nat) (l : List Int) (w : World) (hr : Reads w oa n cap l) (hn : n ≤ 1000) (h : ¬ (n = 17 ∧ l.getD 0 0 = 2)) :
    Calls Try.prog 11 #[.slice oa n cap] w (RetAt w (.tuple #[.agg #[.int .u32 0, .int .u32 0, .int .u64 0], .int .i64 290])) := by
  have HR := Lib.hid hr
  by_cases hnum : 17 ≤ n ∧ l.getD 0 0 = 2
  · obtain ⟨hlen, hk⟩ := hnum
    have hne : ((n : Int) == 17) = false := by
      have : n ≠ 17 := fun e => h ⟨e, hk⟩
      simp; omega
    have hne2 : ((n : Int) != 17) = true := by
      have : n ≠ 17 := fun e => h ⟨e, hk⟩
      simp; omega
    have HK := Lib.hid hk
    clear hr hk h
    go_enter Try.func11, Try.ntmps11
    go_wp2_with (go_at_call 29; refine Calls.later (numbers_ok oa n cap l 2 4 4 8 _ (HR.out.alloc _) (by omega) (by decide) (by decide) (by decide) (by omega) HK.out) ?_; intro x)
    refine bodyPost_ret (v := .tuple #[.agg #[.int .u32 0, .int .u32 0, .int .u64 0], .int .i64 290]) (by simp [results, Try.results11, go_sem]) rfl ⟨rfl, ?_⟩
    repeat' (first | (with_reducible assumption) | (with_reducible exact Below.refl _ _) | (with_reducible refine Below.lat ?_) | (with_reducible refine Below.all ?_ _) | (with_reducible refine Below.drew ?_) | (with_reducible refine Below.setCell ?_ (by simp) _))
  · have HN := Lib.hid hnum
    clear hnum hr h
    go_enter Try.func11, Try.ntmps11
    go_wp2_with fail
    refine Calls.mono (numbers_no oa n cap l 2 4 4 8 _ (HR.out.alloc _) (by omega) (by decide) (by decide) (by decide) (fun h => HN.out ⟨by omega, h.2⟩)) ?_
    rintro en w1 ⟨u, v, z, rfl, hb1⟩
    obtain ⟨x, rfl⟩ : ∃ x : Later (w.alloc (.cells #[.int .u32 0, .int .u32 0, .int .u64 0] 30)), w1 = x.world := ⟨⟨_, hb1⟩, rfl⟩
    clear hb1
    go_wp2_with fail
    refine bodyPost_ret (v := .tuple #[.agg #[.int .u32 0, .int .u32 0, .int .u64 0], .int .i64 290]) (by simp [results, Try.results11, go_sem]) rfl ⟨rfl, ?_⟩
    repeat' (first | (with_reducible assumption) | (with_reducible exact Below.refl _ _) | (with_reducible refine Below.lat ?_) | (with_reducible refine Below.all ?_ _) | (with_reducible refine Below.drew ?_) | (with_reducible refine Below.setCell ?_ (by simp) _))

set_option maxHeartbeats 1000000 in
theorem refparseack_no (oa : Option Addr) (n cap : Nat) (l : List Int) (w : World) (hr : Reads w oa n cap l) (hn : n ≤ 1000) (h : ¬ (n = 17 ∧ l.getD 0 0 = 2)) :
    Calls Try.prog 8 #[.slice oa n cap] w (RetAt w (.tuple #[.agg #[.int .u32 0, .int .u32 0, .int .u64 0], .int .i64 290])) := by
  by_cases hnum : n = 17
  · subst hnum
    obtain ⟨g, off, rfl, hg, hc⟩ := hr.here (by decide)
    have hc0 := hc 0 (by decide)
    rw [Nat.add_zero] at hc0
    obtain ⟨x, hx⟩ : ∃ x, l.getD 0 0 = x := ⟨_, rfl⟩
    rw [hx] at hc0
    have hne : (x == 2) = false := by
      have : x ≠ 2 := fun e => h ⟨rfl, by rw [hx, e]⟩
      simpa using this
    have hne2 : (x != 2) = true := by
      have : x ≠ 2 := fun e => h ⟨rfl, by rw [hx, e]⟩
      simpa using this
    have hle := hr.le
    clear hr hc h hx
    go_enter Try.func8, Try.ntmps8
    go_wp2_with fail
    refine bodyPost_ret (v := .tuple #[.agg #[.int .u32 0, .int .u32 0, .int .u64 0], .int .i64 290]) (by simp [results, Try.results8, go_sem]) rfl ⟨rfl, ?_⟩
    repeat' (first | (with_reducible assumption) | (with_reducible exact Below.refl _ _) | (with_reducible refine Below.lat ?_) | (with_reducible refine Below.all ?_ _) | (with_reducible refine Below.drew ?_) | (with_reducible refine Below.setCell ?_ (by simp) _))
  · have hne : ((n : Int) == 17) = false := by simp; omega
    have hne2 : ((n : Int) != 17) = true := by simp; omega
    clear hr h hnum
    go_enter Try.func8, Try.ntmps8
    go_wp2_with fail
    refine bodyPost_ret (v := .tuple #[.agg #[.int .u32 0, .int .u32 0, .int .u64 0], .int .i64 290]) (by simp [results, Try.results8, go_sem]) rfl ⟨rfl, ?_⟩
    repeat' (first | (with_reducible assumption) | (with_reducible exact Below.refl _ _) | (with_reducible refine Below.lat ?_) | (with_reducible refine Below.all ?_ _) | (with_reducible refine Below.drew ?_) | (with_reducible refine Below.setCell ?_ (by simp) _))

set_option maxHeartbeats 1000000 in
theorem refparseack_yes (oa : Option Addr) (cap : Nat) (l : List Int) (w : World) (hr : Reads w oa 17 cap l) (hk : l.getD 0 0 = 2) :
    Calls Try.prog 8 #[.slice oa 17 cap] w (RetAt w (.tuple #[.agg #[.int .u32 (numAt l 1 4), .int .u32 (numAt l 5 4), .int .u64 (numAt l 9 8)], .int .i64 0])) := by
  have HR := Lib.hid hr
  have hl := hr.len
  have b1 := numAt4 l hr.byte 1 (by omega)
  have b2 := numAt4 l hr.byte 5 (by omega)
  have b3 := numAt8 l hr.byte 9 (by omega)
  have hle := hr.le
  obtain ⟨g, off, rfl, hg, hc⟩ := hr.here (by decide)
  have hc0 := hc 0 (by decide)
  rw [hk, Nat.add_zero] at hc0
  clear hr hl hk hc
  go_enter Try.func8, Try.ntmps8
  go_wp2_with fail
  refine Calls.later (get24_any (some ⟨g, off, none⟩) 17 cap l 1 4 _ (HR.out.alloc _) (by decide) (by decide) (by omega) (by omega)) ?_
  intro x
  go_wp2_with fail
  refine Calls.later1 (get24_any (some ⟨g, off, none⟩) 17 cap l 5 4 _ ((HR.out.alloc _).later _) (by decide) (by decide) (by omega) (by omega)) ?_
  intro y
  go_wp2_with fail
  refine Calls.later1 (get24_any (some ⟨g, off, none⟩) 17 cap l 9 8 _ ((HR.out.alloc _).later _) (by decide) (by decide) (by omega) (by omega)) ?_
  intro z
  go_wp2_with fail
  refine bodyPost_ret (v := .tuple #[.agg #[.int .u32 (numAt l 1 4), .int .u32 (numAt l 5 4), .int .u64 (numAt l 9 8)], .int .i64 0]) (by simp [results, Try.results8, go_sem]) rfl ⟨rfl, ?_⟩
  repeat' (first | (with_reducible assumption) | (with_reducible exact Below.refl _ _) | (with_reducible refine Below.lat ?_) | (with_reducible refine Below.all ?_ _) | (with_reducible refine Below.drew ?_) | (with_reducible refine Below.setCell ?_ (by simp) _))
end Go.Proofs.Ytoegehlefdpghaa
