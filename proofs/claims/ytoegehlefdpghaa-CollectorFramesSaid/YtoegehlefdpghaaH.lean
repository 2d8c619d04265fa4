/- Walks over the datagrams that are put. -/
import Derived.Test.YtoegehlefdpghaaE
set_option linter.unusedSimpArgs false
set_option linter.unusedVariables false
namespace Go.Proofs.Ytoegehlefdpghaa
open Go.RowKit

theorem dec_mk2 {p : Prop} [Decidable p] {b : Bool} (h : b = true ↔ p) : b = decide p := by rw [Bool.eq_iff_iff, h]; simp
/-- May an entry be sent? -/
def mayB (e n p : Int) : Bool := decide (0 < e ∧ p ≤ e ∧ n < 18446744073709551615)

set_option maxHeartbeats 400000 in
theorem may_any (e n p : Int) (ob : Option Addr) (nb cb : Nat) (w : World) : Calls Try.prog 25 #[.agg #[.int .u32 e, .int .u64 n, .int .u32 p, .slice ob nb cb]] w (RetAt w (.bool (mayB e n p))) := by
  go_enter Try.func25, Try.ntmps25
  go_wp2
  all_goals go_ret
  all_goals refine .mk (val_bool (dec_mk2 ?_)) (by go_grown)
  all_goals simp
  all_goals omega
set_option maxHeartbeats 400000 in
theorem refmay_any (e n p : Int) (ob : Option Addr) (nb cb : Nat) (w : World) : Calls Try.prog 21 #[.agg #[.int .u32 e, .int .u64 n, .int .u32 p, .slice ob nb cb]] w (RetAt w (.bool (mayB e n p))) := by
  go_enter Try.func21, Try.ntmps21
  go_wp2
  all_goals go_ret
  all_goals refine .mk (val_bool (dec_mk2 ?_)) (by go_grown)
  all_goals simp
  all_goals omega

def dataOf (e n p : Int) (l : List Int) : List Int := [1] ++ be4 e ++ be8 n ++ be4 p ++ l
def ackOf (d e n : Int) : List Int := [2] ++ be4 d ++ be4 e ++ be8 n
/-- A call that returns a row of its own, and an error. -/
def NewPair (w : World) (l : List Int) (err : Int) : Ending → World → Prop := fun e w' =>
  ∃ oa cap, e = .returned (.tuple #[.slice oa l.length cap, .int .i64 err]) ∧ Owns w' w.heap.size 1 oa l.length cap (l.map (.int .u8)) ∧ Below w.heap.size w w'

theorem Wr.new (w : World) (w0 : World) (h : w = w0.alloc (.cells #[.slice none 0 0] 67)) : Wr w w0.heap.size [] := by
  subst h
  exact ⟨⟨none, 0, by go_cell, Owns.nil _ _ _⟩, by go_cell, by simp, by simp⟩

theorem putdata_no (e n p : Int) (A : Option Addr) (m c : Nat) (w : World) (hm : mayB e n p = false) :
    Calls Try.prog 9 #[.agg #[.int .u32 e, .int .u64 n, .int .u32 p, .slice A m c]] w (NewPair w [] 290) := by
  go_enter Try.func9, Try.ntmps9
  go_wp2_with (go_at_call 25; refine Calls.later (may_any _ _ _ _ _ _ _) ?_; intro x; rw [hm])
  go_ret2
  exact ⟨none, 0, rfl, Owns.nil _ _ _, by repeat' (first | (with_reducible assumption) | (with_reducible exact Below.refl _ _) | (with_reducible refine Below.lat ?_) | (with_reducible refine Below.all ?_ _) | (with_reducible refine Below.drew ?_))⟩

/-- How the walk over what is put stands: the box in block B, the writer behind it. -/
structure PutSt (W w : World) (p : Nat) (l : List Int) (cs : List Value) : Prop where
  wr : Wr w p l
  lo : W.heap.size < p
  box : ∀ j u, cs[j]? = some u → w.cell? ⟨W.heap.size, j, none⟩ = some u
  out : Below W.heap.size W w
theorem PutSt.go {W w w' : World} {p : Nat} {l l' : List Int} {cs : List Value} (h : PutSt W w p l cs) (hw : Wr w' p l') (hb : Below p w w') : PutSt W w' p l' cs :=
  ⟨hw, h.lo, fun j u hu => (hb.cell (p := ⟨_, j, none⟩) h.lo).trans (h.box j u hu), h.out.trans (hb.mono (Nat.le_of_lt h.lo))⟩

set_option maxHeartbeats 1000000 in
theorem putdata_yes (e n p : Int) (A : Option Addr) (m c : Nat) (l : List Int) (w : World) (hr : Reads w A m c l) (hl : m ≤ 400) (hm : mayB e n p = true) (he : 0 ≤ e ∧ e < 4294967296) (hn : 0 ≤ n ∧ n < 18446744073709551616) (hp : 0 ≤ p ∧ p < 4294967296) :
    Calls Try.prog 9 #[.agg #[.int .u32 e, .int .u64 n, .int .u32 p, .slice A m c]] w (NewPair w (dataOf e n p l) 0) := by
  have HR := Lib.hid hr
  have hlen := hr.len
  have HL := Lib.hid hlen
  obtain ⟨he0, he1⟩ := he
  obtain ⟨hn0, hn1⟩ := hn
  obtain ⟨hp0, hp1⟩ := hp
  clear hr hlen
  go_enter Try.func9, Try.ntmps9
  go_wp2_with (go_at_call 25; refine Calls.later (may_any _ _ _ _ _ _ _) ?_; intro x; rw [hm])
  have hx : ((w.alloc (.cells #[.int .u32 e, .int .u64 n, .int .u32 p, .slice A m c] 26))).heap.size ≤ x.world.heap.size := x.below.size
  have hx1 : w.heap.size < x.world.heap.size := by simp at hx; omega
  have st : PutSt w (x.world.alloc (.cells #[.slice none 0 0] 67)) x.world.heap.size [] [.int .u32 e, .int .u64 n, .int .u32 p, .slice A m c] := by
    refine ⟨Wr.new _ _ rfl, hx1, fun j u hu => ?_, ?_⟩
    · have hj : j < 4 := by simpa using (List.getElem?_eq_some_iff.1 hu).1
      have h0 : (w.alloc (.cells #[.int .u32 e, .int .u64 n, .int .u32 p, .slice A m c] 26)).cell? ⟨w.heap.size, j, none⟩ = some u := by
        rw [cell_of_row _ _ j _ 26 (0, 0) (heap_alloc_new w _)]; simpa using hu
      rw [World.cell?_alloc_lt _ _ _ hx1]
      exact (x.cell _ _ (by simp)).trans h0
    · exact (Below.all (Below.lat (Below.all (Below.refl _ _) _)) _)
  have ST := Lib.hid st
  generalize x.world.heap.size = q at *
  clear st hx hx1
  refine Calls.mono (put1_any q [] 1 (by decide) (by decide) _ ST.out.wr (by decide)) ?_
  rintro e1 w1 ⟨rfl, hw1, hb1⟩
  have ST1 := Lib.hid (ST.out.go hw1 hb1)
  clear ST hw1 hb1
  have y0 := ST1.out.box 0 _ rfl
  go_wp2_with fail
  clear y0
  refine Calls.mono (put4_any q _ e he0 he1 _ ST1.out.wr (by decide)) ?_
  rintro e2 w2 ⟨rfl, hw2, hb2⟩
  have ST2 := Lib.hid (ST1.out.go hw2 hb2)
  clear ST1 hw2 hb2
  have y1 := ST2.out.box 1 _ rfl
  go_wp2_with fail
  clear y1
  refine Calls.mono (put8_any q _ n hn0 hn1 _ ST2.out.wr (by simp [be4])) ?_
  rintro e3 w3 ⟨rfl, hw3, hb3⟩
  have ST3 := Lib.hid (ST2.out.go hw3 hb3)
  clear ST2 hw3 hb3
  have y2 := ST3.out.box 2 _ rfl
  go_wp2_with fail
  clear y2
  refine Calls.mono (put4_any q _ p hp0 hp1 _ ST3.out.wr (by simp [be4, be8])) ?_
  rintro e4 w4 ⟨rfl, hw4, hb4⟩
  have ST4 := Lib.hid (ST3.out.go hw4 hb4)
  clear ST3 hw4 hb4
  have y3 := ST4.out.box 3 _ rfl
  go_wp2_with fail
  clear y3
  refine Calls.mono (raw_any q _ A m c l _ ST4.out.wr (HR.out.below ST4.out.out) (by have := HL.out; simp [be4, be8]; omega)) ?_
  rintro e5 w5 ⟨rfl, hw5, hb5⟩
  have ST5 := Lib.hid (ST4.out.go hw5 hb5)
  clear ST4 hw5 hb5
  go_wp2_with fail
  refine Calls.mono (bytes_any q (dataOf e n p l) _ ST5.out.wr (by have := HL.out; simp [dataOf, be4, be8]; omega)) ?_
  rintro e6 w6 ⟨oa, cap, rfl, ho, hb6⟩
  go_wp2_with fail
  go_ret2
  exact ⟨oa, cap, rfl, ho.mono ST5.out.out.size, ST5.out.out.trans (hb6.mono ST5.out.out.size)⟩

set_option maxHeartbeats 1000000 in
theorem putack_any (d e n : Int) (w : World) (hd : 0 ≤ d ∧ d < 4294967296) (he : 0 ≤ e ∧ e < 4294967296) (hn : 0 ≤ n ∧ n < 18446744073709551616) :
    Calls Try.prog 12 #[.agg #[.int .u32 d, .int .u32 e, .int .u64 n]] w (NewBytes w (ackOf d e n)) := by
  obtain ⟨he0, he1⟩ := he
  obtain ⟨hn0, hn1⟩ := hn
  obtain ⟨hd0, hd1⟩ := hd
  go_enter Try.func12, Try.ntmps12
  go_wp2_with fail
  have st : PutSt w ((w.alloc (.cells #[.int .u32 d, .int .u32 e, .int .u64 n] 30)).alloc (.cells #[.slice none 0 0] 67)) (w.heap.size + 1) [] [.int .u32 d, .int .u32 e, .int .u64 n] := by
    refine ⟨?_, by omega, fun j u hu => ?_, ?_⟩
    · have := Wr.new _ (w.alloc (.cells #[.int .u32 d, .int .u32 e, .int .u64 n] 30)) rfl
      simpa using this
    · have hj : j < 3 := by simpa using (List.getElem?_eq_some_iff.1 hu).1
      rw [World.cell?_alloc_lt _ _ _ (by simp), cell_of_row _ _ j _ 30 (0, 0) (heap_alloc_new w _)]; simpa using hu
    · exact Below.all (Below.all (Below.refl _ _) _) _
  have ST := Lib.hid st
  clear st
  refine Calls.mono (put1_any (w.heap.size + 1) [] 2 (by decide) (by decide) _ ST.out.wr (by decide)) ?_
  rintro e1 w1 ⟨rfl, hw1, hb1⟩
  have ST1 := Lib.hid (ST.out.go hw1 hb1)
  clear ST hw1 hb1
  have y0 := ST1.out.box 0 _ rfl
  go_wp2_with fail
  clear y0
  refine Calls.mono (put4_any (w.heap.size + 1) _ d hd0 hd1 _ ST1.out.wr (by decide)) ?_
  rintro e2 w2 ⟨rfl, hw2, hb2⟩
  have ST2 := Lib.hid (ST1.out.go hw2 hb2)
  clear ST1 hw2 hb2
  have y1 := ST2.out.box 1 _ rfl
  go_wp2_with fail
  clear y1
  refine Calls.mono (put4_any (w.heap.size + 1) _ e he0 he1 _ ST2.out.wr (by simp [be4])) ?_
  rintro e3 w3 ⟨rfl, hw3, hb3⟩
  have ST3 := Lib.hid (ST2.out.go hw3 hb3)
  clear ST2 hw3 hb3
  have y2 := ST3.out.box 2 _ rfl
  go_wp2_with fail
  clear y2
  refine Calls.mono (put8_any (w.heap.size + 1) _ n hn0 hn1 _ ST3.out.wr (by simp [be4])) ?_
  rintro e4 w4 ⟨rfl, hw4, hb4⟩
  have ST4 := Lib.hid (ST3.out.go hw4 hb4)
  clear ST3 hw4 hb4
  go_wp2_with fail
  refine Calls.mono (bytes_any (w.heap.size + 1) (ackOf d e n) _ ST4.out.wr (by simp [ackOf, be4, be8])) ?_
  rintro e6 w6 ⟨oa, cap, rfl, ho, hb6⟩
  go_wp2_with fail
  go_ret
  exact ⟨oa, cap, rfl, ho.mono ST4.out.out.size, ST4.out.out.trans (hb6.mono ST4.out.out.size)⟩

theorem putdata_any (e n p : Int) (A : Option Addr) (m c : Nat) (l : List Int) (w : World) (hr : Reads w A m c l) (hl : m ≤ 400) (he : 0 ≤ e ∧ e < 4294967296) (hn : 0 ≤ n ∧ n < 18446744073709551616) (hp : 0 ≤ p ∧ p < 4294967296) :
    Calls Try.prog 9 #[.agg #[.int .u32 e, .int .u64 n, .int .u32 p, .slice A m c]] w (NewPair w (if mayB e n p = true then dataOf e n p l else []) (if mayB e n p = true then 0 else 290)) := by
  by_cases hm : mayB e n p = true
  · rw [if_pos hm, if_pos hm]; exact putdata_yes e n p A m c l w hr hl hm he hn hp
  · rw [if_neg hm, if_neg hm]; exact putdata_no e n p A m c w (by simpa using hm)
end Go.Proofs.Ytoegehlefdpghaa
