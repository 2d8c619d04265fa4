/- Walks over the reference's datagrams that are put, and small ones. -/
import Derived.Test.YtoegehlefdpghaaH
import Derived.Deep.RegionHeld3
import Derived.Deep.DrawnRows
set_option linter.unusedSimpArgs false
set_option linter.unusedVariables false
namespace Go.Proofs.Ytoegehlefdpghaa
open Go.RowKit

/-- A box in the first block that the call made. -/
structure Box (W w : World) (cs : List Value) : Prop where
  box : ∀ j u, cs[j]? = some u → w.cell? ⟨W.heap.size, j, none⟩ = some u
  lt : W.heap.size < w.heap.size
  out : Below W.heap.size W w
theorem Box.go {W w w' : World} {cs : List Value} (h : Box W w cs) (hb : Below w.heap.size w w') : Box W w' cs :=
  ⟨fun j u hu => (hb.cell (p := ⟨_, j, none⟩) h.lt).trans (h.box j u hu), Nat.lt_of_lt_of_le h.lt hb.size, Below.via h.out hb⟩
theorem Box.new (W : World) (cs : Array Value) (t : TypeId) : Box W (W.alloc (.cells cs t)) cs.toList :=
  ⟨fun j u hu => by rw [cell_of_row _ _ j _ t (0, 0) (heap_alloc_new W _)]; simpa using hu, by simp, Below.all (Below.refl _ _) _⟩

theorem oneByte (w : World) (v : Int) (h0 : 0 ≤ v) (h1 : v < 256) : Reads (w.alloc (.cells #[.int .u8 v] 5)) (some ⟨w.heap.size, 0, none⟩) 1 1 [v] :=
  (Owns.made (base := 0) (size := 1) #[.int .u8 v] 1 1 5 _ (Nat.zero_le _) (Nat.le_refl 1) (Nat.le_refl 1) (by decide) rfl).reads (by simp; omega)

theorem refputdata_no (e n p : Int) (A : Option Addr) (m c : Nat) (w : World) (hm : mayB e n p = false) :
    Calls Try.prog 6 #[.agg #[.int .u32 e, .int .u64 n, .int .u32 p, .slice A m c]] w (NewPair w [] 290) := by
  go_enter Try.func6, Try.ntmps6
  go_wp2_with (go_at_call 21; refine Calls.later (refmay_any _ _ _ _ _ _ _) ?_; intro x; rw [hm])
  go_ret2
  exact ⟨none, 0, rfl, Owns.nil _ _ _, by repeat' (first | (with_reducible assumption) | (with_reducible exact Below.refl _ _) | (with_reducible refine Below.lat ?_) | (with_reducible refine Below.all ?_ _) | (with_reducible refine Below.drew ?_))⟩

set_option maxHeartbeats 1000000 in
theorem refputdata_yes (e n p : Int) (A : Option Addr) (m c : Nat) (l : List Int) (w : World) (hr : Reads w A m c l) (hl : m ≤ 400) (hm : mayB e n p = true) (he : 0 ≤ e ∧ e < 4294967296) (hn : 0 ≤ n ∧ n < 18446744073709551616) (hp : 0 ≤ p ∧ p < 4294967296) :
    Calls Try.prog 6 #[.agg #[.int .u32 e, .int .u64 n, .int .u32 p, .slice A m c]] w (NewPair w (dataOf e n p l) 0) := by
  have HR := Lib.hid hr
  have hlen := hr.len
  have HL := Lib.hid hlen
  obtain ⟨he0, he1⟩ := he
  obtain ⟨hn0, hn1⟩ := hn
  obtain ⟨hp0, hp1⟩ := hp
  clear hr hlen
  go_enter Try.func6, Try.ntmps6
  go_wp2_with (go_at_call 21; refine Calls.later (refmay_any _ _ _ _ _ _ _) ?_; intro x; rw [hm])
  have BX := Lib.hid (((Box.new w #[.int .u32 e, .int .u64 n, .int .u32 p, .slice A m c] 32).go x.below).go (Below.all (Below.refl _ _) (.cells #[.int .u8 1] 5)))
  have R1 := oneByte x.world 1 (by decide) (by decide)
  generalize hg : x.world.heap.size = g at *
  clear hg
  generalize x.world.alloc (.cells #[.int .u8 1] 5) = w1 at *
  clear x
  refine Calls.mono (refput_any 4 e w1 (by decide) he0 (by omega)) ?_
  rw [refPut4]
  rintro e1 w2 ⟨oa2, cap2, rfl, ho2, hb2⟩
  have BX2 := Lib.hid (BX.out.go hb2)
  have R2 := ho2.reads (be4_byte e)
  have R1' := R1.below hb2
  clear BX R1 ho2 hb2
  go_wp2_with fail
  refine Calls.mono (join_any _ _ _ _ _ _ _ _ w2 R1' R2 (by decide) (by simp [be4])) ?_
  rintro e2 w3 ⟨oa3, cap3, rfl, ho3, hb3⟩
  have BX3 := Lib.hid (BX2.out.go hb3)
  have R3 := ho3.reads (by intro v hv; rcases List.mem_append.1 hv with h | h; exact R1'.byte v h; exact R2.byte v h)
  clear BX2 R1' R2 ho3 hb3
  obtain ⟨L3, hL3⟩ : ∃ L, [1] ++ be4 e = L := ⟨_, rfl⟩
  have HL3 := Lib.hid hL3
  have hn3 : L3.length = 5 := by rw [← hL3]; rfl
  rw [hL3] at R3 ⊢
  rw [hn3] at R3 ⊢
  clear hL3 hn3
  have y1 := BX3.out.box 1 _ rfl
  go_wp2_with fail
  clear y1
  refine Calls.mono (refput_any 8 n w3 (by decide) hn0 hn1) ?_
  rw [refPut8]
  rintro e1 w4 ⟨oa4, cap4, rfl, ho4, hb4⟩
  have BX4 := Lib.hid (BX3.out.go hb4)
  have R4 := ho4.reads (be8_byte n)
  have R3' := R3.below hb4
  clear BX3 R3 ho4 hb4
  go_wp2_with fail
  refine Calls.mono (join_any _ _ _ _ _ _ _ _ w4 R3' R4 (by decide) (by simp [be8, be4])) ?_
  rintro e2 w5 ⟨oa5, cap5, rfl, ho5, hb5⟩
  have BX5 := Lib.hid (BX4.out.go hb5)
  have R5 := ho5.reads (by intro v hv; rcases List.mem_append.1 hv with h | h; exact R3'.byte v h; exact R4.byte v h)
  clear BX4 R3' R4 ho5 hb5
  obtain ⟨L5, hL5⟩ : ∃ L, L3 ++ be8 n = L := ⟨_, rfl⟩
  have HL5 := Lib.hid hL5
  have hn5 : L5.length = 13 := by rw [← hL5, ← HL3.out]; rfl
  rw [hL5] at R5 ⊢
  rw [hn5] at R5 ⊢
  clear hL5 hn5
  have y2 := BX5.out.box 2 _ rfl
  go_wp2_with fail
  clear y2
  refine Calls.mono (refput_any 4 p w5 (by decide) hp0 (by omega)) ?_
  rw [refPut4]
  rintro e1 w6 ⟨oa6, cap6, rfl, ho6, hb6⟩
  have BX6 := Lib.hid (BX5.out.go hb6)
  have R6 := ho6.reads (be4_byte p)
  have R5' := R5.below hb6
  clear BX5 R5 ho6 hb6
  go_wp2_with fail
  refine Calls.mono (join_any _ _ _ _ _ _ _ _ w6 R5' R6 (by decide) (by simp [be4])) ?_
  rintro e2 w7 ⟨oa7, cap7, rfl, ho7, hb7⟩
  have BX7 := Lib.hid (BX6.out.go hb7)
  have R7 := ho7.reads (by intro v hv; rcases List.mem_append.1 hv with h | h; exact R5'.byte v h; exact R6.byte v h)
  clear BX6 R5' R6 ho7 hb7
  obtain ⟨L7, hL7⟩ : ∃ L, L5 ++ be4 p = L := ⟨_, rfl⟩
  have HL7 := Lib.hid hL7
  have hn7 : L7.length = 17 := by rw [← hL7, ← HL5.out, ← HL3.out]; rfl
  rw [hL7] at R7 ⊢
  rw [hn7] at R7 ⊢
  clear hL7 hn7
  have y3 := BX7.out.box 3 _ rfl
  go_wp2_with fail
  clear y3
  refine Calls.mono (join_any _ _ _ L7 A m c l w7 R7 (HR.out.below (BX7.out.out)) (by decide) (by omega)) ?_
  have hd : L7 ++ l = dataOf e n p l := by rw [← HL7.out, ← HL5.out, ← HL3.out]; rfl
  rw [hd]
  clear hd
  rintro e2 w8 ⟨oa8, cap8, rfl, ho8, hb8⟩
  go_wp2_with fail
  go_ret2
  exact ⟨oa8, cap8, rfl, ho8.mono BX7.out.out.size, Below.via BX7.out.out hb8⟩

theorem refputdata_any (e n p : Int) (A : Option Addr) (m c : Nat) (l : List Int) (w : World) (hr : Reads w A m c l) (hl : m ≤ 400) (he : 0 ≤ e ∧ e < 4294967296) (hn : 0 ≤ n ∧ n < 18446744073709551616) (hp : 0 ≤ p ∧ p < 4294967296) :
    Calls Try.prog 6 #[.agg #[.int .u32 e, .int .u64 n, .int .u32 p, .slice A m c]] w (NewPair w (if mayB e n p = true then dataOf e n p l else []) (if mayB e n p = true then 0 else 290)) := by
  by_cases hm : mayB e n p = true
  · rw [if_pos hm, if_pos hm]; exact refputdata_yes e n p A m c l w hr hl hm he hn hp
  · rw [if_neg hm, if_neg hm]; exact refputdata_no e n p A m c w (by simpa using hm)

set_option maxHeartbeats 1000000 in
theorem refputack_any (d e n : Int) (w : World) (hd : 0 ≤ d ∧ d < 4294967296) (he : 0 ≤ e ∧ e < 4294967296) (hn : 0 ≤ n ∧ n < 18446744073709551616) :
    Calls Try.prog 16 #[.agg #[.int .u32 d, .int .u32 e, .int .u64 n]] w (NewBytes w (ackOf d e n)) := by
  obtain ⟨he0, he1⟩ := he
  obtain ⟨hn0, hn1⟩ := hn
  obtain ⟨hd0, hd1⟩ := hd
  go_enter Try.func16, Try.ntmps16
  go_wp2_with fail
  have BX := Lib.hid ((Box.new w #[.int .u32 d, .int .u32 e, .int .u64 n] 41).go (Below.all (Below.refl _ _) (.cells #[.int .u8 2] 5)))
  have R1 := oneByte (w.alloc (.cells #[.int .u32 d, .int .u32 e, .int .u64 n] 41)) 2 (by decide) (by decide)
  rw [World.size_alloc] at R1
  generalize (w.alloc (.cells #[.int .u32 d, .int .u32 e, .int .u64 n] 41)).alloc (.cells #[.int .u8 2] 5) = w1 at *
  refine Calls.mono (refput_any 4 d w1 (by decide) hd0 (by omega)) ?_
  rw [refPut4]
  rintro e1 w2 ⟨oa2, cap2, rfl, ho2, hb2⟩
  have BX2 := Lib.hid (BX.out.go hb2)
  have R2 := ho2.reads (be4_byte d)
  have R1' := R1.below hb2
  clear BX R1 ho2 hb2
  go_wp2_with fail
  refine Calls.mono (join_any _ _ _ _ _ _ _ _ w2 R1' R2 (by decide) (by simp [be4])) ?_
  rintro e2 w3 ⟨oa3, cap3, rfl, ho3, hb3⟩
  have BX3 := Lib.hid (BX2.out.go hb3)
  have R3 := ho3.reads (by intro v hv; rcases List.mem_append.1 hv with h | h; exact R1'.byte v h; exact R2.byte v h)
  clear BX2 R1' R2 ho3 hb3
  obtain ⟨L3, hL3⟩ : ∃ L, [2] ++ be4 d = L := ⟨_, rfl⟩
  have HL3 := Lib.hid hL3
  have hn3 : L3.length = 5 := by rw [← hL3]; rfl
  rw [hL3] at R3 ⊢
  rw [hn3] at R3 ⊢
  clear hL3 hn3
  have y1 := BX3.out.box 1 _ rfl
  go_wp2_with fail
  clear y1
  refine Calls.mono (refput_any 4 e w3 (by decide) he0 (by omega)) ?_
  rw [refPut4]
  rintro e1 w4 ⟨oa4, cap4, rfl, ho4, hb4⟩
  have BX4 := Lib.hid (BX3.out.go hb4)
  have R4 := ho4.reads (be4_byte e)
  have R3' := R3.below hb4
  clear BX3 R3 ho4 hb4
  go_wp2_with fail
  refine Calls.mono (join_any _ _ _ _ _ _ _ _ w4 R3' R4 (by decide) (by simp [be4])) ?_
  rintro e2 w5 ⟨oa5, cap5, rfl, ho5, hb5⟩
  have BX5 := Lib.hid (BX4.out.go hb5)
  have R5 := ho5.reads (by intro v hv; rcases List.mem_append.1 hv with h | h; exact R3'.byte v h; exact R4.byte v h)
  clear BX4 R3' R4 ho5 hb5
  obtain ⟨L5, hL5⟩ : ∃ L, L3 ++ be4 e = L := ⟨_, rfl⟩
  have HL5 := Lib.hid hL5
  have hn5 : L5.length = 9 := by rw [← hL5, ← HL3.out]; rfl
  rw [hL5] at R5 ⊢
  rw [hn5] at R5 ⊢
  clear hL5 hn5
  have y2 := BX5.out.box 2 _ rfl
  go_wp2_with fail
  clear y2
  refine Calls.mono (refput_any 8 n w5 (by decide) hn0 hn1) ?_
  rw [refPut8]
  rintro e1 w6 ⟨oa6, cap6, rfl, ho6, hb6⟩
  have BX6 := Lib.hid (BX5.out.go hb6)
  have R6 := ho6.reads (be8_byte n)
  have R5' := R5.below hb6
  clear BX5 R5 ho6 hb6
  go_wp2_with fail
  refine Calls.mono (join_any _ _ _ L5 _ _ _ _ w6 R5' R6 (by decide) (by simp [be8, be4])) ?_
  have hd : L5 ++ be8 n = ackOf d e n := by rw [← HL5.out, ← HL3.out]; rfl
  rw [hd]
  clear hd
  rintro e2 w8 ⟨oa8, cap8, rfl, ho8, hb8⟩
  go_wp2_with fail
  go_ret
  exact ⟨oa8, cap8, rfl, ho8.mono BX6.out.out.size, Below.via BX6.out.out hb8⟩

set_option maxHeartbeats 400000 in
theorem docsack_any (d e n : Int) (w : World) : Calls Try.prog 15 #[.agg #[.int .u32 d, .int .u32 e, .int .u64 n]] w (RetAt w (.agg #[.int .u32 d, .int .u32 e, .int .u64 n])) := by
  go_enter Try.func15, Try.ntmps15
  go_wp2_with fail
  refine bodyPost_ret (v := .agg #[.int .u32 d, .int .u32 e, .int .u64 n]) (by simp [results, Try.results15, go_sem]) rfl ⟨rfl, ?_⟩
  go_grown

end Go.Proofs.Ytoegehlefdpghaa
