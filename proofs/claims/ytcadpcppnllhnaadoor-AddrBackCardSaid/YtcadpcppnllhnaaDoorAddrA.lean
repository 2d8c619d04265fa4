/- Walks over texts: the library's variables, Number, Digits, decimal. -/
import Derived.Test.YtcadpcppnllhnaaDoorAddrPlain
import Derived.Test.YtcadpcppnllhnaaDoorShelf
import Derived.Test.YtcadpcppnllhnaaDoorBytes
import Derived.Test.YtcadpcppnllhnaaDoorMem
import Derived.IntWalk
import Derived.WalkSpells
import Derived.ShutString
set_option linter.unusedSimpArgs false
set_option linter.unusedVariables false
namespace Go.Proofs.YtcadpcppnllhnaaDoor
open Go.RowKit

/-- The library's variables that the texts read. -/
structure Env (w : World) : Prop where
  len : ∃ m, w.cell? ⟨0, 0, none⟩ = some (.int .i64 m)
  syn : ∃ te pe, w.cell? ⟨2, 0, none⟩ = some (.iface te pe)
  rng : ∃ te pe, w.cell? ⟨3, 0, none⟩ = some (.iface te pe)
  tab : Lib.TabIs Tryd.prog w "internal/strconv.uint64pow10" .u64 Lib.pow10Tab
  bits : w.cell? ⟨5, 15, none⟩ = some (.int .u8 4)
theorem Env.below {w w' : World} (h : Env w) (hb : Below w.heap.size w w') : Env w' := by
  obtain ⟨m, hm⟩ := h.len
  obtain ⟨t1, p1, h1⟩ := h.syn
  obtain ⟨t2, p2, h2⟩ := h.rng
  exact ⟨⟨m, (hb.cell (p := ⟨_, _, none⟩) (World.block_lt_of_cell? w _ hm)).trans hm⟩, ⟨t1, p1, (hb.cell (p := ⟨_, _, none⟩) (World.block_lt_of_cell? w _ h1)).trans h1⟩,
    ⟨t2, p2, (hb.cell (p := ⟨_, _, none⟩) (World.block_lt_of_cell? w _ h2)).trans h2⟩, Joins.tab_stays (g := 1) (by kernel_rfl) h.tab hb (Nat.le_refl _), (hb.cell (p := ⟨_, _, none⟩) (World.block_lt_of_cell? w _ h.bits)).trans h.bits⟩
theorem Env.later {w : World} (h : Env w) (x : Later w) : Env x.world := h.below x.below

theorem dec_mk3 {p : Prop} [Decidable p] {b : Bool} (h : b = true ↔ p) : b = decide p := by rw [Bool.eq_iff_iff, h]; simp
theorem take_snoc8 (s : ByteArray) (k : Nat) (h : k < s.size) : s.data.toList.take (k + 1) = s.data.toList.take k ++ [s[k]] := by
  rw [List.take_succ_eq_append_getElem (by simpa using h)]; rfl
theorem drop_cons8 (s : ByteArray) (k : Nat) (h : k < s.size) : s.data.toList.drop k = s[k] :: s.data.toList.drop (k + 1) := by
  rw [List.drop_eq_getElem_cons (by simpa using h)]; rfl

/-- 's[k]', the byte behind a letter of one's own: lay it ahead of the walk. -/
theorem index_byte (s : ByteArray) (k : Nat) (h : k < s.size) (c : Nat) (hc : s[k].toNat = c) (w : World) : (Instr.index 9 (.string s) (.int .i64 (k : Int))).run Tryd.prog w = .ok (.int .u8 (c : Int)) w := by
  rw [run_index_string w 9 s .i64 k Tryd.underlying9, dif_pos (by omega)]
  simp only [Int.toNat_natCast, hc]

/-- What the reference's Number answers. -/
def numV (o : Option Nat) : Value := match o with
  | some n => .tuple #[.int .i64 n, .bool true]
  | none => .tuple #[.int .i64 0, .bool false]

theorem numV_some {o : Option Nat} {n : Nat} (h : o = some n) (m : Int) (hm : m = n) : Value.tuple #[.int .i64 m, .bool true] = numV o := by rw [h, hm]; rfl
theorem numV_none {o : Option Nat} (h : o = none) : Value.tuple #[.int .i64 0, .bool false] = numV o := by rw [h]; rfl

set_option maxHeartbeats 4000000 in
theorem number_any (s : ByteArray) (base most : Nat) (w : World) (hs : s.size ≤ 1000) (hb : base ≤ 16) (hm : most ≤ 65536) (hm1 : 1 ≤ most) :
    Calls Tryd.prog 35 #[.string s, .int .i64 base, .int .i64 most] w (RetAt w (numV (numberL base most s.data.toList))) := by
  go_enter Tryd.func35, Tryd.ntmps35
  go_wp2_with fail
  go_loopw [8, 9] (fun u8 u9 wr => ∃ k n : Nat, k ≤ s.size ∧ u9 = .int .i64 k ∧ u8 = .int .i64 n ∧ n < most ∧ Hid (numL base most 0 (s.data.toList.take k) = some n) ∧ wr = w) (fun _ u9 _ => (s.size : Int) - intOf u9 |>.toNat)
  case atStart => exact ⟨0, 0, Nat.zero_le _, rfl, rfl, by omega, Lib.hid rfl, rfl⟩
  case round =>
    obtain ⟨k, n, hk, rfl, rfl, hn, HN, rfl⟩ := hrel
    by_cases hlt : k < s.size
    · have hts := take_snoc8 s k hlt
      have HT : Hid (numL base most 0 (s.data.toList.take (k + 1)) = if base ≤ digitN s[k] ∨ most ≤ n * base + digitN s[k] then none else some (n * base + digitN s[k])) := Lib.hid (by
        rw [hts, numL_append, HN.out]
        simp only [Option.bind, numL])
      have HR : Hid (base ≤ digitN s[k] ∨ most ≤ n * base + digitN s[k] → numberL base most s.data.toList = none) := Lib.hid (fun h => by
        have hne : s.data.toList ≠ [] := fun e => by
          have h0 := congrArg List.length e
          rw [Array.length_toList, ByteArray.size_data] at h0
          simp only [List.length_nil] at h0
          omega
        rw [numberL, if_neg hne]
        have e : s.data.toList = s.data.toList.take (k + 1) ++ s.data.toList.drop (k + 1) := (List.take_append_drop _ _).symm
        rw [e, numL_append, HT.out, if_pos h]; rfl)
      clear hts
      have hD : digitN s[k] = if 65 ≤ s[k].toNat ∧ s[k].toNat ≤ 70 then s[k].toNat - 55 else if 97 ≤ s[k].toNat ∧ s[k].toNat ≤ 102 then s[k].toNat - 87 else if 48 ≤ s[k].toNat ∧ s[k].toNat ≤ 57 then s[k].toNat - 48 else 99 := rfl
      have c1 : s[k].toNat < 256 := s[k].toNat_lt
      have hix := index_byte s k hlt _ rfl
      generalize digitN s[k] = D at *
      generalize s[k].toNat = c at *
      have hmul : n * base ≤ 65536 * 16 := Nat.mul_le_mul (by omega) hb
      have hmi : ((n * base : Nat) : Int) = (n : Int) * base := by push_cast; rfl
      have m0 : (0 : Int) ≤ (n : Int) * base := by rw [← hmi]; omega
      have m1 : (n : Int) * base ≤ 1048576 := by rw [← hmi]; omega
      rcases (show c < 48 ∨ (48 ≤ c ∧ c ≤ 57) ∨ (58 ≤ c ∧ c ≤ 64) ∨ (65 ≤ c ∧ c ≤ 70) ∨ (71 ≤ c ∧ c ≤ 96) ∨ (97 ≤ c ∧ c ≤ 102) ∨ 103 ≤ c by omega) with h | ⟨h, h'⟩ | ⟨h, h'⟩ | ⟨h, h'⟩ | ⟨h, h'⟩ | ⟨h, h'⟩ | h
      · have hv : D = 99 := by rw [hD]; (repeat' split) <;> omega
        have HV := Lib.hid hv
        have HMI := Lib.hid hmi
        clear hD hv hmi
        go_wp2_with fail
        all_goals first
          | (go_ret2; exact .mk (numV_none (HR.out (by have := HV.out; have := HMI.out; omega))) (Below.refl _ _))
          | (have hnf : ¬ (base ≤ D ∨ most ≤ n * base + D) := by (have := HV.out; have := HMI.out; omega)
             go_roundw
             case rel => exact ⟨k + 1, n * base + D, by omega, by go_num, val_int (by have := HV.out; have := HMI.out; omega), by omega, Lib.hid (by rw [HT.out, if_neg hnf]), trivial⟩
             case measure => simp [intOf]; omega)
      · have hv : D = c - 48 := by rw [hD]; (repeat' split) <;> omega
        have HV := Lib.hid hv
        have HMI := Lib.hid hmi
        clear hD hv hmi
        go_wp2_with fail
        all_goals first
          | (go_ret2; exact .mk (numV_none (HR.out (by have := HV.out; have := HMI.out; omega))) (Below.refl _ _))
          | (have hnf : ¬ (base ≤ D ∨ most ≤ n * base + D) := by (have := HV.out; have := HMI.out; omega)
             go_roundw
             case rel => exact ⟨k + 1, n * base + D, by omega, by go_num, val_int (by have := HV.out; have := HMI.out; omega), by omega, Lib.hid (by rw [HT.out, if_neg hnf]), trivial⟩
             case measure => simp [intOf]; omega)
      · have hv : D = 99 := by rw [hD]; (repeat' split) <;> omega
        have HV := Lib.hid hv
        have HMI := Lib.hid hmi
        clear hD hv hmi
        go_wp2_with fail
        all_goals first
          | (go_ret2; exact .mk (numV_none (HR.out (by have := HV.out; have := HMI.out; omega))) (Below.refl _ _))
          | (have hnf : ¬ (base ≤ D ∨ most ≤ n * base + D) := by (have := HV.out; have := HMI.out; omega)
             go_roundw
             case rel => exact ⟨k + 1, n * base + D, by omega, by go_num, val_int (by have := HV.out; have := HMI.out; omega), by omega, Lib.hid (by rw [HT.out, if_neg hnf]), trivial⟩
             case measure => simp [intOf]; omega)
      · have hv : D = c - 55 := by rw [hD]; (repeat' split) <;> omega
        have HV := Lib.hid hv
        have HMI := Lib.hid hmi
        clear hD hv hmi
        go_wp2_with fail
        all_goals first
          | (go_ret2; exact .mk (numV_none (HR.out (by have := HV.out; have := HMI.out; omega))) (Below.refl _ _))
          | (have hnf : ¬ (base ≤ D ∨ most ≤ n * base + D) := by (have := HV.out; have := HMI.out; omega)
             go_roundw
             case rel => exact ⟨k + 1, n * base + D, by omega, by go_num, val_int (by have := HV.out; have := HMI.out; omega), by omega, Lib.hid (by rw [HT.out, if_neg hnf]), trivial⟩
             case measure => simp [intOf]; omega)
      · have hv : D = 99 := by rw [hD]; (repeat' split) <;> omega
        have HV := Lib.hid hv
        have HMI := Lib.hid hmi
        clear hD hv hmi
        go_wp2_with fail
        all_goals first
          | (go_ret2; exact .mk (numV_none (HR.out (by have := HV.out; have := HMI.out; omega))) (Below.refl _ _))
          | (have hnf : ¬ (base ≤ D ∨ most ≤ n * base + D) := by (have := HV.out; have := HMI.out; omega)
             go_roundw
             case rel => exact ⟨k + 1, n * base + D, by omega, by go_num, val_int (by have := HV.out; have := HMI.out; omega), by omega, Lib.hid (by rw [HT.out, if_neg hnf]), trivial⟩
             case measure => simp [intOf]; omega)
      · have hv : D = c - 87 := by rw [hD]; (repeat' split) <;> omega
        have HV := Lib.hid hv
        have HMI := Lib.hid hmi
        clear hD hv hmi
        go_wp2_with fail
        all_goals first
          | (go_ret2; exact .mk (numV_none (HR.out (by have := HV.out; have := HMI.out; omega))) (Below.refl _ _))
          | (have hnf : ¬ (base ≤ D ∨ most ≤ n * base + D) := by (have := HV.out; have := HMI.out; omega)
             go_roundw
             case rel => exact ⟨k + 1, n * base + D, by omega, by go_num, val_int (by have := HV.out; have := HMI.out; omega), by omega, Lib.hid (by rw [HT.out, if_neg hnf]), trivial⟩
             case measure => simp [intOf]; omega)
      · have hv : D = 99 := by rw [hD]; (repeat' split) <;> omega
        have HV := Lib.hid hv
        have HMI := Lib.hid hmi
        clear hD hv hmi
        go_wp2_with fail
        all_goals first
          | (go_ret2; exact .mk (numV_none (HR.out (by have := HV.out; have := HMI.out; omega))) (Below.refl _ _))
          | (have hnf : ¬ (base ≤ D ∨ most ≤ n * base + D) := by (have := HV.out; have := HMI.out; omega)
             go_roundw
             case rel => exact ⟨k + 1, n * base + D, by omega, by go_num, val_int (by have := HV.out; have := HMI.out; omega), by omega, Lib.hid (by rw [HT.out, if_neg hnf]), trivial⟩
             case measure => simp [intOf]; omega)
    · obtain rfl : k = s.size := by omega
      have HF : Hid (s.data.toList.take s.size = s.data.toList) := Lib.hid (List.take_of_length_le (by rw [Array.length_toList, ByteArray.size_data]; exact Nat.le_refl _))
      go_wp2_with fail
      go_ret2
      refine .mk ?_ (Below.refl _ _)
      have hnum := HN.out
      rw [HF.out] at hnum
      by_cases h0 : s.data.toList = []
      · have hz : s.size = 0 := by
          have := congrArg List.length h0
          rwa [Array.length_toList, ByteArray.size_data] at this
        rw [h0] at hnum ⊢
        simp only [numL, Option.some.injEq] at hnum
        subst hnum
        simp [numberL, numV, hz]
      · have hz : 0 < s.size := by
          rcases Nat.eq_zero_or_pos s.size with e | e
          · exact absurd (List.eq_nil_of_length_eq_zero (by rw [Array.length_toList, ByteArray.size_data]; exact e)) h0
          · exact e
        rw [numberL, if_neg h0, hnum]
        simp [numV, hz]
end Go.Proofs.YtcadpcppnllhnaaDoor
