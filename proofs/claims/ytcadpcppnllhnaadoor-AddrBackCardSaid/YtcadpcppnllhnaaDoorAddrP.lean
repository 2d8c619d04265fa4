/- Walks over texts: strconv.FormatUint at base 16. -/
import Derived.Test.YtcadpcppnllhnaaDoorAddrO
import Derived.Test.YtcadpcppnllhnaaDoorAddrB
set_option linter.unusedSimpArgs false
set_option linter.unusedVariables false
namespace Go.Proofs.YtcadpcppnllhnaaDoor
open Go.RowKit

theorem strOfNums_map8 (l : List UInt8) : strOfNums (l.map fun b => (b.toNat : Int)) = ⟨l.toArray⟩ := by
  have h : ((fun n : Int => UInt8.ofNat n.toNat) ∘ fun b : UInt8 => (b.toNat : Int)) = id := by funext b; simp
  simp [strOfNums, h]
theorem drop_set_self {α : Type} (xs : List α) (j : Nat) (h : j < xs.length) (v : α) : (xs.set j v).drop j = v :: xs.drop (j + 1) := by
  rw [List.drop_eq_getElem_cons (by simpa using h), List.getElem_set_self, List.drop_set_of_lt (by omega)]
theorem digB_more (b u : Nat) (hb : 2 ≤ b) (h : b ≤ u) : digB b u = digB b (u / b) ++ [hexc (u % b)] := by
  rw [digB, dif_neg (by omega)]
theorem digB_last (b u : Nat) (h : u < b) : digB b u = [hexc u] := by
  rw [digB, dif_pos (by omega)]
/-- A digit's sign, read out of the library's row of digits. -/
theorem index_dig (d : Nat) (h : d < 16) (w : World) :
    (Instr.index 9 (.string ⟨#[48, 49, 50, 51, 52, 53, 54, 55, 56, 57, 97, 98, 99, 100, 101, 102, 103, 104, 105, 106, 107, 108, 109, 110, 111, 112, 113, 114, 115, 116, 117, 118, 119, 120, 121, 122]⟩) (.int .u64 (d : Int))).run Tryd.prog w = .ok (.int .u8 ((hexc d).toNat : Int)) w := by
  rw [run_index_string w 9 _ .u64 d Tryd.underlying9, dif_pos (by
    have : (ByteArray.size ⟨#[48, 49, 50, 51, 52, 53, 54, 55, 56, 57, 97, 98, 99, 100, 101, 102, 103, 104, 105, 106, 107, 108, 109, 110, 111, 112, 113, 114, 115, 116, 117, 118, 119, 120, 121, 122]⟩) = 36 := rfl
    omega)]
  have hd : d = 0 ∨ d = 1 ∨ d = 2 ∨ d = 3 ∨ d = 4 ∨ d = 5 ∨ d = 6 ∨ d = 7 ∨ d = 8 ∨ d = 9 ∨ d = 10 ∨ d = 11 ∨ d = 12 ∨ d = 13 ∨ d = 14 ∨ d = 15 := by omega
  rcases hd with rfl | rfl | rfl | rfl | rfl | rfl | rfl | rfl | rfl | rfl | rfl | rfl | rfl | rfl | rfl | rfl <;> rfl
theorem dig_get (d : Nat) (h : d < 16) (h' : d < (ByteArray.size ⟨#[48, 49, 50, 51, 52, 53, 54, 55, 56, 57, 97, 98, 99, 100, 101, 102, 103, 104, 105, 106, 107, 108, 109, 110, 111, 112, 113, 114, 115, 116, 117, 118, 119, 120, 121, 122]⟩)) :
    (⟨#[48, 49, 50, 51, 52, 53, 54, 55, 56, 57, 97, 98, 99, 100, 101, 102, 103, 104, 105, 106, 107, 108, 109, 110, 111, 112, 113, 114, 115, 116, 117, 118, 119, 120, 121, 122]⟩ : ByteArray)[d] = hexc d := by
  have hd : d = 0 ∨ d = 1 ∨ d = 2 ∨ d = 3 ∨ d = 4 ∨ d = 5 ∨ d = 6 ∨ d = 7 ∨ d = 8 ∨ d = 9 ∨ d = 10 ∨ d = 11 ∨ d = 12 ∨ d = 13 ∨ d = 14 ∨ d = 15 := by omega
  rcases hd with rfl | rfl | rfl | rfl | rfl | rfl | rfl | rfl | rfl | rfl | rfl | rfl | rfl | rfl | rfl | rfl <;> rfl

/-- The state of the digits' row: k of them stand at its end. -/
def DigSt (w0 w : World) (k : Nat) (l : List UInt8) : Prop := ∃ xs, Owns w w0.heap.size 1 (some ⟨w0.heap.size, 0, none⟩) 65 65 xs ∧ l.length = k ∧ xs.drop (65 - k) = l.map fun (c : UInt8) => Value.int .u8 (c.toNat : Int)
theorem DigSt.more {w0 w : World} {k : Nat} {l : List UInt8} (h : DigSt w0 w k l) (j : Nat) (hj : j + 1 + k = 65) (c : UInt8) : DigSt w0 (w.setCell ⟨w0.heap.size, j, none⟩ (.int .u8 (c.toNat : Int))) (k + 1) (c :: l) := by
  obtain ⟨xs, ho, hl, hd⟩ := h
  have hlen : xs.length = 65 := by have := ho.len; omega
  refine ⟨xs.set j (.int .u8 (c.toNat : Int)), ?_, by rw [List.length_cons, hl], ?_⟩
  · have := ho.set j (by omega) (.int .u8 (c.toNat : Int))
    rwa [Nat.zero_add] at this
  · rw [show 65 - (k + 1) = j by omega, drop_set_self xs j (by omega), show j + 1 = 65 - k by omega, hd]; rfl
theorem DigSt.cell {w0 w : World} {k : Nat} {l : List UInt8} (h : DigSt w0 w k l) (j : Nat) (hj : j < 65) : (∃ u, w.cell? ⟨w0.heap.size, j, none⟩ = some u) ∧ w.frozen? ⟨w0.heap.size, j, none⟩ = false := by
  obtain ⟨xs, ho, hl, hd⟩ := h
  obtain ⟨g, off, e, hb, hg, hc, ht⟩ := ho.here (by omega)
  cases e
  obtain ⟨h1, h2⟩ := ht j (by omega)
  rw [Nat.zero_add] at h1 h2
  exact ⟨Option.isSome_iff_exists.1 h1, h2⟩
theorem DigSt.reads {w0 w : World} {k : Nat} {l : List UInt8} (h : DigSt w0 w k l) (hk : k ≤ 65) (hk0 : 0 < k) : Reads w (some ⟨w0.heap.size, 65 - k, none⟩) k k (l.map fun c => (c.toNat : Int)) := by
  obtain ⟨xs, ho, hl, hd⟩ := h
  have hlen : xs.length = 65 := by have := ho.len; omega
  obtain ⟨g, off, e, hb, hg, hc, ht⟩ := ho.here (by omega)
  cases e
  refine ⟨by rw [List.length_map, hl], Nat.le_refl _, by unfold maxLen; omega, ?_, .inr ⟨_, _, rfl, hg, fun j hj => ?_⟩⟩
  · intro v hv
    obtain ⟨c, -, rfl⟩ := List.mem_map.1 hv
    have := c.toNat_lt
    omega
  · have := hc (65 - k + j) (xs[65 - k + j]'(by omega)) (by simp)
    rw [Nat.zero_add] at this
    rw [this]
    have h2 : (xs.drop (65 - k))[j]? = (l.map fun (c : UInt8) => Value.int .u8 (c.toNat : Int))[j]? := by rw [hd]
    rw [List.getElem?_drop, List.getElem?_eq_getElem (by omega), List.getElem?_map, List.getElem?_eq_getElem (by omega)] at h2
    rw [Option.some.inj h2, getD_map_default _ _ (by simpa [hl] using hj)]
    rw [List.getElem_map]

theorem zero133 : Tryd.zeroCells133.toList.take 65 = List.replicate 65 (.int .u8 0) := by kernel_rfl
theorem zero133s : Tryd.zeroCells133.size = 65 := by kernel_rfl

set_option maxRecDepth 20000 in
set_option maxHeartbeats 8000000 in
theorem fbits_16 (u : Nat) (hu : u < 65536) (w : World) (hb : w.cell? ⟨5, 15, none⟩ = some (.int .u8 4)) :
    Calls Tryd.prog 79 #[.slice none 0 0, .int .u64 (u : Int), .int .i64 16, .bool false, .bool false] w (RetAt w (.tuple #[.slice none 0 0, .string ⟨(digB 16 u).toArray⟩])) := by
  have HB := Lib.hid hb
  have HW0 : Hid (Below w.heap.size w (w.alloc (.cells Tryd.zeroCells133 133))) := Lib.hid (Below.all (Below.refl _ _) _)
  have HS0 : Hid (DigSt w (w.alloc (.cells Tryd.zeroCells133 133)) 0 []) := Lib.hid ⟨List.replicate 65 (.int .u8 0), Owns.made _ 65 65 _ _ (Nat.le_refl _) (by rw [zero133s]; decide) (Nat.le_refl _) (by decide) (by rw [Nat.mul_one]; exact zero133), rfl, by simp⟩
  clear hb
  go_enter Tryd.func79, Tryd.ntmps79
  go_wp2_with fail
  refine Calls.mono (p2_16 _) ?_
  rintro e w2 ⟨rfl, rfl⟩
  go_wp2_with fail
  generalize w.alloc (.cells Tryd.zeroCells133 133) = w1 at *
  refine Calls.mono (tz_16 _ ((HW0.out.cell (World.block_lt_of_cell? w _ HB.out)).trans HB.out)) ?_
  rintro e w2 ⟨rfl, rfl⟩
  go_wp2_with fail
  go_loopw [1, 13] (fun u1 u13 wr => ∃ (v i k : Nat) (l : List UInt8), u1 = .int .u64 v ∧ u13 = .int .i64 i ∧ i + k = 65 ∧ ((k = 0 ∧ v < 65536) ∨ (k = 1 ∧ v < 4096) ∨ (k = 2 ∧ v < 256) ∨ (k = 3 ∧ v < 16)) ∧ Hid (digB 16 u = digB 16 v ++ l) ∧ Hid (DigSt w wr k l) ∧ Hid (Below w.heap.size w wr)) (fun u1 _ _ => intOf u1 |>.toNat)
  case atStart => exact ⟨u, 65, 0, [], rfl, rfl, rfl, .inl ⟨rfl, hu⟩, Lib.hid (by simp), HS0, HW0⟩
  case round =>
    obtain ⟨v, i, k, l, rfl, rfl, hik, hkv, HD, HS, HW⟩ := hrel
    obtain ⟨j, rfl⟩ : ∃ j, i = j + 1 := ⟨i - 1, by omega⟩
    obtain ⟨⟨c0, hc0⟩, hf0⟩ := HS.out.cell j (by omega)
    by_cases hlt : 16 ≤ v
    · have hand : bits BinOp.and IntKind.u64 (v : Int) 15 = ((v % 16 : Nat) : Int) := by
        rw [show (15 : Int) = ((15 : Nat) : Int) from rfl, u64_and_nat v 15 (by omega) (by decide), show 15 = 2 ^ 4 - 1 from rfl, Nat.and_two_pow_sub_one_eq_mod]
      have HD2 := Lib.hid (digB_more 16 v (by decide) hlt)
      go_wp2_with fail
      rw [dig_get _ (Nat.mod_lt _ (by decide))]
      go_roundw
      case rel => exact ⟨v / 16, j, k + 1, hexc (v % 16) :: l, by go_num, rfl, by omega, by omega, Lib.hid (by rw [HD.out, HD2.out, List.append_assoc]; rfl), Lib.hid (HS.out.more j hik _), Lib.hid (HW.out.setCell (Nat.le_refl _) _)⟩
      case measure => simp [intOf]; omega
    · have hv16 : v < 16 := by omega
      have HD2 := Lib.hid (digB_last 16 v hv16)
      have hj1 : (j : Int) ≤ 65 := by omega
      have hj2 : ¬ (65 = j) := by omega
      go_wp2_with fail
      rw [dig_get _ hv16]
      have hR := (HS.out.more j hik (hexc v)).reads (by omega) (by omega)
      have hcv := run_string_reads (P := Tryd.prog) 43 5 Tryd.underlying43 Tryd.underlying5 hR 9 Tryd.underlying9
      rw [strOfNums_map8, show 65 - (k + 1) = j by omega, show k + 1 = 65 - j by omega] at hcv
      have HWE := Lib.hid (show Below w.heap.size w (wr.setCell ⟨w.heap.size, j, none⟩ (.int .u8 ((hexc v).toNat : Int))) from HW.out.setCell (Nat.le_refl _) _)
      have HE : Hid (hexc v :: l = digB 16 u) := Lib.hid (by rw [HD.out, HD2.out]; rfl)
      rw [hcv]
      clear hR hcv
      go_wp2_with fail
      go_ret2
      exact .mk (by rw [← HE.out]; rfl) HWE.out

set_option maxRecDepth 20000 in
set_option maxHeartbeats 8000000 in
theorem ifmt_16 (u : Nat) (hu : u < 65536) (w : World) (hb : w.cell? ⟨5, 15, none⟩ = some (.int .u8 4)) :
    Calls Tryd.prog 61 #[.int .u64 (u : Int), .int .i64 16] w (RetAt w (.string ⟨(digB 16 u).toArray⟩)) := by
  go_enter Tryd.func61, Tryd.ntmps61
  go_wp2_with fail
  refine Calls.later (fbits_16 u hu w hb) ?_
  intro x
  go_wp2_with fail
  go_ret
  exact .mk rfl (Below.lat (Below.refl _ _))

set_option maxRecDepth 20000 in
set_option maxHeartbeats 8000000 in
theorem fmt_16 (u : Nat) (hu : u < 65536) (w : World) (hb : Env w) :
    Calls Tryd.prog 45 #[.int .u64 (u : Int), .int .i64 16] w (RetAt w (.string ⟨(digB 16 u).toArray⟩)) := by
  have hbi := hb.bits
  clear hb
  go_enter Tryd.func45, Tryd.ntmps45
  go_wp2_with fail
  refine Calls.later (ifmt_16 u hu w hbi) ?_
  intro x
  go_wp2_with fail
  go_ret
  exact .mk rfl (Below.lat (Below.refl _ _))
end Go.Proofs.YtcadpcppnllhnaaDoor
