/- Walks over texts: Cuts; rows of strings. -/
import Derived.Test.YtcadpcppnllhnaaDoorAddrB
import Derived.StillTailTactics
import Derived.RegionTactic
import Derived.BigRegion
set_option linter.unusedSimpArgs false
set_option linter.unusedVariables false
namespace Go.Proofs.YtcadpcppnllhnaaDoor
open Go.RowKit

theorem cutsL_last (c : UInt8) (l : List UInt8) : ∃ I last, cutsL c l = I ++ [last] :=
  ⟨(cutsL c l).dropLast, (cutsL c l).getLast (cutsL_ne c l), (List.dropLast_concat_getLast (cutsL_ne c l)).symm⟩
theorem cutsL_snoc (c x : UInt8) : ∀ (l : List UInt8) (I : List (List UInt8)) (last : List UInt8), cutsL c l = I ++ [last] → cutsL c (l ++ [x]) = if x = c then I ++ [last] ++ [[]] else I ++ [last ++ [x]]
  | [], I, last, h => by
    have hI : I = [] ∧ last = [] := by
      cases I with
      | nil => simpa [cutsL] using h.symm
      | cons a t => simp [cutsL] at h
    obtain ⟨rfl, rfl⟩ := hI
    rw [List.nil_append, cutsL]
    split
    · simp [cutsL]
    · simp [cutsL]
  | y :: l, I, last, h => by
    rw [List.cons_append, cutsL]
    rw [cutsL] at h
    by_cases hy : y = c
    · rw [if_pos hy] at h ⊢
      cases I with
      | nil =>
        simp only [List.nil_append, List.cons.injEq] at h
        exact absurd h.2 (cutsL_ne c l)
      | cons a t =>
        simp only [List.cons_append, List.cons.injEq] at h
        rw [cutsL_snoc c x l t last h.2, ← h.1]
        split <;> rfl
    · rw [if_neg hy] at h ⊢
      cases hl : cutsL c l with
      | nil => exact absurd hl (cutsL_ne c l)
      | cons hd tl =>
        rw [hl] at h
        simp only at h
        cases I with
        | nil =>
          simp only [List.nil_append, List.cons.injEq] at h
          obtain ⟨rfl, rfl⟩ := h
          rw [cutsL_snoc c x l [] hd hl]
          by_cases hx : x = c <;> simp [hx]
        | cons a t =>
          simp only [List.cons_append, List.cons.injEq] at h
          obtain ⟨rfl, rfl⟩ := h
          rw [cutsL_snoc c x l (hd :: t) last (by rw [hl]; rfl)]
          by_cases hx : x = c <;> simp [hx]
theorem cutsL_len (c : UInt8) : ∀ (l : List UInt8), ∀ p ∈ cutsL c l, p.length ≤ l.length
  | [], p, h => by simp [cutsL] at h; simp [h]
  | x :: r, p, h => by
    rw [cutsL] at h
    split at h
    · rcases List.mem_cons.1 h with rfl | h
      · simp
      · have := cutsL_len c r p h; simp; omega
    · cases hr : cutsL c r with
      | nil => rw [hr] at h; simp only [List.mem_singleton] at h; subst h; simp
      | cons hd tl =>
        rw [hr] at h
        simp only at h
        have ih := cutsL_len c r
        rw [hr] at ih
        rcases List.mem_cons.1 h with rfl | h
        · have := ih hd (List.mem_cons_self ..); simp; omega
        · have := ih p (List.mem_cons_of_mem _ h); simp; omega
theorem cutsL_count (c : UInt8) : ∀ (l : List UInt8), (cutsL c l).length ≤ l.length + 1
  | [] => by simp [cutsL]
  | x :: r => by
    have ih := cutsL_count c r
    rw [cutsL]
    split
    · simp only [List.length_cons]; omega
    · cases hr : cutsL c r with
      | nil => simp
      | cons hd tl => rw [hr] at ih; simp only [List.length_cons] at ih ⊢; omega

def strV (l : List UInt8) : Value := .string ⟨l.toArray⟩
/-- A call that returns a row of strings of its own. -/
def NewStrings (w : World) (L : List (List UInt8)) : Ending → World → Prop := fun e w' =>
  ∃ oa cap, e = .returned (.slice oa L.length cap) ∧ Owns w' w.heap.size 1 oa L.length cap (L.map strV) ∧ Below w.heap.size w w'

theorem slice_one (s : ByteArray) (k : Nat) (h : k < s.size) (w : World) : (Instr.slice 9 (.string s) (some (.int .i64 (k : Int))) (some (.int .i64 ((k : Int) + 1))) none).run Tryd.prog w = .ok (.string ⟨[s[k]].toArray⟩) w := by
  have e : s.extract k (k + 1) = ⟨[s[k]].toArray⟩ := by
    apply WideShapes.bytes_inj
    rw [Lib.extract_data]
    have := drop_cons8 s k h
    rw [show k + 1 - k = 1 by omega, this]
    rfl
  rw [run_slice_string w 9 s .i64 .i64 (k : Int) ((k : Int) + 1) Tryd.underlying9 (by omega) (by omega) (by omega)]
  rw [show ((k : Int) + 1).toNat = k + 1 by omega, Int.toNat_natCast, e]
theorem info_str : (Tryd.prog.info? 9).map (fun i => (i.zero, i.size, i.bytes)) = some (some (.string ⟨#[]⟩), 1, 16) := by kernel_rfl

set_option maxHeartbeats 4000000 in
theorem cuts_any (s : ByteArray) (c : UInt8) (w : World) (hs : s.size ≤ 1000) : Calls Tryd.prog 34 #[.string s, .int .u8 (c.toNat : Int)] w (NewStrings w (cutsL c s.data.toList)) := by
  go_enter Tryd.func34, Tryd.ntmps34
  go_wp2_with fail
  go_loopw [5, 6] (fun u5 u6 wr => ∃ (k : Nat) (oa : Option Addr) (n cap : Nat) (L : List (List UInt8)), k ≤ s.size ∧ u6 = .int .i64 k ∧ u5 = .slice oa n cap ∧ Hid (n = L.length) ∧ Hid (cutsL c (s.data.toList.take k) = L) ∧ Hid (Owns wr w.heap.size 1 oa n cap (L.map strV)) ∧ Hid (Below w.heap.size w wr)) (fun _ u6 _ => (s.size : Int) - intOf u6 |>.toNat)
  case atStart =>
    exact ⟨0, _, 1, 1, [[]], Nat.zero_le _, rfl, rfl, Lib.hid rfl, Lib.hid rfl, Lib.hid (Owns.made _ 1 1 _ _ (Nat.le_refl _) (Nat.le_refl 1) (Nat.le_refl 1) (by decide) rfl), Lib.hid ((Below.refl _ _).alloc (Nat.le_refl _) _)⟩
  case round =>
    obtain ⟨k, oa, n, cap, L, hk, rfl, rfl, HNL, HL, HO, HB⟩ := hrel
    by_cases hlt : k < s.size
    · have hts := take_snoc8 s k hlt
      obtain ⟨I, last, hI⟩ := cutsL_last c (s.data.toList.take k)
      have hsn := cutsL_snoc c s[k] _ I last hI
      rw [← hts] at hsn
      have hLI : L = I ++ [last] := HL.out.symm.trans hI
      have HSN := Lib.hid hsn
      have HLI := Lib.hid hLI
      have hn : n = I.length + 1 := by rw [HNL.out, hLI]; simp
      have hlen : last.length ≤ 1000 := by
        have := cutsL_len c (s.data.toList.take k) last (by rw [hI]; simp)
        rw [List.length_take] at this; omega
      have hcnt : n ≤ 1001 := by
        have := cutsL_count c (s.data.toList.take k)
        rw [HL.out, ← HNL.out, List.length_take] at this; omega
      have HN := Lib.hid hn
      clear hsn hLI hts hI hn
      have hix := index_byte s k hlt _ rfl
      by_cases hx : s[k] = c
      · have heq : ((s[k].toNat : Int) == (c.toNat : Int)) = true := by rw [hx]; simp
        go_wp2_with (at_builtin; refine Stopped.of ?_)
        refine Stopped.mk ?_
        have hb := HB.out
        refine wpList_append_owns _ rfl _ _ 65 rfl 9 (.string ⟨#[]⟩) 1 16 w.heap.size Tryd.underlying65 info_str rfl (by decide) oa n cap _ rfl (HO.out.alloc _) ⟨wr.heap.size, 0, none⟩ 1 1 [.string ⟨#[]⟩] rfl rfl ?_ ?_ (by decide) ?_ ?_ ?_ ?_
        · exact news_new _ _ _
        · simp [Value.oneCell']
        · unfold maxLen; omega
        · omega
        · simp only [World.size_alloc]; have := hb.size; omega
        intro oa' cap' w' ho' hg hd
        have hb2 : Below w.heap.size w w' := Below.appended (hb.alloc hb.size _) (HO.out.alloc _) (Nat.le_refl _) hg (by simp only [World.size_alloc]; have := hb.size; omega)
        have HL2 : Hid (cutsL c (s.data.toList.take (k + 1)) = L ++ [[]]) := Lib.hid (by rw [HSN.out, if_pos hx, HLI.out])
        clear hg hd hb
        go_wp2_with fail
        go_roundw
        case rel =>
          refine ⟨k + 1, oa', n + 1, cap', L ++ [[]], by omega, by go_num, by first | rfl | (congr 1), Lib.hid (by rw [List.length_append, HNL.out]; rfl), HL2, Lib.hid ?_, Lib.hid hb2⟩
          rw [List.map_append]; exact ho'
        case measure => simp [intOf]; omega
      · obtain rfl := HN.out
        obtain ⟨g, off, rfl, hbg, hg, hc, ht⟩ := HO.out.here (by omega)
        have hcl := hc I.length (strV last) (by rw [HLI.out, List.map_append, List.getElem?_append_right (by simp)]; simp)
        have hfz := (ht I.length (by have := HO.out.le; omega)).2
        have hle := HO.out.le
        unfold strV at hcl
        obtain ⟨X, hX⟩ : ∃ X, [s[k]] = X := ⟨_, rfl⟩
        have hXl : X.length = 1 := by rw [← hX]; rfl
        have hcat := concat_small last X (by omega) (by omega)
        have HL3 : Hid (last.length + X.length ≤ 9223372036854775807) := Lib.hid (by omega)
        have hsl := slice_one s k hlt
        rw [hX] at hsl
        have HX := Lib.hid hX
        clear hX hXl
        have heq : ((s[k].toNat : Int) == (c.toNat : Int)) = false := by
          have : s[k].toNat ≠ c.toNat := fun e => hx (UInt8.toNat_inj.1 e)
          simp; omega
        clear hc ht
        generalize s[k] = x at *
        go_wp2_with fail
        have hIl : I.length ≤ 1000 := by omega
        have hwr : IntKind.i64.wrap (I.length : Int) = (I.length : Int) := IntWalk.i64_in _ (by omega)
        have hi0 : (0 : Int) ≤ (I.length : Int) := by omega
        have hi1 : (I.length : Int) < (I.length : Int) + 1 := by omega
        clear hlen hcnt
        have hl3 := HL3.out
        go_region
        have hval : (Value.string ((⟨last.toArray⟩ : ByteArray) ++ ⟨X.toArray⟩)) = strV (last ++ [x]) := by rw [bytes_append, ← HX.out]; rfl
        rw [hval]
        have HVV := Lib.hid hval
        have HL2 : Hid (cutsL c (s.data.toList.take (k + 1)) = I ++ [last ++ [x]]) := Lib.hid (by rw [HSN.out, if_neg hx])
        have HO2 : Hid (Owns (wr.setCell ⟨g, off + I.length, none⟩ (strV (last ++ [x]))).drew w.heap.size 1 (some ⟨g, off, none⟩) (I.length + 1) cap ((I ++ [last ++ [x]]).map strV)) := Lib.hid (by
          have h := (HO.out.set I.length (by omega) (strV (last ++ [x]))).drew
          have e : (L.map strV).set I.length (strV (last ++ [x])) = (I ++ [last ++ [x]]).map strV := by
            rw [HLI.out, List.map_append, List.map_append, List.set_append_right _ _ (by simp)]
            simp
          rwa [e] at h)
        have HB2 : Hid (Below w.heap.size w (wr.setCell ⟨g, off + I.length, none⟩ (strV (last ++ [x]))).drew) := Lib.hid ((HB.out.setCell (by simp only; exact hbg) _).drew)
        clear hval hcl hcat hsl
        generalize (wr.setCell ⟨g, off + I.length, none⟩ (strV (last ++ [x]))).drew = wz at *
        go_wp2_with fail
        go_roundw
        case rel => exact ⟨k + 1, some ⟨g, off, none⟩, I.length + 1, cap, I ++ [last ++ [x]], by omega, by go_num, rfl, Lib.hid (by simp), HL2, HO2, HB2⟩
        case measure => simp [intOf]; omega
    · obtain rfl : k = s.size := by omega
      have HF : Hid (s.data.toList.take s.size = s.data.toList) := Lib.hid (List.take_of_length_le (by rw [Array.length_toList, ByteArray.size_data]; exact Nat.le_refl _))
      go_wp2_with fail
      go_ret
      have hl := HL.out
      rw [HF.out] at hl
      obtain rfl := HNL.out
      rw [hl]
      exact ⟨oa, cap, rfl, HO.out, HB.out⟩
end Go.Proofs.YtcadpcppnllhnaaDoor
