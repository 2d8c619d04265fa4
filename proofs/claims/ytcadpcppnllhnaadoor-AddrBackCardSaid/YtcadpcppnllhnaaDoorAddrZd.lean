/- Walks: both Cmp; a prefix's text. -/
import Derived.Test.YtcadpcppnllhnaaDoorAddrZb
import Derived.Test.YtcadpcppnllhnaaDoorAddrR
set_option linter.unusedSimpArgs false
set_option linter.unusedVariables false
namespace Go.Proofs.YtcadpcppnllhnaaDoor
open Go.RowKit

set_option maxRecDepth 20000 in
set_option maxHeartbeats 8000000 in
theorem cmp_any (s : Bool) (B : Nat → Int) (t : Bool) (A : Nat → Int) (hB : U8 B) (hA : U8 A) (w : World) :
    Calls Tryd.prog 24 #[adV s B, adV t A] w (RetAt w (.int .i64 (adCmp s B t A))) := by
  have HB := Lib.hid (show Below w.heap.size w ((w.alloc (.cells #[.bool s, .int .u8 (B 0), .int .u8 (B 1), .int .u8 (B 2), .int .u8 (B 3), .int .u8 (B 4), .int .u8 (B 5), .int .u8 (B 6), .int .u8 (B 7), .int .u8 (B 8), .int .u8 (B 9), .int .u8 (B 10), .int .u8 (B 11), .int .u8 (B 12), .int .u8 (B 13), .int .u8 (B 14), .int .u8 (B 15)] 25)).alloc (.cells #[.bool t, .int .u8 (A 0), .int .u8 (A 1), .int .u8 (A 2), .int .u8 (A 3), .int .u8 (A 4), .int .u8 (A 5), .int .u8 (A 6), .int .u8 (A 7), .int .u8 (A 8), .int .u8 (A 9), .int .u8 (A 10), .int .u8 (A 11), .int .u8 (A 12), .int .u8 (A 13), .int .u8 (A 14), .int .u8 (A 15)] 25)) from Below.all (Below.all (Below.refl _ _) _) _)
  have HX : Hid (AdBox ((w.alloc (.cells #[.bool s, .int .u8 (B 0), .int .u8 (B 1), .int .u8 (B 2), .int .u8 (B 3), .int .u8 (B 4), .int .u8 (B 5), .int .u8 (B 6), .int .u8 (B 7), .int .u8 (B 8), .int .u8 (B 9), .int .u8 (B 10), .int .u8 (B 11), .int .u8 (B 12), .int .u8 (B 13), .int .u8 (B 14), .int .u8 (B 15)] 25)).alloc (.cells #[.bool t, .int .u8 (A 0), .int .u8 (A 1), .int .u8 (A 2), .int .u8 (A 3), .int .u8 (A 4), .int .u8 (A 5), .int .u8 (A 6), .int .u8 (A 7), .int .u8 (A 8), .int .u8 (A 9), .int .u8 (A 10), .int .u8 (A 11), .int .u8 (A 12), .int .u8 (A 13), .int .u8 (A 14), .int .u8 (A 15)] 25)) w.heap.size 25 s B) := Lib.hid ⟨heap_alloc2_old w (.cells #[.bool s, .int .u8 (B 0), .int .u8 (B 1), .int .u8 (B 2), .int .u8 (B 3), .int .u8 (B 4), .int .u8 (B 5), .int .u8 (B 6), .int .u8 (B 7), .int .u8 (B 8), .int .u8 (B 9), .int .u8 (B 10), .int .u8 (B 11), .int .u8 (B 12), .int .u8 (B 13), .int .u8 (B 14), .int .u8 (B 15)] 25) (.cells #[.bool t, .int .u8 (A 0), .int .u8 (A 1), .int .u8 (A 2), .int .u8 (A 3), .int .u8 (A 4), .int .u8 (A 5), .int .u8 (A 6), .int .u8 (A 7), .int .u8 (A 8), .int .u8 (A 9), .int .u8 (A 10), .int .u8 (A 11), .int .u8 (A 12), .int .u8 (A 13), .int .u8 (A 14), .int .u8 (A 15)] 25)⟩
  have HY : Hid (AdBox ((w.alloc (.cells #[.bool s, .int .u8 (B 0), .int .u8 (B 1), .int .u8 (B 2), .int .u8 (B 3), .int .u8 (B 4), .int .u8 (B 5), .int .u8 (B 6), .int .u8 (B 7), .int .u8 (B 8), .int .u8 (B 9), .int .u8 (B 10), .int .u8 (B 11), .int .u8 (B 12), .int .u8 (B 13), .int .u8 (B 14), .int .u8 (B 15)] 25)).alloc (.cells #[.bool t, .int .u8 (A 0), .int .u8 (A 1), .int .u8 (A 2), .int .u8 (A 3), .int .u8 (A 4), .int .u8 (A 5), .int .u8 (A 6), .int .u8 (A 7), .int .u8 (A 8), .int .u8 (A 9), .int .u8 (A 10), .int .u8 (A 11), .int .u8 (A 12), .int .u8 (A 13), .int .u8 (A 14), .int .u8 (A 15)] 25)) (w.heap.size + 1) 25 t A) := Lib.hid ⟨heap_alloc2_new w (.cells #[.bool s, .int .u8 (B 0), .int .u8 (B 1), .int .u8 (B 2), .int .u8 (B 3), .int .u8 (B 4), .int .u8 (B 5), .int .u8 (B 6), .int .u8 (B 7), .int .u8 (B 8), .int .u8 (B 9), .int .u8 (B 10), .int .u8 (B 11), .int .u8 (B 12), .int .u8 (B 13), .int .u8 (B 14), .int .u8 (B 15)] 25) (.cells #[.bool t, .int .u8 (A 0), .int .u8 (A 1), .int .u8 (A 2), .int .u8 (A 3), .int .u8 (A 4), .int .u8 (A 5), .int .u8 (A 6), .int .u8 (A 7), .int .u8 (A 8), .int .u8 (A 9), .int .u8 (A 10), .int .u8 (A 11), .int .u8 (A 12), .int .u8 (A 13), .int .u8 (A 14), .int .u8 (A 15)] 25)⟩
  have HU1 := Lib.hid (b16_u8 hB)
  have HU2 := Lib.hid (b16_u8 hA)
  have HV : Hid (adCmp s B t A = if s = t then cmpI (b16 B) (b16 A) else if s = true then 1 else -1) := Lib.hid rfl
  have HG1 := Lib.hid (fun j x (h : (b16 B)[j]? = some x) => (b16_at h))
  have HG2 := Lib.hid (fun j x (h : (b16 A)[j]? = some x) => (b16_at h))
  have HL1 : Hid ((b16 B).length = 16) := Lib.hid rfl
  have HL2 : Hid ((b16 A).length = 16) := Lib.hid rfl
  clear hB hA
  generalize adCmp s B t A = v at *
  generalize b16 B = xs at *
  generalize b16 A = ys at *
  unfold adV
  by_cases hst : s = t
  · subst hst
    rw [if_pos rfl] at HV
    have hss : (s == s) = true := by simp
    go_enter Tryd.func24, Tryd.ntmps24
    go_wp2_with fail
    generalize (w.alloc (.cells #[.bool s, .int .u8 (B 0), .int .u8 (B 1), .int .u8 (B 2), .int .u8 (B 3), .int .u8 (B 4), .int .u8 (B 5), .int .u8 (B 6), .int .u8 (B 7), .int .u8 (B 8), .int .u8 (B 9), .int .u8 (B 10), .int .u8 (B 11), .int .u8 (B 12), .int .u8 (B 13), .int .u8 (B 14), .int .u8 (B 15)] 25)).alloc (.cells #[.bool s, .int .u8 (A 0), .int .u8 (A 1), .int .u8 (A 2), .int .u8 (A 3), .int .u8 (A 4), .int .u8 (A 5), .int .u8 (A 6), .int .u8 (A 7), .int .u8 (A 8), .int .u8 (A 9), .int .u8 (A 10), .int .u8 (A 11), .int .u8 (A 12), .int .u8 (A 13), .int .u8 (A 14), .int .u8 (A 15)] 25) = w1 at *
    have hsx := HX.out.six
    have hsy := HY.out.six
    go_wp2_with fail
    have HCA := Lib.hid (fun (x : Later w1) => compare_any w.heap.size 1 16 (w.heap.size + 1) 1 16 16 xs ys x.world HL1.out HL2.out (fun j u hu => by
      obtain ⟨hj, rfl⟩ := HG1.out j u hu
      exact (HX.out.below x.below).cell j hj) (fun j u hu => by
      obtain ⟨hj, rfl⟩ := HG2.out j u hu
      exact (HY.out.below x.below).cell j hj) HU1.out HU2.out)
    have HCB : Hid (∀ (x : Later w1), Calls Tryd.prog 50 #[.slice (some ⟨w.heap.size, 1, none⟩) 16 16, .slice (some ⟨w.heap.size + 1, 1, none⟩) 16 16] x.world (RetAt x.world (.int .i64 (cmpI xs ys)))) := Lib.hid fun x => by
      refine Calls.mono (HCA.out x) ?_
      rintro e w' ⟨rfl, rfl⟩
      exact .mk rfl (Below.refl _ _)
    clear HCA hsx hsy
    refine wp_region_later (by kernel_rfl) (by kernel_rfl) ?_
    repeat go_big_quiet_step ((go_at_call 50; exact later_call (HCB.out _)))
    refine wpQuiet_nil ?_
    intro x
    go_wp2_with fail
    go_ret
    exact .mk (val_int HV.out.symm) (HB.out.trans (x.below.mono HB.out.size))
  · rw [if_neg hst] at HV
    cases s
    · have htt : t = true := by cases t; exact absurd rfl hst; rfl
      subst htt
      clear hst
      have HV2 : Hid (v = -1) := Lib.hid (by rw [HV.out]; rfl)
      clear HV
      go_enter Tryd.func24, Tryd.ntmps24
      go_wp2_with fail
      generalize (w.alloc (.cells #[.bool false, .int .u8 (B 0), .int .u8 (B 1), .int .u8 (B 2), .int .u8 (B 3), .int .u8 (B 4), .int .u8 (B 5), .int .u8 (B 6), .int .u8 (B 7), .int .u8 (B 8), .int .u8 (B 9), .int .u8 (B 10), .int .u8 (B 11), .int .u8 (B 12), .int .u8 (B 13), .int .u8 (B 14), .int .u8 (B 15)] 25)).alloc (.cells #[.bool true, .int .u8 (A 0), .int .u8 (A 1), .int .u8 (A 2), .int .u8 (A 3), .int .u8 (A 4), .int .u8 (A 5), .int .u8 (A 6), .int .u8 (A 7), .int .u8 (A 8), .int .u8 (A 9), .int .u8 (A 10), .int .u8 (A 11), .int .u8 (A 12), .int .u8 (A 13), .int .u8 (A 14), .int .u8 (A 15)] 25) = w1 at *
      have hsx := HX.out.six
      have hsy := HY.out.six
      go_wp2_with fail
      go_ret
      exact .mk (val_int HV2.out.symm) HB.out
    · have htt : t = false := by cases t; rfl; exact absurd rfl hst
      subst htt
      clear hst
      have HV2 : Hid (v = 1) := Lib.hid (by rw [HV.out]; rfl)
      clear HV
      go_enter Tryd.func24, Tryd.ntmps24
      go_wp2_with fail
      generalize (w.alloc (.cells #[.bool true, .int .u8 (B 0), .int .u8 (B 1), .int .u8 (B 2), .int .u8 (B 3), .int .u8 (B 4), .int .u8 (B 5), .int .u8 (B 6), .int .u8 (B 7), .int .u8 (B 8), .int .u8 (B 9), .int .u8 (B 10), .int .u8 (B 11), .int .u8 (B 12), .int .u8 (B 13), .int .u8 (B 14), .int .u8 (B 15)] 25)).alloc (.cells #[.bool false, .int .u8 (A 0), .int .u8 (A 1), .int .u8 (A 2), .int .u8 (A 3), .int .u8 (A 4), .int .u8 (A 5), .int .u8 (A 6), .int .u8 (A 7), .int .u8 (A 8), .int .u8 (A 9), .int .u8 (A 10), .int .u8 (A 11), .int .u8 (A 12), .int .u8 (A 13), .int .u8 (A 14), .int .u8 (A 15)] 25) = w1 at *
      have hsx := HX.out.six
      have hsy := HY.out.six
      go_wp2_with fail
      go_ret
      exact .mk (val_int HV2.out.symm) HB.out

theorem cmpI_drop (B A : Nat → Int) (k : Nat) (hk : k < 16) : cmpI ((b16 B).drop k) ((b16 A).drop k) = if B k < A k then -1 else if A k < B k then 1 else cmpI ((b16 B).drop (k + 1)) ((b16 A).drop (k + 1)) := by
  have e : ∀ C : Nat → Int, (b16 C).drop k = C k :: (b16 C).drop (k + 1) := fun C => by
    have hl : k < (b16 C).length := hk
    rw [List.drop_eq_getElem_cons hl]
    have := b16_get C k hk
    rw [List.getElem?_eq_getElem hl] at this
    rw [Option.some.inj this]
  rw [e B, e A]; rfl

set_option maxRecDepth 20000 in
set_option maxHeartbeats 8000000 in
theorem rcmp_any (s : Bool) (B : Nat → Int) (t : Bool) (A : Nat → Int) (hB : U8 B) (hA : U8 A) (w : World) :
    Calls Tryd.prog 25 #[adV s B, adV t A] w (RetAt w (.int .i64 (adCmp s B t A))) := by
  have HB := Lib.hid (show Below w.heap.size w ((w.alloc (.cells #[.bool s, .int .u8 (B 0), .int .u8 (B 1), .int .u8 (B 2), .int .u8 (B 3), .int .u8 (B 4), .int .u8 (B 5), .int .u8 (B 6), .int .u8 (B 7), .int .u8 (B 8), .int .u8 (B 9), .int .u8 (B 10), .int .u8 (B 11), .int .u8 (B 12), .int .u8 (B 13), .int .u8 (B 14), .int .u8 (B 15)] 29)).alloc (.cells #[.bool t, .int .u8 (A 0), .int .u8 (A 1), .int .u8 (A 2), .int .u8 (A 3), .int .u8 (A 4), .int .u8 (A 5), .int .u8 (A 6), .int .u8 (A 7), .int .u8 (A 8), .int .u8 (A 9), .int .u8 (A 10), .int .u8 (A 11), .int .u8 (A 12), .int .u8 (A 13), .int .u8 (A 14), .int .u8 (A 15)] 29)) from Below.all (Below.all (Below.refl _ _) _) _)
  have HX : Hid (AdBox ((w.alloc (.cells #[.bool s, .int .u8 (B 0), .int .u8 (B 1), .int .u8 (B 2), .int .u8 (B 3), .int .u8 (B 4), .int .u8 (B 5), .int .u8 (B 6), .int .u8 (B 7), .int .u8 (B 8), .int .u8 (B 9), .int .u8 (B 10), .int .u8 (B 11), .int .u8 (B 12), .int .u8 (B 13), .int .u8 (B 14), .int .u8 (B 15)] 29)).alloc (.cells #[.bool t, .int .u8 (A 0), .int .u8 (A 1), .int .u8 (A 2), .int .u8 (A 3), .int .u8 (A 4), .int .u8 (A 5), .int .u8 (A 6), .int .u8 (A 7), .int .u8 (A 8), .int .u8 (A 9), .int .u8 (A 10), .int .u8 (A 11), .int .u8 (A 12), .int .u8 (A 13), .int .u8 (A 14), .int .u8 (A 15)] 29)) w.heap.size 29 s B) := Lib.hid ⟨heap_alloc2_old w (.cells #[.bool s, .int .u8 (B 0), .int .u8 (B 1), .int .u8 (B 2), .int .u8 (B 3), .int .u8 (B 4), .int .u8 (B 5), .int .u8 (B 6), .int .u8 (B 7), .int .u8 (B 8), .int .u8 (B 9), .int .u8 (B 10), .int .u8 (B 11), .int .u8 (B 12), .int .u8 (B 13), .int .u8 (B 14), .int .u8 (B 15)] 29) (.cells #[.bool t, .int .u8 (A 0), .int .u8 (A 1), .int .u8 (A 2), .int .u8 (A 3), .int .u8 (A 4), .int .u8 (A 5), .int .u8 (A 6), .int .u8 (A 7), .int .u8 (A 8), .int .u8 (A 9), .int .u8 (A 10), .int .u8 (A 11), .int .u8 (A 12), .int .u8 (A 13), .int .u8 (A 14), .int .u8 (A 15)] 29)⟩
  have HY : Hid (AdBox ((w.alloc (.cells #[.bool s, .int .u8 (B 0), .int .u8 (B 1), .int .u8 (B 2), .int .u8 (B 3), .int .u8 (B 4), .int .u8 (B 5), .int .u8 (B 6), .int .u8 (B 7), .int .u8 (B 8), .int .u8 (B 9), .int .u8 (B 10), .int .u8 (B 11), .int .u8 (B 12), .int .u8 (B 13), .int .u8 (B 14), .int .u8 (B 15)] 29)).alloc (.cells #[.bool t, .int .u8 (A 0), .int .u8 (A 1), .int .u8 (A 2), .int .u8 (A 3), .int .u8 (A 4), .int .u8 (A 5), .int .u8 (A 6), .int .u8 (A 7), .int .u8 (A 8), .int .u8 (A 9), .int .u8 (A 10), .int .u8 (A 11), .int .u8 (A 12), .int .u8 (A 13), .int .u8 (A 14), .int .u8 (A 15)] 29)) (w.heap.size + 1) 29 t A) := Lib.hid ⟨heap_alloc2_new w (.cells #[.bool s, .int .u8 (B 0), .int .u8 (B 1), .int .u8 (B 2), .int .u8 (B 3), .int .u8 (B 4), .int .u8 (B 5), .int .u8 (B 6), .int .u8 (B 7), .int .u8 (B 8), .int .u8 (B 9), .int .u8 (B 10), .int .u8 (B 11), .int .u8 (B 12), .int .u8 (B 13), .int .u8 (B 14), .int .u8 (B 15)] 29) (.cells #[.bool t, .int .u8 (A 0), .int .u8 (A 1), .int .u8 (A 2), .int .u8 (A 3), .int .u8 (A 4), .int .u8 (A 5), .int .u8 (A 6), .int .u8 (A 7), .int .u8 (A 8), .int .u8 (A 9), .int .u8 (A 10), .int .u8 (A 11), .int .u8 (A 12), .int .u8 (A 13), .int .u8 (A 14), .int .u8 (A 15)] 29)⟩
  have HV : Hid (adCmp s B t A = if s = t then cmpI ((b16 B).drop 0) ((b16 A).drop 0) else if s = true then 1 else -1) := Lib.hid rfl
  have HS := Lib.hid (fun k hk => cmpI_drop B A k hk)
  have HE : Hid (cmpI ((b16 B).drop 16) ((b16 A).drop 16) = 0) := Lib.hid rfl
  have HU1 := Lib.hid hB
  have HU2 := Lib.hid hA
  clear hB hA
  generalize adCmp s B t A = v at *
  generalize hF : (fun k => cmpI ((b16 B).drop k) ((b16 A).drop k)) = F at *
  have HF : Hid (∀ k, cmpI ((b16 B).drop k) ((b16 A).drop k) = F k) := Lib.hid fun k => by rw [← hF]
  have HV2 : Hid (v = if s = t then F 0 else if s = true then 1 else -1) := Lib.hid (by rw [← HF.out 0]; exact HV.out)
  have HS2 : Hid (∀ k, k < 16 → F k = if B k < A k then -1 else if A k < B k then 1 else F (k + 1)) := Lib.hid fun k hk => by rw [← HF.out k, ← HF.out (k + 1)]; exact HS.out k hk
  have HE2 : Hid (F 16 = 0) := Lib.hid (by rw [← HF.out 16]; exact HE.out)
  clear hF HF HV HS HE
  unfold adV
  by_cases hst : s = t
  · subst hst
    have hss : (s == s) = true := by simp
    have HV4 : Hid (v = F 0) := Lib.hid (by rw [HV2.out, if_pos rfl])
    clear HV2
    go_enter Tryd.func25, Tryd.ntmps25
    go_wp2_with fail
    generalize (w.alloc (.cells #[.bool s, .int .u8 (B 0), .int .u8 (B 1), .int .u8 (B 2), .int .u8 (B 3), .int .u8 (B 4), .int .u8 (B 5), .int .u8 (B 6), .int .u8 (B 7), .int .u8 (B 8), .int .u8 (B 9), .int .u8 (B 10), .int .u8 (B 11), .int .u8 (B 12), .int .u8 (B 13), .int .u8 (B 14), .int .u8 (B 15)] 29)).alloc (.cells #[.bool s, .int .u8 (A 0), .int .u8 (A 1), .int .u8 (A 2), .int .u8 (A 3), .int .u8 (A 4), .int .u8 (A 5), .int .u8 (A 6), .int .u8 (A 7), .int .u8 (A 8), .int .u8 (A 9), .int .u8 (A 10), .int .u8 (A 11), .int .u8 (A 12), .int .u8 (A 13), .int .u8 (A 14), .int .u8 (A 15)] 29) = w1 at *
    have hsx := HX.out.six
    have hsy := HY.out.six
    go_wp2_with fail
    clear hsx hsy
    go_loopw [5] (fun u5 wr => ∃ k : Nat, k ≤ 16 ∧ u5 = .int .i64 k ∧ Hid (v = F k) ∧ Hid (AdBox wr w.heap.size 29 s B) ∧ Hid (AdBox wr (w.heap.size + 1) 29 s A) ∧ Hid (Below w.heap.size w wr)) (fun u5 _ => (16 : Int) - intOf u5 |>.toNat)
    case atStart => exact ⟨0, by omega, rfl, HV4, HX, HY, HB⟩
    case round =>
      obtain ⟨k, hk, rfl, HVk, HX, HY, HW⟩ := hrel
      by_cases hlt : k < 16
      · have hcx := HX.out.cell k hlt
        have hcy := HY.out.cell k hlt
        have HSk := Lib.hid (HS2.out k hlt)
        have hb1 := HU1.out k
        have hb2 := HU2.out k
        generalize B k = x at *
        generalize A k = y at *
        by_cases h1 : x < y
        · have HR : Hid (v = -1) := Lib.hid (by rw [HVk.out, HSk.out, if_pos h1])
          clear HVk HSk
          go_wp2_with fail
          go_region
          go_wp2_with fail
          go_ret
          exact .mk (val_int HR.out.symm) HW.out.drew
        · by_cases h2 : y < x
          · have HR : Hid (v = 1) := Lib.hid (by rw [HVk.out, HSk.out, if_neg h1, if_pos h2])
            clear HVk HSk
            go_wp2_with fail
            go_region
            go_wp2_with fail
            go_region
            go_wp2_with fail
            go_ret
            exact .mk (val_int HR.out.symm) HW.out.drew.drew
          · have HR : Hid (v = F (k + 1)) := Lib.hid (by rw [HVk.out, HSk.out, if_neg h1, if_neg h2])
            clear HVk HSk
            go_wp2_with fail
            go_region
            go_wp2_with fail
            go_region
            go_wp2_with fail
            go_roundw
            case rel => exact ⟨k + 1, by omega, by go_num, HR, Lib.hid ((HX.out.below (Below.refl _ _).drew).below (Below.refl _ _).drew), Lib.hid ((HY.out.below (Below.refl _ _).drew).below (Below.refl _ _).drew), Lib.hid HW.out.drew.drew⟩
            case measure => simp [intOf]; omega
      · obtain rfl : k = 16 := by omega
        have HR : Hid (v = 0) := Lib.hid (by rw [HVk.out]; exact HE2.out)
        clear HVk
        go_wp2_with fail
        go_ret
        exact .mk (val_int HR.out.symm) HW.out
  · cases s
    · have htt : t = true := by cases t; exact absurd rfl hst; rfl
      subst htt
      clear hst
      have HV4 : Hid (v = -1) := Lib.hid (by rw [HV2.out, if_neg (by decide)]; rfl)
      clear HV2
      go_enter Tryd.func25, Tryd.ntmps25
      go_wp2_with fail
      generalize (w.alloc (.cells #[.bool false, .int .u8 (B 0), .int .u8 (B 1), .int .u8 (B 2), .int .u8 (B 3), .int .u8 (B 4), .int .u8 (B 5), .int .u8 (B 6), .int .u8 (B 7), .int .u8 (B 8), .int .u8 (B 9), .int .u8 (B 10), .int .u8 (B 11), .int .u8 (B 12), .int .u8 (B 13), .int .u8 (B 14), .int .u8 (B 15)] 29)).alloc (.cells #[.bool true, .int .u8 (A 0), .int .u8 (A 1), .int .u8 (A 2), .int .u8 (A 3), .int .u8 (A 4), .int .u8 (A 5), .int .u8 (A 6), .int .u8 (A 7), .int .u8 (A 8), .int .u8 (A 9), .int .u8 (A 10), .int .u8 (A 11), .int .u8 (A 12), .int .u8 (A 13), .int .u8 (A 14), .int .u8 (A 15)] 29) = w1 at *
      have hsx := HX.out.six
      have hsy := HY.out.six
      go_wp2_with fail
      go_ret
      exact .mk (val_int HV4.out.symm) HB.out
    · have htt : t = false := by cases t; rfl; exact absurd rfl hst
      subst htt
      clear hst
      have HV4 : Hid (v = 1) := Lib.hid (by rw [HV2.out, if_neg (by decide)]; rfl)
      clear HV2
      go_enter Tryd.func25, Tryd.ntmps25
      go_wp2_with fail
      generalize (w.alloc (.cells #[.bool true, .int .u8 (B 0), .int .u8 (B 1), .int .u8 (B 2), .int .u8 (B 3), .int .u8 (B 4), .int .u8 (B 5), .int .u8 (B 6), .int .u8 (B 7), .int .u8 (B 8), .int .u8 (B 9), .int .u8 (B 10), .int .u8 (B 11), .int .u8 (B 12), .int .u8 (B 13), .int .u8 (B 14), .int .u8 (B 15)] 29)).alloc (.cells #[.bool false, .int .u8 (A 0), .int .u8 (A 1), .int .u8 (A 2), .int .u8 (A 3), .int .u8 (A 4), .int .u8 (A 5), .int .u8 (A 6), .int .u8 (A 7), .int .u8 (A 8), .int .u8 (A 9), .int .u8 (A 10), .int .u8 (A 11), .int .u8 (A 12), .int .u8 (A 13), .int .u8 (A 14), .int .u8 (A 15)] 29) = w1 at *
      have hsx := HX.out.six
      have hsy := HY.out.six
      go_wp2_with fail
      go_ret
      exact .mk (val_int HV4.out.symm) HB.out

/-- A prefix's text. -/
def pfText (s : Bool) (B : Nat → Int) (n : Int) : List UInt8 := if rightPB s B n = true then adText s B ++ [47] ++ Lib.decDigits n.toNat else []
theorem text4_len (b : Nat → Nat) (hb : ∀ i, b i < 256) : (text4 b).length ≤ 100000 := by
  refine Nat.le_trans (joinL_len 46 257 _ fun p hp => ?_) (by simp)
  obtain ⟨i, -, rfl⟩ := List.mem_map.1 hp
  exact decDigits_small _ (hb i)
theorem text6_len (g : Nat → Nat) (hg : ∀ i, g i < 65536) : (text6 g).length ≤ 100000 := by
  have hp : ∀ p ∈ (List.range 8).map fun i => digB 16 (g i), p.length ≤ 4 := fun p hp => by
    obtain ⟨i, -, rfl⟩ := List.mem_map.1 hp
    exact digB16_len _ (hg i)
  rw [text6_of]
  split
  · exact Nat.le_trans (joinL_len 58 4 _ hp) (by simp)
  · have h1 := joinL_len 58 4 (((List.range 8).map fun i => digB 16 (g i)).take (noughtsZ (zg g)).1) (fun p h => hp p (List.mem_of_mem_take h))
    have h2 := joinL_len 58 4 (((List.range 8).map fun i => digB 16 (g i)).drop (noughtsZ (zg g)).2) (fun p h => hp p (List.mem_of_mem_drop h))
    rw [List.length_take, List.length_map, List.length_range] at h1
    rw [List.length_drop, List.length_map, List.length_range] at h2
    simp only [List.length_append, List.length_cons, List.length_nil]
    have h3 : min (noughtsZ (zg g)).1 8 * (4 + 1) ≤ 40 := by have := Nat.min_le_right (noughtsZ (zg g)).1 8; omega
    have h4 : (8 - (noughtsZ (zg g)).2) * (4 + 1) ≤ 40 := by omega
    omega
theorem adText_len (s : Bool) (B : Nat → Int) (hB : U8 B) : (adText s B).length ≤ 100000 := by
  unfold adText
  split
  · split
    · exact text6_len _ fun i => grpN_lt hB i
    · exact text4_len _ fun i => by have := hB i; omega
  · simp

set_option maxRecDepth 20000 in
set_option maxHeartbeats 8000000 in
theorem ptext_any (s : Bool) (B : Nat → Int) (n : Int) (hB : U8 B) (hn0 : -9223372036854775808 ≤ n) (hn1 : n ≤ 9223372036854775807) (w : World) (henv : Env w) :
    Calls Tryd.prog 27 #[pfV s B n] w (RetAt w (.string ⟨(pfText s B n).toArray⟩)) := by
  have HP := Lib.hid (fun w => pright_any s B n hB hn0 hn1 w)
  have HT := Lib.hid (fun w h => text_any s B hB w h)
  have HE := Lib.hid henv
  have hl := adText_len s B hB
  have HV : Hid (pfText s B n = if rightPB s B n = true then adText s B ++ [47] ++ Lib.decDigits n.toNat else []) := Lib.hid rfl
  have HN : Hid (rightPB s B n = true → n = (clampN s n : Int)) := Lib.hid fun h => by
    unfold rightPB at h
    simp only [Bool.and_eq_true, beq_iff_eq] at h
    exact h.2.2.symm
  have HCL := clampN_le s n
  clear henv hB
  generalize pfText s B n = T at *
  generalize adText s B = L at *
  generalize hp : rightPB s B n = bp at *
  have HX : Hid (PfBox (w.alloc (.cells #[.bool s, .int .u8 (B 0), .int .u8 (B 1), .int .u8 (B 2), .int .u8 (B 3), .int .u8 (B 4), .int .u8 (B 5), .int .u8 (B 6), .int .u8 (B 7), .int .u8 (B 8), .int .u8 (B 9), .int .u8 (B 10), .int .u8 (B 11), .int .u8 (B 12), .int .u8 (B 13), .int .u8 (B 14), .int .u8 (B 15), .int .i64 n] 33)) w.heap.size 33 s B n) := Lib.hid (PfBox.made w _ s B n)
  have HW : Hid (Below w.heap.size w (w.alloc (.cells #[.bool s, .int .u8 (B 0), .int .u8 (B 1), .int .u8 (B 2), .int .u8 (B 3), .int .u8 (B 4), .int .u8 (B 5), .int .u8 (B 6), .int .u8 (B 7), .int .u8 (B 8), .int .u8 (B 9), .int .u8 (B 10), .int .u8 (B 11), .int .u8 (B 12), .int .u8 (B 13), .int .u8 (B 14), .int .u8 (B 15), .int .i64 n] 33))) := Lib.hid (Below.all (Below.refl w.heap.size w) _)
  cases bp
  · rw [if_neg (by simp)] at HV
    clear HN HCL
    unfold adV pfV at *
    go_enter Tryd.func27, Tryd.ntmps27
    go_wp2_with fail
    refine Calls.later (HP.out _) ?_
    intro x
    go_wp2_with fail
    go_ret
    exact .mk (by rw [HV.out]; rfl) (Below.lat (Below.all (Below.refl _ _) _))
  · rw [if_pos rfl] at HV
    have hn := HN.out rfl
    generalize clampN s n = m at *
    subst hn
    rw [Int.toNat_natCast] at HV
    unfold adV pfV at *
    go_enter Tryd.func27, Tryd.ntmps27
    go_wp2_with fail
    generalize w.alloc (.cells #[.bool s, .int .u8 (B 0), .int .u8 (B 1), .int .u8 (B 2), .int .u8 (B 3), .int .u8 (B 4), .int .u8 (B 5), .int .u8 (B 6), .int .u8 (B 7), .int .u8 (B 8), .int .u8 (B 9), .int .u8 (B 10), .int .u8 (B 11), .int .u8 (B 12), .int .u8 (B 13), .int .u8 (B 14), .int .u8 (B 15), .int .i64 (m : Int)] 33) = w1 at *
    refine Calls.mono (HP.out _) ?_
    rintro e w2 ⟨rfl, hb2⟩
    have HX2 := Lib.hid (HX.out.below hb2)
    have HW2 := Lib.hid (Below.via HW.out hb2)
    clear hb2 HX HW HP
    go_wp2_with fail
    have hA := HX2.out.ad
    have hN := HX2.out.len
    have hlt := HX2.out.lt
    have hld := decDigits_small m (by omega)
    have HT2 := Lib.hid (fun (x : Later w2) => HT.out x.world ((HE.out.below HW2.out).later x))
    have HI2 := Lib.hid (fun (x : Later w2) => itoa_any m (by omega) x.world ((HE.out.below HW2.out).later x))
    generalize Lib.decDigits m = D at *
    have hl1 : L.length + 1 ≤ 9223372036854775807 := by omega
    have hl2 : (L.length : Int) + 1 ≤ 9223372036854775807 := by omega
    have hl3 : L.length + 1 + D.length ≤ 9223372036854775807 := by omega
    have hl4 : (L.length : Int) + 1 + (D.length : Int) ≤ 9223372036854775807 := by omega
    refine wp_region_later (by kernel_rfl) (by kernel_rfl) ?_
    repeat go_big_quiet_step (first | (go_at_call 21; exact later_call (HT2.out _)) | (go_at_call 43; exact later_call (HI2.out _)))
    refine wpQuiet_nil ?_
    intro x
    go_wp2_with fail
    go_ret
    refine .mk ?_ (HW2.out.trans (x.below.mono HW2.out.size))
    rw [HV.out]
    simp only [← bytes_append]
    rfl
end Go.Proofs.YtcadpcppnllhnaaDoor
