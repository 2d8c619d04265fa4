/- Walk of the law AddrTells: whatever the addresses and the bytes, it returns true. -/
import Derived.Test.YtcadpcppnllhnaaDoorJT10
import Derived.Test.YtcadpcppnllhnaaDoorJT5
import Derived.Test.YtcadpcppnllhnaaDoorJT8
import Derived.Test.YtcadpcppnllhnaaDoorJT11
import Derived.Deep.RegionHeld3
import Derived.Deep.DrawnRows
import Derived.Test.YtcadpcppnllhnaaDoorJT6
import Derived.Test.YtcadpcppnllhnaaDoorTie
import Derived.ProofKit
import Derived.OpenShut
import Derived.LaidMore
import Derived.Lay
import Derived.SevenTiedAt
import Derived.Stop.Joined
import Derived.Stop.LaidErr
import Derived.Lib.LaidTab
import Derived.Shelf.Vars
import Derived.HandedShaped
import Derived.Lib.SmallJoins

section
set_option linter.unusedSimpArgs false
set_option linter.unusedVariables false
namespace Go.Proofs.YtcadpcppnllhnaaDoor
open Go.RowKit

/-- What stays while a region is walked: blocks, and an own row of bytes. -/
structure Kept (w0 w' : World) (l : List (Nat × Obj)) (base : Nat) (oa : Option Addr) (n cap : Nat) (xs : List Value) : Prop where
  below : Below w0.heap.size w0 w'
  box : ∀ p ∈ l, w'.heap[p.1]? = some p.2
  own : Owns w' base 1 oa n cap xs
theorem Kept.go {w0 w1 w2 : World} {l : List (Nat × Obj)} {base : Nat} {oa : Option Addr} {n cap : Nat} {xs : List Value} (h : Kept w0 w1 l base oa n cap xs) (hb : Below w1.heap.size w1 w2) : Kept w0 w2 l base oa n cap xs :=
  ⟨Below.via h.below hb, fun p hp => (hb.block _ (Array.getElem?_eq_some_iff.1 (h.box p hp)).1).trans (h.box p hp), h.own.below hb⟩
theorem Kept.ad {w0 w1 : World} {l : List (Nat × Obj)} {base : Nat} {oa : Option Addr} {n cap : Nat} {xs : List Value} (h : Kept w0 w1 l base oa n cap xs) (i b : Nat) {s : Bool} {B : Nat → Int} {t : TypeId} (hl : l[i]? = some (b, .cells #[.bool s, .int .u8 (B 0), .int .u8 (B 1), .int .u8 (B 2), .int .u8 (B 3), .int .u8 (B 4), .int .u8 (B 5), .int .u8 (B 6), .int .u8 (B 7), .int .u8 (B 8), .int .u8 (B 9), .int .u8 (B 10), .int .u8 (B 11), .int .u8 (B 12), .int .u8 (B 13), .int .u8 (B 14), .int .u8 (B 15)] t (0, 0))) : partOf w1 b 0 17 = #[.bool s, .int .u8 (B 0), .int .u8 (B 1), .int .u8 (B 2), .int .u8 (B 3), .int .u8 (B 4), .int .u8 (B 5), .int .u8 (B 6), .int .u8 (B 7), .int .u8 (B 8), .int .u8 (B 9), .int .u8 (B 10), .int .u8 (B 11), .int .u8 (B 12), .int .u8 (B 13), .int .u8 (B 14), .int .u8 (B 15)] := by
  rw [partOf_row _ _ _ _ _ _ _ (h.box _ (List.mem_of_getElem? hl))]; simp
theorem Kept.at {w0 w1 : World} {l : List (Nat × Obj)} {base : Nat} {oa : Option Addr} {n cap : Nat} {xs : List Value} (h : Kept w0 w1 l base oa n cap xs) (i b : Nat) {o : Obj} (hl : l[i]? = some (b, o)) : w1.heap[b]? = some o := h.box _ (List.mem_of_getElem? hl)
theorem eqL_same1 (l : List Int) : eqL l l = true := (eqL_iff l l).2 rfl
theorem fromV_form (l : List Int) : ∃ s B e, fromV l = .tuple #[adV s B, .int .i64 e] := by
  unfold fromV
  split
  · exact ⟨_, _, _, rfl⟩
  · split
    · exact ⟨_, _, _, rfl⟩
    · exact ⟨_, _, _, rfl⟩
theorem adBytes_u8 {B : Nat → Int} (hB : U8 B) (s : Bool) : ∀ v ∈ adBytes s B, 0 ≤ v ∧ v < 256 := by
  intro v hv
  unfold adBytes at hv
  obtain ⟨i, -, rfl⟩ := List.mem_map.1 hv
  exact hB i
theorem adBytes_max (s : Bool) (B : Nat → Int) : (adBytes s B).length ≤ 1000000 := by rw [adBytes_len]; cases s <;> decide

set_option maxRecDepth 100000 in
set_option maxHeartbeats 80000000 in
attribute [local go_sem ↓] Go.wp_at_zero Go.wp_at_succ in
theorem tells_any (s : Bool) (B : Nat → Int) (t : Bool) (A : Nat → Int) (oa : Option Addr) (n c : Nat) (l : List Int) (hB : U8 B) (hA : U8 A) (w : World) (hr : Reads w oa n c l) (henv : Env w) :
    Calls Tryd.prog 4 #[adV s B, adV t A, .slice oa n c] w (RetAt w (.bool true)) := by
  obtain rfl := hr.len
  have HE := Lib.hid henv
  have HRL := Lib.hid hr
  have HB := Lib.hid (show Below w.heap.size w ((w.alloc (.cells #[.bool s, .int .u8 (B 0), .int .u8 (B 1), .int .u8 (B 2), .int .u8 (B 3), .int .u8 (B 4), .int .u8 (B 5), .int .u8 (B 6), .int .u8 (B 7), .int .u8 (B 8), .int .u8 (B 9), .int .u8 (B 10), .int .u8 (B 11), .int .u8 (B 12), .int .u8 (B 13), .int .u8 (B 14), .int .u8 (B 15)] 25)).alloc (.cells #[.bool t, .int .u8 (A 0), .int .u8 (A 1), .int .u8 (A 2), .int .u8 (A 3), .int .u8 (A 4), .int .u8 (A 5), .int .u8 (A 6), .int .u8 (A 7), .int .u8 (A 8), .int .u8 (A 9), .int .u8 (A 10), .int .u8 (A 11), .int .u8 (A 12), .int .u8 (A 13), .int .u8 (A 14), .int .u8 (A 15)] 25)) from Below.all (Below.all (Below.refl _ _) _) _)
  have HCX : Hid (((w.alloc (.cells #[.bool s, .int .u8 (B 0), .int .u8 (B 1), .int .u8 (B 2), .int .u8 (B 3), .int .u8 (B 4), .int .u8 (B 5), .int .u8 (B 6), .int .u8 (B 7), .int .u8 (B 8), .int .u8 (B 9), .int .u8 (B 10), .int .u8 (B 11), .int .u8 (B 12), .int .u8 (B 13), .int .u8 (B 14), .int .u8 (B 15)] 25)).alloc (.cells #[.bool t, .int .u8 (A 0), .int .u8 (A 1), .int .u8 (A 2), .int .u8 (A 3), .int .u8 (A 4), .int .u8 (A 5), .int .u8 (A 6), .int .u8 (A 7), .int .u8 (A 8), .int .u8 (A 9), .int .u8 (A 10), .int .u8 (A 11), .int .u8 (A 12), .int .u8 (A 13), .int .u8 (A 14), .int .u8 (A 15)] 25)).heap[w.heap.size]? = some (.cells #[.bool s, .int .u8 (B 0), .int .u8 (B 1), .int .u8 (B 2), .int .u8 (B 3), .int .u8 (B 4), .int .u8 (B 5), .int .u8 (B 6), .int .u8 (B 7), .int .u8 (B 8), .int .u8 (B 9), .int .u8 (B 10), .int .u8 (B 11), .int .u8 (B 12), .int .u8 (B 13), .int .u8 (B 14), .int .u8 (B 15)] 25 (0, 0))) := Lib.hid (heap_alloc2_old w (.cells #[.bool s, .int .u8 (B 0), .int .u8 (B 1), .int .u8 (B 2), .int .u8 (B 3), .int .u8 (B 4), .int .u8 (B 5), .int .u8 (B 6), .int .u8 (B 7), .int .u8 (B 8), .int .u8 (B 9), .int .u8 (B 10), .int .u8 (B 11), .int .u8 (B 12), .int .u8 (B 13), .int .u8 (B 14), .int .u8 (B 15)] 25) (.cells #[.bool t, .int .u8 (A 0), .int .u8 (A 1), .int .u8 (A 2), .int .u8 (A 3), .int .u8 (A 4), .int .u8 (A 5), .int .u8 (A 6), .int .u8 (A 7), .int .u8 (A 8), .int .u8 (A 9), .int .u8 (A 10), .int .u8 (A 11), .int .u8 (A 12), .int .u8 (A 13), .int .u8 (A 14), .int .u8 (A 15)] 25))
  have HCY : Hid (((w.alloc (.cells #[.bool s, .int .u8 (B 0), .int .u8 (B 1), .int .u8 (B 2), .int .u8 (B 3), .int .u8 (B 4), .int .u8 (B 5), .int .u8 (B 6), .int .u8 (B 7), .int .u8 (B 8), .int .u8 (B 9), .int .u8 (B 10), .int .u8 (B 11), .int .u8 (B 12), .int .u8 (B 13), .int .u8 (B 14), .int .u8 (B 15)] 25)).alloc (.cells #[.bool t, .int .u8 (A 0), .int .u8 (A 1), .int .u8 (A 2), .int .u8 (A 3), .int .u8 (A 4), .int .u8 (A 5), .int .u8 (A 6), .int .u8 (A 7), .int .u8 (A 8), .int .u8 (A 9), .int .u8 (A 10), .int .u8 (A 11), .int .u8 (A 12), .int .u8 (A 13), .int .u8 (A 14), .int .u8 (A 15)] 25)).heap[w.heap.size + 1]? = some (.cells #[.bool t, .int .u8 (A 0), .int .u8 (A 1), .int .u8 (A 2), .int .u8 (A 3), .int .u8 (A 4), .int .u8 (A 5), .int .u8 (A 6), .int .u8 (A 7), .int .u8 (A 8), .int .u8 (A 9), .int .u8 (A 10), .int .u8 (A 11), .int .u8 (A 12), .int .u8 (A 13), .int .u8 (A 14), .int .u8 (A 15)] 25 (0, 0))) := Lib.hid (heap_alloc2_new w (.cells #[.bool s, .int .u8 (B 0), .int .u8 (B 1), .int .u8 (B 2), .int .u8 (B 3), .int .u8 (B 4), .int .u8 (B 5), .int .u8 (B 6), .int .u8 (B 7), .int .u8 (B 8), .int .u8 (B 9), .int .u8 (B 10), .int .u8 (B 11), .int .u8 (B 12), .int .u8 (B 13), .int .u8 (B 14), .int .u8 (B 15)] 25) (.cells #[.bool t, .int .u8 (A 0), .int .u8 (A 1), .int .u8 (A 2), .int .u8 (A 3), .int .u8 (A 4), .int .u8 (A 5), .int .u8 (A 6), .int .u8 (A 7), .int .u8 (A 8), .int .u8 (A 9), .int .u8 (A 10), .int .u8 (A 11), .int .u8 (A 12), .int .u8 (A 13), .int .u8 (A 14), .int .u8 (A 15)] 25))
  have HD1 : Hid (∀ w, Calls Tryd.prog 11 #[adV s B] w (RetAt w (adV s B))) := Lib.hid fun w => docsaddr_any s B w
  have HD2 : Hid (∀ w, Calls Tryd.prog 11 #[adV t A] w (RetAt w (adV t A))) := Lib.hid fun w => docsaddr_any t A w
  have HR1 : Hid (∀ w, Calls Tryd.prog 18 #[adV s B] w (RetAt w (.bool (rightB s B)))) := Lib.hid fun w => rright_any s B w
  have HR2 : Hid (∀ w, Calls Tryd.prog 18 #[adV t A] w (RetAt w (.bool (rightB t A)))) := Lib.hid fun w => rright_any t A w
  have HP1 : Hid (∀ w, Calls Tryd.prog 17 #[adV s B] w (RetAt w (.bool (rightB s B)))) := Lib.hid fun w => right_any s B w
  have HT1 : Hid (∀ w, Env w → Calls Tryd.prog 21 #[adV s B] w (RetAt w (.string ⟨(adText s B).toArray⟩))) := Lib.hid fun w h => text_any s B hB w h
  have HTR : Hid (∀ w, Calls Tryd.prog 22 #[adV s B] w (RetAt w (.string ⟨(adText s B).toArray⟩))) := Lib.hid fun w => rtext_any s B hB w
  have HBY : Hid (∀ w, Calls Tryd.prog 16 #[adV s B] w (NewBytes w (adBytes s B))) := Lib.hid fun w => bytes_any s B w
  have HBR : Hid (∀ w, Calls Tryd.prog 20 #[adV s B] w (NewBytes w (adBytes s B))) := Lib.hid fun w => rbytes_any s B w
  have HBU := Lib.hid (adBytes_u8 hB s)
  have HBM := Lib.hid (adBytes_max s B)
  have HCM : Hid (∀ w, Calls Tryd.prog 24 #[adV s B, adV t A] w (RetAt w (.int .i64 (adCmp s B t A)))) := Lib.hid fun w => cmp_any s B t A hB hA w
  have HCN : Hid (∀ w, Calls Tryd.prog 24 #[adV t A, adV s B] w (RetAt w (.int .i64 (-(adCmp s B t A))))) := Lib.hid fun w => by rw [← adCmp_neg]; exact cmp_any t A s B hA hB w
  have HCR : Hid (∀ w, Calls Tryd.prog 25 #[adV s B, adV t A] w (RetAt w (.int .i64 (adCmp s B t A)))) := Lib.hid fun w => rcmp_any s B t A hB hA w
  have HCB := adCmp_bd s B t A
  have HOW : Hid (l.length ≤ 1000000 → ∀ w, Reads w oa l.length c l → Calls Tryd.prog 15 #[.slice oa l.length c] w (NewBytes w l)) := Lib.hid fun h w hr => own_any oa l.length c l w hr h
  obtain ⟨cs, cB, ce, hfv⟩ := fromV_form l
  have HFR : Hid (l.length ≤ 1000000 → ∀ w, Reads w oa l.length c l → Calls Tryd.prog 13 #[.slice oa l.length c] w (RetAt w (.tuple #[adV cs cB, .int .i64 ce]))) := Lib.hid fun h w hr => by rw [← hfv]; exact from_any oa _ c l w hr h
  have HRF : Hid (l.length ≤ 1000000 → ∀ o c w, Reads w o l.length c l → Calls Tryd.prog 14 #[.slice o l.length c] w (RetAt w (.tuple #[adV cs cB, .int .i64 ce]))) := Lib.hid fun h o c w hr => by rw [← hfv]; exact rfrom_any o _ c l w hr h
  have HDC : Hid (∀ w, Calls Tryd.prog 11 #[adV cs cB] w (RetAt w (adV cs cB))) := Lib.hid fun w => docsaddr_any cs cB w
  have HLU := Lib.hid hr.byte
  have he1 := eqL_same1 [cB 0, cB 1, cB 2, cB 3, cB 4, cB 5, cB 6, cB 7, cB 8, cB 9, cB 10, cB 11, cB 12, cB 13, cB 14, cB 15]
  have hq1 : (cs == cs) = true := by simp
  have hq2 : (ce == ce) = true := by simp
  have hq3 : (ce != ce) = false := by simp
  generalize rightB s B = r1 at *
  generalize rightB t A = r2 at *
  generalize adText s B = T at *
  generalize adCmp s B t A = cm at *
  have hq4 : (T == T) = true := by simp
  have hq5 : (r1 == r1) = true := by simp
  have hq6 : (r1 != r1) = false := by simp
  have hq7 : (cm == cm) = true := by simp
  have hq8 : (-cm == -cm) = true := by simp
  have hq9 : IntKind.i64.wrap (-cm) = -cm := IntWalk.i64_in _ (by omega)
  have hq10 : (T != T) = false := by simp
  have HQ10 := Lib.hid HCB
  clear hB hA henv hr hfv HCB
  generalize hLB : adBytes s B = LB at *
  clear hLB
  unfold adV at *
  go_enter Tryd.func4, Tryd.ntmps4
  by_cases hn : l.length ≤ 40
  rotate_left
  · have hn' : ¬ ((l.length : Int) ≤ 40) := by omega
    have hn2 : (40 : Int) < l.length := by omega
    go_wp2_with fail
    generalize (w.alloc (.cells #[.bool s, .int .u8 (B 0), .int .u8 (B 1), .int .u8 (B 2), .int .u8 (B 3), .int .u8 (B 4), .int .u8 (B 5), .int .u8 (B 6), .int .u8 (B 7), .int .u8 (B 8), .int .u8 (B 9), .int .u8 (B 10), .int .u8 (B 11), .int .u8 (B 12), .int .u8 (B 13), .int .u8 (B 14), .int .u8 (B 15)] 25)).alloc (.cells #[.bool t, .int .u8 (A 0), .int .u8 (A 1), .int .u8 (A 2), .int .u8 (A 3), .int .u8 (A 4), .int .u8 (A 5), .int .u8 (A 6), .int .u8 (A 7), .int .u8 (A 8), .int .u8 (A 9), .int .u8 (A 10), .int .u8 (A 11), .int .u8 (A 12), .int .u8 (A 13), .int .u8 (A 14), .int .u8 (A 15)] 25) = w1 at *
    refine Calls.mono (works_any _ (HE.out.below HB.out)) ?_
    rintro e' w2 ⟨rfl, hb⟩
    have HB2 := Lib.hid (Below.via HB.out hb)
    clear hb
    go_wp2_with fail
    go_ret
    exact .mk rfl HB2.out
  have hn1 : l.length ≤ 1000000 := by omega
  have HOW2 := Lib.hid (HOW.out hn1)
  have HFR2 := Lib.hid (HFR.out hn1)
  have HRF2 := Lib.hid (HRF.out hn1)
  have hn' : (l.length : Int) ≤ 40 := by omega
  have hn2 : ¬ ((40 : Int) < l.length) := by omega
  clear HOW HFR HRF
  go_wp2_with fail
  generalize (w.alloc (.cells #[.bool s, .int .u8 (B 0), .int .u8 (B 1), .int .u8 (B 2), .int .u8 (B 3), .int .u8 (B 4), .int .u8 (B 5), .int .u8 (B 6), .int .u8 (B 7), .int .u8 (B 8), .int .u8 (B 9), .int .u8 (B 10), .int .u8 (B 11), .int .u8 (B 12), .int .u8 (B 13), .int .u8 (B 14), .int .u8 (B 15)] 25)).alloc (.cells #[.bool t, .int .u8 (A 0), .int .u8 (A 1), .int .u8 (A 2), .int .u8 (A 3), .int .u8 (A 4), .int .u8 (A 5), .int .u8 (A 6), .int .u8 (A 7), .int .u8 (A 8), .int .u8 (A 9), .int .u8 (A 10), .int .u8 (A 11), .int .u8 (A 12), .int .u8 (A 13), .int .u8 (A 14), .int .u8 (A 15)] 25) = w1 at *
  refine wp_region_fresh 4 (.cells #[.bool false, .int .u8 ((fun _ => 0) 0), .int .u8 ((fun _ => 0) 1), .int .u8 ((fun _ => 0) 2), .int .u8 ((fun _ => 0) 3), .int .u8 ((fun _ => 0) 4), .int .u8 ((fun _ => 0) 5), .int .u8 ((fun _ => 0) 6), .int .u8 ((fun _ => 0) 7), .int .u8 ((fun _ => 0) 8), .int .u8 ((fun _ => 0) 9), .int .u8 ((fun _ => 0) 10), .int .u8 ((fun _ => 0) 11), .int .u8 ((fun _ => 0) 12), .int .u8 ((fun _ => 0) 13), .int .u8 ((fun _ => 0) 14), .int .u8 ((fun _ => 0) 15)] 29) (.cells #[.bool false, .int .u8 ((fun _ => 0) 0), .int .u8 ((fun _ => 0) 1), .int .u8 ((fun _ => 0) 2), .int .u8 ((fun _ => 0) 3), .int .u8 ((fun _ => 0) 4), .int .u8 ((fun _ => 0) 5), .int .u8 ((fun _ => 0) 6), .int .u8 ((fun _ => 0) 7), .int .u8 ((fun _ => 0) 8), .int .u8 ((fun _ => 0) 9), .int .u8 ((fun _ => 0) 10), .int .u8 ((fun _ => 0) 11), .int .u8 ((fun _ => 0) 12), .int .u8 ((fun _ => 0) 13), .int .u8 ((fun _ => 0) 14), .int .u8 ((fun _ => 0) 15)] 29) (by kernel_rfl) (by kernel_rfl) rfl rfl rfl rfl (by decide) (by kernel_rfl) ⟨fun _ => rfl, fun _ _ => by kernel_rfl⟩ ⟨fun _ => rfl, fun _ _ => by kernel_rfl⟩ ?_
  apply Exists.intro
  refine ⟨fun wx hbx => ?_, ?_⟩
  · skip
    have HCX := Lib.hid (cell_up hbx HCX.out)
    have HCY := Lib.hid (cell_up hbx HCY.out)
    have hpX : partOf wx w.heap.size 0 17 = #[.bool s, .int .u8 (B 0), .int .u8 (B 1), .int .u8 (B 2), .int .u8 (B 3), .int .u8 (B 4), .int .u8 (B 5), .int .u8 (B 6), .int .u8 (B 7), .int .u8 (B 8), .int .u8 (B 9), .int .u8 (B 10), .int .u8 (B 11), .int .u8 (B 12), .int .u8 (B 13), .int .u8 (B 14), .int .u8 (B 15)] := by rw [partOf_row _ _ _ _ _ _ _ HCX.out]; simp
    have hqX := (Array.getElem?_eq_some_iff.1 HCX.out).1
    have hpY : partOf wx (w.heap.size + 1) 0 17 = #[.bool t, .int .u8 (A 0), .int .u8 (A 1), .int .u8 (A 2), .int .u8 (A 3), .int .u8 (A 4), .int .u8 (A 5), .int .u8 (A 6), .int .u8 (A 7), .int .u8 (A 8), .int .u8 (A 9), .int .u8 (A 10), .int .u8 (A 11), .int .u8 (A 12), .int .u8 (A 13), .int .u8 (A 14), .int .u8 (A 15)] := by rw [partOf_row _ _ _ _ _ _ _ HCY.out]; simp
    have hqY := (Array.getElem?_eq_some_iff.1 HCY.out).1
    simp only [List.take_succ_cons, List.take_zero]
    repeat go_big_quiet_step (fail)
    go_big_quiet_step ((go_at_call 11; exact later_call (HD1.out _)))
    repeat go_big_quiet_step (fail)
    go_big_quiet_step ((go_at_call 11; exact later_call (HD2.out _)))
    repeat go_big_quiet_step (fail)
    exact wpQuiet_nil rfl
  intro gp gq wn hbn hgp hgq hgne hcp hcq
  simp only [List.drop_succ_cons, List.drop_zero]
  have q1 := (Array.getElem?_eq_some_iff.1 HCX.out).1
  have q2 := (Array.getElem?_eq_some_iff.1 HCY.out).1
  have HBn : Hid (Below w.heap.size w wn) := Lib.hid (Below.via (HB.out) hbn)
  have hcx := cell_up hbn HCX.out
  have hcy := cell_up hbn HCY.out
  have hsz := (HB.out).size
  have hfP : rowFree wn gp 17 = true := by rw [rowFree_row _ _ _ _ _ hcp]; rfl
  have hcq1 := (setRow_other wn gp gq #[.bool s, .int .u8 (B 0), .int .u8 (B 1), .int .u8 (B 2), .int .u8 (B 3), .int .u8 (B 4), .int .u8 (B 5), .int .u8 (B 6), .int .u8 (B 7), .int .u8 (B 8), .int .u8 (B 9), .int .u8 (B 10), .int .u8 (B 11), .int .u8 (B 12), .int .u8 (B 13), .int .u8 (B 14), .int .u8 (B 15)] (Ne.symm hgne)).trans hcq
  have hfQ : rowFree (wn.setRow gp #[.bool s, .int .u8 (B 0), .int .u8 (B 1), .int .u8 (B 2), .int .u8 (B 3), .int .u8 (B 4), .int .u8 (B 5), .int .u8 (B 6), .int .u8 (B 7), .int .u8 (B 8), .int .u8 (B 9), .int .u8 (B 10), .int .u8 (B 11), .int .u8 (B 12), .int .u8 (B 13), .int .u8 (B 14), .int .u8 (B 15)]) gq 17 = true := by rw [rowFree_row _ _ _ _ _ hcq1]; rfl
  have HCP : Hid (((wn.setRow gp #[.bool s, .int .u8 (B 0), .int .u8 (B 1), .int .u8 (B 2), .int .u8 (B 3), .int .u8 (B 4), .int .u8 (B 5), .int .u8 (B 6), .int .u8 (B 7), .int .u8 (B 8), .int .u8 (B 9), .int .u8 (B 10), .int .u8 (B 11), .int .u8 (B 12), .int .u8 (B 13), .int .u8 (B 14), .int .u8 (B 15)]).setRow gq #[.bool t, .int .u8 (A 0), .int .u8 (A 1), .int .u8 (A 2), .int .u8 (A 3), .int .u8 (A 4), .int .u8 (A 5), .int .u8 (A 6), .int .u8 (A 7), .int .u8 (A 8), .int .u8 (A 9), .int .u8 (A 10), .int .u8 (A 11), .int .u8 (A 12), .int .u8 (A 13), .int .u8 (A 14), .int .u8 (A 15)]).heap[gp]? = some (.cells #[.bool s, .int .u8 (B 0), .int .u8 (B 1), .int .u8 (B 2), .int .u8 (B 3), .int .u8 (B 4), .int .u8 (B 5), .int .u8 (B 6), .int .u8 (B 7), .int .u8 (B 8), .int .u8 (B 9), .int .u8 (B 10), .int .u8 (B 11), .int .u8 (B 12), .int .u8 (B 13), .int .u8 (B 14), .int .u8 (B 15)] 29 (0, 0))) := Lib.hid ((setRow_other _ gq gp _ hgne).trans (setRow_heap _ _ _ _ _ _ hcp))
  have HCQ : Hid (((wn.setRow gp #[.bool s, .int .u8 (B 0), .int .u8 (B 1), .int .u8 (B 2), .int .u8 (B 3), .int .u8 (B 4), .int .u8 (B 5), .int .u8 (B 6), .int .u8 (B 7), .int .u8 (B 8), .int .u8 (B 9), .int .u8 (B 10), .int .u8 (B 11), .int .u8 (B 12), .int .u8 (B 13), .int .u8 (B 14), .int .u8 (B 15)]).setRow gq #[.bool t, .int .u8 (A 0), .int .u8 (A 1), .int .u8 (A 2), .int .u8 (A 3), .int .u8 (A 4), .int .u8 (A 5), .int .u8 (A 6), .int .u8 (A 7), .int .u8 (A 8), .int .u8 (A 9), .int .u8 (A 10), .int .u8 (A 11), .int .u8 (A 12), .int .u8 (A 13), .int .u8 (A 14), .int .u8 (A 15)]).heap[gq]? = some (.cells #[.bool t, .int .u8 (A 0), .int .u8 (A 1), .int .u8 (A 2), .int .u8 (A 3), .int .u8 (A 4), .int .u8 (A 5), .int .u8 (A 6), .int .u8 (A 7), .int .u8 (A 8), .int .u8 (A 9), .int .u8 (A 10), .int .u8 (A 11), .int .u8 (A 12), .int .u8 (A 13), .int .u8 (A 14), .int .u8 (A 15)] 29 (0, 0))) := Lib.hid (setRow_heap _ _ _ _ _ _ hcq1)
  have HCX : Hid (((wn.setRow gp #[.bool s, .int .u8 (B 0), .int .u8 (B 1), .int .u8 (B 2), .int .u8 (B 3), .int .u8 (B 4), .int .u8 (B 5), .int .u8 (B 6), .int .u8 (B 7), .int .u8 (B 8), .int .u8 (B 9), .int .u8 (B 10), .int .u8 (B 11), .int .u8 (B 12), .int .u8 (B 13), .int .u8 (B 14), .int .u8 (B 15)]).setRow gq #[.bool t, .int .u8 (A 0), .int .u8 (A 1), .int .u8 (A 2), .int .u8 (A 3), .int .u8 (A 4), .int .u8 (A 5), .int .u8 (A 6), .int .u8 (A 7), .int .u8 (A 8), .int .u8 (A 9), .int .u8 (A 10), .int .u8 (A 11), .int .u8 (A 12), .int .u8 (A 13), .int .u8 (A 14), .int .u8 (A 15)]).heap[w.heap.size]? = some (.cells #[.bool s, .int .u8 (B 0), .int .u8 (B 1), .int .u8 (B 2), .int .u8 (B 3), .int .u8 (B 4), .int .u8 (B 5), .int .u8 (B 6), .int .u8 (B 7), .int .u8 (B 8), .int .u8 (B 9), .int .u8 (B 10), .int .u8 (B 11), .int .u8 (B 12), .int .u8 (B 13), .int .u8 (B 14), .int .u8 (B 15)] 25 (0, 0))) := Lib.hid ((setRow_other _ gq _ _ (by omega)).trans ((setRow_other _ gp _ _ (by omega)).trans hcx))
  have HCY : Hid (((wn.setRow gp #[.bool s, .int .u8 (B 0), .int .u8 (B 1), .int .u8 (B 2), .int .u8 (B 3), .int .u8 (B 4), .int .u8 (B 5), .int .u8 (B 6), .int .u8 (B 7), .int .u8 (B 8), .int .u8 (B 9), .int .u8 (B 10), .int .u8 (B 11), .int .u8 (B 12), .int .u8 (B 13), .int .u8 (B 14), .int .u8 (B 15)]).setRow gq #[.bool t, .int .u8 (A 0), .int .u8 (A 1), .int .u8 (A 2), .int .u8 (A 3), .int .u8 (A 4), .int .u8 (A 5), .int .u8 (A 6), .int .u8 (A 7), .int .u8 (A 8), .int .u8 (A 9), .int .u8 (A 10), .int .u8 (A 11), .int .u8 (A 12), .int .u8 (A 13), .int .u8 (A 14), .int .u8 (A 15)]).heap[w.heap.size + 1]? = some (.cells #[.bool t, .int .u8 (A 0), .int .u8 (A 1), .int .u8 (A 2), .int .u8 (A 3), .int .u8 (A 4), .int .u8 (A 5), .int .u8 (A 6), .int .u8 (A 7), .int .u8 (A 8), .int .u8 (A 9), .int .u8 (A 10), .int .u8 (A 11), .int .u8 (A 12), .int .u8 (A 13), .int .u8 (A 14), .int .u8 (A 15)] 25 (0, 0))) := Lib.hid ((setRow_other _ gq _ _ (by omega)).trans ((setRow_other _ gp _ _ (by omega)).trans hcy))
  have HB7b : Hid (Below w.heap.size w ((wn.setRow gp #[.bool s, .int .u8 (B 0), .int .u8 (B 1), .int .u8 (B 2), .int .u8 (B 3), .int .u8 (B 4), .int .u8 (B 5), .int .u8 (B 6), .int .u8 (B 7), .int .u8 (B 8), .int .u8 (B 9), .int .u8 (B 10), .int .u8 (B 11), .int .u8 (B 12), .int .u8 (B 13), .int .u8 (B 14), .int .u8 (B 15)]).setRow gq #[.bool t, .int .u8 (A 0), .int .u8 (A 1), .int .u8 (A 2), .int .u8 (A 3), .int .u8 (A 4), .int .u8 (A 5), .int .u8 (A 6), .int .u8 (A 7), .int .u8 (A 8), .int .u8 (A 9), .int .u8 (A 10), .int .u8 (A 11), .int .u8 (A 12), .int .u8 (A 13), .int .u8 (A 14), .int .u8 (A 15)])) := Lib.hid (below_setRow (below_setRow HBn.out (by omega) _) (by omega) _)
  clear hcx hcy hcp hcq hcq1 HBn hbn
  simp only [Act.put, ptrTo, List.setIfInBounds_toArray, List.set_cons_succ, List.set_cons_zero]
  go_wp2_with fail
  generalize hWm : (wn.setRow gp #[.bool s, .int .u8 (B 0), .int .u8 (B 1), .int .u8 (B 2), .int .u8 (B 3), .int .u8 (B 4), .int .u8 (B 5), .int .u8 (B 6), .int .u8 (B 7), .int .u8 (B 8), .int .u8 (B 9), .int .u8 (B 10), .int .u8 (B 11), .int .u8 (B 12), .int .u8 (B 13), .int .u8 (B 14), .int .u8 (B 15)]).setRow gq #[.bool t, .int .u8 (A 0), .int .u8 (A 1), .int .u8 (A 2), .int .u8 (A 3), .int .u8 (A 4), .int .u8 (A 5), .int .u8 (A 6), .int .u8 (A 7), .int .u8 (A 8), .int .u8 (A 9), .int .u8 (A 10), .int .u8 (A 11), .int .u8 (A 12), .int .u8 (A 13), .int .u8 (A 14), .int .u8 (A 15)] = wm at *
  clear hWm
  refine Calls.mono (HFR2.out _ (HRL.out.below (HB7b.out))) ?_
  rintro e' w1 ⟨rfl, hb⟩
  have HB1 : Hid (Below w.heap.size w w1) := Lib.hid (Below.via (HB7b.out) hb)
  have HCX := Lib.hid (cell_up hb HCX.out)
  have HCY := Lib.hid (cell_up hb HCY.out)
  have HCP := Lib.hid (cell_up hb HCP.out)
  have HCQ := Lib.hid (cell_up hb HCQ.out)
  clear hb
  have HB2 : Hid (Below w.heap.size w (w1.alloc (.cells #[.bool cs, .int .u8 (cB 0), .int .u8 (cB 1), .int .u8 (cB 2), .int .u8 (cB 3), .int .u8 (cB 4), .int .u8 (cB 5), .int .u8 (cB 6), .int .u8 (cB 7), .int .u8 (cB 8), .int .u8 (cB 9), .int .u8 (cB 10), .int .u8 (cB 11), .int .u8 (cB 12), .int .u8 (cB 13), .int .u8 (cB 14), .int .u8 (cB 15)] 25))) := Lib.hid (Below.all (HB1.out) _)
  have HCX := Lib.hid (cell_up (Below.all (Below.refl _ _) (.cells #[.bool cs, .int .u8 (cB 0), .int .u8 (cB 1), .int .u8 (cB 2), .int .u8 (cB 3), .int .u8 (cB 4), .int .u8 (cB 5), .int .u8 (cB 6), .int .u8 (cB 7), .int .u8 (cB 8), .int .u8 (cB 9), .int .u8 (cB 10), .int .u8 (cB 11), .int .u8 (cB 12), .int .u8 (cB 13), .int .u8 (cB 14), .int .u8 (cB 15)] 25)) HCX.out)
  have HCY := Lib.hid (cell_up (Below.all (Below.refl _ _) (.cells #[.bool cs, .int .u8 (cB 0), .int .u8 (cB 1), .int .u8 (cB 2), .int .u8 (cB 3), .int .u8 (cB 4), .int .u8 (cB 5), .int .u8 (cB 6), .int .u8 (cB 7), .int .u8 (cB 8), .int .u8 (cB 9), .int .u8 (cB 10), .int .u8 (cB 11), .int .u8 (cB 12), .int .u8 (cB 13), .int .u8 (cB 14), .int .u8 (cB 15)] 25)) HCY.out)
  have HCP := Lib.hid (cell_up (Below.all (Below.refl _ _) (.cells #[.bool cs, .int .u8 (cB 0), .int .u8 (cB 1), .int .u8 (cB 2), .int .u8 (cB 3), .int .u8 (cB 4), .int .u8 (cB 5), .int .u8 (cB 6), .int .u8 (cB 7), .int .u8 (cB 8), .int .u8 (cB 9), .int .u8 (cB 10), .int .u8 (cB 11), .int .u8 (cB 12), .int .u8 (cB 13), .int .u8 (cB 14), .int .u8 (cB 15)] 25)) HCP.out)
  have HCQ := Lib.hid (cell_up (Below.all (Below.refl _ _) (.cells #[.bool cs, .int .u8 (cB 0), .int .u8 (cB 1), .int .u8 (cB 2), .int .u8 (cB 3), .int .u8 (cB 4), .int .u8 (cB 5), .int .u8 (cB 6), .int .u8 (cB 7), .int .u8 (cB 8), .int .u8 (cB 9), .int .u8 (cB 10), .int .u8 (cB 11), .int .u8 (cB 12), .int .u8 (cB 13), .int .u8 (cB 14), .int .u8 (cB 15)] 25)) HCQ.out)
  have HCC : Hid ((w1.alloc (.cells #[.bool cs, .int .u8 (cB 0), .int .u8 (cB 1), .int .u8 (cB 2), .int .u8 (cB 3), .int .u8 (cB 4), .int .u8 (cB 5), .int .u8 (cB 6), .int .u8 (cB 7), .int .u8 (cB 8), .int .u8 (cB 9), .int .u8 (cB 10), .int .u8 (cB 11), .int .u8 (cB 12), .int .u8 (cB 13), .int .u8 (cB 14), .int .u8 (cB 15)] 25)).heap[w1.heap.size]? = some (.cells #[.bool cs, .int .u8 (cB 0), .int .u8 (cB 1), .int .u8 (cB 2), .int .u8 (cB 3), .int .u8 (cB 4), .int .u8 (cB 5), .int .u8 (cB 6), .int .u8 (cB 7), .int .u8 (cB 8), .int .u8 (cB 9), .int .u8 (cB 10), .int .u8 (cB 11), .int .u8 (cB 12), .int .u8 (cB 13), .int .u8 (cB 14), .int .u8 (cB 15)] 25 (0, 0))) := Lib.hid (heap_alloc_new w1 _)
  go_wp2_with fail
  generalize hW2 : w1.alloc (.cells #[.bool cs, .int .u8 (cB 0), .int .u8 (cB 1), .int .u8 (cB 2), .int .u8 (cB 3), .int .u8 (cB 4), .int .u8 (cB 5), .int .u8 (cB 6), .int .u8 (cB 7), .int .u8 (cB 8), .int .u8 (cB 9), .int .u8 (cB 10), .int .u8 (cB 11), .int .u8 (cB 12), .int .u8 (cB 13), .int .u8 (cB 14), .int .u8 (cB 15)] 25) = v2 at *
  clear hW2
  refine Calls.mono (HOW2.out _ (HRL.out.below (HB2.out))) ?_
  rintro e' w3 ⟨o2, c2, rfl, ho2, hb⟩
  have HB3 : Hid (Below w.heap.size w w3) := Lib.hid (Below.via (HB2.out) hb)
  have HCX := Lib.hid (cell_up hb HCX.out)
  have HCY := Lib.hid (cell_up hb HCY.out)
  have HCP := Lib.hid (cell_up hb HCP.out)
  have HCQ := Lib.hid (cell_up hb HCQ.out)
  have HCC := Lib.hid (cell_up hb HCC.out)
  have HR2b := Lib.hid (Owns.reads ho2 HLU.out)
  clear hb
  clear ho2
  go_wp2_with fail
  refine Calls.mono (HRF2.out _ _ _ HR2b.out) ?_
  rintro e' w4 ⟨rfl, hb⟩
  have HB4 : Hid (Below w.heap.size w w4) := Lib.hid (Below.via (HB3.out) hb)
  have HCX := Lib.hid (cell_up hb HCX.out)
  have HCY := Lib.hid (cell_up hb HCY.out)
  have HCP := Lib.hid (cell_up hb HCP.out)
  have HCQ := Lib.hid (cell_up hb HCQ.out)
  have HCC := Lib.hid (cell_up hb HCC.out)
  clear hb
  clear HR2b
  have HB5 : Hid (Below w.heap.size w (w4.alloc (.cells #[.bool cs, .int .u8 (cB 0), .int .u8 (cB 1), .int .u8 (cB 2), .int .u8 (cB 3), .int .u8 (cB 4), .int .u8 (cB 5), .int .u8 (cB 6), .int .u8 (cB 7), .int .u8 (cB 8), .int .u8 (cB 9), .int .u8 (cB 10), .int .u8 (cB 11), .int .u8 (cB 12), .int .u8 (cB 13), .int .u8 (cB 14), .int .u8 (cB 15)] 29))) := Lib.hid (Below.all (HB4.out) _)
  have HCX := Lib.hid (cell_up (Below.all (Below.refl _ _) (.cells #[.bool cs, .int .u8 (cB 0), .int .u8 (cB 1), .int .u8 (cB 2), .int .u8 (cB 3), .int .u8 (cB 4), .int .u8 (cB 5), .int .u8 (cB 6), .int .u8 (cB 7), .int .u8 (cB 8), .int .u8 (cB 9), .int .u8 (cB 10), .int .u8 (cB 11), .int .u8 (cB 12), .int .u8 (cB 13), .int .u8 (cB 14), .int .u8 (cB 15)] 29)) HCX.out)
  have HCY := Lib.hid (cell_up (Below.all (Below.refl _ _) (.cells #[.bool cs, .int .u8 (cB 0), .int .u8 (cB 1), .int .u8 (cB 2), .int .u8 (cB 3), .int .u8 (cB 4), .int .u8 (cB 5), .int .u8 (cB 6), .int .u8 (cB 7), .int .u8 (cB 8), .int .u8 (cB 9), .int .u8 (cB 10), .int .u8 (cB 11), .int .u8 (cB 12), .int .u8 (cB 13), .int .u8 (cB 14), .int .u8 (cB 15)] 29)) HCY.out)
  have HCP := Lib.hid (cell_up (Below.all (Below.refl _ _) (.cells #[.bool cs, .int .u8 (cB 0), .int .u8 (cB 1), .int .u8 (cB 2), .int .u8 (cB 3), .int .u8 (cB 4), .int .u8 (cB 5), .int .u8 (cB 6), .int .u8 (cB 7), .int .u8 (cB 8), .int .u8 (cB 9), .int .u8 (cB 10), .int .u8 (cB 11), .int .u8 (cB 12), .int .u8 (cB 13), .int .u8 (cB 14), .int .u8 (cB 15)] 29)) HCP.out)
  have HCQ := Lib.hid (cell_up (Below.all (Below.refl _ _) (.cells #[.bool cs, .int .u8 (cB 0), .int .u8 (cB 1), .int .u8 (cB 2), .int .u8 (cB 3), .int .u8 (cB 4), .int .u8 (cB 5), .int .u8 (cB 6), .int .u8 (cB 7), .int .u8 (cB 8), .int .u8 (cB 9), .int .u8 (cB 10), .int .u8 (cB 11), .int .u8 (cB 12), .int .u8 (cB 13), .int .u8 (cB 14), .int .u8 (cB 15)] 29)) HCQ.out)
  have HCC := Lib.hid (cell_up (Below.all (Below.refl _ _) (.cells #[.bool cs, .int .u8 (cB 0), .int .u8 (cB 1), .int .u8 (cB 2), .int .u8 (cB 3), .int .u8 (cB 4), .int .u8 (cB 5), .int .u8 (cB 6), .int .u8 (cB 7), .int .u8 (cB 8), .int .u8 (cB 9), .int .u8 (cB 10), .int .u8 (cB 11), .int .u8 (cB 12), .int .u8 (cB 13), .int .u8 (cB 14), .int .u8 (cB 15)] 29)) HCC.out)
  have HCD : Hid ((w4.alloc (.cells #[.bool cs, .int .u8 (cB 0), .int .u8 (cB 1), .int .u8 (cB 2), .int .u8 (cB 3), .int .u8 (cB 4), .int .u8 (cB 5), .int .u8 (cB 6), .int .u8 (cB 7), .int .u8 (cB 8), .int .u8 (cB 9), .int .u8 (cB 10), .int .u8 (cB 11), .int .u8 (cB 12), .int .u8 (cB 13), .int .u8 (cB 14), .int .u8 (cB 15)] 29)).heap[w4.heap.size]? = some (.cells #[.bool cs, .int .u8 (cB 0), .int .u8 (cB 1), .int .u8 (cB 2), .int .u8 (cB 3), .int .u8 (cB 4), .int .u8 (cB 5), .int .u8 (cB 6), .int .u8 (cB 7), .int .u8 (cB 8), .int .u8 (cB 9), .int .u8 (cB 10), .int .u8 (cB 11), .int .u8 (cB 12), .int .u8 (cB 13), .int .u8 (cB 14), .int .u8 (cB 15)] 29 (0, 0))) := Lib.hid (heap_alloc_new w4 _)
  have hpX : partOf (w4.alloc (.cells #[.bool cs, .int .u8 (cB 0), .int .u8 (cB 1), .int .u8 (cB 2), .int .u8 (cB 3), .int .u8 (cB 4), .int .u8 (cB 5), .int .u8 (cB 6), .int .u8 (cB 7), .int .u8 (cB 8), .int .u8 (cB 9), .int .u8 (cB 10), .int .u8 (cB 11), .int .u8 (cB 12), .int .u8 (cB 13), .int .u8 (cB 14), .int .u8 (cB 15)] 29)) w.heap.size 0 17 = #[.bool s, .int .u8 (B 0), .int .u8 (B 1), .int .u8 (B 2), .int .u8 (B 3), .int .u8 (B 4), .int .u8 (B 5), .int .u8 (B 6), .int .u8 (B 7), .int .u8 (B 8), .int .u8 (B 9), .int .u8 (B 10), .int .u8 (B 11), .int .u8 (B 12), .int .u8 (B 13), .int .u8 (B 14), .int .u8 (B 15)] := by rw [partOf_row _ _ _ _ _ _ _ HCX.out]; simp
  have hqX := (Array.getElem?_eq_some_iff.1 HCX.out).1
  go_wp2_with fail
  generalize hW5 : w4.alloc (.cells #[.bool cs, .int .u8 (cB 0), .int .u8 (cB 1), .int .u8 (cB 2), .int .u8 (cB 3), .int .u8 (cB 4), .int .u8 (cB 5), .int .u8 (cB 6), .int .u8 (cB 7), .int .u8 (cB 8), .int .u8 (cB 9), .int .u8 (cB 10), .int .u8 (cB 11), .int .u8 (cB 12), .int .u8 (cB 13), .int .u8 (cB 14), .int .u8 (cB 15)] 29) = v5 at *
  clear hW5
  clear hpX hqX
  have HLX := Lib.hid (Array.getElem?_eq_some_iff.1 HCX.out).1
  have HLY := Lib.hid (Array.getElem?_eq_some_iff.1 HCY.out).1
  have HLP := Lib.hid (Array.getElem?_eq_some_iff.1 HCP.out).1
  have HLQ := Lib.hid (Array.getElem?_eq_some_iff.1 HCQ.out).1
  have hbase := (HB5.out).size
  refine Calls.mono (HBY.out _) ?_
  rintro e' w6 ⟨oa3, cap3, rfl, ho3, hb⟩
  have HB6 : Hid (Below w.heap.size w w6) := Lib.hid (Below.via (HB5.out) hb)
  have HCX := Lib.hid (cell_up hb HCX.out)
  have HCY := Lib.hid (cell_up hb HCY.out)
  have HCP := Lib.hid (cell_up hb HCP.out)
  have HCQ := Lib.hid (cell_up hb HCQ.out)
  have HCC := Lib.hid (cell_up hb HCC.out)
  have HCD := Lib.hid (cell_up hb HCD.out)
  have HO := Lib.hid ho3
  clear hb
  clear ho3
  go_wp2_with fail
  have HS0 : Hid ((fun w' => (partOf w' (w.heap.size) 0 17 = #[.bool s, .int .u8 (B 0), .int .u8 (B 1), .int .u8 (B 2), .int .u8 (B 3), .int .u8 (B 4), .int .u8 (B 5), .int .u8 (B 6), .int .u8 (B 7), .int .u8 (B 8), .int .u8 (B 9), .int .u8 (B 10), .int .u8 (B 11), .int .u8 (B 12), .int .u8 (B 13), .int .u8 (B 14), .int .u8 (B 15)] ∧ partOf w' (gp) 0 17 = #[.bool s, .int .u8 (B 0), .int .u8 (B 1), .int .u8 (B 2), .int .u8 (B 3), .int .u8 (B 4), .int .u8 (B 5), .int .u8 (B 6), .int .u8 (B 7), .int .u8 (B 8), .int .u8 (B 9), .int .u8 (B 10), .int .u8 (B 11), .int .u8 (B 12), .int .u8 (B 13), .int .u8 (B 14), .int .u8 (B 15)] ∧ partOf w' (w1.heap.size) 0 17 = #[.bool cs, .int .u8 (cB 0), .int .u8 (cB 1), .int .u8 (cB 2), .int .u8 (cB 3), .int .u8 (cB 4), .int .u8 (cB 5), .int .u8 (cB 6), .int .u8 (cB 7), .int .u8 (cB 8), .int .u8 (cB 9), .int .u8 (cB 10), .int .u8 (cB 11), .int .u8 (cB 12), .int .u8 (cB 13), .int .u8 (cB 14), .int .u8 (cB 15)] ∧ partOf w' (w4.heap.size) 0 17 = #[.bool cs, .int .u8 (cB 0), .int .u8 (cB 1), .int .u8 (cB 2), .int .u8 (cB 3), .int .u8 (cB 4), .int .u8 (cB 5), .int .u8 (cB 6), .int .u8 (cB 7), .int .u8 (cB 8), .int .u8 (cB 9), .int .u8 (cB 10), .int .u8 (cB 11), .int .u8 (cB 12), .int .u8 (cB 13), .int .u8 (cB 14), .int .u8 (cB 15)]) ∧ Kept w w' [(w.heap.size, Obj.cells #[.bool s, .int .u8 (B 0), .int .u8 (B 1), .int .u8 (B 2), .int .u8 (B 3), .int .u8 (B 4), .int .u8 (B 5), .int .u8 (B 6), .int .u8 (B 7), .int .u8 (B 8), .int .u8 (B 9), .int .u8 (B 10), .int .u8 (B 11), .int .u8 (B 12), .int .u8 (B 13), .int .u8 (B 14), .int .u8 (B 15)] 25 (0, 0)), (w.heap.size + 1, Obj.cells #[.bool t, .int .u8 (A 0), .int .u8 (A 1), .int .u8 (A 2), .int .u8 (A 3), .int .u8 (A 4), .int .u8 (A 5), .int .u8 (A 6), .int .u8 (A 7), .int .u8 (A 8), .int .u8 (A 9), .int .u8 (A 10), .int .u8 (A 11), .int .u8 (A 12), .int .u8 (A 13), .int .u8 (A 14), .int .u8 (A 15)] 25 (0, 0)), (gp, Obj.cells #[.bool s, .int .u8 (B 0), .int .u8 (B 1), .int .u8 (B 2), .int .u8 (B 3), .int .u8 (B 4), .int .u8 (B 5), .int .u8 (B 6), .int .u8 (B 7), .int .u8 (B 8), .int .u8 (B 9), .int .u8 (B 10), .int .u8 (B 11), .int .u8 (B 12), .int .u8 (B 13), .int .u8 (B 14), .int .u8 (B 15)] 29 (0, 0)), (gq, Obj.cells #[.bool t, .int .u8 (A 0), .int .u8 (A 1), .int .u8 (A 2), .int .u8 (A 3), .int .u8 (A 4), .int .u8 (A 5), .int .u8 (A 6), .int .u8 (A 7), .int .u8 (A 8), .int .u8 (A 9), .int .u8 (A 10), .int .u8 (A 11), .int .u8 (A 12), .int .u8 (A 13), .int .u8 (A 14), .int .u8 (A 15)] 29 (0, 0)), (w1.heap.size, Obj.cells #[.bool cs, .int .u8 (cB 0), .int .u8 (cB 1), .int .u8 (cB 2), .int .u8 (cB 3), .int .u8 (cB 4), .int .u8 (cB 5), .int .u8 (cB 6), .int .u8 (cB 7), .int .u8 (cB 8), .int .u8 (cB 9), .int .u8 (cB 10), .int .u8 (cB 11), .int .u8 (cB 12), .int .u8 (cB 13), .int .u8 (cB 14), .int .u8 (cB 15)] 25 (0, 0)), (w4.heap.size, Obj.cells #[.bool cs, .int .u8 (cB 0), .int .u8 (cB 1), .int .u8 (cB 2), .int .u8 (cB 3), .int .u8 (cB 4), .int .u8 (cB 5), .int .u8 (cB 6), .int .u8 (cB 7), .int .u8 (cB 8), .int .u8 (cB 9), .int .u8 (cB 10), .int .u8 (cB 11), .int .u8 (cB 12), .int .u8 (cB 13), .int .u8 (cB 14), .int .u8 (cB 15)] 29 (0, 0))] (v5.heap.size) oa3 LB.length cap3 (LB.map (Value.int .u8))) w6) := Lib.hid (by
    have h1 : Kept w w6 [(w.heap.size, Obj.cells #[.bool s, .int .u8 (B 0), .int .u8 (B 1), .int .u8 (B 2), .int .u8 (B 3), .int .u8 (B 4), .int .u8 (B 5), .int .u8 (B 6), .int .u8 (B 7), .int .u8 (B 8), .int .u8 (B 9), .int .u8 (B 10), .int .u8 (B 11), .int .u8 (B 12), .int .u8 (B 13), .int .u8 (B 14), .int .u8 (B 15)] 25 (0, 0)), (w.heap.size + 1, Obj.cells #[.bool t, .int .u8 (A 0), .int .u8 (A 1), .int .u8 (A 2), .int .u8 (A 3), .int .u8 (A 4), .int .u8 (A 5), .int .u8 (A 6), .int .u8 (A 7), .int .u8 (A 8), .int .u8 (A 9), .int .u8 (A 10), .int .u8 (A 11), .int .u8 (A 12), .int .u8 (A 13), .int .u8 (A 14), .int .u8 (A 15)] 25 (0, 0)), (gp, Obj.cells #[.bool s, .int .u8 (B 0), .int .u8 (B 1), .int .u8 (B 2), .int .u8 (B 3), .int .u8 (B 4), .int .u8 (B 5), .int .u8 (B 6), .int .u8 (B 7), .int .u8 (B 8), .int .u8 (B 9), .int .u8 (B 10), .int .u8 (B 11), .int .u8 (B 12), .int .u8 (B 13), .int .u8 (B 14), .int .u8 (B 15)] 29 (0, 0)), (gq, Obj.cells #[.bool t, .int .u8 (A 0), .int .u8 (A 1), .int .u8 (A 2), .int .u8 (A 3), .int .u8 (A 4), .int .u8 (A 5), .int .u8 (A 6), .int .u8 (A 7), .int .u8 (A 8), .int .u8 (A 9), .int .u8 (A 10), .int .u8 (A 11), .int .u8 (A 12), .int .u8 (A 13), .int .u8 (A 14), .int .u8 (A 15)] 29 (0, 0)), (w1.heap.size, Obj.cells #[.bool cs, .int .u8 (cB 0), .int .u8 (cB 1), .int .u8 (cB 2), .int .u8 (cB 3), .int .u8 (cB 4), .int .u8 (cB 5), .int .u8 (cB 6), .int .u8 (cB 7), .int .u8 (cB 8), .int .u8 (cB 9), .int .u8 (cB 10), .int .u8 (cB 11), .int .u8 (cB 12), .int .u8 (cB 13), .int .u8 (cB 14), .int .u8 (cB 15)] 25 (0, 0)), (w4.heap.size, Obj.cells #[.bool cs, .int .u8 (cB 0), .int .u8 (cB 1), .int .u8 (cB 2), .int .u8 (cB 3), .int .u8 (cB 4), .int .u8 (cB 5), .int .u8 (cB 6), .int .u8 (cB 7), .int .u8 (cB 8), .int .u8 (cB 9), .int .u8 (cB 10), .int .u8 (cB 11), .int .u8 (cB 12), .int .u8 (cB 13), .int .u8 (cB 14), .int .u8 (cB 15)] 29 (0, 0))] (v5.heap.size) oa3 LB.length cap3 (LB.map (Value.int .u8)) := ⟨HB6.out, fun p hp => by
      simp only [List.mem_cons, List.not_mem_nil, or_false] at hp
      rcases hp with rfl | rfl | rfl | rfl | rfl | rfl
      · exact HCX.out
      · exact HCY.out
      · exact HCP.out
      · exact HCQ.out
      · exact HCC.out
      · exact HCD.out
      , HO.out⟩
    exact ⟨⟨h1.ad 0 _ rfl, h1.ad 2 _ rfl, h1.ad 4 _ rfl, h1.ad 5 _ rfl⟩, h1⟩)
  have KS : Hid (∀ ua ub : World, (fun w' => (partOf w' (w.heap.size) 0 17 = #[.bool s, .int .u8 (B 0), .int .u8 (B 1), .int .u8 (B 2), .int .u8 (B 3), .int .u8 (B 4), .int .u8 (B 5), .int .u8 (B 6), .int .u8 (B 7), .int .u8 (B 8), .int .u8 (B 9), .int .u8 (B 10), .int .u8 (B 11), .int .u8 (B 12), .int .u8 (B 13), .int .u8 (B 14), .int .u8 (B 15)] ∧ partOf w' (gp) 0 17 = #[.bool s, .int .u8 (B 0), .int .u8 (B 1), .int .u8 (B 2), .int .u8 (B 3), .int .u8 (B 4), .int .u8 (B 5), .int .u8 (B 6), .int .u8 (B 7), .int .u8 (B 8), .int .u8 (B 9), .int .u8 (B 10), .int .u8 (B 11), .int .u8 (B 12), .int .u8 (B 13), .int .u8 (B 14), .int .u8 (B 15)] ∧ partOf w' (w1.heap.size) 0 17 = #[.bool cs, .int .u8 (cB 0), .int .u8 (cB 1), .int .u8 (cB 2), .int .u8 (cB 3), .int .u8 (cB 4), .int .u8 (cB 5), .int .u8 (cB 6), .int .u8 (cB 7), .int .u8 (cB 8), .int .u8 (cB 9), .int .u8 (cB 10), .int .u8 (cB 11), .int .u8 (cB 12), .int .u8 (cB 13), .int .u8 (cB 14), .int .u8 (cB 15)] ∧ partOf w' (w4.heap.size) 0 17 = #[.bool cs, .int .u8 (cB 0), .int .u8 (cB 1), .int .u8 (cB 2), .int .u8 (cB 3), .int .u8 (cB 4), .int .u8 (cB 5), .int .u8 (cB 6), .int .u8 (cB 7), .int .u8 (cB 8), .int .u8 (cB 9), .int .u8 (cB 10), .int .u8 (cB 11), .int .u8 (cB 12), .int .u8 (cB 13), .int .u8 (cB 14), .int .u8 (cB 15)]) ∧ Kept w w' [(w.heap.size, Obj.cells #[.bool s, .int .u8 (B 0), .int .u8 (B 1), .int .u8 (B 2), .int .u8 (B 3), .int .u8 (B 4), .int .u8 (B 5), .int .u8 (B 6), .int .u8 (B 7), .int .u8 (B 8), .int .u8 (B 9), .int .u8 (B 10), .int .u8 (B 11), .int .u8 (B 12), .int .u8 (B 13), .int .u8 (B 14), .int .u8 (B 15)] 25 (0, 0)), (w.heap.size + 1, Obj.cells #[.bool t, .int .u8 (A 0), .int .u8 (A 1), .int .u8 (A 2), .int .u8 (A 3), .int .u8 (A 4), .int .u8 (A 5), .int .u8 (A 6), .int .u8 (A 7), .int .u8 (A 8), .int .u8 (A 9), .int .u8 (A 10), .int .u8 (A 11), .int .u8 (A 12), .int .u8 (A 13), .int .u8 (A 14), .int .u8 (A 15)] 25 (0, 0)), (gp, Obj.cells #[.bool s, .int .u8 (B 0), .int .u8 (B 1), .int .u8 (B 2), .int .u8 (B 3), .int .u8 (B 4), .int .u8 (B 5), .int .u8 (B 6), .int .u8 (B 7), .int .u8 (B 8), .int .u8 (B 9), .int .u8 (B 10), .int .u8 (B 11), .int .u8 (B 12), .int .u8 (B 13), .int .u8 (B 14), .int .u8 (B 15)] 29 (0, 0)), (gq, Obj.cells #[.bool t, .int .u8 (A 0), .int .u8 (A 1), .int .u8 (A 2), .int .u8 (A 3), .int .u8 (A 4), .int .u8 (A 5), .int .u8 (A 6), .int .u8 (A 7), .int .u8 (A 8), .int .u8 (A 9), .int .u8 (A 10), .int .u8 (A 11), .int .u8 (A 12), .int .u8 (A 13), .int .u8 (A 14), .int .u8 (A 15)] 29 (0, 0)), (w1.heap.size, Obj.cells #[.bool cs, .int .u8 (cB 0), .int .u8 (cB 1), .int .u8 (cB 2), .int .u8 (cB 3), .int .u8 (cB 4), .int .u8 (cB 5), .int .u8 (cB 6), .int .u8 (cB 7), .int .u8 (cB 8), .int .u8 (cB 9), .int .u8 (cB 10), .int .u8 (cB 11), .int .u8 (cB 12), .int .u8 (cB 13), .int .u8 (cB 14), .int .u8 (cB 15)] 25 (0, 0)), (w4.heap.size, Obj.cells #[.bool cs, .int .u8 (cB 0), .int .u8 (cB 1), .int .u8 (cB 2), .int .u8 (cB 3), .int .u8 (cB 4), .int .u8 (cB 5), .int .u8 (cB 6), .int .u8 (cB 7), .int .u8 (cB 8), .int .u8 (cB 9), .int .u8 (cB 10), .int .u8 (cB 11), .int .u8 (cB 12), .int .u8 (cB 13), .int .u8 (cB 14), .int .u8 (cB 15)] 29 (0, 0))] (v5.heap.size) oa3 LB.length cap3 (LB.map (Value.int .u8))) ua → Below ua.heap.size ua ub → (fun w' => (partOf w' (w.heap.size) 0 17 = #[.bool s, .int .u8 (B 0), .int .u8 (B 1), .int .u8 (B 2), .int .u8 (B 3), .int .u8 (B 4), .int .u8 (B 5), .int .u8 (B 6), .int .u8 (B 7), .int .u8 (B 8), .int .u8 (B 9), .int .u8 (B 10), .int .u8 (B 11), .int .u8 (B 12), .int .u8 (B 13), .int .u8 (B 14), .int .u8 (B 15)] ∧ partOf w' (gp) 0 17 = #[.bool s, .int .u8 (B 0), .int .u8 (B 1), .int .u8 (B 2), .int .u8 (B 3), .int .u8 (B 4), .int .u8 (B 5), .int .u8 (B 6), .int .u8 (B 7), .int .u8 (B 8), .int .u8 (B 9), .int .u8 (B 10), .int .u8 (B 11), .int .u8 (B 12), .int .u8 (B 13), .int .u8 (B 14), .int .u8 (B 15)] ∧ partOf w' (w1.heap.size) 0 17 = #[.bool cs, .int .u8 (cB 0), .int .u8 (cB 1), .int .u8 (cB 2), .int .u8 (cB 3), .int .u8 (cB 4), .int .u8 (cB 5), .int .u8 (cB 6), .int .u8 (cB 7), .int .u8 (cB 8), .int .u8 (cB 9), .int .u8 (cB 10), .int .u8 (cB 11), .int .u8 (cB 12), .int .u8 (cB 13), .int .u8 (cB 14), .int .u8 (cB 15)] ∧ partOf w' (w4.heap.size) 0 17 = #[.bool cs, .int .u8 (cB 0), .int .u8 (cB 1), .int .u8 (cB 2), .int .u8 (cB 3), .int .u8 (cB 4), .int .u8 (cB 5), .int .u8 (cB 6), .int .u8 (cB 7), .int .u8 (cB 8), .int .u8 (cB 9), .int .u8 (cB 10), .int .u8 (cB 11), .int .u8 (cB 12), .int .u8 (cB 13), .int .u8 (cB 14), .int .u8 (cB 15)]) ∧ Kept w w' [(w.heap.size, Obj.cells #[.bool s, .int .u8 (B 0), .int .u8 (B 1), .int .u8 (B 2), .int .u8 (B 3), .int .u8 (B 4), .int .u8 (B 5), .int .u8 (B 6), .int .u8 (B 7), .int .u8 (B 8), .int .u8 (B 9), .int .u8 (B 10), .int .u8 (B 11), .int .u8 (B 12), .int .u8 (B 13), .int .u8 (B 14), .int .u8 (B 15)] 25 (0, 0)), (w.heap.size + 1, Obj.cells #[.bool t, .int .u8 (A 0), .int .u8 (A 1), .int .u8 (A 2), .int .u8 (A 3), .int .u8 (A 4), .int .u8 (A 5), .int .u8 (A 6), .int .u8 (A 7), .int .u8 (A 8), .int .u8 (A 9), .int .u8 (A 10), .int .u8 (A 11), .int .u8 (A 12), .int .u8 (A 13), .int .u8 (A 14), .int .u8 (A 15)] 25 (0, 0)), (gp, Obj.cells #[.bool s, .int .u8 (B 0), .int .u8 (B 1), .int .u8 (B 2), .int .u8 (B 3), .int .u8 (B 4), .int .u8 (B 5), .int .u8 (B 6), .int .u8 (B 7), .int .u8 (B 8), .int .u8 (B 9), .int .u8 (B 10), .int .u8 (B 11), .int .u8 (B 12), .int .u8 (B 13), .int .u8 (B 14), .int .u8 (B 15)] 29 (0, 0)), (gq, Obj.cells #[.bool t, .int .u8 (A 0), .int .u8 (A 1), .int .u8 (A 2), .int .u8 (A 3), .int .u8 (A 4), .int .u8 (A 5), .int .u8 (A 6), .int .u8 (A 7), .int .u8 (A 8), .int .u8 (A 9), .int .u8 (A 10), .int .u8 (A 11), .int .u8 (A 12), .int .u8 (A 13), .int .u8 (A 14), .int .u8 (A 15)] 29 (0, 0)), (w1.heap.size, Obj.cells #[.bool cs, .int .u8 (cB 0), .int .u8 (cB 1), .int .u8 (cB 2), .int .u8 (cB 3), .int .u8 (cB 4), .int .u8 (cB 5), .int .u8 (cB 6), .int .u8 (cB 7), .int .u8 (cB 8), .int .u8 (cB 9), .int .u8 (cB 10), .int .u8 (cB 11), .int .u8 (cB 12), .int .u8 (cB 13), .int .u8 (cB 14), .int .u8 (cB 15)] 25 (0, 0)), (w4.heap.size, Obj.cells #[.bool cs, .int .u8 (cB 0), .int .u8 (cB 1), .int .u8 (cB 2), .int .u8 (cB 3), .int .u8 (cB 4), .int .u8 (cB 5), .int .u8 (cB 6), .int .u8 (cB 7), .int .u8 (cB 8), .int .u8 (cB 9), .int .u8 (cB 10), .int .u8 (cB 11), .int .u8 (cB 12), .int .u8 (cB 13), .int .u8 (cB 14), .int .u8 (cB 15)] 29 (0, 0))] (v5.heap.size) oa3 LB.length cap3 (LB.map (Value.int .u8))) ub) := Lib.hid (fun ua ub h hb => by have h1 := h.2.go hb; exact ⟨⟨h1.ad 0 _ rfl, h1.ad 2 _ rfl, h1.ad 4 _ rfl, h1.ad 5 _ rfl⟩, h1⟩)
  have RO : Hid (∀ ua : World, (fun w' => (partOf w' (w.heap.size) 0 17 = #[.bool s, .int .u8 (B 0), .int .u8 (B 1), .int .u8 (B 2), .int .u8 (B 3), .int .u8 (B 4), .int .u8 (B 5), .int .u8 (B 6), .int .u8 (B 7), .int .u8 (B 8), .int .u8 (B 9), .int .u8 (B 10), .int .u8 (B 11), .int .u8 (B 12), .int .u8 (B 13), .int .u8 (B 14), .int .u8 (B 15)] ∧ partOf w' (gp) 0 17 = #[.bool s, .int .u8 (B 0), .int .u8 (B 1), .int .u8 (B 2), .int .u8 (B 3), .int .u8 (B 4), .int .u8 (B 5), .int .u8 (B 6), .int .u8 (B 7), .int .u8 (B 8), .int .u8 (B 9), .int .u8 (B 10), .int .u8 (B 11), .int .u8 (B 12), .int .u8 (B 13), .int .u8 (B 14), .int .u8 (B 15)] ∧ partOf w' (w1.heap.size) 0 17 = #[.bool cs, .int .u8 (cB 0), .int .u8 (cB 1), .int .u8 (cB 2), .int .u8 (cB 3), .int .u8 (cB 4), .int .u8 (cB 5), .int .u8 (cB 6), .int .u8 (cB 7), .int .u8 (cB 8), .int .u8 (cB 9), .int .u8 (cB 10), .int .u8 (cB 11), .int .u8 (cB 12), .int .u8 (cB 13), .int .u8 (cB 14), .int .u8 (cB 15)] ∧ partOf w' (w4.heap.size) 0 17 = #[.bool cs, .int .u8 (cB 0), .int .u8 (cB 1), .int .u8 (cB 2), .int .u8 (cB 3), .int .u8 (cB 4), .int .u8 (cB 5), .int .u8 (cB 6), .int .u8 (cB 7), .int .u8 (cB 8), .int .u8 (cB 9), .int .u8 (cB 10), .int .u8 (cB 11), .int .u8 (cB 12), .int .u8 (cB 13), .int .u8 (cB 14), .int .u8 (cB 15)]) ∧ Kept w w' [(w.heap.size, Obj.cells #[.bool s, .int .u8 (B 0), .int .u8 (B 1), .int .u8 (B 2), .int .u8 (B 3), .int .u8 (B 4), .int .u8 (B 5), .int .u8 (B 6), .int .u8 (B 7), .int .u8 (B 8), .int .u8 (B 9), .int .u8 (B 10), .int .u8 (B 11), .int .u8 (B 12), .int .u8 (B 13), .int .u8 (B 14), .int .u8 (B 15)] 25 (0, 0)), (w.heap.size + 1, Obj.cells #[.bool t, .int .u8 (A 0), .int .u8 (A 1), .int .u8 (A 2), .int .u8 (A 3), .int .u8 (A 4), .int .u8 (A 5), .int .u8 (A 6), .int .u8 (A 7), .int .u8 (A 8), .int .u8 (A 9), .int .u8 (A 10), .int .u8 (A 11), .int .u8 (A 12), .int .u8 (A 13), .int .u8 (A 14), .int .u8 (A 15)] 25 (0, 0)), (gp, Obj.cells #[.bool s, .int .u8 (B 0), .int .u8 (B 1), .int .u8 (B 2), .int .u8 (B 3), .int .u8 (B 4), .int .u8 (B 5), .int .u8 (B 6), .int .u8 (B 7), .int .u8 (B 8), .int .u8 (B 9), .int .u8 (B 10), .int .u8 (B 11), .int .u8 (B 12), .int .u8 (B 13), .int .u8 (B 14), .int .u8 (B 15)] 29 (0, 0)), (gq, Obj.cells #[.bool t, .int .u8 (A 0), .int .u8 (A 1), .int .u8 (A 2), .int .u8 (A 3), .int .u8 (A 4), .int .u8 (A 5), .int .u8 (A 6), .int .u8 (A 7), .int .u8 (A 8), .int .u8 (A 9), .int .u8 (A 10), .int .u8 (A 11), .int .u8 (A 12), .int .u8 (A 13), .int .u8 (A 14), .int .u8 (A 15)] 29 (0, 0)), (w1.heap.size, Obj.cells #[.bool cs, .int .u8 (cB 0), .int .u8 (cB 1), .int .u8 (cB 2), .int .u8 (cB 3), .int .u8 (cB 4), .int .u8 (cB 5), .int .u8 (cB 6), .int .u8 (cB 7), .int .u8 (cB 8), .int .u8 (cB 9), .int .u8 (cB 10), .int .u8 (cB 11), .int .u8 (cB 12), .int .u8 (cB 13), .int .u8 (cB 14), .int .u8 (cB 15)] 25 (0, 0)), (w4.heap.size, Obj.cells #[.bool cs, .int .u8 (cB 0), .int .u8 (cB 1), .int .u8 (cB 2), .int .u8 (cB 3), .int .u8 (cB 4), .int .u8 (cB 5), .int .u8 (cB 6), .int .u8 (cB 7), .int .u8 (cB 8), .int .u8 (cB 9), .int .u8 (cB 10), .int .u8 (cB 11), .int .u8 (cB 12), .int .u8 (cB 13), .int .u8 (cB 14), .int .u8 (cB 15)] 29 (0, 0))] (v5.heap.size) oa3 LB.length cap3 (LB.map (Value.int .u8))) ua → Reads ua oa3 LB.length cap3 LB) := Lib.hid (fun ua h => Owns.reads h.2.own HBU.out)
  have RE : Hid (∀ ua : World, (fun w' => (partOf w' (w.heap.size) 0 17 = #[.bool s, .int .u8 (B 0), .int .u8 (B 1), .int .u8 (B 2), .int .u8 (B 3), .int .u8 (B 4), .int .u8 (B 5), .int .u8 (B 6), .int .u8 (B 7), .int .u8 (B 8), .int .u8 (B 9), .int .u8 (B 10), .int .u8 (B 11), .int .u8 (B 12), .int .u8 (B 13), .int .u8 (B 14), .int .u8 (B 15)] ∧ partOf w' (gp) 0 17 = #[.bool s, .int .u8 (B 0), .int .u8 (B 1), .int .u8 (B 2), .int .u8 (B 3), .int .u8 (B 4), .int .u8 (B 5), .int .u8 (B 6), .int .u8 (B 7), .int .u8 (B 8), .int .u8 (B 9), .int .u8 (B 10), .int .u8 (B 11), .int .u8 (B 12), .int .u8 (B 13), .int .u8 (B 14), .int .u8 (B 15)] ∧ partOf w' (w1.heap.size) 0 17 = #[.bool cs, .int .u8 (cB 0), .int .u8 (cB 1), .int .u8 (cB 2), .int .u8 (cB 3), .int .u8 (cB 4), .int .u8 (cB 5), .int .u8 (cB 6), .int .u8 (cB 7), .int .u8 (cB 8), .int .u8 (cB 9), .int .u8 (cB 10), .int .u8 (cB 11), .int .u8 (cB 12), .int .u8 (cB 13), .int .u8 (cB 14), .int .u8 (cB 15)] ∧ partOf w' (w4.heap.size) 0 17 = #[.bool cs, .int .u8 (cB 0), .int .u8 (cB 1), .int .u8 (cB 2), .int .u8 (cB 3), .int .u8 (cB 4), .int .u8 (cB 5), .int .u8 (cB 6), .int .u8 (cB 7), .int .u8 (cB 8), .int .u8 (cB 9), .int .u8 (cB 10), .int .u8 (cB 11), .int .u8 (cB 12), .int .u8 (cB 13), .int .u8 (cB 14), .int .u8 (cB 15)]) ∧ Kept w w' [(w.heap.size, Obj.cells #[.bool s, .int .u8 (B 0), .int .u8 (B 1), .int .u8 (B 2), .int .u8 (B 3), .int .u8 (B 4), .int .u8 (B 5), .int .u8 (B 6), .int .u8 (B 7), .int .u8 (B 8), .int .u8 (B 9), .int .u8 (B 10), .int .u8 (B 11), .int .u8 (B 12), .int .u8 (B 13), .int .u8 (B 14), .int .u8 (B 15)] 25 (0, 0)), (w.heap.size + 1, Obj.cells #[.bool t, .int .u8 (A 0), .int .u8 (A 1), .int .u8 (A 2), .int .u8 (A 3), .int .u8 (A 4), .int .u8 (A 5), .int .u8 (A 6), .int .u8 (A 7), .int .u8 (A 8), .int .u8 (A 9), .int .u8 (A 10), .int .u8 (A 11), .int .u8 (A 12), .int .u8 (A 13), .int .u8 (A 14), .int .u8 (A 15)] 25 (0, 0)), (gp, Obj.cells #[.bool s, .int .u8 (B 0), .int .u8 (B 1), .int .u8 (B 2), .int .u8 (B 3), .int .u8 (B 4), .int .u8 (B 5), .int .u8 (B 6), .int .u8 (B 7), .int .u8 (B 8), .int .u8 (B 9), .int .u8 (B 10), .int .u8 (B 11), .int .u8 (B 12), .int .u8 (B 13), .int .u8 (B 14), .int .u8 (B 15)] 29 (0, 0)), (gq, Obj.cells #[.bool t, .int .u8 (A 0), .int .u8 (A 1), .int .u8 (A 2), .int .u8 (A 3), .int .u8 (A 4), .int .u8 (A 5), .int .u8 (A 6), .int .u8 (A 7), .int .u8 (A 8), .int .u8 (A 9), .int .u8 (A 10), .int .u8 (A 11), .int .u8 (A 12), .int .u8 (A 13), .int .u8 (A 14), .int .u8 (A 15)] 29 (0, 0)), (w1.heap.size, Obj.cells #[.bool cs, .int .u8 (cB 0), .int .u8 (cB 1), .int .u8 (cB 2), .int .u8 (cB 3), .int .u8 (cB 4), .int .u8 (cB 5), .int .u8 (cB 6), .int .u8 (cB 7), .int .u8 (cB 8), .int .u8 (cB 9), .int .u8 (cB 10), .int .u8 (cB 11), .int .u8 (cB 12), .int .u8 (cB 13), .int .u8 (cB 14), .int .u8 (cB 15)] 25 (0, 0)), (w4.heap.size, Obj.cells #[.bool cs, .int .u8 (cB 0), .int .u8 (cB 1), .int .u8 (cB 2), .int .u8 (cB 3), .int .u8 (cB 4), .int .u8 (cB 5), .int .u8 (cB 6), .int .u8 (cB 7), .int .u8 (cB 8), .int .u8 (cB 9), .int .u8 (cB 10), .int .u8 (cB 11), .int .u8 (cB 12), .int .u8 (cB 13), .int .u8 (cB 14), .int .u8 (cB 15)] 29 (0, 0))] (v5.heap.size) oa3 LB.length cap3 (LB.map (Value.int .u8))) ua → Env ua) := Lib.hid (fun ua h => HE.out.below h.2.below)
  generalize hQ : Exit.then _ _ = Q
  have HQ := Lib.hid hQ
  clear hQ
  go_region_held3 (fun w' => (partOf w' (w.heap.size) 0 17 = #[.bool s, .int .u8 (B 0), .int .u8 (B 1), .int .u8 (B 2), .int .u8 (B 3), .int .u8 (B 4), .int .u8 (B 5), .int .u8 (B 6), .int .u8 (B 7), .int .u8 (B 8), .int .u8 (B 9), .int .u8 (B 10), .int .u8 (B 11), .int .u8 (B 12), .int .u8 (B 13), .int .u8 (B 14), .int .u8 (B 15)] ∧ partOf w' (gp) 0 17 = #[.bool s, .int .u8 (B 0), .int .u8 (B 1), .int .u8 (B 2), .int .u8 (B 3), .int .u8 (B 4), .int .u8 (B 5), .int .u8 (B 6), .int .u8 (B 7), .int .u8 (B 8), .int .u8 (B 9), .int .u8 (B 10), .int .u8 (B 11), .int .u8 (B 12), .int .u8 (B 13), .int .u8 (B 14), .int .u8 (B 15)] ∧ partOf w' (w1.heap.size) 0 17 = #[.bool cs, .int .u8 (cB 0), .int .u8 (cB 1), .int .u8 (cB 2), .int .u8 (cB 3), .int .u8 (cB 4), .int .u8 (cB 5), .int .u8 (cB 6), .int .u8 (cB 7), .int .u8 (cB 8), .int .u8 (cB 9), .int .u8 (cB 10), .int .u8 (cB 11), .int .u8 (cB 12), .int .u8 (cB 13), .int .u8 (cB 14), .int .u8 (cB 15)] ∧ partOf w' (w4.heap.size) 0 17 = #[.bool cs, .int .u8 (cB 0), .int .u8 (cB 1), .int .u8 (cB 2), .int .u8 (cB 3), .int .u8 (cB 4), .int .u8 (cB 5), .int .u8 (cB 6), .int .u8 (cB 7), .int .u8 (cB 8), .int .u8 (cB 9), .int .u8 (cB 10), .int .u8 (cB 11), .int .u8 (cB 12), .int .u8 (cB 13), .int .u8 (cB 14), .int .u8 (cB 15)]) ∧ Kept w w' [(w.heap.size, Obj.cells #[.bool s, .int .u8 (B 0), .int .u8 (B 1), .int .u8 (B 2), .int .u8 (B 3), .int .u8 (B 4), .int .u8 (B 5), .int .u8 (B 6), .int .u8 (B 7), .int .u8 (B 8), .int .u8 (B 9), .int .u8 (B 10), .int .u8 (B 11), .int .u8 (B 12), .int .u8 (B 13), .int .u8 (B 14), .int .u8 (B 15)] 25 (0, 0)), (w.heap.size + 1, Obj.cells #[.bool t, .int .u8 (A 0), .int .u8 (A 1), .int .u8 (A 2), .int .u8 (A 3), .int .u8 (A 4), .int .u8 (A 5), .int .u8 (A 6), .int .u8 (A 7), .int .u8 (A 8), .int .u8 (A 9), .int .u8 (A 10), .int .u8 (A 11), .int .u8 (A 12), .int .u8 (A 13), .int .u8 (A 14), .int .u8 (A 15)] 25 (0, 0)), (gp, Obj.cells #[.bool s, .int .u8 (B 0), .int .u8 (B 1), .int .u8 (B 2), .int .u8 (B 3), .int .u8 (B 4), .int .u8 (B 5), .int .u8 (B 6), .int .u8 (B 7), .int .u8 (B 8), .int .u8 (B 9), .int .u8 (B 10), .int .u8 (B 11), .int .u8 (B 12), .int .u8 (B 13), .int .u8 (B 14), .int .u8 (B 15)] 29 (0, 0)), (gq, Obj.cells #[.bool t, .int .u8 (A 0), .int .u8 (A 1), .int .u8 (A 2), .int .u8 (A 3), .int .u8 (A 4), .int .u8 (A 5), .int .u8 (A 6), .int .u8 (A 7), .int .u8 (A 8), .int .u8 (A 9), .int .u8 (A 10), .int .u8 (A 11), .int .u8 (A 12), .int .u8 (A 13), .int .u8 (A 14), .int .u8 (A 15)] 29 (0, 0)), (w1.heap.size, Obj.cells #[.bool cs, .int .u8 (cB 0), .int .u8 (cB 1), .int .u8 (cB 2), .int .u8 (cB 3), .int .u8 (cB 4), .int .u8 (cB 5), .int .u8 (cB 6), .int .u8 (cB 7), .int .u8 (cB 8), .int .u8 (cB 9), .int .u8 (cB 10), .int .u8 (cB 11), .int .u8 (cB 12), .int .u8 (cB 13), .int .u8 (cB 14), .int .u8 (cB 15)] 25 (0, 0)), (w4.heap.size, Obj.cells #[.bool cs, .int .u8 (cB 0), .int .u8 (cB 1), .int .u8 (cB 2), .int .u8 (cB 3), .int .u8 (cB 4), .int .u8 (cB 5), .int .u8 (cB 6), .int .u8 (cB 7), .int .u8 (cB 8), .int .u8 (cB 9), .int .u8 (cB 10), .int .u8 (cB 11), .int .u8 (cB 12), .int .u8 (cB 13), .int .u8 (cB 14), .int .u8 (cB 15)] 29 (0, 0))] (v5.heap.size) oa3 LB.length cap3 (LB.map (Value.int .u8)))
    (first | (with_reducible exact KS.out _ _ HS0.out (Below.refl _ _).drew) | (with_reducible exact KS.out _ _ (by assumption) hb))
    (first
    | (go_at_call 17; (with_reducible refine Calls.mono (HP1.out _) ?_); rintro en w' ⟨rfl, hb⟩)
    | (go_at_call 18; (with_reducible refine Calls.mono (HR1.out _) ?_); rintro en w' ⟨rfl, hb⟩)
    | (go_at_call 20; (with_reducible refine Calls.mono (HBR.out _) ?_); rintro en w' ⟨o43, c43, rfl, ho43, hb⟩; have R43 := ho43.reads HBU.out)
    | (go_at_call 21; (with_reducible refine Calls.mono (HT1.out _ (RE.out _ (by assumption))) ?_); rintro en w' ⟨rfl, hb⟩)
    | (go_at_call 22; (with_reducible refine Calls.mono (HTR.out _) ?_); rintro en w' ⟨rfl, hb⟩)
    | (go_at_call 11; (with_reducible refine Calls.mono (HDC.out _) ?_); rintro en w' ⟨rfl, hb⟩)
    | (go_at_call 19; (with_reducible refine Calls.mono (same_any oa3 LB.length cap3 o43 c43 LB _ (RO.out _ (by assumption)) R43 HBM.out) ?_); rintro en w' ⟨rfl, hb⟩)
    )
  have hS : Kept w w' [(w.heap.size, Obj.cells #[.bool s, .int .u8 (B 0), .int .u8 (B 1), .int .u8 (B 2), .int .u8 (B 3), .int .u8 (B 4), .int .u8 (B 5), .int .u8 (B 6), .int .u8 (B 7), .int .u8 (B 8), .int .u8 (B 9), .int .u8 (B 10), .int .u8 (B 11), .int .u8 (B 12), .int .u8 (B 13), .int .u8 (B 14), .int .u8 (B 15)] 25 (0, 0)), (w.heap.size + 1, Obj.cells #[.bool t, .int .u8 (A 0), .int .u8 (A 1), .int .u8 (A 2), .int .u8 (A 3), .int .u8 (A 4), .int .u8 (A 5), .int .u8 (A 6), .int .u8 (A 7), .int .u8 (A 8), .int .u8 (A 9), .int .u8 (A 10), .int .u8 (A 11), .int .u8 (A 12), .int .u8 (A 13), .int .u8 (A 14), .int .u8 (A 15)] 25 (0, 0)), (gp, Obj.cells #[.bool s, .int .u8 (B 0), .int .u8 (B 1), .int .u8 (B 2), .int .u8 (B 3), .int .u8 (B 4), .int .u8 (B 5), .int .u8 (B 6), .int .u8 (B 7), .int .u8 (B 8), .int .u8 (B 9), .int .u8 (B 10), .int .u8 (B 11), .int .u8 (B 12), .int .u8 (B 13), .int .u8 (B 14), .int .u8 (B 15)] 29 (0, 0)), (gq, Obj.cells #[.bool t, .int .u8 (A 0), .int .u8 (A 1), .int .u8 (A 2), .int .u8 (A 3), .int .u8 (A 4), .int .u8 (A 5), .int .u8 (A 6), .int .u8 (A 7), .int .u8 (A 8), .int .u8 (A 9), .int .u8 (A 10), .int .u8 (A 11), .int .u8 (A 12), .int .u8 (A 13), .int .u8 (A 14), .int .u8 (A 15)] 29 (0, 0)), (w1.heap.size, Obj.cells #[.bool cs, .int .u8 (cB 0), .int .u8 (cB 1), .int .u8 (cB 2), .int .u8 (cB 3), .int .u8 (cB 4), .int .u8 (cB 5), .int .u8 (cB 6), .int .u8 (cB 7), .int .u8 (cB 8), .int .u8 (cB 9), .int .u8 (cB 10), .int .u8 (cB 11), .int .u8 (cB 12), .int .u8 (cB 13), .int .u8 (cB 14), .int .u8 (cB 15)] 25 (0, 0)), (w4.heap.size, Obj.cells #[.bool cs, .int .u8 (cB 0), .int .u8 (cB 1), .int .u8 (cB 2), .int .u8 (cB 3), .int .u8 (cB 4), .int .u8 (cB 5), .int .u8 (cB 6), .int .u8 (cB 7), .int .u8 (cB 8), .int .u8 (cB 9), .int .u8 (cB 10), .int .u8 (cB 11), .int .u8 (cB 12), .int .u8 (cB 13), .int .u8 (cB 14), .int .u8 (cB 15)] 29 (0, 0))] (v5.heap.size) oa3 LB.length cap3 (LB.map (Value.int .u8)) := (show (fun w' => (partOf w' (w.heap.size) 0 17 = #[.bool s, .int .u8 (B 0), .int .u8 (B 1), .int .u8 (B 2), .int .u8 (B 3), .int .u8 (B 4), .int .u8 (B 5), .int .u8 (B 6), .int .u8 (B 7), .int .u8 (B 8), .int .u8 (B 9), .int .u8 (B 10), .int .u8 (B 11), .int .u8 (B 12), .int .u8 (B 13), .int .u8 (B 14), .int .u8 (B 15)] ∧ partOf w' (gp) 0 17 = #[.bool s, .int .u8 (B 0), .int .u8 (B 1), .int .u8 (B 2), .int .u8 (B 3), .int .u8 (B 4), .int .u8 (B 5), .int .u8 (B 6), .int .u8 (B 7), .int .u8 (B 8), .int .u8 (B 9), .int .u8 (B 10), .int .u8 (B 11), .int .u8 (B 12), .int .u8 (B 13), .int .u8 (B 14), .int .u8 (B 15)] ∧ partOf w' (w1.heap.size) 0 17 = #[.bool cs, .int .u8 (cB 0), .int .u8 (cB 1), .int .u8 (cB 2), .int .u8 (cB 3), .int .u8 (cB 4), .int .u8 (cB 5), .int .u8 (cB 6), .int .u8 (cB 7), .int .u8 (cB 8), .int .u8 (cB 9), .int .u8 (cB 10), .int .u8 (cB 11), .int .u8 (cB 12), .int .u8 (cB 13), .int .u8 (cB 14), .int .u8 (cB 15)] ∧ partOf w' (w4.heap.size) 0 17 = #[.bool cs, .int .u8 (cB 0), .int .u8 (cB 1), .int .u8 (cB 2), .int .u8 (cB 3), .int .u8 (cB 4), .int .u8 (cB 5), .int .u8 (cB 6), .int .u8 (cB 7), .int .u8 (cB 8), .int .u8 (cB 9), .int .u8 (cB 10), .int .u8 (cB 11), .int .u8 (cB 12), .int .u8 (cB 13), .int .u8 (cB 14), .int .u8 (cB 15)]) ∧ Kept w w' [(w.heap.size, Obj.cells #[.bool s, .int .u8 (B 0), .int .u8 (B 1), .int .u8 (B 2), .int .u8 (B 3), .int .u8 (B 4), .int .u8 (B 5), .int .u8 (B 6), .int .u8 (B 7), .int .u8 (B 8), .int .u8 (B 9), .int .u8 (B 10), .int .u8 (B 11), .int .u8 (B 12), .int .u8 (B 13), .int .u8 (B 14), .int .u8 (B 15)] 25 (0, 0)), (w.heap.size + 1, Obj.cells #[.bool t, .int .u8 (A 0), .int .u8 (A 1), .int .u8 (A 2), .int .u8 (A 3), .int .u8 (A 4), .int .u8 (A 5), .int .u8 (A 6), .int .u8 (A 7), .int .u8 (A 8), .int .u8 (A 9), .int .u8 (A 10), .int .u8 (A 11), .int .u8 (A 12), .int .u8 (A 13), .int .u8 (A 14), .int .u8 (A 15)] 25 (0, 0)), (gp, Obj.cells #[.bool s, .int .u8 (B 0), .int .u8 (B 1), .int .u8 (B 2), .int .u8 (B 3), .int .u8 (B 4), .int .u8 (B 5), .int .u8 (B 6), .int .u8 (B 7), .int .u8 (B 8), .int .u8 (B 9), .int .u8 (B 10), .int .u8 (B 11), .int .u8 (B 12), .int .u8 (B 13), .int .u8 (B 14), .int .u8 (B 15)] 29 (0, 0)), (gq, Obj.cells #[.bool t, .int .u8 (A 0), .int .u8 (A 1), .int .u8 (A 2), .int .u8 (A 3), .int .u8 (A 4), .int .u8 (A 5), .int .u8 (A 6), .int .u8 (A 7), .int .u8 (A 8), .int .u8 (A 9), .int .u8 (A 10), .int .u8 (A 11), .int .u8 (A 12), .int .u8 (A 13), .int .u8 (A 14), .int .u8 (A 15)] 29 (0, 0)), (w1.heap.size, Obj.cells #[.bool cs, .int .u8 (cB 0), .int .u8 (cB 1), .int .u8 (cB 2), .int .u8 (cB 3), .int .u8 (cB 4), .int .u8 (cB 5), .int .u8 (cB 6), .int .u8 (cB 7), .int .u8 (cB 8), .int .u8 (cB 9), .int .u8 (cB 10), .int .u8 (cB 11), .int .u8 (cB 12), .int .u8 (cB 13), .int .u8 (cB 14), .int .u8 (cB 15)] 25 (0, 0)), (w4.heap.size, Obj.cells #[.bool cs, .int .u8 (cB 0), .int .u8 (cB 1), .int .u8 (cB 2), .int .u8 (cB 3), .int .u8 (cB 4), .int .u8 (cB 5), .int .u8 (cB 6), .int .u8 (cB 7), .int .u8 (cB 8), .int .u8 (cB 9), .int .u8 (cB 10), .int .u8 (cB 11), .int .u8 (cB 12), .int .u8 (cB 13), .int .u8 (cB 14), .int .u8 (cB 15)] 29 (0, 0))] (v5.heap.size) oa3 LB.length cap3 (LB.map (Value.int .u8))) w' by assumption).2
  have HB7 : Hid (Below w.heap.size w w') := Lib.hid hS.below
  have HCX := Lib.hid (hS.at 0 _ rfl)
  have HCY := Lib.hid (hS.at 1 _ rfl)
  have HCP := Lib.hid (hS.at 2 _ rfl)
  have HCQ := Lib.hid (hS.at 3 _ rfl)
  have HCC := Lib.hid (hS.at 4 _ rfl)
  have HCD := Lib.hid (hS.at 5 _ rfl)
  have HO := Lib.hid hS.own
  rw [← HQ.out]
  clear hS HS0 KS RO RE HQ
  generalize w' = w7 at *
  clear HP1 HTR HT1 HDC hq1 hq2 hq3 he1
  go_wp2_with fail
  refine Calls.mono (spoil_any oa3 LB.length cap3 _ _ _ HO.out HBM.out) ?_
  rintro e' wS ⟨rfl, hg, hsz⟩
  have HCX := Lib.hid ((hg.block _ (Array.getElem?_eq_some_iff.1 HCX.out).1 (fun e => by obtain ⟨a, ha, hab⟩ := Option.map_eq_some_iff.1 e.symm; have h1 := (HO.out.lt ha).1; have h2 := HLX.out; omega)).trans HCX.out)
  have HCY := Lib.hid ((hg.block _ (Array.getElem?_eq_some_iff.1 HCY.out).1 (fun e => by obtain ⟨a, ha, hab⟩ := Option.map_eq_some_iff.1 e.symm; have h1 := (HO.out.lt ha).1; have h2 := HLY.out; omega)).trans HCY.out)
  have HCP := Lib.hid ((hg.block _ (Array.getElem?_eq_some_iff.1 HCP.out).1 (fun e => by obtain ⟨a, ha, hab⟩ := Option.map_eq_some_iff.1 e.symm; have h1 := (HO.out.lt ha).1; have h2 := HLP.out; omega)).trans HCP.out)
  have HCQ := Lib.hid ((hg.block _ (Array.getElem?_eq_some_iff.1 HCQ.out).1 (fun e => by obtain ⟨a, ha, hab⟩ := Option.map_eq_some_iff.1 e.symm; have h1 := (HO.out.lt ha).1; have h2 := HLQ.out; omega)).trans HCQ.out)
  have HBS : Hid (Below w.heap.size w wS) := Lib.hid (Below.grown (HB7.out) hg (HB7.out).size (fun k hk => by obtain ⟨a, ha, hab⟩ := Option.map_eq_some_iff.1 hk; have h1 := (HO.out.lt ha).1; omega))
  clear hg hsz HO HCC HCD HLX HLY HLP HLQ
  have hpP : partOf wS gp 0 17 = #[.bool s, .int .u8 (B 0), .int .u8 (B 1), .int .u8 (B 2), .int .u8 (B 3), .int .u8 (B 4), .int .u8 (B 5), .int .u8 (B 6), .int .u8 (B 7), .int .u8 (B 8), .int .u8 (B 9), .int .u8 (B 10), .int .u8 (B 11), .int .u8 (B 12), .int .u8 (B 13), .int .u8 (B 14), .int .u8 (B 15)] := by rw [partOf_row _ _ _ _ _ _ _ HCP.out]; simp
  have hqP := (Array.getElem?_eq_some_iff.1 HCP.out).1
  go_wp2_with fail
  clear hpP hqP
  refine Calls.mono (HR1.out _) ?_
  rintro e' w8 ⟨rfl, hb⟩
  have HB8 : Hid (Below w.heap.size w w8) := Lib.hid (Below.via (HBS.out) hb)
  have HCX := Lib.hid (cell_up hb HCX.out)
  have HCY := Lib.hid (cell_up hb HCY.out)
  have HCP := Lib.hid (cell_up hb HCP.out)
  have HCQ := Lib.hid (cell_up hb HCQ.out)
  clear hb
  cases r1
  · skip
    go_wp2_with fail
    refine Calls.mono (works_any _ ((HE.out.below HB8.out))) ?_
    rintro e' w9 ⟨rfl, hb⟩
    have HB9 : Hid (Below w.heap.size w w9) := Lib.hid (Below.via (HB8.out) hb)
    have HCX := Lib.hid (cell_up hb HCX.out)
    have HCY := Lib.hid (cell_up hb HCY.out)
    have HCP := Lib.hid (cell_up hb HCP.out)
    have HCQ := Lib.hid (cell_up hb HCQ.out)
    clear hb
    go_wp2_with fail
    go_ret
    exact .mk rfl HB9.out
  · skip
    have hpQ : partOf w8 gq 0 17 = #[.bool t, .int .u8 (A 0), .int .u8 (A 1), .int .u8 (A 2), .int .u8 (A 3), .int .u8 (A 4), .int .u8 (A 5), .int .u8 (A 6), .int .u8 (A 7), .int .u8 (A 8), .int .u8 (A 9), .int .u8 (A 10), .int .u8 (A 11), .int .u8 (A 12), .int .u8 (A 13), .int .u8 (A 14), .int .u8 (A 15)] := by rw [partOf_row _ _ _ _ _ _ _ HCQ.out]; simp
    have hqQ := (Array.getElem?_eq_some_iff.1 HCQ.out).1
    go_wp2_with fail
    clear hpQ hqQ
    refine Calls.mono (HR2.out _) ?_
    rintro e' w9 ⟨rfl, hb⟩
    have HB9 : Hid (Below w.heap.size w w9) := Lib.hid (Below.via (HB8.out) hb)
    have HCX := Lib.hid (cell_up hb HCX.out)
    have HCY := Lib.hid (cell_up hb HCY.out)
    have HCP := Lib.hid (cell_up hb HCP.out)
    have HCQ := Lib.hid (cell_up hb HCQ.out)
    clear hb
    cases r2
    · skip
      go_wp2_with fail
      refine Calls.mono (works_any _ ((HE.out.below HB9.out))) ?_
      rintro e' w10 ⟨rfl, hb⟩
      have HB10 : Hid (Below w.heap.size w w10) := Lib.hid (Below.via (HB9.out) hb)
      have HCX := Lib.hid (cell_up hb HCX.out)
      have HCY := Lib.hid (cell_up hb HCY.out)
      have HCP := Lib.hid (cell_up hb HCP.out)
      have HCQ := Lib.hid (cell_up hb HCQ.out)
      clear hb
      go_wp2_with fail
      go_ret
      exact .mk rfl HB10.out
    · skip
      go_wp2_with fail
      have HO := Lib.hid (Owns.nil w9 0 1)
      have HS0 : Hid ((fun w' => (partOf w' (w.heap.size) 0 17 = #[.bool s, .int .u8 (B 0), .int .u8 (B 1), .int .u8 (B 2), .int .u8 (B 3), .int .u8 (B 4), .int .u8 (B 5), .int .u8 (B 6), .int .u8 (B 7), .int .u8 (B 8), .int .u8 (B 9), .int .u8 (B 10), .int .u8 (B 11), .int .u8 (B 12), .int .u8 (B 13), .int .u8 (B 14), .int .u8 (B 15)] ∧ partOf w' (w.heap.size + 1) 0 17 = #[.bool t, .int .u8 (A 0), .int .u8 (A 1), .int .u8 (A 2), .int .u8 (A 3), .int .u8 (A 4), .int .u8 (A 5), .int .u8 (A 6), .int .u8 (A 7), .int .u8 (A 8), .int .u8 (A 9), .int .u8 (A 10), .int .u8 (A 11), .int .u8 (A 12), .int .u8 (A 13), .int .u8 (A 14), .int .u8 (A 15)] ∧ partOf w' (gp) 0 17 = #[.bool s, .int .u8 (B 0), .int .u8 (B 1), .int .u8 (B 2), .int .u8 (B 3), .int .u8 (B 4), .int .u8 (B 5), .int .u8 (B 6), .int .u8 (B 7), .int .u8 (B 8), .int .u8 (B 9), .int .u8 (B 10), .int .u8 (B 11), .int .u8 (B 12), .int .u8 (B 13), .int .u8 (B 14), .int .u8 (B 15)] ∧ partOf w' (gq) 0 17 = #[.bool t, .int .u8 (A 0), .int .u8 (A 1), .int .u8 (A 2), .int .u8 (A 3), .int .u8 (A 4), .int .u8 (A 5), .int .u8 (A 6), .int .u8 (A 7), .int .u8 (A 8), .int .u8 (A 9), .int .u8 (A 10), .int .u8 (A 11), .int .u8 (A 12), .int .u8 (A 13), .int .u8 (A 14), .int .u8 (A 15)]) ∧ Kept w w' [(w.heap.size, Obj.cells #[.bool s, .int .u8 (B 0), .int .u8 (B 1), .int .u8 (B 2), .int .u8 (B 3), .int .u8 (B 4), .int .u8 (B 5), .int .u8 (B 6), .int .u8 (B 7), .int .u8 (B 8), .int .u8 (B 9), .int .u8 (B 10), .int .u8 (B 11), .int .u8 (B 12), .int .u8 (B 13), .int .u8 (B 14), .int .u8 (B 15)] 25 (0, 0)), (w.heap.size + 1, Obj.cells #[.bool t, .int .u8 (A 0), .int .u8 (A 1), .int .u8 (A 2), .int .u8 (A 3), .int .u8 (A 4), .int .u8 (A 5), .int .u8 (A 6), .int .u8 (A 7), .int .u8 (A 8), .int .u8 (A 9), .int .u8 (A 10), .int .u8 (A 11), .int .u8 (A 12), .int .u8 (A 13), .int .u8 (A 14), .int .u8 (A 15)] 25 (0, 0)), (gp, Obj.cells #[.bool s, .int .u8 (B 0), .int .u8 (B 1), .int .u8 (B 2), .int .u8 (B 3), .int .u8 (B 4), .int .u8 (B 5), .int .u8 (B 6), .int .u8 (B 7), .int .u8 (B 8), .int .u8 (B 9), .int .u8 (B 10), .int .u8 (B 11), .int .u8 (B 12), .int .u8 (B 13), .int .u8 (B 14), .int .u8 (B 15)] 29 (0, 0)), (gq, Obj.cells #[.bool t, .int .u8 (A 0), .int .u8 (A 1), .int .u8 (A 2), .int .u8 (A 3), .int .u8 (A 4), .int .u8 (A 5), .int .u8 (A 6), .int .u8 (A 7), .int .u8 (A 8), .int .u8 (A 9), .int .u8 (A 10), .int .u8 (A 11), .int .u8 (A 12), .int .u8 (A 13), .int .u8 (A 14), .int .u8 (A 15)] 29 (0, 0))] 0 none 0 0 []) w9) := Lib.hid (by
        have h1 : Kept w w9 [(w.heap.size, Obj.cells #[.bool s, .int .u8 (B 0), .int .u8 (B 1), .int .u8 (B 2), .int .u8 (B 3), .int .u8 (B 4), .int .u8 (B 5), .int .u8 (B 6), .int .u8 (B 7), .int .u8 (B 8), .int .u8 (B 9), .int .u8 (B 10), .int .u8 (B 11), .int .u8 (B 12), .int .u8 (B 13), .int .u8 (B 14), .int .u8 (B 15)] 25 (0, 0)), (w.heap.size + 1, Obj.cells #[.bool t, .int .u8 (A 0), .int .u8 (A 1), .int .u8 (A 2), .int .u8 (A 3), .int .u8 (A 4), .int .u8 (A 5), .int .u8 (A 6), .int .u8 (A 7), .int .u8 (A 8), .int .u8 (A 9), .int .u8 (A 10), .int .u8 (A 11), .int .u8 (A 12), .int .u8 (A 13), .int .u8 (A 14), .int .u8 (A 15)] 25 (0, 0)), (gp, Obj.cells #[.bool s, .int .u8 (B 0), .int .u8 (B 1), .int .u8 (B 2), .int .u8 (B 3), .int .u8 (B 4), .int .u8 (B 5), .int .u8 (B 6), .int .u8 (B 7), .int .u8 (B 8), .int .u8 (B 9), .int .u8 (B 10), .int .u8 (B 11), .int .u8 (B 12), .int .u8 (B 13), .int .u8 (B 14), .int .u8 (B 15)] 29 (0, 0)), (gq, Obj.cells #[.bool t, .int .u8 (A 0), .int .u8 (A 1), .int .u8 (A 2), .int .u8 (A 3), .int .u8 (A 4), .int .u8 (A 5), .int .u8 (A 6), .int .u8 (A 7), .int .u8 (A 8), .int .u8 (A 9), .int .u8 (A 10), .int .u8 (A 11), .int .u8 (A 12), .int .u8 (A 13), .int .u8 (A 14), .int .u8 (A 15)] 29 (0, 0))] 0 none 0 0 [] := ⟨HB9.out, fun p hp => by
          simp only [List.mem_cons, List.not_mem_nil, or_false] at hp
          rcases hp with rfl | rfl | rfl | rfl
          · exact HCX.out
          · exact HCY.out
          · exact HCP.out
          · exact HCQ.out
          , HO.out⟩
        exact ⟨⟨h1.ad 0 _ rfl, h1.ad 1 _ rfl, h1.ad 2 _ rfl, h1.ad 3 _ rfl⟩, h1⟩)
      have KS : Hid (∀ ua ub : World, (fun w' => (partOf w' (w.heap.size) 0 17 = #[.bool s, .int .u8 (B 0), .int .u8 (B 1), .int .u8 (B 2), .int .u8 (B 3), .int .u8 (B 4), .int .u8 (B 5), .int .u8 (B 6), .int .u8 (B 7), .int .u8 (B 8), .int .u8 (B 9), .int .u8 (B 10), .int .u8 (B 11), .int .u8 (B 12), .int .u8 (B 13), .int .u8 (B 14), .int .u8 (B 15)] ∧ partOf w' (w.heap.size + 1) 0 17 = #[.bool t, .int .u8 (A 0), .int .u8 (A 1), .int .u8 (A 2), .int .u8 (A 3), .int .u8 (A 4), .int .u8 (A 5), .int .u8 (A 6), .int .u8 (A 7), .int .u8 (A 8), .int .u8 (A 9), .int .u8 (A 10), .int .u8 (A 11), .int .u8 (A 12), .int .u8 (A 13), .int .u8 (A 14), .int .u8 (A 15)] ∧ partOf w' (gp) 0 17 = #[.bool s, .int .u8 (B 0), .int .u8 (B 1), .int .u8 (B 2), .int .u8 (B 3), .int .u8 (B 4), .int .u8 (B 5), .int .u8 (B 6), .int .u8 (B 7), .int .u8 (B 8), .int .u8 (B 9), .int .u8 (B 10), .int .u8 (B 11), .int .u8 (B 12), .int .u8 (B 13), .int .u8 (B 14), .int .u8 (B 15)] ∧ partOf w' (gq) 0 17 = #[.bool t, .int .u8 (A 0), .int .u8 (A 1), .int .u8 (A 2), .int .u8 (A 3), .int .u8 (A 4), .int .u8 (A 5), .int .u8 (A 6), .int .u8 (A 7), .int .u8 (A 8), .int .u8 (A 9), .int .u8 (A 10), .int .u8 (A 11), .int .u8 (A 12), .int .u8 (A 13), .int .u8 (A 14), .int .u8 (A 15)]) ∧ Kept w w' [(w.heap.size, Obj.cells #[.bool s, .int .u8 (B 0), .int .u8 (B 1), .int .u8 (B 2), .int .u8 (B 3), .int .u8 (B 4), .int .u8 (B 5), .int .u8 (B 6), .int .u8 (B 7), .int .u8 (B 8), .int .u8 (B 9), .int .u8 (B 10), .int .u8 (B 11), .int .u8 (B 12), .int .u8 (B 13), .int .u8 (B 14), .int .u8 (B 15)] 25 (0, 0)), (w.heap.size + 1, Obj.cells #[.bool t, .int .u8 (A 0), .int .u8 (A 1), .int .u8 (A 2), .int .u8 (A 3), .int .u8 (A 4), .int .u8 (A 5), .int .u8 (A 6), .int .u8 (A 7), .int .u8 (A 8), .int .u8 (A 9), .int .u8 (A 10), .int .u8 (A 11), .int .u8 (A 12), .int .u8 (A 13), .int .u8 (A 14), .int .u8 (A 15)] 25 (0, 0)), (gp, Obj.cells #[.bool s, .int .u8 (B 0), .int .u8 (B 1), .int .u8 (B 2), .int .u8 (B 3), .int .u8 (B 4), .int .u8 (B 5), .int .u8 (B 6), .int .u8 (B 7), .int .u8 (B 8), .int .u8 (B 9), .int .u8 (B 10), .int .u8 (B 11), .int .u8 (B 12), .int .u8 (B 13), .int .u8 (B 14), .int .u8 (B 15)] 29 (0, 0)), (gq, Obj.cells #[.bool t, .int .u8 (A 0), .int .u8 (A 1), .int .u8 (A 2), .int .u8 (A 3), .int .u8 (A 4), .int .u8 (A 5), .int .u8 (A 6), .int .u8 (A 7), .int .u8 (A 8), .int .u8 (A 9), .int .u8 (A 10), .int .u8 (A 11), .int .u8 (A 12), .int .u8 (A 13), .int .u8 (A 14), .int .u8 (A 15)] 29 (0, 0))] 0 none 0 0 []) ua → Below ua.heap.size ua ub → (fun w' => (partOf w' (w.heap.size) 0 17 = #[.bool s, .int .u8 (B 0), .int .u8 (B 1), .int .u8 (B 2), .int .u8 (B 3), .int .u8 (B 4), .int .u8 (B 5), .int .u8 (B 6), .int .u8 (B 7), .int .u8 (B 8), .int .u8 (B 9), .int .u8 (B 10), .int .u8 (B 11), .int .u8 (B 12), .int .u8 (B 13), .int .u8 (B 14), .int .u8 (B 15)] ∧ partOf w' (w.heap.size + 1) 0 17 = #[.bool t, .int .u8 (A 0), .int .u8 (A 1), .int .u8 (A 2), .int .u8 (A 3), .int .u8 (A 4), .int .u8 (A 5), .int .u8 (A 6), .int .u8 (A 7), .int .u8 (A 8), .int .u8 (A 9), .int .u8 (A 10), .int .u8 (A 11), .int .u8 (A 12), .int .u8 (A 13), .int .u8 (A 14), .int .u8 (A 15)] ∧ partOf w' (gp) 0 17 = #[.bool s, .int .u8 (B 0), .int .u8 (B 1), .int .u8 (B 2), .int .u8 (B 3), .int .u8 (B 4), .int .u8 (B 5), .int .u8 (B 6), .int .u8 (B 7), .int .u8 (B 8), .int .u8 (B 9), .int .u8 (B 10), .int .u8 (B 11), .int .u8 (B 12), .int .u8 (B 13), .int .u8 (B 14), .int .u8 (B 15)] ∧ partOf w' (gq) 0 17 = #[.bool t, .int .u8 (A 0), .int .u8 (A 1), .int .u8 (A 2), .int .u8 (A 3), .int .u8 (A 4), .int .u8 (A 5), .int .u8 (A 6), .int .u8 (A 7), .int .u8 (A 8), .int .u8 (A 9), .int .u8 (A 10), .int .u8 (A 11), .int .u8 (A 12), .int .u8 (A 13), .int .u8 (A 14), .int .u8 (A 15)]) ∧ Kept w w' [(w.heap.size, Obj.cells #[.bool s, .int .u8 (B 0), .int .u8 (B 1), .int .u8 (B 2), .int .u8 (B 3), .int .u8 (B 4), .int .u8 (B 5), .int .u8 (B 6), .int .u8 (B 7), .int .u8 (B 8), .int .u8 (B 9), .int .u8 (B 10), .int .u8 (B 11), .int .u8 (B 12), .int .u8 (B 13), .int .u8 (B 14), .int .u8 (B 15)] 25 (0, 0)), (w.heap.size + 1, Obj.cells #[.bool t, .int .u8 (A 0), .int .u8 (A 1), .int .u8 (A 2), .int .u8 (A 3), .int .u8 (A 4), .int .u8 (A 5), .int .u8 (A 6), .int .u8 (A 7), .int .u8 (A 8), .int .u8 (A 9), .int .u8 (A 10), .int .u8 (A 11), .int .u8 (A 12), .int .u8 (A 13), .int .u8 (A 14), .int .u8 (A 15)] 25 (0, 0)), (gp, Obj.cells #[.bool s, .int .u8 (B 0), .int .u8 (B 1), .int .u8 (B 2), .int .u8 (B 3), .int .u8 (B 4), .int .u8 (B 5), .int .u8 (B 6), .int .u8 (B 7), .int .u8 (B 8), .int .u8 (B 9), .int .u8 (B 10), .int .u8 (B 11), .int .u8 (B 12), .int .u8 (B 13), .int .u8 (B 14), .int .u8 (B 15)] 29 (0, 0)), (gq, Obj.cells #[.bool t, .int .u8 (A 0), .int .u8 (A 1), .int .u8 (A 2), .int .u8 (A 3), .int .u8 (A 4), .int .u8 (A 5), .int .u8 (A 6), .int .u8 (A 7), .int .u8 (A 8), .int .u8 (A 9), .int .u8 (A 10), .int .u8 (A 11), .int .u8 (A 12), .int .u8 (A 13), .int .u8 (A 14), .int .u8 (A 15)] 29 (0, 0))] 0 none 0 0 []) ub) := Lib.hid (fun ua ub h hb => by have h1 := h.2.go hb; exact ⟨⟨h1.ad 0 _ rfl, h1.ad 1 _ rfl, h1.ad 2 _ rfl, h1.ad 3 _ rfl⟩, h1⟩)
      have RE : Hid (∀ ua : World, (fun w' => (partOf w' (w.heap.size) 0 17 = #[.bool s, .int .u8 (B 0), .int .u8 (B 1), .int .u8 (B 2), .int .u8 (B 3), .int .u8 (B 4), .int .u8 (B 5), .int .u8 (B 6), .int .u8 (B 7), .int .u8 (B 8), .int .u8 (B 9), .int .u8 (B 10), .int .u8 (B 11), .int .u8 (B 12), .int .u8 (B 13), .int .u8 (B 14), .int .u8 (B 15)] ∧ partOf w' (w.heap.size + 1) 0 17 = #[.bool t, .int .u8 (A 0), .int .u8 (A 1), .int .u8 (A 2), .int .u8 (A 3), .int .u8 (A 4), .int .u8 (A 5), .int .u8 (A 6), .int .u8 (A 7), .int .u8 (A 8), .int .u8 (A 9), .int .u8 (A 10), .int .u8 (A 11), .int .u8 (A 12), .int .u8 (A 13), .int .u8 (A 14), .int .u8 (A 15)] ∧ partOf w' (gp) 0 17 = #[.bool s, .int .u8 (B 0), .int .u8 (B 1), .int .u8 (B 2), .int .u8 (B 3), .int .u8 (B 4), .int .u8 (B 5), .int .u8 (B 6), .int .u8 (B 7), .int .u8 (B 8), .int .u8 (B 9), .int .u8 (B 10), .int .u8 (B 11), .int .u8 (B 12), .int .u8 (B 13), .int .u8 (B 14), .int .u8 (B 15)] ∧ partOf w' (gq) 0 17 = #[.bool t, .int .u8 (A 0), .int .u8 (A 1), .int .u8 (A 2), .int .u8 (A 3), .int .u8 (A 4), .int .u8 (A 5), .int .u8 (A 6), .int .u8 (A 7), .int .u8 (A 8), .int .u8 (A 9), .int .u8 (A 10), .int .u8 (A 11), .int .u8 (A 12), .int .u8 (A 13), .int .u8 (A 14), .int .u8 (A 15)]) ∧ Kept w w' [(w.heap.size, Obj.cells #[.bool s, .int .u8 (B 0), .int .u8 (B 1), .int .u8 (B 2), .int .u8 (B 3), .int .u8 (B 4), .int .u8 (B 5), .int .u8 (B 6), .int .u8 (B 7), .int .u8 (B 8), .int .u8 (B 9), .int .u8 (B 10), .int .u8 (B 11), .int .u8 (B 12), .int .u8 (B 13), .int .u8 (B 14), .int .u8 (B 15)] 25 (0, 0)), (w.heap.size + 1, Obj.cells #[.bool t, .int .u8 (A 0), .int .u8 (A 1), .int .u8 (A 2), .int .u8 (A 3), .int .u8 (A 4), .int .u8 (A 5), .int .u8 (A 6), .int .u8 (A 7), .int .u8 (A 8), .int .u8 (A 9), .int .u8 (A 10), .int .u8 (A 11), .int .u8 (A 12), .int .u8 (A 13), .int .u8 (A 14), .int .u8 (A 15)] 25 (0, 0)), (gp, Obj.cells #[.bool s, .int .u8 (B 0), .int .u8 (B 1), .int .u8 (B 2), .int .u8 (B 3), .int .u8 (B 4), .int .u8 (B 5), .int .u8 (B 6), .int .u8 (B 7), .int .u8 (B 8), .int .u8 (B 9), .int .u8 (B 10), .int .u8 (B 11), .int .u8 (B 12), .int .u8 (B 13), .int .u8 (B 14), .int .u8 (B 15)] 29 (0, 0)), (gq, Obj.cells #[.bool t, .int .u8 (A 0), .int .u8 (A 1), .int .u8 (A 2), .int .u8 (A 3), .int .u8 (A 4), .int .u8 (A 5), .int .u8 (A 6), .int .u8 (A 7), .int .u8 (A 8), .int .u8 (A 9), .int .u8 (A 10), .int .u8 (A 11), .int .u8 (A 12), .int .u8 (A 13), .int .u8 (A 14), .int .u8 (A 15)] 29 (0, 0))] 0 none 0 0 []) ua → Env ua) := Lib.hid (fun ua h => HE.out.below h.2.below)
      generalize hQ : Exit.then _ _ = Q
      have HQ := Lib.hid hQ
      clear hQ
      go_region_held3 (fun w' => (partOf w' (w.heap.size) 0 17 = #[.bool s, .int .u8 (B 0), .int .u8 (B 1), .int .u8 (B 2), .int .u8 (B 3), .int .u8 (B 4), .int .u8 (B 5), .int .u8 (B 6), .int .u8 (B 7), .int .u8 (B 8), .int .u8 (B 9), .int .u8 (B 10), .int .u8 (B 11), .int .u8 (B 12), .int .u8 (B 13), .int .u8 (B 14), .int .u8 (B 15)] ∧ partOf w' (w.heap.size + 1) 0 17 = #[.bool t, .int .u8 (A 0), .int .u8 (A 1), .int .u8 (A 2), .int .u8 (A 3), .int .u8 (A 4), .int .u8 (A 5), .int .u8 (A 6), .int .u8 (A 7), .int .u8 (A 8), .int .u8 (A 9), .int .u8 (A 10), .int .u8 (A 11), .int .u8 (A 12), .int .u8 (A 13), .int .u8 (A 14), .int .u8 (A 15)] ∧ partOf w' (gp) 0 17 = #[.bool s, .int .u8 (B 0), .int .u8 (B 1), .int .u8 (B 2), .int .u8 (B 3), .int .u8 (B 4), .int .u8 (B 5), .int .u8 (B 6), .int .u8 (B 7), .int .u8 (B 8), .int .u8 (B 9), .int .u8 (B 10), .int .u8 (B 11), .int .u8 (B 12), .int .u8 (B 13), .int .u8 (B 14), .int .u8 (B 15)] ∧ partOf w' (gq) 0 17 = #[.bool t, .int .u8 (A 0), .int .u8 (A 1), .int .u8 (A 2), .int .u8 (A 3), .int .u8 (A 4), .int .u8 (A 5), .int .u8 (A 6), .int .u8 (A 7), .int .u8 (A 8), .int .u8 (A 9), .int .u8 (A 10), .int .u8 (A 11), .int .u8 (A 12), .int .u8 (A 13), .int .u8 (A 14), .int .u8 (A 15)]) ∧ Kept w w' [(w.heap.size, Obj.cells #[.bool s, .int .u8 (B 0), .int .u8 (B 1), .int .u8 (B 2), .int .u8 (B 3), .int .u8 (B 4), .int .u8 (B 5), .int .u8 (B 6), .int .u8 (B 7), .int .u8 (B 8), .int .u8 (B 9), .int .u8 (B 10), .int .u8 (B 11), .int .u8 (B 12), .int .u8 (B 13), .int .u8 (B 14), .int .u8 (B 15)] 25 (0, 0)), (w.heap.size + 1, Obj.cells #[.bool t, .int .u8 (A 0), .int .u8 (A 1), .int .u8 (A 2), .int .u8 (A 3), .int .u8 (A 4), .int .u8 (A 5), .int .u8 (A 6), .int .u8 (A 7), .int .u8 (A 8), .int .u8 (A 9), .int .u8 (A 10), .int .u8 (A 11), .int .u8 (A 12), .int .u8 (A 13), .int .u8 (A 14), .int .u8 (A 15)] 25 (0, 0)), (gp, Obj.cells #[.bool s, .int .u8 (B 0), .int .u8 (B 1), .int .u8 (B 2), .int .u8 (B 3), .int .u8 (B 4), .int .u8 (B 5), .int .u8 (B 6), .int .u8 (B 7), .int .u8 (B 8), .int .u8 (B 9), .int .u8 (B 10), .int .u8 (B 11), .int .u8 (B 12), .int .u8 (B 13), .int .u8 (B 14), .int .u8 (B 15)] 29 (0, 0)), (gq, Obj.cells #[.bool t, .int .u8 (A 0), .int .u8 (A 1), .int .u8 (A 2), .int .u8 (A 3), .int .u8 (A 4), .int .u8 (A 5), .int .u8 (A 6), .int .u8 (A 7), .int .u8 (A 8), .int .u8 (A 9), .int .u8 (A 10), .int .u8 (A 11), .int .u8 (A 12), .int .u8 (A 13), .int .u8 (A 14), .int .u8 (A 15)] 29 (0, 0))] 0 none 0 0 [])
        (first | (with_reducible exact KS.out _ _ HS0.out (Below.refl _ _).drew) | (with_reducible exact KS.out _ _ (by assumption) hb))
        (first
        | (go_at_call 16; (with_reducible refine Calls.mono (HBY.out _) ?_); rintro en w' ⟨o77, c77, rfl, ho77, hb⟩; have R77 := ho77.reads HBU.out)
        | (go_at_call 20; (with_reducible refine Calls.mono (HBR.out _) ?_); rintro en w' ⟨o79, c79, rfl, ho79, hb⟩; have R79 := ho79.reads HBU.out; have R77b := R77.below hb)
        | (go_at_call 19; (with_reducible refine Calls.mono (same_any o77 LB.length c77 o79 c79 LB _ R77b R79 HBM.out) ?_); rintro en w' ⟨rfl, hb⟩)
        | (go_at_call 24; (with_reducible refine Calls.mono (HCM.out _) ?_); rintro en w' ⟨rfl, hb⟩)
        | (go_at_call 24; (with_reducible refine Calls.mono (HCN.out _) ?_); rintro en w' ⟨rfl, hb⟩)
        | (go_at_call 25; (with_reducible refine Calls.mono (HCR.out _) ?_); rintro en w' ⟨rfl, hb⟩)
        | (go_at_call 6; (with_reducible refine Calls.mono (works_any _ (RE.out _ (by assumption))) ?_); rintro en w' ⟨rfl, hb⟩)
        )
      have hS : Kept w w' [(w.heap.size, Obj.cells #[.bool s, .int .u8 (B 0), .int .u8 (B 1), .int .u8 (B 2), .int .u8 (B 3), .int .u8 (B 4), .int .u8 (B 5), .int .u8 (B 6), .int .u8 (B 7), .int .u8 (B 8), .int .u8 (B 9), .int .u8 (B 10), .int .u8 (B 11), .int .u8 (B 12), .int .u8 (B 13), .int .u8 (B 14), .int .u8 (B 15)] 25 (0, 0)), (w.heap.size + 1, Obj.cells #[.bool t, .int .u8 (A 0), .int .u8 (A 1), .int .u8 (A 2), .int .u8 (A 3), .int .u8 (A 4), .int .u8 (A 5), .int .u8 (A 6), .int .u8 (A 7), .int .u8 (A 8), .int .u8 (A 9), .int .u8 (A 10), .int .u8 (A 11), .int .u8 (A 12), .int .u8 (A 13), .int .u8 (A 14), .int .u8 (A 15)] 25 (0, 0)), (gp, Obj.cells #[.bool s, .int .u8 (B 0), .int .u8 (B 1), .int .u8 (B 2), .int .u8 (B 3), .int .u8 (B 4), .int .u8 (B 5), .int .u8 (B 6), .int .u8 (B 7), .int .u8 (B 8), .int .u8 (B 9), .int .u8 (B 10), .int .u8 (B 11), .int .u8 (B 12), .int .u8 (B 13), .int .u8 (B 14), .int .u8 (B 15)] 29 (0, 0)), (gq, Obj.cells #[.bool t, .int .u8 (A 0), .int .u8 (A 1), .int .u8 (A 2), .int .u8 (A 3), .int .u8 (A 4), .int .u8 (A 5), .int .u8 (A 6), .int .u8 (A 7), .int .u8 (A 8), .int .u8 (A 9), .int .u8 (A 10), .int .u8 (A 11), .int .u8 (A 12), .int .u8 (A 13), .int .u8 (A 14), .int .u8 (A 15)] 29 (0, 0))] 0 none 0 0 [] := (show (fun w' => (partOf w' (w.heap.size) 0 17 = #[.bool s, .int .u8 (B 0), .int .u8 (B 1), .int .u8 (B 2), .int .u8 (B 3), .int .u8 (B 4), .int .u8 (B 5), .int .u8 (B 6), .int .u8 (B 7), .int .u8 (B 8), .int .u8 (B 9), .int .u8 (B 10), .int .u8 (B 11), .int .u8 (B 12), .int .u8 (B 13), .int .u8 (B 14), .int .u8 (B 15)] ∧ partOf w' (w.heap.size + 1) 0 17 = #[.bool t, .int .u8 (A 0), .int .u8 (A 1), .int .u8 (A 2), .int .u8 (A 3), .int .u8 (A 4), .int .u8 (A 5), .int .u8 (A 6), .int .u8 (A 7), .int .u8 (A 8), .int .u8 (A 9), .int .u8 (A 10), .int .u8 (A 11), .int .u8 (A 12), .int .u8 (A 13), .int .u8 (A 14), .int .u8 (A 15)] ∧ partOf w' (gp) 0 17 = #[.bool s, .int .u8 (B 0), .int .u8 (B 1), .int .u8 (B 2), .int .u8 (B 3), .int .u8 (B 4), .int .u8 (B 5), .int .u8 (B 6), .int .u8 (B 7), .int .u8 (B 8), .int .u8 (B 9), .int .u8 (B 10), .int .u8 (B 11), .int .u8 (B 12), .int .u8 (B 13), .int .u8 (B 14), .int .u8 (B 15)] ∧ partOf w' (gq) 0 17 = #[.bool t, .int .u8 (A 0), .int .u8 (A 1), .int .u8 (A 2), .int .u8 (A 3), .int .u8 (A 4), .int .u8 (A 5), .int .u8 (A 6), .int .u8 (A 7), .int .u8 (A 8), .int .u8 (A 9), .int .u8 (A 10), .int .u8 (A 11), .int .u8 (A 12), .int .u8 (A 13), .int .u8 (A 14), .int .u8 (A 15)]) ∧ Kept w w' [(w.heap.size, Obj.cells #[.bool s, .int .u8 (B 0), .int .u8 (B 1), .int .u8 (B 2), .int .u8 (B 3), .int .u8 (B 4), .int .u8 (B 5), .int .u8 (B 6), .int .u8 (B 7), .int .u8 (B 8), .int .u8 (B 9), .int .u8 (B 10), .int .u8 (B 11), .int .u8 (B 12), .int .u8 (B 13), .int .u8 (B 14), .int .u8 (B 15)] 25 (0, 0)), (w.heap.size + 1, Obj.cells #[.bool t, .int .u8 (A 0), .int .u8 (A 1), .int .u8 (A 2), .int .u8 (A 3), .int .u8 (A 4), .int .u8 (A 5), .int .u8 (A 6), .int .u8 (A 7), .int .u8 (A 8), .int .u8 (A 9), .int .u8 (A 10), .int .u8 (A 11), .int .u8 (A 12), .int .u8 (A 13), .int .u8 (A 14), .int .u8 (A 15)] 25 (0, 0)), (gp, Obj.cells #[.bool s, .int .u8 (B 0), .int .u8 (B 1), .int .u8 (B 2), .int .u8 (B 3), .int .u8 (B 4), .int .u8 (B 5), .int .u8 (B 6), .int .u8 (B 7), .int .u8 (B 8), .int .u8 (B 9), .int .u8 (B 10), .int .u8 (B 11), .int .u8 (B 12), .int .u8 (B 13), .int .u8 (B 14), .int .u8 (B 15)] 29 (0, 0)), (gq, Obj.cells #[.bool t, .int .u8 (A 0), .int .u8 (A 1), .int .u8 (A 2), .int .u8 (A 3), .int .u8 (A 4), .int .u8 (A 5), .int .u8 (A 6), .int .u8 (A 7), .int .u8 (A 8), .int .u8 (A 9), .int .u8 (A 10), .int .u8 (A 11), .int .u8 (A 12), .int .u8 (A 13), .int .u8 (A 14), .int .u8 (A 15)] 29 (0, 0))] 0 none 0 0 []) w' by assumption).2
      have HB10 : Hid (Below w.heap.size w w') := Lib.hid hS.below
      have HCX := Lib.hid (hS.at 0 _ rfl)
      have HCY := Lib.hid (hS.at 1 _ rfl)
      have HCP := Lib.hid (hS.at 2 _ rfl)
      have HCQ := Lib.hid (hS.at 3 _ rfl)
      have HO := Lib.hid hS.own
      rw [← HQ.out]
      clear hS HS0 KS RE HQ
      generalize w' = w10 at *
      go_wp2_with fail
      go_ret
      exact .mk rfl HB10.out
end Go.Proofs.YtcadpcppnllhnaaDoor
end

/- What the rows' condition on package variables gives the walks (Env); a world that meets it. -/
section
set_option linter.unusedSimpArgs false
set_option linter.unusedVariables false
namespace Go.Proofs.YtcadpcppnllhnaaDoor
open Go.ChangeShapes Go.WideShapes Go.ChangeAt Go.RowKit

/-- The variables that each row lists. -/
def seatLaid : List (String × DataW Unit) := [("math/bits.deBruijn32tab", Rows.laid_math_bits_deBruijn32tab), ("math/bits.deBruijn64tab", Rows.laid_math_bits_deBruijn64tab), ("internal/strconv.uint64pow10", Rows.laid_internal_strconv_uint64pow10), ("unicode/utf8.acceptRanges", Rows.laid_unicode_utf8_acceptRanges), ("strconv.ErrRange", Rows.laid_strconv_ErrRange), ("strconv.ErrSyntax", Rows.laid_strconv_ErrSyntax), ("unicode/utf8.first", Rows.laid_unicode_utf8_first)]

/-- The numbers of math/bits' second table. -/
def bits64 : List Int := [0, 1, 56, 2, 57, 49, 28, 3, 61, 58, 42, 50, 38, 29, 17, 4, 62, 47, 59, 36, 45, 43, 51, 22, 53, 39, 33, 30, 24, 18, 12, 5, 63, 55, 48, 27, 60, 41, 37, 16, 46, 35, 44, 21, 52, 32, 23, 11, 54, 26, 40, 15, 34, 20, 31, 10, 25, 14, 19, 9, 13, 8, 7, 6]
theorem bits64_is : (Rows.laid_math_bits_deBruijn64tab : DataW Unit) = Lib.tabData .u8 bits64 := by kernel_rfl
theorem pow10_is : (Rows.laid_internal_strconv_uint64pow10 : DataW Unit) = Lib.tabData .u64 Lib.pow10Tab := by kernel_rfl

theorem star_is : "*" ++ "errors.errorString" = "*errors.errorString" := by decide
theorem row_err (u : TypeId) (h : Tryd.prog.typeName? 3 u = some "*errors.errorString") : u = 147 :=
  typeName_ptr_named (nm := "errors.errorString") (by rw [star_is]; kernel_rfl) (by kernel_rfl) (by decide) u (by rw [star_is]; exact h)

/-- What the condition gives. -/
theorem env_of_laid {W : World} (h : laidMetH Tryd.prog seatLaid W) (hs : W.ShapedOpen Tryd.prog) : Env W := by
  rw [MakeChecks.laidMetH_plain _ _ _ (by kernel_rfl)] at h
  have h1 := h.tail
  have h2 := h1.tail
  have h4 := h2.tail.tail
  have h5 := h4.tail
  obtain ⟨a4, s4, hv4, -⟩ := laid_sentinel h4 (g := 3) (ti := 95) (tp := 147) (te := 149) (ts := 9) (by kernel_rfl) (by kernel_rfl) Tryd.underlying95 row_err Tryd.underlying147 Tryd.underlying149 rfl rfl Tryd.underlying9 (by kernel_rfl) (by kernel_rfl)
  obtain ⟨a5, s5, hv5, -⟩ := laid_sentinel h5 (g := 2) (ti := 95) (tp := 147) (te := 149) (ts := 9) (by kernel_rfl) (by kernel_rfl) Tryd.underlying95 row_err Tryd.underlying147 Tryd.underlying149 rfl rfl Tryd.underlying9 (by kernel_rfl) (by kernel_rfl)
  rw [bits64_is] at h1
  rw [pow10_is] at h2
  have ht1 := Lib.tabIs_of_head (g := 5) (t := 151) (e := 5) (n := 64) (by kernel_rfl) (by kernel_rfl) Tryd.underlying151 Tryd.underlying5 (by kernel_rfl) (by kernel_rfl) h1
  have ht2 := Lib.tabIs_of_head (g := 1) (t := 131) (e := 79) (n := 20) (by kernel_rfl) (by kernel_rfl) Tryd.underlying131 Tryd.underlying79 (by kernel_rfl) (by kernel_rfl) h2
  refine ⟨cell_of_shapedOpen_int (zero := #[.int .i64 0]) (t := 3) hs (of_decide_eq_true (by kernel_rfl)) (by kernel_rfl) rfl (by kernel_rfl) (by kernel_rfl) Tryd.underlying3, ⟨147, .pointer (some a5), ?_⟩, ⟨147, .pointer (some a4), ?_⟩, ht2, ?_⟩
  · simpa using World.var?_cell (g := 2) (by kernel_rfl) hv5 0
  · simpa using World.var?_cell (g := 3) (by kernel_rfl) hv4 0
  · exact Lib.TabIs.cell ht1 (by kernel_rfl) 15 (by decide)

/-- 'returnsInHanded_of_change_and', the world's shape kept for the contract. -/
theorem handed_shaped {H : Type} {enc : TypeId × Value → H} {a : Assume} {C : Checked} {os : Os} {f : FuncId} {fn : Func} {s : ChangeSpec} {conds : List PathCond} {apart fresh handsOn again : Bool} {X : World → Array Value → Prop}
    (hX : ∀ (w w' : World) (args : Array Value), w.heap = w'.heap → X w args → X w' args)
    (own : ownKnob C.prog.godebug = none) (started : os.Started) (noInit : C.prog.inits.idxOf? f = none) (hfn : C.prog.funcs[f]? = some fn)
    (witness : ∃ (w : World) (tape : Tape) (i : Input), w.os = os ∧ (w.forCall tape i).Shaped C.prog ∧ i.vars = [] ∧ Input.okWide C.prog (w.forCall tape i) .any w.heap.size f i ∧
      ((s.pre enc C.prog fn conds apart (w.forCall tape i).memory i.args ∧ X (w.forCall tape i).memory i.args) ∧ sizedMet enc C.prog fn (OpenSpec.ofChange s) apart (w.forCall tape i).memory i.args) ∧ a.holds C.prog (lone (Frame.enter C.prog f i.args .normal) [] (w.forCall tape i)))
    (contract : ∀ (W : World) (base : Nat) (args : Array Value) (ds gs : List (DataW H)) (before : List MemPlace),
      (∀ (j : Nat) t v, fn.params[j]? = some t → args[j]? = some v → Value.okWide C.prog W .any base t v) →
      DataW.Whole enc C.prog fn.params.toList s.vars apart W args.toList ds gs before → X W args → W.ShapedOpen C.prog →
      Calls C.prog f args W fun e W' => ∃ v, e = .returned v ∧ s.post enc C.prog fn apart fresh handsOn again W args v W') :
    ReturnsInHanded a C os f .any (fun w args => (s.pre enc C.prog fn conds apart w args ∧ X w args) ∧ sizedMet enc C.prog fn (OpenSpec.ofChange s) apart w args) (s.post enc C.prog fn apart fresh handsOn again) := by
  refine returnsInHanded_of_calls own started noInit witness ?_
  intro w tape i _ hsh _ hok hpre hholds
  obtain ⟨_, _, _, fn', hfn', _, _, _, _, hval⟩ := hok
  have e : fn' = fn := Option.some.inj (hfn'.symm.trans hfn)
  subst e
  obtain ⟨⟨⟨ds, gs, before, hw, hc⟩, hx⟩, hz⟩ := hpre
  have hw' := DataW.Whole.of_heap (w' := w.forCall tape i) (by rfl) hw
  refine (contract (w.forCall tape i) w.heap.size i.args ds gs before hval hw' (hX _ _ _ (by rfl) hx) hsh).mono fun e W' ⟨v, he, hp⟩ => ?_
  subst he
  exact ChangeSpec.post_blind hp

theorem own : ownKnob Tryd.prog.godebug = none := by kernel_rfl
theorem laidOut : laidOutB Tryd.prog = true := by kernel_rfl
theorem laid_met (os : Os) (args : Array Value) : laidMetH Tryd.prog seatLaid ((World.laidAll Tryd.prog os seatLaid).forCall (fun _ _ => 0) ⟨#[], args, []⟩).memory := by
  rw [MakeChecks.laidMetH_plain _ _ _ (by kernel_rfl)]
  exact laidMet_laidAll _ (by kernel_rfl) (by kernel_rfl)
end Go.Proofs.YtcadpcppnllhnaaDoor
end
