/- Walks over bytes: the kit's Own, SameBytes, Spoil; an address's bytes, both ways. -/
import Derived.Test.YtcadpcppnllhnaaGreatDoorJ3
import Derived.Laws.CopyOwn
import Derived.Deep.LoopGhost
import Derived.Test.YtcadpcppnllhnaaGreatDoorJ4
import Derived.Lib.BytesEntry
import Derived.Laws.Externs
import Derived.Lib.Split
import Derived.Lib.IndexMore
import Derived.Lib.ItoaNum
import Derived.Lib.AtoiAll

section
set_option linter.unusedSimpArgs false
set_option linter.unusedVariables false
namespace Go.Proofs.YtcadpcppnllhnaaGreatDoor
open Go.RowKit

theorem info_u8 : (Tryz.prog.info? 5).map (fun i => (i.zero, i.size, i.bytes)) = some (some (.int .u8 0), 1, 1) := by kernel_rfl
theorem info_adZ : (Tryz.prog.info? 26).map (·.size) = some 17 := by kernel_rfl

set_option maxHeartbeats 400000 in
theorem own_any (A : Option Addr) (m c : Nat) (l : List Int) (w : World) (hr : Reads w A m c l) (hm : m ≤ 1000000) : Calls Tryz.prog 27 #[.slice A m c] w (NewBytes w l) := by
  obtain rfl := hr.len
  go_enter Tryz.func27, Tryz.ntmps27
  go_wp2_with (at_builtin; refine Stopped.of ?_)
  refine Stopped.mk ?_
  refine wpList_append_reads _ rfl _ _ 29 rfl 5 w.heap.size Tryz.underlying29 info_u8 none 0 0 [] rfl (Owns.nil _ _ _) A l.length c l rfl hr (by omega) (Nat.le_refl _) ?_
  intro oa' cap' w' ho hg hd
  simp only [Nat.zero_add, List.nil_append] at ho ⊢
  have hb : Below w.heap.size w w' := Below.grown (Below.refl _ _) hg (Nat.le_refl _) (fun k hk => by simp at hk)
  clear hg hd
  go_wp2_with fail
  go_ret
  exact .mk ho rfl hb

set_option maxRecDepth 20000 in
set_option maxHeartbeats 4000000 in
theorem same_any (A : Option Addr) (m c : Nat) (A2 : Option Addr) (c2 : Nat) (l : List Int) (w : World) (hr : Reads w A m c l) (hr2 : Reads w A2 m c2 l) (hm : m ≤ 1000000) : Calls Tryz.prog 29 #[.slice A m c, .slice A2 m c2] w (RetAt w (.bool true)) := by
  have HR := Lib.hid hr
  have HR2 := Lib.hid hr2
  clear hr hr2
  go_enter Tryz.func29, Tryz.ntmps29
  go_wp2_with fail
  go_loopg [5] m (fun g u5 wr => ∃ k : Nat, k + g = m ∧ u5 = .int .i64 k ∧ Hid (Reads wr A m c l) ∧ Hid (Reads wr A2 m c2 l) ∧ Hid (Below w.heap.size w wr))
  case atStart => exact ⟨0, by omega, rfl, HR, HR2, Lib.hid (Below.refl _ _)⟩
  case round =>
    obtain ⟨k, hk, rfl, HA, HB, HW⟩ := hrel
    by_cases hlt : k < m
    · obtain ⟨g1, o1, rfl, hg1, hc1⟩ := HA.out.here (by omega)
      obtain ⟨g2, o2, rfl, hg2, hc2⟩ := HB.out.here (by omega)
      have hx1 := hc1 k hlt
      have hx2 := hc2 k hlt
      have hle1 := HA.out.le
      have hle2 := HB.out.le
      clear hc1 hc2
      generalize l.getD k 0 = x at *
      go_wp2_with fail
      go_region
      go_wp2_with fail
      go_roundg (m - (k + 1))
      case measure => omega
      case rel => exact ⟨k + 1, by omega, by go_num, Lib.hid HA.out.drew, Lib.hid HB.out.drew, Lib.hid HW.out.drew⟩
    · go_wp2_with fail
      go_ret
      exact .mk rfl HW.out

/-- What is overwritten: a row of one's own; nothing else. -/
def SpoilPost (w : World) (oa : Option Addr) : Ending → World → Prop := fun e w' => e = .returned (.tuple #[]) ∧ w.grownBy w' (oa.map Addr.block) ∧ w'.heap.size = w.heap.size

set_option maxHeartbeats 400000 in
theorem spoil_any (oa : Option Addr) (n cap base : Nat) (xs : List Value) (w : World) (ho : Owns w base 1 oa n cap xs) (hn : n ≤ 1000000) : Calls Tryz.prog 32 #[.slice oa n cap] w (SpoilPost w oa) := by
  have HO := Lib.hid ho
  clear ho
  go_enter Tryz.func32, Tryz.ntmps32
  go_wp2_with fail
  go_loopw [2] (fun u2 wr => ∃ k : Nat, k ≤ n ∧ u2 = .int .i64 k ∧ Hid (∃ ys, Owns wr base 1 oa n cap ys) ∧ Hid (w.grownBy wr (oa.map Addr.block)) ∧ Hid (wr.heap.size = w.heap.size)) (fun u2 _ => (n : Int) - intOf u2 |>.toNat)
  case atStart => exact ⟨0, Nat.zero_le _, rfl, Lib.hid ⟨xs, HO.out⟩, Lib.hid (World.grownBy_refl _ _), Lib.hid rfl⟩
  case round =>
    obtain ⟨k, hk, rfl, HY, HG, HS⟩ := hrel
    by_cases hlt : k < n
    · obtain ⟨ys, hy⟩ := HY.out
      obtain ⟨g, off, rfl, hb, hg, hc, ht⟩ := hy.here (by omega)
      have hle := hy.le
      obtain ⟨h1, h2⟩ := ht k (by omega)
      obtain ⟨u, hu⟩ := Option.isSome_iff_exists.1 h1
      have HY2 := Lib.hid (hy.set k (by omega) (.int .u8 165))
      have HG2 := Lib.hid (World.grownBy.trans HG.out (World.grownBy_setCell wr ⟨g, off + k, none⟩ (.int .u8 165)))
      clear hc ht h1 hy HY
      go_wp2_with fail
      go_roundw
      case rel => exact ⟨k + 1, by omega, by go_num, Lib.hid ⟨_, HY2.out⟩, HG2, Lib.hid (by simpa using HS.out)⟩
      case measure => simp [intOf]; omega
    · go_wp2_with fail
      go_end0
      exact ⟨rfl, HG.out, HS.out⟩

/-- An address's bytes. -/
def adBytes (six : Bool) (B : Nat → Int) : List Int := (List.range (sizeZ six).toNat).map B
theorem adBytes_len (six : Bool) (B : Nat → Int) : (adBytes six B).length = (sizeZ six).toNat := by simp [adBytes]
theorem adBytes_get (six : Bool) (B : Nat → Int) (i : Nat) (h : i < (sizeZ six).toNat) : (adBytes six B).getD i 0 = B i := by simp [adBytes, List.getD_eq_getElem?_getD, h]
theorem sizeN (six : Bool) : ∃ z : Nat, sizeZ six = z ∧ 4 ≤ z ∧ z ≤ 16 ∧ (sizeZ six).toNat = z := by
  cases six
  · exact ⟨4, rfl, by omega, by omega, rfl⟩
  · exact ⟨16, rfl, by omega, by omega, rfl⟩

set_option maxRecDepth 20000 in
set_option maxHeartbeats 4000000 in
theorem rbytes_any (six : Bool) (B : Nat → Int) (w : World) : Calls Tryz.prog 30 #[adV six B] w (NewBytes w (adBytes six B)) := by
  have HX : Hid (AdBox (w.alloc (.cells #[.bool six, .int .u8 (B 0), .int .u8 (B 1), .int .u8 (B 2), .int .u8 (B 3), .int .u8 (B 4), .int .u8 (B 5), .int .u8 (B 6), .int .u8 (B 7), .int .u8 (B 8), .int .u8 (B 9), .int .u8 (B 10), .int .u8 (B 11), .int .u8 (B 12), .int .u8 (B 13), .int .u8 (B 14), .int .u8 (B 15)] 41)) w.heap.size 41 six B) := Lib.hid (AdBox.made w _ six B)
  have HW : Hid (Below w.heap.size w (w.alloc (.cells #[.bool six, .int .u8 (B 0), .int .u8 (B 1), .int .u8 (B 2), .int .u8 (B 3), .int .u8 (B 4), .int .u8 (B 5), .int .u8 (B 6), .int .u8 (B 7), .int .u8 (B 8), .int .u8 (B 9), .int .u8 (B 10), .int .u8 (B 11), .int .u8 (B 12), .int .u8 (B 13), .int .u8 (B 14), .int .u8 (B 15)] 41))) := Lib.hid (Below.all (Below.refl w.heap.size w) _)
  have HS := Lib.hid (fun w => rsize_any six w)
  have HL := Lib.hid (adBytes_len six B)
  obtain ⟨z, hz, hz4, hz16, hzn⟩ := sizeN six
  have HBY : Hid (adBytes six B = (List.range z).map B) := Lib.hid (by unfold adBytes; rw [hzn])
  rw [hz] at HS
  rw [hzn] at HL
  clear hz hzn
  unfold adV
  go_enter Tryz.func30, Tryz.ntmps30
  go_wp2_with fail
  have hs1 : w.heap.size + 1 ≤ (w.alloc (.cells #[.bool six, .int .u8 (B 0), .int .u8 (B 1), .int .u8 (B 2), .int .u8 (B 3), .int .u8 (B 4), .int .u8 (B 5), .int .u8 (B 6), .int .u8 (B 7), .int .u8 (B 8), .int .u8 (B 9), .int .u8 (B 10), .int .u8 (B 11), .int .u8 (B 12), .int .u8 (B 13), .int .u8 (B 14), .int .u8 (B 15)] 41)).heap.size := by simp
  generalize w.alloc (.cells #[.bool six, .int .u8 (B 0), .int .u8 (B 1), .int .u8 (B 2), .int .u8 (B 3), .int .u8 (B 4), .int .u8 (B 5), .int .u8 (B 6), .int .u8 (B 7), .int .u8 (B 8), .int .u8 (B 9), .int .u8 (B 10), .int .u8 (B 11), .int .u8 (B 12), .int .u8 (B 13), .int .u8 (B 14), .int .u8 (B 15)] 41) = w1 at *
  go_loopw [3, 4] (fun u3 u4 wr => ∃ (k : Nat) (oa : Option Addr) (cap : Nat), k ≤ z ∧ u4 = .int .i64 k ∧ u3 = .slice oa k cap ∧ Hid (Owns wr (w.heap.size + 1) 1 oa k cap (((List.range k).map B).map (.int .u8))) ∧ Hid (AdBox wr w.heap.size 41 six B) ∧ Hid (Below w.heap.size w wr) ∧ w.heap.size + 1 ≤ wr.heap.size) (fun _ u4 _ => (z : Int) - intOf u4 |>.toNat)
  case atStart => exact ⟨0, none, 0, by omega, rfl, rfl, Lib.hid (Owns.nil _ _ _), HX, HW, hs1⟩
  case round =>
    obtain ⟨k, oa, cap, hk, rfl, rfl, HO, HX, HW, hsr⟩ := hrel
    have hsx := HX.out.six
    go_wp2_with fail
    refine Calls.mono (HS.out _) ?_
    rintro e w2 ⟨rfl, rfl⟩
    by_cases hlt : k < z
    · have hcx := HX.out.cell k (by omega)
      have HR1 : Hid (List.range (k + 1) = List.range k ++ [k]) := Lib.hid List.range_succ
      have HLT := Lib.hid (fun a (ha : oa = some a) => (HO.out.lt ha).1)
      go_wp2_with (at_builtin; refine Stopped.of ?_)
      refine Stopped.mk ?_
      refine wpList_append_owns _ rfl _ _ 29 rfl 5 (.int .u8 0) 1 1 (w.heap.size + 1) Tryz.underlying29 info_u8 rfl (by decide) oa k cap _ rfl (HO.out.alloc _) ⟨wr.heap.size, 0, none⟩ 1 1 [.int .u8 (B k)] rfl rfl ?_ ?_ (by decide) ?_ ?_ ?_ ?_
      · exact news_new _ _ _
      · simp [Value.oneCell']
      · unfold maxLen; omega
      · omega
      · simp only [World.size_alloc]; omega
      intro oa' cap' w5 ho' hg hd
      have HX5 := Lib.hid ((HX.out.alloc (.cells #[.int .u8 (B k)] 5)).keep (hg.block _ (by simp only [World.size_alloc]; omega) (fun e => by
        obtain ⟨a, ha, hab⟩ := Option.map_eq_some_iff.1 e.symm
        have := HLT.out a ha; omega)))
      have HW5 : Hid (Below w.heap.size w w5) := Lib.hid (Below.appended (Below.all HW.out _) (HO.out.alloc _) (by omega) hg (by simp only [World.size_alloc]; omega))
      have hs5 : w.heap.size + 1 ≤ w5.heap.size := by have := hg.size; simp only [World.size_alloc] at this; omega
      have HO5 : Hid (Owns w5 (w.heap.size + 1) 1 oa' (k + 1) cap' (((List.range (k + 1)).map B).map (.int .u8))) := Lib.hid (by
        rw [HR1.out, List.map_append, List.map_append]
        exact ho')
      clear hg hd ho' HX HW HO hsr HLT hcx hsx
      go_wp2_with fail
      go_roundw
      case rel => exact ⟨k + 1, oa', cap', by omega, by go_num, rfl, HO5, HX5, HW5, hs5⟩
      case measure => simp [intOf]; omega
    · obtain rfl : k = z := by omega
      go_wp2_with fail
      go_ret
      exact .mk (by rw [HBY.out]; exact HO.out.mono (by omega)) HL.out.symm HW.out

set_option maxRecDepth 20000 in
set_option maxHeartbeats 4000000 in
theorem bytes_any (six : Bool) (B : Nat → Int) (w : World) : Calls Tryz.prog 7 #[adV six B] w (NewBytes w (adBytes six B)) := by
  have HX : Hid (AdBox (w.alloc (.cells #[.bool six, .int .u8 (B 0), .int .u8 (B 1), .int .u8 (B 2), .int .u8 (B 3), .int .u8 (B 4), .int .u8 (B 5), .int .u8 (B 6), .int .u8 (B 7), .int .u8 (B 8), .int .u8 (B 9), .int .u8 (B 10), .int .u8 (B 11), .int .u8 (B 12), .int .u8 (B 13), .int .u8 (B 14), .int .u8 (B 15)] 26)) w.heap.size 26 six B) := Lib.hid (AdBox.made w _ six B)
  have HW : Hid (Below w.heap.size w (w.alloc (.cells #[.bool six, .int .u8 (B 0), .int .u8 (B 1), .int .u8 (B 2), .int .u8 (B 3), .int .u8 (B 4), .int .u8 (B 5), .int .u8 (B 6), .int .u8 (B 7), .int .u8 (B 8), .int .u8 (B 9), .int .u8 (B 10), .int .u8 (B 11), .int .u8 (B 12), .int .u8 (B 13), .int .u8 (B 14), .int .u8 (B 15)] 26))) := Lib.hid (Below.all (Below.refl w.heap.size w) _)
  have HS := Lib.hid (fun w => size_any six B w)
  have HL := Lib.hid (adBytes_len six B)
  have HGT := Lib.hid (fun i h => adBytes_get six B i h)
  obtain ⟨z, hz, hz4, hz16, hzn⟩ := sizeN six
  rw [hz] at HS
  rw [hzn] at HL HGT
  clear hz hzn
  generalize adBytes six B = l at *
  unfold adV at *
  go_enter Tryz.func7, Tryz.ntmps7
  go_wp2_with fail
  generalize w.alloc (.cells #[.bool six, .int .u8 (B 0), .int .u8 (B 1), .int .u8 (B 2), .int .u8 (B 3), .int .u8 (B 4), .int .u8 (B 5), .int .u8 (B 6), .int .u8 (B 7), .int .u8 (B 8), .int .u8 (B 9), .int .u8 (B 10), .int .u8 (B 11), .int .u8 (B 12), .int .u8 (B 13), .int .u8 (B 14), .int .u8 (B 15)] 26) = w1 at *
  refine Calls.mono (HS.out _) ?_
  rintro e w2 ⟨rfl, hb2⟩
  have HX2 := Lib.hid (HX.out.below hb2)
  have HW2 := Lib.hid (Below.via HW.out hb2)
  have hz16' : (z : Int) ≤ 16 := by omega
  have hne : ¬ (16 = 0) := by omega
  clear hb2 HX HW
  go_wp2_with fail
  refine Calls.mono (Tryz.bytes_Clone_at ⟨w.heap.size, 1, none⟩ z 16 l w2 HL.out (by omega) (fun i hi => by
    rw [Addr.add_lit, HGT.out i hi]
    exact HX2.out.cell i (by omega))) ?_
  rintro e w3 ⟨v', rfl, hrow, -, hb3⟩
  obtain ⟨oa, cap, rfl, hO⟩ := Owns.of_row hrow
  have HO := Lib.hid (hO.mono HW2.out.size)
  have HW3 := Lib.hid (Below.via HW2.out hb3)
  clear hrow hO hb3
  go_wp2_with fail
  go_ret
  exact .mk HO.out HL.out.symm HW3.out

/-- The address of bytes. -/
def fromB (l : List Int) (i : Nat) : Int := l.getD i 0
def fromV (l : List Int) : Value := if l.length = 16 then .tuple #[adV true (fromB l), .int .i64 0] else if l.length = 4 then .tuple #[adV false (fromB l), .int .i64 0] else .tuple #[adV false fun _ => 0, .int .i64 2]

/-- A prefix of noughts. -/
theorem fromB_hi {l : List Int} {n : Nat} (h : l.length = n) (i : Nat) (hi : n ≤ i) : fromB l i = 0 := by
  unfold fromB
  rw [List.getD_eq_getElem?_getD, List.getElem?_eq_none (by omega)]; rfl
theorem fromV_16 {l : List Int} (h : l.length = 16) : fromV l = .tuple #[adV true (fromB l), .int .i64 0] := by unfold fromV; rw [if_pos h]
theorem fromV_4 {l : List Int} (h : l.length = 4) : fromV l = .tuple #[adV false (fromB l), .int .i64 0] := by unfold fromV; rw [if_neg (by omega), if_pos h]
theorem fromV_no {l : List Int} (h : l.length ≠ 16) (h' : l.length ≠ 4) : fromV l = .tuple #[adV false fun _ => 0, .int .i64 2] := by unfold fromV; rw [if_neg h, if_neg h']

/-- The walk stands at the operation of that slot. -/
theorem stop_at (n : Nat) {P : Program} {ops : Array Oper} {Q : Exit → Act → World → Prop} {op : Op} {ty : TypeId} {pos : String} {after : Array Edge} {g : Option (Nat × Bool)} {rest : List Oper} {a : Act} {w : World}
    (h : Stopped (wpList P ops Q (⟨some n, op, ty, pos, after, g⟩ :: rest) a w)) : wpList P ops Q (⟨some n, op, ty, pos, after, g⟩ :: rest) a w := h

set_option maxRecDepth 20000 in
set_option maxHeartbeats 8000000 in
theorem from_16 (A : Option Addr) (c : Nat) (l : List Int) (w : World) (hr : Reads w A 16 c l) : Calls Tryz.prog 20 #[.slice A 16 c] w (RetAt w (fromV l)) := by
  rw [fromV_16 hr.len]
  have HF := Lib.hid (fun i h => fromB_hi hr.len i h)
  have HS := Lib.hid (fun w => size_any true (fun _ => 0) w)
  rw [show sizeZ true = 16 from rfl] at HS
  obtain ⟨g, off, rfl, hg, hc⟩ := hr.here (by omega)
  have HC : Hid (∀ j, j < 16 → w.cell? ⟨g, off + j, none⟩ = some (.int .u8 (fromB l j))) := Lib.hid hc
  have HB := Lib.hid (show Below w.heap.size w ((w.alloc (.cells #[.bool false, .int .u8 ((fun _ => (0 : Int)) 0), .int .u8 ((fun _ => (0 : Int)) 1), .int .u8 ((fun _ => (0 : Int)) 2), .int .u8 ((fun _ => (0 : Int)) 3), .int .u8 ((fun _ => (0 : Int)) 4), .int .u8 ((fun _ => (0 : Int)) 5), .int .u8 ((fun _ => (0 : Int)) 6), .int .u8 ((fun _ => (0 : Int)) 7), .int .u8 ((fun _ => (0 : Int)) 8), .int .u8 ((fun _ => (0 : Int)) 9), .int .u8 ((fun _ => (0 : Int)) 10), .int .u8 ((fun _ => (0 : Int)) 11), .int .u8 ((fun _ => (0 : Int)) 12), .int .u8 ((fun _ => (0 : Int)) 13), .int .u8 ((fun _ => (0 : Int)) 14), .int .u8 ((fun _ => (0 : Int)) 15)] 26)).alloc (.cells #[.bool true, .int .u8 ((fun _ => (0 : Int)) 0), .int .u8 ((fun _ => (0 : Int)) 1), .int .u8 ((fun _ => (0 : Int)) 2), .int .u8 ((fun _ => (0 : Int)) 3), .int .u8 ((fun _ => (0 : Int)) 4), .int .u8 ((fun _ => (0 : Int)) 5), .int .u8 ((fun _ => (0 : Int)) 6), .int .u8 ((fun _ => (0 : Int)) 7), .int .u8 ((fun _ => (0 : Int)) 8), .int .u8 ((fun _ => (0 : Int)) 9), .int .u8 ((fun _ => (0 : Int)) 10), .int .u8 ((fun _ => (0 : Int)) 11), .int .u8 ((fun _ => (0 : Int)) 12), .int .u8 ((fun _ => (0 : Int)) 13), .int .u8 ((fun _ => (0 : Int)) 14), .int .u8 ((fun _ => (0 : Int)) 15)] 26)) from Below.all (Below.all (Below.refl _ _) _) _)
  clear hr hc
  unfold adV at HS
  go_enter Tryz.func20, Tryz.ntmps20
  go_wp2_with fail
  refine Calls.mono (HS.out _) ?_
  rintro e w2 ⟨rfl, hb2⟩
  have hX0 := (hb2.block _ (by simp; omega)).trans (heap_alloc2_old w (.cells #[.bool false, .int .u8 ((fun _ => (0 : Int)) 0), .int .u8 ((fun _ => (0 : Int)) 1), .int .u8 ((fun _ => (0 : Int)) 2), .int .u8 ((fun _ => (0 : Int)) 3), .int .u8 ((fun _ => (0 : Int)) 4), .int .u8 ((fun _ => (0 : Int)) 5), .int .u8 ((fun _ => (0 : Int)) 6), .int .u8 ((fun _ => (0 : Int)) 7), .int .u8 ((fun _ => (0 : Int)) 8), .int .u8 ((fun _ => (0 : Int)) 9), .int .u8 ((fun _ => (0 : Int)) 10), .int .u8 ((fun _ => (0 : Int)) 11), .int .u8 ((fun _ => (0 : Int)) 12), .int .u8 ((fun _ => (0 : Int)) 13), .int .u8 ((fun _ => (0 : Int)) 14), .int .u8 ((fun _ => (0 : Int)) 15)] 26) (.cells #[.bool true, .int .u8 ((fun _ => (0 : Int)) 0), .int .u8 ((fun _ => (0 : Int)) 1), .int .u8 ((fun _ => (0 : Int)) 2), .int .u8 ((fun _ => (0 : Int)) 3), .int .u8 ((fun _ => (0 : Int)) 4), .int .u8 ((fun _ => (0 : Int)) 5), .int .u8 ((fun _ => (0 : Int)) 6), .int .u8 ((fun _ => (0 : Int)) 7), .int .u8 ((fun _ => (0 : Int)) 8), .int .u8 ((fun _ => (0 : Int)) 9), .int .u8 ((fun _ => (0 : Int)) 10), .int .u8 ((fun _ => (0 : Int)) 11), .int .u8 ((fun _ => (0 : Int)) 12), .int .u8 ((fun _ => (0 : Int)) 13), .int .u8 ((fun _ => (0 : Int)) 14), .int .u8 ((fun _ => (0 : Int)) 15)] 26))
  have hY0 := (hb2.block _ (by simp)).trans (heap_alloc2_new w (.cells #[.bool false, .int .u8 ((fun _ => (0 : Int)) 0), .int .u8 ((fun _ => (0 : Int)) 1), .int .u8 ((fun _ => (0 : Int)) 2), .int .u8 ((fun _ => (0 : Int)) 3), .int .u8 ((fun _ => (0 : Int)) 4), .int .u8 ((fun _ => (0 : Int)) 5), .int .u8 ((fun _ => (0 : Int)) 6), .int .u8 ((fun _ => (0 : Int)) 7), .int .u8 ((fun _ => (0 : Int)) 8), .int .u8 ((fun _ => (0 : Int)) 9), .int .u8 ((fun _ => (0 : Int)) 10), .int .u8 ((fun _ => (0 : Int)) 11), .int .u8 ((fun _ => (0 : Int)) 12), .int .u8 ((fun _ => (0 : Int)) 13), .int .u8 ((fun _ => (0 : Int)) 14), .int .u8 ((fun _ => (0 : Int)) 15)] 26) (.cells #[.bool true, .int .u8 ((fun _ => (0 : Int)) 0), .int .u8 ((fun _ => (0 : Int)) 1), .int .u8 ((fun _ => (0 : Int)) 2), .int .u8 ((fun _ => (0 : Int)) 3), .int .u8 ((fun _ => (0 : Int)) 4), .int .u8 ((fun _ => (0 : Int)) 5), .int .u8 ((fun _ => (0 : Int)) 6), .int .u8 ((fun _ => (0 : Int)) 7), .int .u8 ((fun _ => (0 : Int)) 8), .int .u8 ((fun _ => (0 : Int)) 9), .int .u8 ((fun _ => (0 : Int)) 10), .int .u8 ((fun _ => (0 : Int)) 11), .int .u8 ((fun _ => (0 : Int)) 12), .int .u8 ((fun _ => (0 : Int)) 13), .int .u8 ((fun _ => (0 : Int)) 14), .int .u8 ((fun _ => (0 : Int)) 15)] 26))
  have HW2 := Lib.hid (Below.via HB.out hb2)
  have hs2 : w.heap.size + 1 < w2.heap.size := by have := hb2.size; simp at this; omega
  clear hb2 HB HS
  go_wp2_with (with_reducible refine stop_at 18 ?_)
  refine Stopped.mk ?_
  refine wpList_copy_splice rfl (.tmp 16) (.tmp 17) 29 29 rfl 5 Tryz.underlying29 (by kernel_rfl) (some ⟨w.heap.size + 1, 1, none⟩) (some ⟨g, off, none⟩) 16 16 16 c rfl rfl (w.heap.size + 1) 1
    (.bool true :: List.replicate 16 (.int .u8 0)) 26 hY0 (bytesL 16 (fromB l)) (bytesL_len _ _) (fun _ => ⟨rfl, _, rfl, fun j v hv => ?_⟩) (by rw [bytesL_len]; decide) (bytesL_one _ _) (w.heap.size + 1) w2 (Below.refl _ _) (Nat.le_refl _) ?_
  · obtain ⟨hj, rfl⟩ := bytesL_get _ _ _ _ hv
    rw [Addr.add_lit]
    exact (HW2.out.cell (p := ⟨g, off + j, none⟩) hg).trans (HC.out j hj)
  intro w' hg' hb
  have hX1 := (hb.block w.heap.size (by omega)).trans hX0
  have hY1 : w'.heap[w.heap.size + 1]? = some (.cells #[.bool true, .int .u8 (fromB l 0), .int .u8 (fromB l 1), .int .u8 (fromB l 2), .int .u8 (fromB l 3), .int .u8 (fromB l 4), .int .u8 (fromB l 5), .int .u8 (fromB l 6), .int .u8 (fromB l 7), .int .u8 (fromB l 8), .int .u8 (fromB l 9), .int .u8 (fromB l 10), .int .u8 (fromB l 11), .int .u8 (fromB l 12), .int .u8 (fromB l 13), .int .u8 (fromB l 14), .int .u8 (fromB l 15)] 26 (0, 0)) := hg'.out
  have hpp : partOf w' (w.heap.size + 1) 0 17 = #[.bool true, .int .u8 (fromB l 0), .int .u8 (fromB l 1), .int .u8 (fromB l 2), .int .u8 (fromB l 3), .int .u8 (fromB l 4), .int .u8 (fromB l 5), .int .u8 (fromB l 6), .int .u8 (fromB l 7), .int .u8 (fromB l 8), .int .u8 (fromB l 9), .int .u8 (fromB l 10), .int .u8 (fromB l 11), .int .u8 (fromB l 12), .int .u8 (fromB l 13), .int .u8 (fromB l 14), .int .u8 (fromB l 15)] := by rw [partOf_row _ _ _ _ _ _ _ hY1]; simp
  have hrr := (AdBox.mk (six := false) (B := fun _ => (0 : Int)) hX1).row
  have HH := Lib.hid hX1
  have HB3 : Hid (Below w.heap.size w w') := Lib.hid (HW2.out.trans (hb.mono (by omega)))
  clear hX0 hY0 hg' hb hX1 hY1 hs2 HW2
  go_wp2_with fail
  refine bodyPost_ret (v := .tuple #[adV true (fromB l), .int .i64 0]) ?_ rfl (.mk rfl (below_setRow HB3.out (Nat.le_refl _) _))
  refine results_ad2 _ _ Tryz.underlying26 info_adZ rfl _ _ w.heap.size (.int .i64 0) rfl rfl ?_
  exact partOf_set2 HH.out

set_option maxRecDepth 20000 in
set_option maxHeartbeats 8000000 in
theorem from_4 (A : Option Addr) (c : Nat) (l : List Int) (w : World) (hr : Reads w A 4 c l) : Calls Tryz.prog 20 #[.slice A 4 c] w (RetAt w (fromV l)) := by
  rw [fromV_4 hr.len]
  have HF := Lib.hid (fun i h => fromB_hi hr.len i h)
  have HS := Lib.hid (fun w => size_any false (fun _ => 0) w)
  rw [show sizeZ false = 4 from rfl] at HS
  obtain ⟨g, off, rfl, hg, hc⟩ := hr.here (by omega)
  have HC : Hid (∀ j, j < 4 → w.cell? ⟨g, off + j, none⟩ = some (.int .u8 (fromB l j))) := Lib.hid hc
  have HB := Lib.hid (show Below w.heap.size w ((w.alloc (.cells #[.bool false, .int .u8 ((fun _ => (0 : Int)) 0), .int .u8 ((fun _ => (0 : Int)) 1), .int .u8 ((fun _ => (0 : Int)) 2), .int .u8 ((fun _ => (0 : Int)) 3), .int .u8 ((fun _ => (0 : Int)) 4), .int .u8 ((fun _ => (0 : Int)) 5), .int .u8 ((fun _ => (0 : Int)) 6), .int .u8 ((fun _ => (0 : Int)) 7), .int .u8 ((fun _ => (0 : Int)) 8), .int .u8 ((fun _ => (0 : Int)) 9), .int .u8 ((fun _ => (0 : Int)) 10), .int .u8 ((fun _ => (0 : Int)) 11), .int .u8 ((fun _ => (0 : Int)) 12), .int .u8 ((fun _ => (0 : Int)) 13), .int .u8 ((fun _ => (0 : Int)) 14), .int .u8 ((fun _ => (0 : Int)) 15)] 26)).alloc (.cells #[.bool false, .int .u8 ((fun _ => (0 : Int)) 0), .int .u8 ((fun _ => (0 : Int)) 1), .int .u8 ((fun _ => (0 : Int)) 2), .int .u8 ((fun _ => (0 : Int)) 3), .int .u8 ((fun _ => (0 : Int)) 4), .int .u8 ((fun _ => (0 : Int)) 5), .int .u8 ((fun _ => (0 : Int)) 6), .int .u8 ((fun _ => (0 : Int)) 7), .int .u8 ((fun _ => (0 : Int)) 8), .int .u8 ((fun _ => (0 : Int)) 9), .int .u8 ((fun _ => (0 : Int)) 10), .int .u8 ((fun _ => (0 : Int)) 11), .int .u8 ((fun _ => (0 : Int)) 12), .int .u8 ((fun _ => (0 : Int)) 13), .int .u8 ((fun _ => (0 : Int)) 14), .int .u8 ((fun _ => (0 : Int)) 15)] 26)) from Below.all (Below.all (Below.refl _ _) _) _)
  clear hr hc
  unfold adV at HS
  go_enter Tryz.func20, Tryz.ntmps20
  go_wp2_with fail
  refine Calls.mono (HS.out _) ?_
  rintro e w2 ⟨rfl, hb2⟩
  have hX0 := (hb2.block _ (by simp; omega)).trans (heap_alloc2_old w (.cells #[.bool false, .int .u8 ((fun _ => (0 : Int)) 0), .int .u8 ((fun _ => (0 : Int)) 1), .int .u8 ((fun _ => (0 : Int)) 2), .int .u8 ((fun _ => (0 : Int)) 3), .int .u8 ((fun _ => (0 : Int)) 4), .int .u8 ((fun _ => (0 : Int)) 5), .int .u8 ((fun _ => (0 : Int)) 6), .int .u8 ((fun _ => (0 : Int)) 7), .int .u8 ((fun _ => (0 : Int)) 8), .int .u8 ((fun _ => (0 : Int)) 9), .int .u8 ((fun _ => (0 : Int)) 10), .int .u8 ((fun _ => (0 : Int)) 11), .int .u8 ((fun _ => (0 : Int)) 12), .int .u8 ((fun _ => (0 : Int)) 13), .int .u8 ((fun _ => (0 : Int)) 14), .int .u8 ((fun _ => (0 : Int)) 15)] 26) (.cells #[.bool false, .int .u8 ((fun _ => (0 : Int)) 0), .int .u8 ((fun _ => (0 : Int)) 1), .int .u8 ((fun _ => (0 : Int)) 2), .int .u8 ((fun _ => (0 : Int)) 3), .int .u8 ((fun _ => (0 : Int)) 4), .int .u8 ((fun _ => (0 : Int)) 5), .int .u8 ((fun _ => (0 : Int)) 6), .int .u8 ((fun _ => (0 : Int)) 7), .int .u8 ((fun _ => (0 : Int)) 8), .int .u8 ((fun _ => (0 : Int)) 9), .int .u8 ((fun _ => (0 : Int)) 10), .int .u8 ((fun _ => (0 : Int)) 11), .int .u8 ((fun _ => (0 : Int)) 12), .int .u8 ((fun _ => (0 : Int)) 13), .int .u8 ((fun _ => (0 : Int)) 14), .int .u8 ((fun _ => (0 : Int)) 15)] 26))
  have hY0 := (hb2.block _ (by simp)).trans (heap_alloc2_new w (.cells #[.bool false, .int .u8 ((fun _ => (0 : Int)) 0), .int .u8 ((fun _ => (0 : Int)) 1), .int .u8 ((fun _ => (0 : Int)) 2), .int .u8 ((fun _ => (0 : Int)) 3), .int .u8 ((fun _ => (0 : Int)) 4), .int .u8 ((fun _ => (0 : Int)) 5), .int .u8 ((fun _ => (0 : Int)) 6), .int .u8 ((fun _ => (0 : Int)) 7), .int .u8 ((fun _ => (0 : Int)) 8), .int .u8 ((fun _ => (0 : Int)) 9), .int .u8 ((fun _ => (0 : Int)) 10), .int .u8 ((fun _ => (0 : Int)) 11), .int .u8 ((fun _ => (0 : Int)) 12), .int .u8 ((fun _ => (0 : Int)) 13), .int .u8 ((fun _ => (0 : Int)) 14), .int .u8 ((fun _ => (0 : Int)) 15)] 26) (.cells #[.bool false, .int .u8 ((fun _ => (0 : Int)) 0), .int .u8 ((fun _ => (0 : Int)) 1), .int .u8 ((fun _ => (0 : Int)) 2), .int .u8 ((fun _ => (0 : Int)) 3), .int .u8 ((fun _ => (0 : Int)) 4), .int .u8 ((fun _ => (0 : Int)) 5), .int .u8 ((fun _ => (0 : Int)) 6), .int .u8 ((fun _ => (0 : Int)) 7), .int .u8 ((fun _ => (0 : Int)) 8), .int .u8 ((fun _ => (0 : Int)) 9), .int .u8 ((fun _ => (0 : Int)) 10), .int .u8 ((fun _ => (0 : Int)) 11), .int .u8 ((fun _ => (0 : Int)) 12), .int .u8 ((fun _ => (0 : Int)) 13), .int .u8 ((fun _ => (0 : Int)) 14), .int .u8 ((fun _ => (0 : Int)) 15)] 26))
  have HW2 := Lib.hid (Below.via HB.out hb2)
  have hs2 : w.heap.size + 1 < w2.heap.size := by have := hb2.size; simp at this; omega
  clear hb2 HB HS
  go_wp2_with (with_reducible refine stop_at 18 ?_)
  refine Stopped.mk ?_
  refine wpList_copy_splice rfl (.tmp 16) (.tmp 17) 29 29 rfl 5 Tryz.underlying29 (by kernel_rfl) (some ⟨w.heap.size + 1, 1, none⟩) (some ⟨g, off, none⟩) 16 16 4 c rfl rfl (w.heap.size + 1) 1
    (.bool false :: List.replicate 16 (.int .u8 0)) 26 hY0 (bytesL 4 (fromB l)) (bytesL_len _ _) (fun _ => ⟨rfl, _, rfl, fun j v hv => ?_⟩) (by rw [bytesL_len]; decide) (bytesL_one _ _) (w.heap.size + 1) w2 (Below.refl _ _) (Nat.le_refl _) ?_
  · obtain ⟨hj, rfl⟩ := bytesL_get _ _ _ _ hv
    rw [Addr.add_lit]
    exact (HW2.out.cell (p := ⟨g, off + j, none⟩) hg).trans (HC.out j hj)
  intro w' hg' hb
  have hX1 := (hb.block w.heap.size (by omega)).trans hX0
  have hY1 : w'.heap[w.heap.size + 1]? = some (.cells #[.bool false, .int .u8 (fromB l 0), .int .u8 (fromB l 1), .int .u8 (fromB l 2), .int .u8 (fromB l 3), .int .u8 0, .int .u8 0, .int .u8 0, .int .u8 0, .int .u8 0, .int .u8 0, .int .u8 0, .int .u8 0, .int .u8 0, .int .u8 0, .int .u8 0, .int .u8 0] 26 (0, 0)) := hg'.out
  have hpp : partOf w' (w.heap.size + 1) 0 17 = #[.bool false, .int .u8 (fromB l 0), .int .u8 (fromB l 1), .int .u8 (fromB l 2), .int .u8 (fromB l 3), .int .u8 0, .int .u8 0, .int .u8 0, .int .u8 0, .int .u8 0, .int .u8 0, .int .u8 0, .int .u8 0, .int .u8 0, .int .u8 0, .int .u8 0, .int .u8 0] := by rw [partOf_row _ _ _ _ _ _ _ hY1]; simp
  have hrr := (AdBox.mk (six := false) (B := fun _ => (0 : Int)) hX1).row
  have HH := Lib.hid hX1
  have HB3 : Hid (Below w.heap.size w w') := Lib.hid (HW2.out.trans (hb.mono (by omega)))
  clear hX0 hY0 hg' hb hX1 hY1 hs2 HW2
  go_wp2_with fail
  refine bodyPost_ret (v := .tuple #[adV false (fromB l), .int .i64 0]) ?_ rfl (.mk rfl (below_setRow HB3.out (Nat.le_refl _) _))
  refine results_ad2 _ _ Tryz.underlying26 info_adZ rfl _ _ w.heap.size (.int .i64 0) rfl rfl ?_
  rw [partOf_set2 HH.out]
  rw [HF.out 4 (by omega), HF.out 5 (by omega), HF.out 6 (by omega), HF.out 7 (by omega), HF.out 8 (by omega), HF.out 9 (by omega), HF.out 10 (by omega), HF.out 11 (by omega), HF.out 12 (by omega), HF.out 13 (by omega), HF.out 14 (by omega), HF.out 15 (by omega)]

set_option maxRecDepth 20000 in
set_option maxHeartbeats 8000000 in
theorem from_no (A : Option Addr) (n c : Nat) (l : List Int) (w : World) (hr : Reads w A n c l) (hm : n ≤ 1000000) (h16 : n ≠ 16) (h4 : n ≠ 4) : Calls Tryz.prog 20 #[.slice A n c] w (RetAt w (fromV l)) := by
  rw [fromV_no (by rw [hr.len]; exact h16) (by rw [hr.len]; exact h4)]
  have HS := Lib.hid (fun w => size_any false (fun _ => 0) w)
  rw [show sizeZ false = 4 from rfl] at HS
  have HB := Lib.hid (show Below w.heap.size w ((w.alloc (.cells #[.bool false, .int .u8 ((fun _ => (0 : Int)) 0), .int .u8 ((fun _ => (0 : Int)) 1), .int .u8 ((fun _ => (0 : Int)) 2), .int .u8 ((fun _ => (0 : Int)) 3), .int .u8 ((fun _ => (0 : Int)) 4), .int .u8 ((fun _ => (0 : Int)) 5), .int .u8 ((fun _ => (0 : Int)) 6), .int .u8 ((fun _ => (0 : Int)) 7), .int .u8 ((fun _ => (0 : Int)) 8), .int .u8 ((fun _ => (0 : Int)) 9), .int .u8 ((fun _ => (0 : Int)) 10), .int .u8 ((fun _ => (0 : Int)) 11), .int .u8 ((fun _ => (0 : Int)) 12), .int .u8 ((fun _ => (0 : Int)) 13), .int .u8 ((fun _ => (0 : Int)) 14), .int .u8 ((fun _ => (0 : Int)) 15)] 26)).alloc (.cells #[.bool false, .int .u8 ((fun _ => (0 : Int)) 0), .int .u8 ((fun _ => (0 : Int)) 1), .int .u8 ((fun _ => (0 : Int)) 2), .int .u8 ((fun _ => (0 : Int)) 3), .int .u8 ((fun _ => (0 : Int)) 4), .int .u8 ((fun _ => (0 : Int)) 5), .int .u8 ((fun _ => (0 : Int)) 6), .int .u8 ((fun _ => (0 : Int)) 7), .int .u8 ((fun _ => (0 : Int)) 8), .int .u8 ((fun _ => (0 : Int)) 9), .int .u8 ((fun _ => (0 : Int)) 10), .int .u8 ((fun _ => (0 : Int)) 11), .int .u8 ((fun _ => (0 : Int)) 12), .int .u8 ((fun _ => (0 : Int)) 13), .int .u8 ((fun _ => (0 : Int)) 14), .int .u8 ((fun _ => (0 : Int)) 15)] 26)) from Below.all (Below.all (Below.refl _ _) _) _)
  have hn1 : ((n : Int) == 16) = false := by simp; omega
  have hn2 : ¬ ((n : Int) = 4) := by omega
  clear hr
  unfold adV at HS
  go_enter Tryz.func20, Tryz.ntmps20
  go_wp2_with fail
  refine Calls.mono (HS.out _) ?_
  rintro e w2 ⟨rfl, hb2⟩
  have hX0 := (hb2.block _ (by simp; omega)).trans (heap_alloc2_old w (.cells #[.bool false, .int .u8 ((fun _ => (0 : Int)) 0), .int .u8 ((fun _ => (0 : Int)) 1), .int .u8 ((fun _ => (0 : Int)) 2), .int .u8 ((fun _ => (0 : Int)) 3), .int .u8 ((fun _ => (0 : Int)) 4), .int .u8 ((fun _ => (0 : Int)) 5), .int .u8 ((fun _ => (0 : Int)) 6), .int .u8 ((fun _ => (0 : Int)) 7), .int .u8 ((fun _ => (0 : Int)) 8), .int .u8 ((fun _ => (0 : Int)) 9), .int .u8 ((fun _ => (0 : Int)) 10), .int .u8 ((fun _ => (0 : Int)) 11), .int .u8 ((fun _ => (0 : Int)) 12), .int .u8 ((fun _ => (0 : Int)) 13), .int .u8 ((fun _ => (0 : Int)) 14), .int .u8 ((fun _ => (0 : Int)) 15)] 26) (.cells #[.bool false, .int .u8 ((fun _ => (0 : Int)) 0), .int .u8 ((fun _ => (0 : Int)) 1), .int .u8 ((fun _ => (0 : Int)) 2), .int .u8 ((fun _ => (0 : Int)) 3), .int .u8 ((fun _ => (0 : Int)) 4), .int .u8 ((fun _ => (0 : Int)) 5), .int .u8 ((fun _ => (0 : Int)) 6), .int .u8 ((fun _ => (0 : Int)) 7), .int .u8 ((fun _ => (0 : Int)) 8), .int .u8 ((fun _ => (0 : Int)) 9), .int .u8 ((fun _ => (0 : Int)) 10), .int .u8 ((fun _ => (0 : Int)) 11), .int .u8 ((fun _ => (0 : Int)) 12), .int .u8 ((fun _ => (0 : Int)) 13), .int .u8 ((fun _ => (0 : Int)) 14), .int .u8 ((fun _ => (0 : Int)) 15)] 26))
  have hrr := (AdBox.mk (six := false) (B := fun _ => (0 : Int)) hX0).row
  have HH := Lib.hid hX0
  have HW2 := Lib.hid (Below.via HB.out hb2)
  clear hb2 HB HS hX0
  go_wp2_with fail
  exact bodyPost_ret (v := .tuple #[adV false fun _ => 0, .int .i64 2]) (results_ad2 _ _ Tryz.underlying26 info_adZ rfl _ _ w.heap.size (.int .i64 2) rfl rfl (partOf_set2 HH.out)) rfl (.mk rfl (below_setRow HW2.out (Nat.le_refl _) _))

theorem from_any (A : Option Addr) (n c : Nat) (l : List Int) (w : World) (hr : Reads w A n c l) (hm : n ≤ 1000000) : Calls Tryz.prog 20 #[.slice A n c] w (RetAt w (fromV l)) := by
  by_cases h16 : n = 16
  · subst h16; exact from_16 A c l w hr
  · by_cases h4 : n = 4
    · subst h4; exact from_4 A c l w hr
    · exact from_no A n c l w hr hm h16 h4
end Go.Proofs.YtcadpcppnllhnaaGreatDoor
end

/- Walks over bytes: the reference's From; both Cmp. -/
section
set_option linter.unusedSimpArgs false
set_option linter.unusedVariables false
namespace Go.Proofs.YtcadpcppnllhnaaGreatDoor
open Go.RowKit

set_option maxRecDepth 20000 in
set_option maxHeartbeats 8000000 in
theorem rfrom_16 (A : Option Addr) (c : Nat) (l : List Int) (w : World) (hr : Reads w A 16 c l) : Calls Tryz.prog 26 #[.slice A 16 c] w (RetAt w (.tuple #[adV true (fromB l), .int .i64 0])) := by
  have HFL := Lib.hid (fun i (hi : 16 ≤ i) => fromB_hi hr.len i hi)
  obtain ⟨g, off, rfl, hgl, -⟩ := hr.here (by omega)
  have HB := Lib.hid (show Below w.heap.size w ((w.alloc (.cells #[.bool false, .int .u8 ((fun _ => (0 : Int)) 0), .int .u8 ((fun _ => (0 : Int)) 1), .int .u8 ((fun _ => (0 : Int)) 2), .int .u8 ((fun _ => (0 : Int)) 3), .int .u8 ((fun _ => (0 : Int)) 4), .int .u8 ((fun _ => (0 : Int)) 5), .int .u8 ((fun _ => (0 : Int)) 6), .int .u8 ((fun _ => (0 : Int)) 7), .int .u8 ((fun _ => (0 : Int)) 8), .int .u8 ((fun _ => (0 : Int)) 9), .int .u8 ((fun _ => (0 : Int)) 10), .int .u8 ((fun _ => (0 : Int)) 11), .int .u8 ((fun _ => (0 : Int)) 12), .int .u8 ((fun _ => (0 : Int)) 13), .int .u8 ((fun _ => (0 : Int)) 14), .int .u8 ((fun _ => (0 : Int)) 15)] 41)).alloc (.cells #[.bool true, .int .u8 ((fun _ => (0 : Int)) 0), .int .u8 ((fun _ => (0 : Int)) 1), .int .u8 ((fun _ => (0 : Int)) 2), .int .u8 ((fun _ => (0 : Int)) 3), .int .u8 ((fun _ => (0 : Int)) 4), .int .u8 ((fun _ => (0 : Int)) 5), .int .u8 ((fun _ => (0 : Int)) 6), .int .u8 ((fun _ => (0 : Int)) 7), .int .u8 ((fun _ => (0 : Int)) 8), .int .u8 ((fun _ => (0 : Int)) 9), .int .u8 ((fun _ => (0 : Int)) 10), .int .u8 ((fun _ => (0 : Int)) 11), .int .u8 ((fun _ => (0 : Int)) 12), .int .u8 ((fun _ => (0 : Int)) 13), .int .u8 ((fun _ => (0 : Int)) 14), .int .u8 ((fun _ => (0 : Int)) 15)] 41)) from Below.all (Below.all (Below.refl _ _) _) _)
  have HX : Hid (AdBox ((w.alloc (.cells #[.bool false, .int .u8 ((fun _ => (0 : Int)) 0), .int .u8 ((fun _ => (0 : Int)) 1), .int .u8 ((fun _ => (0 : Int)) 2), .int .u8 ((fun _ => (0 : Int)) 3), .int .u8 ((fun _ => (0 : Int)) 4), .int .u8 ((fun _ => (0 : Int)) 5), .int .u8 ((fun _ => (0 : Int)) 6), .int .u8 ((fun _ => (0 : Int)) 7), .int .u8 ((fun _ => (0 : Int)) 8), .int .u8 ((fun _ => (0 : Int)) 9), .int .u8 ((fun _ => (0 : Int)) 10), .int .u8 ((fun _ => (0 : Int)) 11), .int .u8 ((fun _ => (0 : Int)) 12), .int .u8 ((fun _ => (0 : Int)) 13), .int .u8 ((fun _ => (0 : Int)) 14), .int .u8 ((fun _ => (0 : Int)) 15)] 41)).alloc (.cells #[.bool true, .int .u8 ((fun _ => (0 : Int)) 0), .int .u8 ((fun _ => (0 : Int)) 1), .int .u8 ((fun _ => (0 : Int)) 2), .int .u8 ((fun _ => (0 : Int)) 3), .int .u8 ((fun _ => (0 : Int)) 4), .int .u8 ((fun _ => (0 : Int)) 5), .int .u8 ((fun _ => (0 : Int)) 6), .int .u8 ((fun _ => (0 : Int)) 7), .int .u8 ((fun _ => (0 : Int)) 8), .int .u8 ((fun _ => (0 : Int)) 9), .int .u8 ((fun _ => (0 : Int)) 10), .int .u8 ((fun _ => (0 : Int)) 11), .int .u8 ((fun _ => (0 : Int)) 12), .int .u8 ((fun _ => (0 : Int)) 13), .int .u8 ((fun _ => (0 : Int)) 14), .int .u8 ((fun _ => (0 : Int)) 15)] 41)) w.heap.size 41 false fun _ => 0) := Lib.hid ⟨heap_alloc2_old w (.cells #[.bool false, .int .u8 ((fun _ => (0 : Int)) 0), .int .u8 ((fun _ => (0 : Int)) 1), .int .u8 ((fun _ => (0 : Int)) 2), .int .u8 ((fun _ => (0 : Int)) 3), .int .u8 ((fun _ => (0 : Int)) 4), .int .u8 ((fun _ => (0 : Int)) 5), .int .u8 ((fun _ => (0 : Int)) 6), .int .u8 ((fun _ => (0 : Int)) 7), .int .u8 ((fun _ => (0 : Int)) 8), .int .u8 ((fun _ => (0 : Int)) 9), .int .u8 ((fun _ => (0 : Int)) 10), .int .u8 ((fun _ => (0 : Int)) 11), .int .u8 ((fun _ => (0 : Int)) 12), .int .u8 ((fun _ => (0 : Int)) 13), .int .u8 ((fun _ => (0 : Int)) 14), .int .u8 ((fun _ => (0 : Int)) 15)] 41) (.cells #[.bool true, .int .u8 ((fun _ => (0 : Int)) 0), .int .u8 ((fun _ => (0 : Int)) 1), .int .u8 ((fun _ => (0 : Int)) 2), .int .u8 ((fun _ => (0 : Int)) 3), .int .u8 ((fun _ => (0 : Int)) 4), .int .u8 ((fun _ => (0 : Int)) 5), .int .u8 ((fun _ => (0 : Int)) 6), .int .u8 ((fun _ => (0 : Int)) 7), .int .u8 ((fun _ => (0 : Int)) 8), .int .u8 ((fun _ => (0 : Int)) 9), .int .u8 ((fun _ => (0 : Int)) 10), .int .u8 ((fun _ => (0 : Int)) 11), .int .u8 ((fun _ => (0 : Int)) 12), .int .u8 ((fun _ => (0 : Int)) 13), .int .u8 ((fun _ => (0 : Int)) 14), .int .u8 ((fun _ => (0 : Int)) 15)] 41)⟩
  have HY : Hid (AdBox ((w.alloc (.cells #[.bool false, .int .u8 ((fun _ => (0 : Int)) 0), .int .u8 ((fun _ => (0 : Int)) 1), .int .u8 ((fun _ => (0 : Int)) 2), .int .u8 ((fun _ => (0 : Int)) 3), .int .u8 ((fun _ => (0 : Int)) 4), .int .u8 ((fun _ => (0 : Int)) 5), .int .u8 ((fun _ => (0 : Int)) 6), .int .u8 ((fun _ => (0 : Int)) 7), .int .u8 ((fun _ => (0 : Int)) 8), .int .u8 ((fun _ => (0 : Int)) 9), .int .u8 ((fun _ => (0 : Int)) 10), .int .u8 ((fun _ => (0 : Int)) 11), .int .u8 ((fun _ => (0 : Int)) 12), .int .u8 ((fun _ => (0 : Int)) 13), .int .u8 ((fun _ => (0 : Int)) 14), .int .u8 ((fun _ => (0 : Int)) 15)] 41)).alloc (.cells #[.bool true, .int .u8 ((fun _ => (0 : Int)) 0), .int .u8 ((fun _ => (0 : Int)) 1), .int .u8 ((fun _ => (0 : Int)) 2), .int .u8 ((fun _ => (0 : Int)) 3), .int .u8 ((fun _ => (0 : Int)) 4), .int .u8 ((fun _ => (0 : Int)) 5), .int .u8 ((fun _ => (0 : Int)) 6), .int .u8 ((fun _ => (0 : Int)) 7), .int .u8 ((fun _ => (0 : Int)) 8), .int .u8 ((fun _ => (0 : Int)) 9), .int .u8 ((fun _ => (0 : Int)) 10), .int .u8 ((fun _ => (0 : Int)) 11), .int .u8 ((fun _ => (0 : Int)) 12), .int .u8 ((fun _ => (0 : Int)) 13), .int .u8 ((fun _ => (0 : Int)) 14), .int .u8 ((fun _ => (0 : Int)) 15)] 41)) (w.heap.size + 1) 41 true fun _ => 0) := Lib.hid ⟨heap_alloc2_new w (.cells #[.bool false, .int .u8 ((fun _ => (0 : Int)) 0), .int .u8 ((fun _ => (0 : Int)) 1), .int .u8 ((fun _ => (0 : Int)) 2), .int .u8 ((fun _ => (0 : Int)) 3), .int .u8 ((fun _ => (0 : Int)) 4), .int .u8 ((fun _ => (0 : Int)) 5), .int .u8 ((fun _ => (0 : Int)) 6), .int .u8 ((fun _ => (0 : Int)) 7), .int .u8 ((fun _ => (0 : Int)) 8), .int .u8 ((fun _ => (0 : Int)) 9), .int .u8 ((fun _ => (0 : Int)) 10), .int .u8 ((fun _ => (0 : Int)) 11), .int .u8 ((fun _ => (0 : Int)) 12), .int .u8 ((fun _ => (0 : Int)) 13), .int .u8 ((fun _ => (0 : Int)) 14), .int .u8 ((fun _ => (0 : Int)) 15)] 41) (.cells #[.bool true, .int .u8 ((fun _ => (0 : Int)) 0), .int .u8 ((fun _ => (0 : Int)) 1), .int .u8 ((fun _ => (0 : Int)) 2), .int .u8 ((fun _ => (0 : Int)) 3), .int .u8 ((fun _ => (0 : Int)) 4), .int .u8 ((fun _ => (0 : Int)) 5), .int .u8 ((fun _ => (0 : Int)) 6), .int .u8 ((fun _ => (0 : Int)) 7), .int .u8 ((fun _ => (0 : Int)) 8), .int .u8 ((fun _ => (0 : Int)) 9), .int .u8 ((fun _ => (0 : Int)) 10), .int .u8 ((fun _ => (0 : Int)) 11), .int .u8 ((fun _ => (0 : Int)) 12), .int .u8 ((fun _ => (0 : Int)) 13), .int .u8 ((fun _ => (0 : Int)) 14), .int .u8 ((fun _ => (0 : Int)) 15)] 41)⟩
  have HR2 := Lib.hid ((hr.alloc (.cells #[.bool false, .int .u8 ((fun _ => (0 : Int)) 0), .int .u8 ((fun _ => (0 : Int)) 1), .int .u8 ((fun _ => (0 : Int)) 2), .int .u8 ((fun _ => (0 : Int)) 3), .int .u8 ((fun _ => (0 : Int)) 4), .int .u8 ((fun _ => (0 : Int)) 5), .int .u8 ((fun _ => (0 : Int)) 6), .int .u8 ((fun _ => (0 : Int)) 7), .int .u8 ((fun _ => (0 : Int)) 8), .int .u8 ((fun _ => (0 : Int)) 9), .int .u8 ((fun _ => (0 : Int)) 10), .int .u8 ((fun _ => (0 : Int)) 11), .int .u8 ((fun _ => (0 : Int)) 12), .int .u8 ((fun _ => (0 : Int)) 13), .int .u8 ((fun _ => (0 : Int)) 14), .int .u8 ((fun _ => (0 : Int)) 15)] 41)).alloc (.cells #[.bool true, .int .u8 ((fun _ => (0 : Int)) 0), .int .u8 ((fun _ => (0 : Int)) 1), .int .u8 ((fun _ => (0 : Int)) 2), .int .u8 ((fun _ => (0 : Int)) 3), .int .u8 ((fun _ => (0 : Int)) 4), .int .u8 ((fun _ => (0 : Int)) 5), .int .u8 ((fun _ => (0 : Int)) 6), .int .u8 ((fun _ => (0 : Int)) 7), .int .u8 ((fun _ => (0 : Int)) 8), .int .u8 ((fun _ => (0 : Int)) 9), .int .u8 ((fun _ => (0 : Int)) 10), .int .u8 ((fun _ => (0 : Int)) 11), .int .u8 ((fun _ => (0 : Int)) 12), .int .u8 ((fun _ => (0 : Int)) 13), .int .u8 ((fun _ => (0 : Int)) 14), .int .u8 ((fun _ => (0 : Int)) 15)] 41))
  clear hr
  go_enter Tryz.func26, Tryz.ntmps26
  go_wp2_with fail
  generalize (w.alloc (.cells #[.bool false, .int .u8 ((fun _ => (0 : Int)) 0), .int .u8 ((fun _ => (0 : Int)) 1), .int .u8 ((fun _ => (0 : Int)) 2), .int .u8 ((fun _ => (0 : Int)) 3), .int .u8 ((fun _ => (0 : Int)) 4), .int .u8 ((fun _ => (0 : Int)) 5), .int .u8 ((fun _ => (0 : Int)) 6), .int .u8 ((fun _ => (0 : Int)) 7), .int .u8 ((fun _ => (0 : Int)) 8), .int .u8 ((fun _ => (0 : Int)) 9), .int .u8 ((fun _ => (0 : Int)) 10), .int .u8 ((fun _ => (0 : Int)) 11), .int .u8 ((fun _ => (0 : Int)) 12), .int .u8 ((fun _ => (0 : Int)) 13), .int .u8 ((fun _ => (0 : Int)) 14), .int .u8 ((fun _ => (0 : Int)) 15)] 41)).alloc (.cells #[.bool true, .int .u8 ((fun _ => (0 : Int)) 0), .int .u8 ((fun _ => (0 : Int)) 1), .int .u8 ((fun _ => (0 : Int)) 2), .int .u8 ((fun _ => (0 : Int)) 3), .int .u8 ((fun _ => (0 : Int)) 4), .int .u8 ((fun _ => (0 : Int)) 5), .int .u8 ((fun _ => (0 : Int)) 6), .int .u8 ((fun _ => (0 : Int)) 7), .int .u8 ((fun _ => (0 : Int)) 8), .int .u8 ((fun _ => (0 : Int)) 9), .int .u8 ((fun _ => (0 : Int)) 10), .int .u8 ((fun _ => (0 : Int)) 11), .int .u8 ((fun _ => (0 : Int)) 12), .int .u8 ((fun _ => (0 : Int)) 13), .int .u8 ((fun _ => (0 : Int)) 14), .int .u8 ((fun _ => (0 : Int)) 15)] 41) = w1 at *
  go_loopw [5] (fun u5 wr => ∃ k : Nat, k ≤ 16 ∧ u5 = .int .i64 k ∧ Hid (AdBox wr w.heap.size 41 false fun _ => 0) ∧ Hid (AdBox wr (w.heap.size + 1) 41 true (fun j => if j < k then fromB l j else 0)) ∧ Hid (Reads wr (some ⟨g, off, none⟩) 16 c l) ∧ Hid (Below w.heap.size w wr)) (fun u5 _ => (16 : Int) - intOf u5 |>.toNat)
  case atStart => exact ⟨0, by omega, rfl, HX, Lib.hid (HY.out.congr fun i _ => by simp), HR2, HB⟩
  case round =>
    obtain ⟨k, hk, rfl, HX, HY, HR, HW⟩ := hrel
    by_cases hlt : k < 16
    · obtain ⟨g', off', hA, hg, hc⟩ := HR.out.here (by omega)
      obtain ⟨rfl, rfl⟩ : g = g' ∧ off = off' := by simpa using hA
      have hcl := hc k hlt
      have hle := HR.out.le
      have hcx := HY.out.cell k (by omega)
      have hfx := HY.out.free (1 + k)
      have HV : Hid (l.getD k 0 = fromB l k) := Lib.hid rfl
      clear hc hA
      generalize l.getD k 0 = x at *
      go_wp2_with fail
      go_roundw
      case rel =>
        refine ⟨k + 1, by omega, by go_num, Lib.hid (HX.out.other _ _ (by simp only; omega)), Lib.hid ((HY.out.set k (by omega) x).congr fun i hi => ?_), Lib.hid (HR.out.other (fun a ha => by cases ha; simp only; omega) _), Lib.hid (HW.out.setCell (by simp only; omega) _)⟩
        by_cases e : i = k
        · subst e; simp [HV.out]
        · simp only [if_neg e]
          by_cases h : i < k
          · rw [if_pos h, if_pos (by omega)]
          · rw [if_neg h, if_neg (by omega)]
      case measure => simp [intOf]; omega
    · obtain rfl : k = 16 := by omega
      have HZ := HY.out.congr (C := fromB l) fun i hi => by
        by_cases h : i < 16
        · rw [if_pos h]
        · rw [if_neg h, HFL.out i (by omega)]
      have hpp := HZ.part
      have hrr := HX.out.row
      have HH := Lib.hid HX.out.heap
      clear HZ
      go_wp2_with fail
      exact bodyPost_ret (v := .tuple #[adV true (fromB l), .int .i64 0]) (results_ad2 _ _ Tryz.underlying41 info_rad5 rfl _ _ w.heap.size (.int .i64 0) rfl rfl (partOf_set2 HH.out)) rfl (.mk rfl (below_setRow HW.out (Nat.le_refl _) _))

set_option maxRecDepth 20000 in
set_option maxHeartbeats 8000000 in
theorem rfrom_4 (A : Option Addr) (c : Nat) (l : List Int) (w : World) (hr : Reads w A 4 c l) : Calls Tryz.prog 26 #[.slice A 4 c] w (RetAt w (.tuple #[adV false (fromB l), .int .i64 0])) := by
  have HFL := Lib.hid (fun i (hi : 4 ≤ i) => fromB_hi hr.len i hi)
  obtain ⟨g, off, rfl, hgl, -⟩ := hr.here (by omega)
  have HB := Lib.hid (show Below w.heap.size w ((w.alloc (.cells #[.bool false, .int .u8 ((fun _ => (0 : Int)) 0), .int .u8 ((fun _ => (0 : Int)) 1), .int .u8 ((fun _ => (0 : Int)) 2), .int .u8 ((fun _ => (0 : Int)) 3), .int .u8 ((fun _ => (0 : Int)) 4), .int .u8 ((fun _ => (0 : Int)) 5), .int .u8 ((fun _ => (0 : Int)) 6), .int .u8 ((fun _ => (0 : Int)) 7), .int .u8 ((fun _ => (0 : Int)) 8), .int .u8 ((fun _ => (0 : Int)) 9), .int .u8 ((fun _ => (0 : Int)) 10), .int .u8 ((fun _ => (0 : Int)) 11), .int .u8 ((fun _ => (0 : Int)) 12), .int .u8 ((fun _ => (0 : Int)) 13), .int .u8 ((fun _ => (0 : Int)) 14), .int .u8 ((fun _ => (0 : Int)) 15)] 41)).alloc (.cells #[.bool false, .int .u8 ((fun _ => (0 : Int)) 0), .int .u8 ((fun _ => (0 : Int)) 1), .int .u8 ((fun _ => (0 : Int)) 2), .int .u8 ((fun _ => (0 : Int)) 3), .int .u8 ((fun _ => (0 : Int)) 4), .int .u8 ((fun _ => (0 : Int)) 5), .int .u8 ((fun _ => (0 : Int)) 6), .int .u8 ((fun _ => (0 : Int)) 7), .int .u8 ((fun _ => (0 : Int)) 8), .int .u8 ((fun _ => (0 : Int)) 9), .int .u8 ((fun _ => (0 : Int)) 10), .int .u8 ((fun _ => (0 : Int)) 11), .int .u8 ((fun _ => (0 : Int)) 12), .int .u8 ((fun _ => (0 : Int)) 13), .int .u8 ((fun _ => (0 : Int)) 14), .int .u8 ((fun _ => (0 : Int)) 15)] 41)) from Below.all (Below.all (Below.refl _ _) _) _)
  have HX : Hid (AdBox ((w.alloc (.cells #[.bool false, .int .u8 ((fun _ => (0 : Int)) 0), .int .u8 ((fun _ => (0 : Int)) 1), .int .u8 ((fun _ => (0 : Int)) 2), .int .u8 ((fun _ => (0 : Int)) 3), .int .u8 ((fun _ => (0 : Int)) 4), .int .u8 ((fun _ => (0 : Int)) 5), .int .u8 ((fun _ => (0 : Int)) 6), .int .u8 ((fun _ => (0 : Int)) 7), .int .u8 ((fun _ => (0 : Int)) 8), .int .u8 ((fun _ => (0 : Int)) 9), .int .u8 ((fun _ => (0 : Int)) 10), .int .u8 ((fun _ => (0 : Int)) 11), .int .u8 ((fun _ => (0 : Int)) 12), .int .u8 ((fun _ => (0 : Int)) 13), .int .u8 ((fun _ => (0 : Int)) 14), .int .u8 ((fun _ => (0 : Int)) 15)] 41)).alloc (.cells #[.bool false, .int .u8 ((fun _ => (0 : Int)) 0), .int .u8 ((fun _ => (0 : Int)) 1), .int .u8 ((fun _ => (0 : Int)) 2), .int .u8 ((fun _ => (0 : Int)) 3), .int .u8 ((fun _ => (0 : Int)) 4), .int .u8 ((fun _ => (0 : Int)) 5), .int .u8 ((fun _ => (0 : Int)) 6), .int .u8 ((fun _ => (0 : Int)) 7), .int .u8 ((fun _ => (0 : Int)) 8), .int .u8 ((fun _ => (0 : Int)) 9), .int .u8 ((fun _ => (0 : Int)) 10), .int .u8 ((fun _ => (0 : Int)) 11), .int .u8 ((fun _ => (0 : Int)) 12), .int .u8 ((fun _ => (0 : Int)) 13), .int .u8 ((fun _ => (0 : Int)) 14), .int .u8 ((fun _ => (0 : Int)) 15)] 41)) w.heap.size 41 false fun _ => 0) := Lib.hid ⟨heap_alloc2_old w (.cells #[.bool false, .int .u8 ((fun _ => (0 : Int)) 0), .int .u8 ((fun _ => (0 : Int)) 1), .int .u8 ((fun _ => (0 : Int)) 2), .int .u8 ((fun _ => (0 : Int)) 3), .int .u8 ((fun _ => (0 : Int)) 4), .int .u8 ((fun _ => (0 : Int)) 5), .int .u8 ((fun _ => (0 : Int)) 6), .int .u8 ((fun _ => (0 : Int)) 7), .int .u8 ((fun _ => (0 : Int)) 8), .int .u8 ((fun _ => (0 : Int)) 9), .int .u8 ((fun _ => (0 : Int)) 10), .int .u8 ((fun _ => (0 : Int)) 11), .int .u8 ((fun _ => (0 : Int)) 12), .int .u8 ((fun _ => (0 : Int)) 13), .int .u8 ((fun _ => (0 : Int)) 14), .int .u8 ((fun _ => (0 : Int)) 15)] 41) (.cells #[.bool false, .int .u8 ((fun _ => (0 : Int)) 0), .int .u8 ((fun _ => (0 : Int)) 1), .int .u8 ((fun _ => (0 : Int)) 2), .int .u8 ((fun _ => (0 : Int)) 3), .int .u8 ((fun _ => (0 : Int)) 4), .int .u8 ((fun _ => (0 : Int)) 5), .int .u8 ((fun _ => (0 : Int)) 6), .int .u8 ((fun _ => (0 : Int)) 7), .int .u8 ((fun _ => (0 : Int)) 8), .int .u8 ((fun _ => (0 : Int)) 9), .int .u8 ((fun _ => (0 : Int)) 10), .int .u8 ((fun _ => (0 : Int)) 11), .int .u8 ((fun _ => (0 : Int)) 12), .int .u8 ((fun _ => (0 : Int)) 13), .int .u8 ((fun _ => (0 : Int)) 14), .int .u8 ((fun _ => (0 : Int)) 15)] 41)⟩
  have HY : Hid (AdBox ((w.alloc (.cells #[.bool false, .int .u8 ((fun _ => (0 : Int)) 0), .int .u8 ((fun _ => (0 : Int)) 1), .int .u8 ((fun _ => (0 : Int)) 2), .int .u8 ((fun _ => (0 : Int)) 3), .int .u8 ((fun _ => (0 : Int)) 4), .int .u8 ((fun _ => (0 : Int)) 5), .int .u8 ((fun _ => (0 : Int)) 6), .int .u8 ((fun _ => (0 : Int)) 7), .int .u8 ((fun _ => (0 : Int)) 8), .int .u8 ((fun _ => (0 : Int)) 9), .int .u8 ((fun _ => (0 : Int)) 10), .int .u8 ((fun _ => (0 : Int)) 11), .int .u8 ((fun _ => (0 : Int)) 12), .int .u8 ((fun _ => (0 : Int)) 13), .int .u8 ((fun _ => (0 : Int)) 14), .int .u8 ((fun _ => (0 : Int)) 15)] 41)).alloc (.cells #[.bool false, .int .u8 ((fun _ => (0 : Int)) 0), .int .u8 ((fun _ => (0 : Int)) 1), .int .u8 ((fun _ => (0 : Int)) 2), .int .u8 ((fun _ => (0 : Int)) 3), .int .u8 ((fun _ => (0 : Int)) 4), .int .u8 ((fun _ => (0 : Int)) 5), .int .u8 ((fun _ => (0 : Int)) 6), .int .u8 ((fun _ => (0 : Int)) 7), .int .u8 ((fun _ => (0 : Int)) 8), .int .u8 ((fun _ => (0 : Int)) 9), .int .u8 ((fun _ => (0 : Int)) 10), .int .u8 ((fun _ => (0 : Int)) 11), .int .u8 ((fun _ => (0 : Int)) 12), .int .u8 ((fun _ => (0 : Int)) 13), .int .u8 ((fun _ => (0 : Int)) 14), .int .u8 ((fun _ => (0 : Int)) 15)] 41)) (w.heap.size + 1) 41 false fun _ => 0) := Lib.hid ⟨heap_alloc2_new w (.cells #[.bool false, .int .u8 ((fun _ => (0 : Int)) 0), .int .u8 ((fun _ => (0 : Int)) 1), .int .u8 ((fun _ => (0 : Int)) 2), .int .u8 ((fun _ => (0 : Int)) 3), .int .u8 ((fun _ => (0 : Int)) 4), .int .u8 ((fun _ => (0 : Int)) 5), .int .u8 ((fun _ => (0 : Int)) 6), .int .u8 ((fun _ => (0 : Int)) 7), .int .u8 ((fun _ => (0 : Int)) 8), .int .u8 ((fun _ => (0 : Int)) 9), .int .u8 ((fun _ => (0 : Int)) 10), .int .u8 ((fun _ => (0 : Int)) 11), .int .u8 ((fun _ => (0 : Int)) 12), .int .u8 ((fun _ => (0 : Int)) 13), .int .u8 ((fun _ => (0 : Int)) 14), .int .u8 ((fun _ => (0 : Int)) 15)] 41) (.cells #[.bool false, .int .u8 ((fun _ => (0 : Int)) 0), .int .u8 ((fun _ => (0 : Int)) 1), .int .u8 ((fun _ => (0 : Int)) 2), .int .u8 ((fun _ => (0 : Int)) 3), .int .u8 ((fun _ => (0 : Int)) 4), .int .u8 ((fun _ => (0 : Int)) 5), .int .u8 ((fun _ => (0 : Int)) 6), .int .u8 ((fun _ => (0 : Int)) 7), .int .u8 ((fun _ => (0 : Int)) 8), .int .u8 ((fun _ => (0 : Int)) 9), .int .u8 ((fun _ => (0 : Int)) 10), .int .u8 ((fun _ => (0 : Int)) 11), .int .u8 ((fun _ => (0 : Int)) 12), .int .u8 ((fun _ => (0 : Int)) 13), .int .u8 ((fun _ => (0 : Int)) 14), .int .u8 ((fun _ => (0 : Int)) 15)] 41)⟩
  have HR2 := Lib.hid ((hr.alloc (.cells #[.bool false, .int .u8 ((fun _ => (0 : Int)) 0), .int .u8 ((fun _ => (0 : Int)) 1), .int .u8 ((fun _ => (0 : Int)) 2), .int .u8 ((fun _ => (0 : Int)) 3), .int .u8 ((fun _ => (0 : Int)) 4), .int .u8 ((fun _ => (0 : Int)) 5), .int .u8 ((fun _ => (0 : Int)) 6), .int .u8 ((fun _ => (0 : Int)) 7), .int .u8 ((fun _ => (0 : Int)) 8), .int .u8 ((fun _ => (0 : Int)) 9), .int .u8 ((fun _ => (0 : Int)) 10), .int .u8 ((fun _ => (0 : Int)) 11), .int .u8 ((fun _ => (0 : Int)) 12), .int .u8 ((fun _ => (0 : Int)) 13), .int .u8 ((fun _ => (0 : Int)) 14), .int .u8 ((fun _ => (0 : Int)) 15)] 41)).alloc (.cells #[.bool false, .int .u8 ((fun _ => (0 : Int)) 0), .int .u8 ((fun _ => (0 : Int)) 1), .int .u8 ((fun _ => (0 : Int)) 2), .int .u8 ((fun _ => (0 : Int)) 3), .int .u8 ((fun _ => (0 : Int)) 4), .int .u8 ((fun _ => (0 : Int)) 5), .int .u8 ((fun _ => (0 : Int)) 6), .int .u8 ((fun _ => (0 : Int)) 7), .int .u8 ((fun _ => (0 : Int)) 8), .int .u8 ((fun _ => (0 : Int)) 9), .int .u8 ((fun _ => (0 : Int)) 10), .int .u8 ((fun _ => (0 : Int)) 11), .int .u8 ((fun _ => (0 : Int)) 12), .int .u8 ((fun _ => (0 : Int)) 13), .int .u8 ((fun _ => (0 : Int)) 14), .int .u8 ((fun _ => (0 : Int)) 15)] 41))
  clear hr
  go_enter Tryz.func26, Tryz.ntmps26
  go_wp2_with fail
  generalize (w.alloc (.cells #[.bool false, .int .u8 ((fun _ => (0 : Int)) 0), .int .u8 ((fun _ => (0 : Int)) 1), .int .u8 ((fun _ => (0 : Int)) 2), .int .u8 ((fun _ => (0 : Int)) 3), .int .u8 ((fun _ => (0 : Int)) 4), .int .u8 ((fun _ => (0 : Int)) 5), .int .u8 ((fun _ => (0 : Int)) 6), .int .u8 ((fun _ => (0 : Int)) 7), .int .u8 ((fun _ => (0 : Int)) 8), .int .u8 ((fun _ => (0 : Int)) 9), .int .u8 ((fun _ => (0 : Int)) 10), .int .u8 ((fun _ => (0 : Int)) 11), .int .u8 ((fun _ => (0 : Int)) 12), .int .u8 ((fun _ => (0 : Int)) 13), .int .u8 ((fun _ => (0 : Int)) 14), .int .u8 ((fun _ => (0 : Int)) 15)] 41)).alloc (.cells #[.bool false, .int .u8 ((fun _ => (0 : Int)) 0), .int .u8 ((fun _ => (0 : Int)) 1), .int .u8 ((fun _ => (0 : Int)) 2), .int .u8 ((fun _ => (0 : Int)) 3), .int .u8 ((fun _ => (0 : Int)) 4), .int .u8 ((fun _ => (0 : Int)) 5), .int .u8 ((fun _ => (0 : Int)) 6), .int .u8 ((fun _ => (0 : Int)) 7), .int .u8 ((fun _ => (0 : Int)) 8), .int .u8 ((fun _ => (0 : Int)) 9), .int .u8 ((fun _ => (0 : Int)) 10), .int .u8 ((fun _ => (0 : Int)) 11), .int .u8 ((fun _ => (0 : Int)) 12), .int .u8 ((fun _ => (0 : Int)) 13), .int .u8 ((fun _ => (0 : Int)) 14), .int .u8 ((fun _ => (0 : Int)) 15)] 41) = w1 at *
  go_loopw [5] (fun u5 wr => ∃ k : Nat, k ≤ 4 ∧ u5 = .int .i64 k ∧ Hid (AdBox wr w.heap.size 41 false fun _ => 0) ∧ Hid (AdBox wr (w.heap.size + 1) 41 false (fun j => if j < k then fromB l j else 0)) ∧ Hid (Reads wr (some ⟨g, off, none⟩) 4 c l) ∧ Hid (Below w.heap.size w wr)) (fun u5 _ => (4 : Int) - intOf u5 |>.toNat)
  case atStart => exact ⟨0, by omega, rfl, HX, Lib.hid (HY.out.congr fun i _ => by simp), HR2, HB⟩
  case round =>
    obtain ⟨k, hk, rfl, HX, HY, HR, HW⟩ := hrel
    by_cases hlt : k < 4
    · obtain ⟨g', off', hA, hg, hc⟩ := HR.out.here (by omega)
      obtain ⟨rfl, rfl⟩ : g = g' ∧ off = off' := by simpa using hA
      have hcl := hc k hlt
      have hle := HR.out.le
      have hcx := HY.out.cell k (by omega)
      have hfx := HY.out.free (1 + k)
      have HV : Hid (l.getD k 0 = fromB l k) := Lib.hid rfl
      clear hc hA
      generalize l.getD k 0 = x at *
      go_wp2_with fail
      go_roundw
      case rel =>
        refine ⟨k + 1, by omega, by go_num, Lib.hid (HX.out.other _ _ (by simp only; omega)), Lib.hid ((HY.out.set k (by omega) x).congr fun i hi => ?_), Lib.hid (HR.out.other (fun a ha => by cases ha; simp only; omega) _), Lib.hid (HW.out.setCell (by simp only; omega) _)⟩
        by_cases e : i = k
        · subst e; simp [HV.out]
        · simp only [if_neg e]
          by_cases h : i < k
          · rw [if_pos h, if_pos (by omega)]
          · rw [if_neg h, if_neg (by omega)]
      case measure => simp [intOf]; omega
    · obtain rfl : k = 4 := by omega
      have HZ := HY.out.congr (C := fromB l) fun i hi => by
        by_cases h : i < 4
        · rw [if_pos h]
        · rw [if_neg h, HFL.out i (by omega)]
      have hpp := HZ.part
      have hrr := HX.out.row
      have HH := Lib.hid HX.out.heap
      clear HZ
      go_wp2_with fail
      exact bodyPost_ret (v := .tuple #[adV false (fromB l), .int .i64 0]) (results_ad2 _ _ Tryz.underlying41 info_rad5 rfl _ _ w.heap.size (.int .i64 0) rfl rfl (partOf_set2 HH.out)) rfl (.mk rfl (below_setRow HW.out (Nat.le_refl _) _))

set_option maxRecDepth 20000 in
set_option maxHeartbeats 8000000 in
theorem rfrom_no (A : Option Addr) (n c : Nat) (l : List Int) (w : World) (hr : Reads w A n c l) (hm : n ≤ 1000000) (h16 : n ≠ 16) (h4 : n ≠ 4) : Calls Tryz.prog 26 #[.slice A n c] w (RetAt w (fromV l)) := by
  rw [fromV_no (by rw [hr.len]; exact h16) (by rw [hr.len]; exact h4)]
  have HB := Lib.hid (show Below w.heap.size w ((w.alloc (.cells #[.bool false, .int .u8 ((fun _ => (0 : Int)) 0), .int .u8 ((fun _ => (0 : Int)) 1), .int .u8 ((fun _ => (0 : Int)) 2), .int .u8 ((fun _ => (0 : Int)) 3), .int .u8 ((fun _ => (0 : Int)) 4), .int .u8 ((fun _ => (0 : Int)) 5), .int .u8 ((fun _ => (0 : Int)) 6), .int .u8 ((fun _ => (0 : Int)) 7), .int .u8 ((fun _ => (0 : Int)) 8), .int .u8 ((fun _ => (0 : Int)) 9), .int .u8 ((fun _ => (0 : Int)) 10), .int .u8 ((fun _ => (0 : Int)) 11), .int .u8 ((fun _ => (0 : Int)) 12), .int .u8 ((fun _ => (0 : Int)) 13), .int .u8 ((fun _ => (0 : Int)) 14), .int .u8 ((fun _ => (0 : Int)) 15)] 41)).alloc (.cells #[.bool false, .int .u8 ((fun _ => (0 : Int)) 0), .int .u8 ((fun _ => (0 : Int)) 1), .int .u8 ((fun _ => (0 : Int)) 2), .int .u8 ((fun _ => (0 : Int)) 3), .int .u8 ((fun _ => (0 : Int)) 4), .int .u8 ((fun _ => (0 : Int)) 5), .int .u8 ((fun _ => (0 : Int)) 6), .int .u8 ((fun _ => (0 : Int)) 7), .int .u8 ((fun _ => (0 : Int)) 8), .int .u8 ((fun _ => (0 : Int)) 9), .int .u8 ((fun _ => (0 : Int)) 10), .int .u8 ((fun _ => (0 : Int)) 11), .int .u8 ((fun _ => (0 : Int)) 12), .int .u8 ((fun _ => (0 : Int)) 13), .int .u8 ((fun _ => (0 : Int)) 14), .int .u8 ((fun _ => (0 : Int)) 15)] 41)) from Below.all (Below.all (Below.refl _ _) _) _)
  have HX : AdBox ((w.alloc (.cells #[.bool false, .int .u8 ((fun _ => (0 : Int)) 0), .int .u8 ((fun _ => (0 : Int)) 1), .int .u8 ((fun _ => (0 : Int)) 2), .int .u8 ((fun _ => (0 : Int)) 3), .int .u8 ((fun _ => (0 : Int)) 4), .int .u8 ((fun _ => (0 : Int)) 5), .int .u8 ((fun _ => (0 : Int)) 6), .int .u8 ((fun _ => (0 : Int)) 7), .int .u8 ((fun _ => (0 : Int)) 8), .int .u8 ((fun _ => (0 : Int)) 9), .int .u8 ((fun _ => (0 : Int)) 10), .int .u8 ((fun _ => (0 : Int)) 11), .int .u8 ((fun _ => (0 : Int)) 12), .int .u8 ((fun _ => (0 : Int)) 13), .int .u8 ((fun _ => (0 : Int)) 14), .int .u8 ((fun _ => (0 : Int)) 15)] 41)).alloc (.cells #[.bool false, .int .u8 ((fun _ => (0 : Int)) 0), .int .u8 ((fun _ => (0 : Int)) 1), .int .u8 ((fun _ => (0 : Int)) 2), .int .u8 ((fun _ => (0 : Int)) 3), .int .u8 ((fun _ => (0 : Int)) 4), .int .u8 ((fun _ => (0 : Int)) 5), .int .u8 ((fun _ => (0 : Int)) 6), .int .u8 ((fun _ => (0 : Int)) 7), .int .u8 ((fun _ => (0 : Int)) 8), .int .u8 ((fun _ => (0 : Int)) 9), .int .u8 ((fun _ => (0 : Int)) 10), .int .u8 ((fun _ => (0 : Int)) 11), .int .u8 ((fun _ => (0 : Int)) 12), .int .u8 ((fun _ => (0 : Int)) 13), .int .u8 ((fun _ => (0 : Int)) 14), .int .u8 ((fun _ => (0 : Int)) 15)] 41)) w.heap.size 41 false fun _ => 0 := ⟨heap_alloc2_old w (.cells #[.bool false, .int .u8 ((fun _ => (0 : Int)) 0), .int .u8 ((fun _ => (0 : Int)) 1), .int .u8 ((fun _ => (0 : Int)) 2), .int .u8 ((fun _ => (0 : Int)) 3), .int .u8 ((fun _ => (0 : Int)) 4), .int .u8 ((fun _ => (0 : Int)) 5), .int .u8 ((fun _ => (0 : Int)) 6), .int .u8 ((fun _ => (0 : Int)) 7), .int .u8 ((fun _ => (0 : Int)) 8), .int .u8 ((fun _ => (0 : Int)) 9), .int .u8 ((fun _ => (0 : Int)) 10), .int .u8 ((fun _ => (0 : Int)) 11), .int .u8 ((fun _ => (0 : Int)) 12), .int .u8 ((fun _ => (0 : Int)) 13), .int .u8 ((fun _ => (0 : Int)) 14), .int .u8 ((fun _ => (0 : Int)) 15)] 41) (.cells #[.bool false, .int .u8 ((fun _ => (0 : Int)) 0), .int .u8 ((fun _ => (0 : Int)) 1), .int .u8 ((fun _ => (0 : Int)) 2), .int .u8 ((fun _ => (0 : Int)) 3), .int .u8 ((fun _ => (0 : Int)) 4), .int .u8 ((fun _ => (0 : Int)) 5), .int .u8 ((fun _ => (0 : Int)) 6), .int .u8 ((fun _ => (0 : Int)) 7), .int .u8 ((fun _ => (0 : Int)) 8), .int .u8 ((fun _ => (0 : Int)) 9), .int .u8 ((fun _ => (0 : Int)) 10), .int .u8 ((fun _ => (0 : Int)) 11), .int .u8 ((fun _ => (0 : Int)) 12), .int .u8 ((fun _ => (0 : Int)) 13), .int .u8 ((fun _ => (0 : Int)) 14), .int .u8 ((fun _ => (0 : Int)) 15)] 41)⟩
  have HX := Lib.hid HX
  have hn1 : ((n : Int) == 16) = false := by simp; omega
  have hn2 : ¬ ((n : Int) = 4) := by omega
  have hn3 : ¬ ((n : Int) = 16) := by omega
  have hn5 : ((n : Int) != 16) = true := by simp; omega
  have hn6 : ((n : Int) != 4) = true := by simp; omega
  clear hr
  go_enter Tryz.func26, Tryz.ntmps26
  go_wp2_with fail
  exact bodyPost_ret (v := .tuple #[adV false fun _ => 0, .int .i64 2]) (results_ad2 _ _ Tryz.underlying41 info_rad5 rfl _ _ w.heap.size (.int .i64 2) rfl rfl HX.out.part) rfl (.mk rfl HB.out)

/-- Numbers, ordered. -/
def cmpI : List Int → List Int → Int
  | x :: xs, y :: ys => if x < y then -1 else if y < x then 1 else cmpI xs ys
  | _, _ => 0
def adCmp (s : Bool) (B : Nat → Int) (t : Bool) (A : Nat → Int) : Int := if s = t then cmpI (b16 B) (b16 A) else if s = true then 1 else -1
theorem cmpI_bytes : ∀ (xs ys : List Int), xs.length = ys.length → (∀ x ∈ xs, 0 ≤ x ∧ x < 256) → (∀ y ∈ ys, 0 ≤ y ∧ y < 256) → Lib.compareBytes (Lib.bytesOf xs) (Lib.bytesOf ys) = cmpI xs ys
  | [], [], _, _, _ => rfl
  | [], _ :: _, h, _, _ => by simp at h
  | _ :: _, [], h, _, _ => by simp at h
  | x :: xs, y :: ys, h, hx, hy => by
    have ih := cmpI_bytes xs ys (by simpa using h) (fun z hz => hx z (by simp [hz])) (fun z hz => hy z (by simp [hz]))
    obtain ⟨h1, h2⟩ := hx x (by simp)
    obtain ⟨h3, h4⟩ := hy y (by simp)
    have e : ∀ a b : Int, 0 ≤ a → a < 256 → 0 ≤ b → b < 256 → (a.toNat.toUInt8 < b.toNat.toUInt8 ↔ a < b) := fun a b a0 a1 b0 b1 => by
      rw [UInt8.lt_iff_toNat_lt]
      simp only [Nat.toUInt8, UInt8.toNat_ofNat']
      omega
    show (if x.toNat.toUInt8 < y.toNat.toUInt8 then (-1 : Int) else if y.toNat.toUInt8 < x.toNat.toUInt8 then 1 else Lib.compareBytes (Lib.bytesOf xs) (Lib.bytesOf ys)) = _
    rw [ih]
    simp only [e x y h1 h2 h3 h4, e y x h3 h4 h1 h2, cmpI]
theorem b16_u8 {B : Nat → Int} (h : U8 B) : ∀ x ∈ b16 B, 0 ≤ x ∧ x < 256 := by
  intro x hx
  simp only [b16, List.mem_cons, List.mem_nil_iff, or_false] at hx
  rcases hx with rfl | rfl | rfl | rfl | rfl | rfl | rfl | rfl | rfl | rfl | rfl | rfl | rfl | rfl | rfl | rfl <;> exact h _

theorem b16_at {B : Nat → Int} {j : Nat} {x : Int} (h : (b16 B)[j]? = some x) : j < 16 ∧ x = B j := by
  have hj : j < 16 := by
    have := (List.getElem?_eq_some_iff.1 h).1
    exact this
  rw [b16_get B j hj] at h
  exact ⟨hj, (Option.some.inj h).symm⟩
/-- The model's entry, at two slices. -/
theorem run_compareSlices {P : Program} (w : World) (b1 o1 c1 b2 o2 c2 : Nat) (xs ys : List Int) (h1 : ∀ j x, xs[j]? = some x → w.cell? ⟨b1, o1 + j, none⟩ = some (.int .u8 x)) (h2 : ∀ j x, ys[j]? = some x → w.cell? ⟨b2, o2 + j, none⟩ = some (.int .u8 x)) :
    (Extern.BytealgCompare.compare #[.slice (some ⟨b1, o1, none⟩) xs.length c1, .slice (some ⟨b2, o2, none⟩) ys.length c2]).run P w = .ok (.int .i64 (Lib.compareBytes (Lib.bytesOf xs) (Lib.bytesOf ys))) w := by
  have l1 := Lib.run_loadBytesX (P := P) w xs ⟨b1, o1, none⟩ .empty (fun j x hj => by rw [Addr.add_lit]; exact h1 j x hj)
  have l2 := Lib.run_loadBytesX (P := P) w ys ⟨b2, o2, none⟩ .empty (fun j x hj => by rw [Addr.add_lit]; exact h2 j x hj)
  change Sem.run P (do pure (goInt (Extern.BytealgCompare.cmp (← Extern.Bytes.bytesOf (.slice (some ⟨b1, o1, none⟩) xs.length c1)) (← Extern.Bytes.bytesOf (.slice (some ⟨b2, o2, none⟩) ys.length c2))))) w = _
  simp only [Extern.Bytes.bytesOf, Sem.run_bind, l1, l2, Sem.run_pure, Result.andThen]
  rw [Lib.cmp_eq]
  simp [goInt]

theorem rfrom_any (A : Option Addr) (n c : Nat) (l : List Int) (w : World) (hr : Reads w A n c l) (hm : n ≤ 1000000) : Calls Tryz.prog 26 #[.slice A n c] w (RetAt w (fromV l)) := by
  by_cases h16 : n = 16
  · rw [fromV_16 (by rw [hr.len]; exact h16)]; subst h16; exact rfrom_16 A c l w hr
  · by_cases h4 : n = 4
    · rw [fromV_4 (by rw [hr.len]; exact h4)]; subst h4; exact rfrom_4 A c l w hr
    · exact rfrom_no A n c l w hr hm h16 h4

set_option maxRecDepth 100000 in
set_option maxHeartbeats 4000000 in
theorem compare_any (b1 o1 c1 b2 o2 c2 n : Nat) (xs ys : List Int) (w : World) (hx : xs.length = n) (hy : ys.length = n) (h1 : ∀ j x, xs[j]? = some x → w.cell? ⟨b1, o1 + j, none⟩ = some (.int .u8 x)) (h2 : ∀ j x, ys[j]? = some x → w.cell? ⟨b2, o2 + j, none⟩ = some (.int .u8 x)) (u1 : ∀ x ∈ xs, 0 ≤ x ∧ x < 256) (u2 : ∀ x ∈ ys, 0 ≤ x ∧ x < 256) :
    Calls Tryz.prog 53 #[.slice (some ⟨b1, o1, none⟩) n c1, .slice (some ⟨b2, o2, none⟩) n c2] w (fun e w' => e = .returned (.int .i64 (cmpI xs ys)) ∧ w = w') := by
  have hrun := run_compareSlices (P := Tryz.prog) w b1 o1 c1 b2 o2 c2 xs ys h1 h2
  rw [cmpI_bytes xs ys (hx.trans hy.symm) u1 u2, hx, hy] at hrun
  clear h1 h2 u1 u2 hx hy
  go_enter Tryz.func53, Tryz.ntmps53
  go_wp2
  rw [run_callFunc_extern Tryz.func68 (by kernel_rfl) (by kernel_rfl) (by kernel_rfl) (e := Extern.BytealgCompare.compare) (by kernel_rfl), hrun]
  simp only [Result.andThen]
  rw [Oper.upon_value]
  go_wp2
  go_ret
  exact ⟨rfl, rfl⟩
end Go.Proofs.YtcadpcppnllhnaaGreatDoor
end

/- The plain law of texts of addresses: what is cut, which numbers digits tell, and what both parsers accept. -/
section
namespace Go.Proofs.YtcadpcppnllhnaaGreatDoor
open Go.Lib

/-! ### Cuts -/

/-- A text, cut at a byte. -/
def cutsL (c : UInt8) : List UInt8 → List (List UInt8)
  | [] => [[]]
  | x :: r => if x = c then [] :: cutsL c r else match cutsL c r with
    | [] => [[x]]
    | h :: t => (x :: h) :: t

theorem cutsL_ne (c : UInt8) : ∀ l, cutsL c l ≠ []
  | [] => by simp [cutsL]
  | x :: r => by
    unfold cutsL
    split
    · simp
    · split <;> simp

theorem index_one_nil (c : UInt8) : index [] [c] = -1 := by simp [index]
theorem index_one_cons (c x : UInt8) (r : List UInt8) : index (x :: r) [c] = if x = c then 0 else if index r [c] = -1 then -1 else index r [c] + 1 := by
  rw [index]
  by_cases h : x = c
  · subst h; simp
  · have h' : ([c].isPrefixOf (x :: r)) = false := by
      show (c == x && List.isPrefixOf [] r) = false
      have : (c == x) = false := by simpa using fun e : c = x => h e.symm
      rw [this]; rfl
    rw [h', if_neg h]
    simp

/-- Where the byte does not stand, nothing is cut. -/
theorem cutsL_miss (c : UInt8) : ∀ l, index l [c] = -1 → cutsL c l = [l]
  | [], _ => rfl
  | x :: r, h => by
    rw [index_one_cons] at h
    by_cases hx : x = c
    · rw [if_pos hx] at h; exact absurd h (by decide)
    · rw [if_neg hx] at h
      have hr : index r [c] = -1 := by
        by_cases e : index r [c] = -1
        · exact e
        · rw [if_neg e] at h; have := index_ge r [c]; omega
      rw [cutsL, if_neg hx, cutsL_miss c r hr]
/-- Where it stands first. -/
theorem cutsL_hit (c : UInt8) : ∀ (l : List UInt8) (i : Nat), index l [c] = (i : Int) → cutsL c l = l.take i :: cutsL c (l.drop (i + 1))
  | [], i, h => by rw [index_one_nil] at h; omega
  | x :: r, i, h => by
    rw [index_one_cons] at h
    by_cases hx : x = c
    · rw [if_pos hx] at h
      obtain rfl : i = 0 := by omega
      rw [cutsL, if_pos hx]; rfl
    · rw [if_neg hx] at h
      by_cases e : index r [c] = -1
      · rw [if_pos e] at h; omega
      · rw [if_neg e] at h
        have hge := index_ge r [c]
        obtain ⟨j, rfl⟩ : ∃ j, i = j + 1 := ⟨i - 1, by omega⟩
        have hj : index r [c] = (j : Int) := by omega
        rw [cutsL, if_neg hx, cutsL_hit c r j hj]
        rfl

theorem split_cuts_fuel (c : UInt8) : ∀ (fuel : Nat) (s : List UInt8), s.length < fuel → splitK [c] 0 (countFrom [c] fuel s) s = cutsL c s
  | 0, s, h => absurd h (Nat.not_lt_zero _)
  | fuel + 1, s, h => by
    rw [countFrom]
    by_cases e : index s [c] = -1
    · rw [if_pos (by simpa using e), cutsL_miss c s e]; rfl
    · rw [if_neg (by simpa using e)]
      have hge := index_ge s [c]
      obtain ⟨i, hi⟩ : ∃ i : Nat, index s [c] = (i : Int) := ⟨(index s [c]).toNat, by omega⟩
      rw [cutsL_hit c s i hi, hi, show 1 + countFrom [c] fuel (s.drop ((i : Int).toNat + [c].length)) = countFrom [c] fuel (s.drop (i + 1)) + 1 by simp [Nat.add_comm]]
      rw [splitK, hi, if_neg (by simp)]
      have hs : s ≠ [] := by rintro rfl; rw [index_one_nil] at hi; omega
      have hpos : 0 < s.length := List.length_pos_iff.2 hs
      have := split_cuts_fuel c fuel (s.drop (i + 1)) (by rw [List.length_drop]; omega)
      simp only [Int.toNat_natCast, Nat.add_zero, List.length_singleton]
      rw [this]
theorem split_cuts (c : UInt8) (s : List UInt8) : split s [c] = cutsL c s := split_cuts_fuel c _ s (Nat.lt_succ_self _)

/-! ### Numbers -/

/-- What a digit tells (99: none). -/
def digitN (c : UInt8) : Nat :=
  if 65 ≤ c.toNat ∧ c.toNat ≤ 70 then c.toNat - 55 else if 97 ≤ c.toNat ∧ c.toNat ≤ 102 then c.toNat - 87 else if 48 ≤ c.toNat ∧ c.toNat ≤ 57 then c.toNat - 48 else 99
/-- The number below 'most' that digits tell, behind what was told. -/
def numL (base most : Nat) : Nat → List UInt8 → Option Nat
  | n, [] => some n
  | n, c :: r => if base ≤ digitN c ∨ most ≤ n * base + digitN c then none else numL base most (n * base + digitN c) r
def numberL (base most : Nat) (l : List UInt8) : Option Nat := if l = [] then none else numL base most 0 l

theorem numL_append (base most : Nat) : ∀ (l : List UInt8) (n : Nat) (r : List UInt8), numL base most n (l ++ r) = (numL base most n l).bind fun m => numL base most m r
  | [], n, r => rfl
  | c :: l, n, r => by
    rw [List.cons_append, numL, numL]
    split
    · rfl
    · exact numL_append base most l _ r
theorem numL_lt (base most : Nat) : ∀ (l : List UInt8) (n m : Nat), n < most → numL base most n l = some m → m < most
  | [], n, m, h, e => by simp only [numL, Option.some.injEq] at e; omega
  | c :: l, n, m, h, e => by
    rw [numL] at e
    split at e
    · cases e
    · exact numL_lt base most l _ m (by omega) e

theorem digitN_dec (d : Nat) (h : d < 10) : digitN (UInt8.ofNat (48 + d)) = d := by
  have : d = 0 ∨ d = 1 ∨ d = 2 ∨ d = 3 ∨ d = 4 ∨ d = 5 ∨ d = 6 ∨ d = 7 ∨ d = 8 ∨ d = 9 := by omega
  rcases this with rfl | rfl | rfl | rfl | rfl | rfl | rfl | rfl | rfl | rfl <;> decide

theorem decDigits_ne (u : Nat) : decDigits u ≠ [] := by
  rw [decDigits]; split <;> simp
theorem numL_dec (most : Nat) : ∀ (k u : Nat), u ≤ k → u < most → numL 10 most 0 (decDigits u) = some u
  | 0, u, hk, hm => by
    obtain rfl : u = 0 := by omega
    rw [decDigits, dif_pos (by omega), numL, digitN_dec 0 (by omega), if_neg (by omega)]; rfl
  | k + 1, u, hk, hm => by
    rw [decDigits]
    by_cases h : u < 10
    · rw [dif_pos h, numL, digitN_dec u h, if_neg (by omega)]; simp [numL]
    · rw [dif_neg h, numL_append, numL_dec most k (u / 10) (by omega) (by omega)]
      simp only [Option.bind]
      rw [numL, digitN_dec _ (by omega), if_neg (by omega), numL]
      congr 1
      omega

/-- Digits without noughts ahead, of a number below 'most'. -/
def decL (most : Nat) (l : List UInt8) : Option Nat := match numberL 10 most l with
  | some n => if decDigits n = l then some n else none
  | none => none
theorem decL_some {most : Nat} {l : List UInt8} {n : Nat} : decL most l = some n ↔ n < most ∧ l = decDigits n := by
  unfold decL
  constructor
  · intro h
    split at h
    · rename_i m hm
      split at h
      · rename_i hd
        cases h
        refine ⟨?_, hd.symm⟩
        unfold numberL at hm
        split at hm
        · cases hm
        · rcases Nat.lt_or_ge 0 most with h0 | h0
          · exact numL_lt 10 most l 0 _ h0 hm
          · exfalso
            obtain rfl : most = 0 := by omega
            cases l with
            | nil => contradiction
            | cons c r => rw [numL, if_pos (.inr (Nat.zero_le _))] at hm; cases hm
      · cases h
    · cases h
  · rintro ⟨h1, rfl⟩
    have : numberL 10 most (decDigits n) = some n := by
      rw [numberL, if_neg (decDigits_ne n), numL_dec most n n (Nat.le_refl _) h1]
    rw [this]
    simp

theorem parseUint10_append : ∀ (l : List UInt8) (acc : Nat) (r : List UInt8) (m : Nat), parseUint10 acc l = .ok m → parseUint10 acc (l ++ r) = parseUint10 m r
  | [], acc, r, m, h => by simp only [parseUint10, NumEnd.ok.injEq] at h; subst h; rfl
  | c :: l, acc, r, m, h => by
    rw [List.cons_append, parseUint10]
    rw [parseUint10] at h
    split
    · rename_i hc
      rw [if_pos hc] at h
      split
      · rename_i h2; rw [if_pos h2] at h; cases h
      · rename_i h2
        rw [if_neg h2] at h
        split
        · rename_i h3; rw [if_pos h3] at h; cases h
        · rename_i h3; rw [if_neg h3] at h; exact parseUint10_append l _ r m h
    · rename_i hc; rw [if_neg hc] at h; cases h
theorem toNat_dec (d : Nat) (h : d < 10) : (UInt8.ofNat (48 + d)).toNat = 48 + d := by
  simp [UInt8.toNat_ofNat']; omega
theorem parseUint10_dec : ∀ (k u : Nat), u ≤ k → u < 9223372036854775808 → parseUint10 0 (decDigits u) = .ok u
  | 0, u, hk, hm => by
    obtain rfl : u = 0 := by omega
    rw [decDigits, dif_pos (by omega)]; decide
  | k + 1, u, hk, hm => by
    rw [decDigits]
    by_cases h : u < 10
    · rw [dif_pos h, parseUint10, toNat_dec u h, if_pos (by omega), if_neg (by omega), if_neg (by omega), parseUint10]
      congr 1; omega
    · rw [dif_neg h, parseUint10_append _ _ _ _ (parseUint10_dec k (u / 10) (by omega) (by omega)), parseUint10, toNat_dec _ (by omega), if_pos (by omega), if_neg (by omega), if_neg (by omega), parseUint10]
      congr 1; omega
theorem decDigits_head (u : Nat) : ∀ k, u ≤ k → ∃ (d : Nat) (r : List UInt8), d < 10 ∧ decDigits u = UInt8.ofNat (48 + d) :: r := by
  intro k
  induction k generalizing u with
  | zero => intro h; obtain rfl : u = 0 := by omega
            exact ⟨0, [], by omega, by rw [decDigits, dif_pos (by omega)]⟩
  | succ k ih =>
    intro h
    rw [decDigits]
    by_cases h' : u < 10
    · rw [dif_pos h']; exact ⟨u, [], h', rfl⟩
    · rw [dif_neg h']
      obtain ⟨d, r, hd, e⟩ := ih (u / 10) (by omega)
      exact ⟨d, r ++ [UInt8.ofNat (48 + u % 10)], hd, by rw [e]; rfl⟩
theorem atoi_dec (u : Nat) (hm : u < 9223372036854775808) : atoiAll (decDigits u) = .ok (u : Int) := by
  obtain ⟨d, r, hd, e⟩ := decDigits_head u u (Nat.le_refl _)
  have hp := parseUint10_dec u u (Nat.le_refl _) hm
  rw [e] at hp ⊢
  have ht := toNat_dec d hd
  simp only [atoiAll, ht]
  rw [if_neg (by omega : ¬ (48 + d = 43 ∨ 48 + d = 45))]
  simp only [parseMag]
  rw [if_neg (by simp), hp]
  simp only
  rw [if_neg (by omega), if_neg (by omega), if_neg (by omega)]

/-- What the program's 'decimal' accepts. -/
theorem decL_atoi (most : Nat) (hmost : most ≤ 1000000) (l : List UInt8) : decL most l = match atoiAll l with
    | .ok v => if 0 ≤ v ∧ v < most ∧ itoa v = l then some v.toNat else none
    | _ => none := by
  cases h : decL most l with
  | some n =>
    obtain ⟨h1, rfl⟩ := decL_some.1 h
    rw [atoi_dec n (by omega)]
    simp only
    rw [if_pos ⟨by omega, by omega, by unfold itoa; rw [if_neg (by omega)]; simp⟩]
    simp
  | none =>
    cases hv : atoiAll l with
    | ok v =>
      simp only
      by_cases hc : 0 ≤ v ∧ v < most ∧ itoa v = l
      · exfalso
        obtain ⟨h0, h1, h2⟩ := hc
        have : decL most l = some v.toNat := decL_some.2 ⟨by omega, by rw [← h2]; unfold itoa; rw [if_neg (by omega)]⟩
        rw [this] at h; cases h
      · rw [if_neg hc]
    | range => rfl
    | _ => rfl

/-! ### Groups -/

/-- A group's number. -/
def hexG (g : List UInt8) : Option Nat := if g.length ≤ 4 then numberL 16 65536 g else none
/-- The groups that a text tells. -/
def groupsL (s : List UInt8) : Option (List Nat) := if s = [] then some [] else (cutsL 58 s).mapM hexG
/-- The eight groups of a text. -/
def sixL (s : List UInt8) : Option (List Nat) :=
  if index s [58, 58] = -1 then (groupsL s).bind fun l => if l.length = 8 then some l else none
  else (groupsL (s.take (index s [58, 58]).toNat)).bind fun l => (groupsL (s.drop ((index s [58, 58]).toNat + 2))).bind fun m =>
    if l.length + m.length ≤ 7 then some (l ++ List.replicate (8 - l.length - m.length) 0 ++ m) else none
/-- The four bytes of a text. -/
def fourL (s : List UInt8) : Option (List Nat) := if (cutsL 46 s).length = 4 then (cutsL 46 s).mapM (decL 256) else none
end Go.Proofs.YtcadpcppnllhnaaGreatDoor
end

/- The plain law of an address's text: both programs' ways to shorten a row of noughts tell the same. -/
section
namespace Go.Proofs.YtcadpcppnllhnaaGreatDoor
open Go.Lib

/-! ### The longest row of noughts, the program's way -/
def nrow (z : Nat → Bool) (i : Nat) : Nat → Nat → Nat × Nat → Nat × Nat
  | 0, _, ft => ft
  | f + 1, n, ft => if z n then nrow z i f (n + 1) (if 2 ≤ n + 1 - i ∧ ft.2 - ft.1 < n + 1 - i then (i, n + 1) else ft) else ft
def nrows (z : Nat → Bool) : Nat → Nat → Nat × Nat → Nat × Nat
  | 0, _, ft => ft
  | f + 1, i, ft => nrows z f (i + 1) (nrow z i (8 - i) i ft)
def noughtsZ (z : Nat → Bool) : Nat × Nat := nrows z 8 0 (0, 0)
/-! ### .. and the document's -/
def runZ (z : Nat → Bool) : Nat → Nat → Nat
  | 0, _ => 0
  | f + 1, i => if z i then runZ z f (i + 1) + 1 else 0
def bestGo (z : Nat → Bool) : Nat → Nat → Nat → Nat
  | 0, _, b => b
  | f + 1, i, b => bestGo z f (i + 1) (if 2 ≤ runZ z (8 - i) i ∧ (b = 8 ∨ runZ z (8 - b) b < runZ z (8 - i) i) then i else b)
def bestZ (z : Nat → Bool) : Nat := bestGo z 8 0 8
/-- A text's parts: a colon, or a group. -/
abbrev Tok := Option Nat
def txtGo (z : Nat → Bool) (best : Nat) : Nat → Nat → List Tok → List Tok
  | 0, _, T => T
  | f + 1, i, T => if 8 ≤ i then T else if i = best then txtGo z best f (i + runZ z (8 - best) best) (T ++ [none, none])
    else txtGo z best f (i + 1) (T ++ (if T = [] ∨ T.getLast? = some none then [] else [none]) ++ [some i])
def refTok (z : Nat → Bool) : List Tok := txtGo z (bestZ z) 9 0 []
def joinT : List Nat → List Tok
  | [] => []
  | [i] => [some i]
  | i :: l => some i :: none :: joinT l
def progTok (z : Nat → Bool) : List Tok :=
  if (noughtsZ z).1 = (noughtsZ z).2 then joinT (List.range 8) else joinT ((List.range 8).take (noughtsZ z).1) ++ [none, none] ++ joinT ((List.range 8).drop (noughtsZ z).2)

/-- Eight bits, as a function. -/
def zof (l : List Bool) (i : Nat) : Bool := l.getD i false
set_option maxRecDepth 1000000 in
theorem tok_eq8 : ∀ a b c d e f g h : Bool, progTok (zof [a, b, c, d, e, f, g, h]) = refTok (zof [a, b, c, d, e, f, g, h]) := by decide
set_option maxRecDepth 1000000 in
theorem noughts_bd8 : ∀ a b c d e f g h : Bool, (noughtsZ (zof [a, b, c, d, e, f, g, h])).1 ≤ (noughtsZ (zof [a, b, c, d, e, f, g, h])).2 ∧ (noughtsZ (zof [a, b, c, d, e, f, g, h])).2 ≤ 8 := by decide

/-! ### The text -/
def flatT (G : Nat → List UInt8) : List Tok → List UInt8
  | [] => []
  | none :: l => 58 :: flatT G l
  | some i :: l => G i ++ flatT G l
theorem flatT_append (G : Nat → List UInt8) : ∀ a b : List Tok, flatT G (a ++ b) = flatT G a ++ flatT G b
  | [], b => rfl
  | none :: a, b => by rw [List.cons_append, flatT, flatT, flatT_append G a b]; rfl
  | some i :: a, b => by rw [List.cons_append, flatT, flatT, flatT_append G a b, List.append_assoc]
/-- Texts, with a byte between. -/
def joinL (c : UInt8) : List (List UInt8) → List UInt8
  | [] => []
  | [p] => p
  | p :: l => p ++ c :: joinL c l
theorem joinL_cons2 (c : UInt8) (p q : List UInt8) (l : List (List UInt8)) : joinL c (p :: q :: l) = p ++ c :: joinL c (q :: l) := rfl
theorem flat_join (G : Nat → List UInt8) : ∀ l : List Nat, flatT G (joinT l) = joinL 58 (l.map G)
  | [] => rfl
  | [i] => by simp [joinT, flatT, joinL]
  | i :: j :: l => by
    have := flat_join G (j :: l)
    rw [joinT]
    · simp only [flatT, List.map_cons, joinL_cons2]
      rw [this]; rfl
    · simp
/-- Cut again, it's what was joined. -/
theorem cutsL_none (c : UInt8) : ∀ p : List UInt8, c ∉ p → cutsL c p = [p]
  | [], _ => rfl
  | x :: r, h => by
    simp only [List.mem_cons, not_or] at h
    rw [cutsL, if_neg (fun e => h.1 e.symm), cutsL_none c r h.2]
theorem cutsL_app (c : UInt8) : ∀ (p r : List UInt8), c ∉ p → cutsL c (p ++ c :: r) = p :: cutsL c r
  | [], r, _ => by rw [List.nil_append, cutsL, if_pos rfl]
  | x :: p, r, h => by
    simp only [List.mem_cons, not_or] at h
    rw [List.cons_append, cutsL, if_neg (fun e => h.1 e.symm), cutsL_app c p r h.2]
theorem cutsL_join (c : UInt8) : ∀ l : List (List UInt8), l ≠ [] → (∀ p ∈ l, c ∉ p) → cutsL c (joinL c l) = l
  | [], h, _ => absurd rfl h
  | [p], _, h => by rw [joinL]; exact cutsL_none c p (h p (by simp))
  | p :: q :: l, _, h => by
    rw [joinL_cons2, cutsL_app c p _ (h p (by simp)), cutsL_join c (q :: l) (by simp) (fun p' hp => h p' (by simp [hp]))]
end Go.Proofs.YtcadpcppnllhnaaGreatDoor
end
