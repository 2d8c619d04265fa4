/- Walks over texts: the reference's groups. -/
import Derived.Test.YtcadpcppnllhnaaDoorAddrC
import Derived.StillTailTactics
import Derived.RegionTactic
import Derived.BigRegion
set_option linter.unusedSimpArgs false
set_option linter.unusedVariables false
namespace Go.Proofs.YtcadpcppnllhnaaDoor
open Go.RowKit

theorem mapM_snoc {α β : Type} (f : α → Option β) (l : List α) (x : α) (a : List β) (b : β) (h : l.mapM f = some a) (hx : f x = some b) : (l ++ [x]).mapM f = some (a ++ [b]) := by
  simp [List.mapM_append, List.mapM_cons, h, hx]
theorem mapM_miss {α β : Type} (f : α → Option β) (l : List α) (k : Nat) (hk : k < l.length) (hx : f l[k] = none) : l.mapM f = none := by
  cases h : l.mapM f with
  | none => rfl
  | some a =>
    exfalso
    have e : l = l.take k ++ l[k] :: l.drop (k + 1) := by rw [← List.drop_eq_getElem_cons hk, List.take_append_drop]
    rw [e, List.mapM_append, List.mapM_cons, hx] at h
    cases h2 : (l.take k).mapM f <;> simp [h2] at h
theorem mapM_len {α β : Type} (f : α → Option β) : ∀ (l : List α) (a : List β), l.mapM f = some a → a.length = l.length
  | [], a, h => by simp at h; subst h; rfl
  | x :: l, a, h => by
    rw [List.mapM_cons] at h
    cases hx : f x with
    | none => rw [hx] at h; simp at h
    | some b =>
      cases hl : l.mapM f with
      | none => rw [hx, hl] at h; simp at h
      | some c => rw [hx, hl] at h; simp at h; subst h; simp [mapM_len f l c hl]

/-- A call that returns the groups of a text, or none. -/
def GroupsPost (w : World) (o : Option (List Nat)) : Ending → World → Prop := fun e w' =>
  (o = none ∧ e = .returned (.tuple #[.slice none 0 0, .bool false]) ∧ Below w.heap.size w w') ∨
  (∃ L oa cap, o = some L ∧ e = .returned (.tuple #[.slice oa L.length cap, .bool true]) ∧ Owns w' w.heap.size 1 oa L.length cap (L.map fun (n : Nat) => Value.int .i64 (n : Int)) ∧ Below w.heap.size w w')
theorem info_i64 : (Tryd.prog.info? 3).map (fun i => (i.zero, i.size, i.bytes)) = some (some (.int .i64 0), 1, 8) := by kernel_rfl

set_option maxHeartbeats 4000000 in
theorem groups_any (s : ByteArray) (w : World) (hs : s.size ≤ 1000) : Calls Tryd.prog 53 #[.string s] w (GroupsPost w (groupsL s.data.toList)) := by
  by_cases he : s = ⟨#[]⟩
  · subst he
    go_enter Tryd.func53, Tryd.ntmps53
    go_wp2_with fail
    go_ret2
    exact .inr ⟨[], none, 0, rfl, rfl, Owns.nil _ _ _, Below.refl _ _⟩
  · have hne : s.data.toList ≠ [] := fun e => he (by cases s; rename_i d; cases d; simp only at e; subst e; rfl)
    have hgl : groupsL s.data.toList = (cutsL 58 s.data.toList).mapM hexG := by rw [groupsL, if_neg hne]
    have HGL := Lib.hid hgl
    have hls : s.data.toList.length = s.size := by rw [Array.length_toList, ByteArray.size_data]
    have HPL : Hid (∀ p ∈ cutsL 58 s.data.toList, p.length ≤ 1000) := Lib.hid (fun p hp => by have := cutsL_len 58 _ p hp; omega)
    have HPC : Hid ((cutsL 58 s.data.toList).length ≤ 1001) := Lib.hid (by have := cutsL_count 58 s.data.toList; omega)
    have HCA := Lib.hid (fun w => cuts_any s 58 w hs)
    have heq : s.toList.isEmpty = false := by rw [toList_data8]; cases h : s.data.toList with
      | nil => exact absurd h hne
      | cons a t => rfl
    clear he hgl hls hs
    generalize cutsL 58 s.data.toList = P at *
    go_enter Tryd.func53, Tryd.ntmps53
    go_wp2_with fail
    refine Calls.mono (HCA.out w) ?_
    rintro e w1 ⟨op, capp, rfl, HO, HB⟩
    have hpc := HPC.out
    generalize hnP : P.length = nP at *
    have HNP := Lib.hid hnP
    clear hnP
    have HO := Lib.hid HO
    have HB := Lib.hid HB
    go_wp2_with fail
    go_loopw [4, 6] (fun u4 u6 wr => ∃ (k : Nat) (oa : Option Addr) (cap : Nat) (G : List Nat), k ≤ nP ∧ u6 = .int .i64 k ∧ u4 = .slice oa k cap ∧ Hid (G.length = k) ∧ Hid ((P.take k).mapM hexG = some G) ∧ Hid (Owns wr w1.heap.size 1 oa k cap (G.map fun (n : Nat) => Value.int .i64 (n : Int))) ∧ Hid (Below w1.heap.size w1 wr)) (fun _ u6 _ => (nP : Int) - intOf u6 |>.toNat)
    case atStart =>
      exact ⟨0, none, 0, [], Nat.zero_le _, rfl, rfl, Lib.hid rfl, Lib.hid rfl, Lib.hid (Owns.nil _ _ _), Lib.hid (Below.refl _ _)⟩
    case round =>
      obtain ⟨k, oa, cap, G, hk, rfl, rfl, HGn, HG, HR, HW⟩ := hrel
      have HOr := HO.out.below HW.out
      by_cases hlt : k < nP
      · have hkP : k < P.length := by rw [HNP.out]; exact hlt
        obtain ⟨g, off, hop, hbg, hg, hc, ht⟩ := HOr.here (by omega)
        subst hop
        have hcl := hc k (strV P[k]) (by simp [hkP])
        have hpl := HPL.out P[k] (List.getElem_mem hkP)
        have hts : P.take (k + 1) = P.take k ++ [P[k]] := by rw [List.take_succ_eq_append_getElem hkP]
        have HTS := Lib.hid hts
        have HMI := Lib.hid (fun h => mapM_miss hexG P k hkP h)
        clear hts hc ht
        unfold strV at hcl
        generalize P[k] = p at *
        have hsz : (⟨p.toArray⟩ : ByteArray).size = p.length := by simp [ByteArray.size]
        have HNU := Lib.hid (fun w => number_any ⟨p.toArray⟩ 16 65536 w (by rw [hsz]; exact hpl) (by decide) (by decide) (by decide))
        have hpe : ((⟨p.toArray⟩ : ByteArray).data.toList) = p := by simp
        rw [hpe] at HNU
        cases hn : numberL 16 65536 p with
        | none =>
          rw [hn] at HNU
          have hx : hexG p = none := by unfold hexG; split <;> simp [hn]
          have HX := Lib.hid (HMI.out hx)
          clear hn hx
          go_wp2_with fail
          refine Calls.mono (HNU.out wr) ?_
          rintro e w2 ⟨rfl, hb2⟩
          simp only [numV]
          go_wp2_with fail
          go_ret2
          refine .inl ⟨?_, rfl, Below.via HB.out (Below.via HW.out hb2)⟩
          rw [HGL.out, HX.out]
        | some n =>
          rw [hn] at HNU
          by_cases h4 : p.length ≤ 4
          · have hx : hexG p = some n := by unfold hexG; rw [if_pos h4, hn]
            have HX : Hid ((P.take (k + 1)).mapM hexG = some (G ++ [n])) := Lib.hid (by rw [HTS.out]; exact mapM_snoc _ _ _ _ _ HG.out hx)
            clear hn hx
            go_wp2_with fail
            refine Calls.mono (HNU.out wr) ?_
            rintro e w2 ⟨rfl, hb2⟩
            simp only [numV]
            have hcl2 := hb2.cell (p := ⟨g, off + k, none⟩) (by first | omega | exact hg)
            have HR2 := Lib.hid (HR.out.below hb2)
            have hle : w1.heap.size ≤ w2.heap.size := Nat.le_trans HW.out.size hb2.size
            have HLE := Lib.hid hle
            clear hle
            have HW2 := Lib.hid (Below.via HW.out hb2)
            go_wp2_with (at_builtin; refine Stopped.of ?_)
            refine Stopped.mk ?_
            refine wpList_append_owns _ rfl _ _ 91 rfl 3 (.int .i64 0) 1 8 w1.heap.size Tryd.underlying91 info_i64 rfl (by decide) oa k cap _ rfl (HR2.out.alloc _) ⟨w2.heap.size, 0, none⟩ 1 1 [.int .i64 n] rfl rfl ?_ ?_ (by decide) ?_ ?_ ?_ ?_
            · exact news_new _ _ _
            · simp [Value.oneCell']
            · have := HPC.out; unfold maxLen; omega
            · have := HPC.out; omega
            · simp only [World.size_alloc]; have := HLE.out; omega
            intro oa' cap' w' ho' hg2 hd
            have hb3 : Below w1.heap.size w1 w' := Below.appended (HW2.out.alloc HLE.out _) (HR2.out.alloc _) (Nat.le_refl _) hg2 (by simp only [World.size_alloc]; have := HLE.out; omega)
            have HB3 := Lib.hid hb3
            clear hg2 hd hb3
            go_wp2_with fail
            go_roundw
            case rel =>
              refine ⟨k + 1, oa', cap', G ++ [n], by omega, by go_num, rfl, Lib.hid (by rw [List.length_append, HGn.out]; rfl), HX, Lib.hid ?_, HB3⟩
              rw [List.map_append]; exact ho'
            case measure => simp [intOf]; omega
          · have hx : hexG p = none := by unfold hexG; rw [if_neg h4]
            have HX := Lib.hid (HMI.out hx)
            clear hn hx
            go_wp2_with fail
            refine Calls.mono (HNU.out wr) ?_
            rintro e w2 ⟨rfl, hb2⟩
            simp only [numV]
            have hcl2 := hb2.cell (p := ⟨g, off + k, none⟩) (by first | omega | exact hg)
            go_wp2_with fail
            go_ret2
            refine .inl ⟨?_, rfl, Below.via HB.out (Below.via HW.out hb2)⟩
            rw [HGL.out, HX.out]
      · obtain rfl : k = nP := by omega
        have HF : Hid (P.take k = P) := Lib.hid (by rw [List.take_of_length_le (by rw [HNP.out]; exact Nat.le_refl _)])
        go_wp2_with fail
        go_ret2
        obtain rfl := HGn.out
        exact .inr ⟨G, oa, cap, by rw [HGL.out, ← HF.out]; exact HG.out, rfl, HR.out.mono HB.out.size, Below.via HB.out HW.out⟩
end Go.Proofs.YtcadpcppnllhnaaDoor
