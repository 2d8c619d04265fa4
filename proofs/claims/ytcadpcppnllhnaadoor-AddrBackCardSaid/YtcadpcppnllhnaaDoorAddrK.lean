/- Walks over texts: row. -/
import Derived.Test.YtcadpcppnllhnaaDoorAddrJ
set_option linter.unusedSimpArgs false
set_option linter.unusedVariables false
namespace Go.Proofs.YtcadpcppnllhnaaDoor
open Go.RowKit

/-- What row answers: the numbers and true; or whatever numbers and false. -/
def RowPost (w : World) (o : Option (List Nat)) : Ending → World → Prop := fun e w' => ∃ (oa : Option Addr) (cap : Nat) (G : List Nat) (ok : Bool), e = .returned (.tuple #[.slice oa G.length cap, .bool ok]) ∧
  Owns w' w.heap.size 1 oa G.length cap (G.map fun (m : Nat) => Value.int .u64 (m : Int)) ∧ Below w.heap.size w w' ∧ G.length ≤ 1001 ∧ ((ok = true ∧ o = some G) ∨ (ok = false ∧ o = none))

theorem RowSt.start {w w1 : World} {op : Option Addr} {nP capp : Nat} {P : List (List UInt8)} (HO : Owns w1 ((w.alloc (Obj.cells #[Value.slice none 0 0] 87)).alloc (Obj.cells #[Value.bool true] 4)).heap.size 1 op nP capp (P.map strV))
    (HB : Below ((w.alloc (Obj.cells #[Value.slice none 0 0] 87)).alloc (Obj.cells #[Value.bool true] 4)).heap.size ((w.alloc (Obj.cells #[Value.slice none 0 0] 87)).alloc (Obj.cells #[Value.bool true] 4)) w1) :
    RowSt w w1 w1.heap.size op nP capp P none 0 0 [] true where
  below := Below.via (Below.all (Below.all (Below.refl _ _) _) _) HB
  list := (HB.cell (p := ⟨w.heap.size, 0, none⟩) (by simp; omega)).trans (by simp [go_sem])
  okc := (HB.cell (p := ⟨w.heap.size + 1, 0, none⟩) (by simp)).trans (by simp [go_sem])
  listF := (HB.frozen (p := ⟨w.heap.size, 0, none⟩) (by simp; omega)).trans (by simp [go_sem])
  okF := (HB.frozen (p := ⟨w.heap.size + 1, 0, none⟩) (by simp)).trans (by simp [go_sem])
  parts := by simpa using HO
  plt := fun a ha => (HO.lt ha).2
  hiW := Nat.le_refl _
  lo := by have := HB.size; simpa using this
  row := Owns.nil _ _ _

set_option maxHeartbeats 8000000 in
theorem row_any (s : ByteArray) (w : World) (hs : s.size ≤ 1000) (henv : Env w) : Calls Tryd.prog 52 #[.string s] w (RowPost w (groupsL s.data.toList)) := by
  have HE := Lib.hid henv
  clear henv
  by_cases he : s = ⟨#[]⟩
  · subst he
    go_enter Tryd.func52, Tryd.ntmps52
    go_wp2_with fail
    refine bodyPost_ret (v := .tuple #[.slice none 0 0, .bool true]) (by simp [results, Tryd.results52, go_sem]) rfl ⟨none, 0, [], true, rfl, Owns.nil _ _ _, ?_, by simp, .inl ⟨rfl, rfl⟩⟩
    exact Below.all (Below.all (Below.refl _ _) _) _
  · have hne : s.data.toList ≠ [] := fun e => he (by cases s; rename_i d; cases d; simp only at e; subst e; rfl)
    have HGL := Lib.hid (show groupsL s.data.toList = (cutsL 58 s.data.toList).mapM hexG by rw [groupsL, if_neg hne])
    have hls : s.data.toList.length = s.size := by rw [Array.length_toList, ByteArray.size_data]
    have HPL : Hid (∀ p ∈ cutsL 58 s.data.toList, p.length ≤ 1000) := Lib.hid (fun p hp => by have := cutsL_len 58 _ p hp; omega)
    have HPC : Hid ((cutsL 58 s.data.toList).length ≤ 1001) := Lib.hid (by have := cutsL_count 58 s.data.toList; omega)
    have HCA := Lib.hid (fun w h => split_new s 58 w h hs)
    have heq : s.toList.isEmpty = false := by rw [toList_data8]; cases h : s.data.toList with
      | nil => exact absurd h hne
      | cons a t => rfl
    clear he hls hs hne
    generalize cutsL 58 s.data.toList = P at *
    go_enter Tryd.func52, Tryd.ntmps52
    go_wp2_with fail
    refine Calls.mono (HCA.out _ (HE.out.below (Below.all (Below.all (Below.refl _ _) _) _))) ?_
    rintro e w1 ⟨op, capp, rfl, HO, HB⟩
    have HS := Lib.hid (RowSt.start HO HB)
    clear HO HB
    have hpc := HPC.out
    generalize hnP : P.length = nP at *
    have HNP := Lib.hid hnP
    clear hnP
    generalize w1.heap.size = hi at *
    go_wp2_with fail
    go_loopw [6, 13] (fun u6 u13 wr => ∃ (k : Nat) (oa : Option Addr) (cap : Nat) (G : List Nat) (ok : Bool), k ≤ nP ∧ u13 = .int .i64 k ∧ Hid (G.length = k) ∧ Hid ((ok = true ∧ (P.take k).mapM hexG = some G) ∨ (ok = false ∧ P.mapM hexG = none)) ∧ Hid (RowSt w wr hi op nP capp P oa k cap G ok)) (fun _ u13 _ => (nP : Int) - intOf u13 |>.toNat)
    case atStart => exact ⟨0, none, 0, [], true, Nat.zero_le _, rfl, Lib.hid rfl, Lib.hid (.inl ⟨rfl, rfl⟩), HS⟩
    case round =>
      obtain ⟨k, oa, cap, G, ok, hk, rfl, HGn, HG, HR⟩ := hrel
      by_cases hlt : k < nP
      · have hkP : k < P.length := by rw [HNP.out]; exact hlt
        obtain ⟨g, off, hop, hbg, hg, hc, ht⟩ := HR.out.parts.here (by omega)
        subst hop
        have hcl := hc k (strV P[k]) (by simp [hkP])
        have hpl := HPL.out P[k] (List.getElem_mem hkP)
        have HTS := Lib.hid (show P.take (k + 1) = P.take k ++ [P[k]] by rw [List.take_succ_eq_append_getElem hkP])
        have HMI := Lib.hid (fun h => mapM_miss hexG P k hkP h)
        have HEw := Lib.hid (HE.out.below HR.out.below)
        clear hc ht
        unfold strV at hcl
        generalize P[k] = p at *
        have hsz : (⟨p.toArray⟩ : ByteArray).size = p.length := by simp [ByteArray.size]
        have hpe : ((⟨p.toArray⟩ : ByteArray).data.toList) = p := by simp
        have hp1 : (⟨p.toArray⟩ : ByteArray).size ≤ 1000 := by omega
        have hk1 : k ≤ 1000 := by omega
        rcases HG.out with ⟨rfl, hG⟩ | ⟨rfl, hG⟩
        · cases hn : numberL 16 65536 p with
          | none =>
            have HX := Lib.hid (HMI.out (by unfold hexG; split <;> simp [hn]))
            rw [← hpe] at hn
            clear hpl hsz
            go_wp2_with fail
            refine Calls.mono (closure_err _ hp1 w wr hi _ nP capp P oa k cap G HEw hk1 HR hn) ?_
            rintro e w2 ⟨oa', cap', u, rfl, H⟩
            have H2 := Lib.hid H
            clear H
            go_wp2_with fail
            go_roundw
            case rel => exact ⟨k + 1, oa', cap', G ++ [u], false, by omega, by go_num, Lib.hid (by rw [List.length_append, HGn.out]; rfl), Lib.hid (.inr ⟨rfl, HX.out⟩), H2⟩
            case measure => simp [intOf]; omega
          | some n =>
            by_cases h4 : p.length ≤ 4
            · have HX := Lib.hid (show (P.take (k + 1)).mapM hexG = some (G ++ [n]) by rw [HTS.out]; exact mapM_snoc _ _ _ _ _ hG (by unfold hexG; rw [if_pos h4, hn]))
              rw [← hpe] at hn
              rw [← hsz] at h4
              clear hpl hsz
              go_wp2_with fail
              refine Calls.mono (closure_yes _ hp1 w wr hi _ nP capp P oa k cap G HEw hk1 HR n hn h4) ?_
              rintro e w2 ⟨oa', cap', u, rfl, H, rfl⟩
              have H2 := Lib.hid H
              clear H
              go_wp2_with fail
              go_roundw
              case rel => exact ⟨k + 1, oa', cap', G ++ [u], true, by omega, by go_num, Lib.hid (by rw [List.length_append, HGn.out]; rfl), Lib.hid (.inl ⟨rfl, HX.out⟩), H2⟩
              case measure => simp [intOf]; omega
            · have HX := Lib.hid (HMI.out (by unfold hexG; rw [if_neg h4]))
              rw [← hpe] at hn
              have h5 : 4 < (⟨p.toArray⟩ : ByteArray).size := by omega
              clear hpl hsz
              go_wp2_with fail
              refine Calls.mono (closure_long _ hp1 w wr hi _ nP capp P oa k cap G HEw hk1 HR n hn h5) ?_
              rintro e w2 ⟨oa', cap', u, rfl, H⟩
              have H2 := Lib.hid H
              clear H
              go_wp2_with fail
              go_roundw
              case rel => exact ⟨k + 1, oa', cap', G ++ [u], false, by omega, by go_num, Lib.hid (by rw [List.length_append, HGn.out]; rfl), Lib.hid (.inr ⟨rfl, HX.out⟩), H2⟩
              case measure => simp [intOf]; omega
        · have HX := Lib.hid hG
          clear hpl hsz
          go_wp2_with fail
          refine Calls.mono (closure_no _ hp1 w wr hi _ nP capp P oa k cap G HEw hk1 HR) ?_
          rintro e w2 ⟨oa', cap', u, rfl, H⟩
          have H2 := Lib.hid H
          clear H
          go_wp2_with fail
          go_roundw
          case rel => exact ⟨k + 1, oa', cap', G ++ [u], false, by omega, by go_num, Lib.hid (by rw [List.length_append, HGn.out]; rfl), Lib.hid (.inr ⟨rfl, HX.out⟩), H2⟩
          case measure => simp [intOf]; omega
      · obtain rfl : k = nP := by omega
        have HF : Hid (P.take k = P) := Lib.hid (by rw [List.take_of_length_le (by rw [HNP.out]; exact Nat.le_refl _)])
        have hl := HR.out.list
        have ho := HR.out.okc
        have hlF := HR.out.listF
        have hoF := HR.out.okF
        go_wp2_with fail
        go_region
        go_wp2_with fail
        refine bodyPost_ret (v := .tuple #[.slice oa k cap, .bool ok]) (by simp [results, Tryd.results52, go_sem, hl, ho]) rfl ?_
        have h1 := HR.out.row
        have hh := HR.out.lo
        have h2 : ∀ (b : Nat) (u : Value), b < hi → ∀ w', Owns w' hi 1 oa k cap (G.map fun (m : Nat) => Value.int .u64 (m : Int)) → Owns (w'.setCell ⟨b, 0, none⟩ u) hi 1 oa k cap (G.map fun (m : Nat) => Value.int .u64 (m : Int)) := fun b u hb w' h => h.other (fun a ha => by have := (h.lt ha).1; simp only; omega) u
        obtain rfl := HGn.out
        have hpc := HPC.out
        have hnp := HNP.out
        refine ⟨oa, cap, G, ok, rfl, ?_, ?_, by omega, ?_⟩
        · exact Owns.mono (by first | exact (h2 _ _ (by omega) _ (h2 _ _ (by omega) _ h1)).drew | exact h2 _ _ (by omega) _ (h2 _ _ (by omega) _ h1) | exact h2 _ _ (by omega) _ (h2 _ _ (by omega) _ h1.drew)) (by omega)
        · first | exact ((HR.out.below.setCell (by simp only; omega) _).setCell (by simp only; omega) _).drew | exact (HR.out.below.setCell (by simp only; omega) _).setCell (by simp only; omega) _ | exact (HR.out.below.drew.setCell (by simp only; omega) _).setCell (by simp only; omega) _
        · rcases HG.out with ⟨h, hG⟩ | ⟨h, hG⟩
          · exact .inl ⟨h, by rw [HGL.out, ← hG, HF.out]⟩
          · exact .inr ⟨h, by rw [HGL.out, hG]⟩
end Go.Proofs.YtcadpcppnllhnaaDoor
