/- Walks over texts: four. -/
import Derived.Test.YtcadpcppnllhnaaDoorAddrK
import Derived.Test.YtcadpcppnllhnaaDoorAddrBox
set_option linter.unusedSimpArgs false
set_option linter.unusedVariables false
namespace Go.Proofs.YtcadpcppnllhnaaDoor
open Go.RowKit

theorem partOf_set {w : World} {b n : Nat} {cs cs' : Array Value} {t : TypeId} {fr : Nat × Nat} (h : w.heap[b]? = some (.cells cs t fr)) (hs : cs'.size = n := by rfl) : partOf (w.setRow b cs') b 0 n = cs' := by
  rw [partOf_row _ _ _ _ _ _ _ (setRow_heap _ _ _ _ _ _ h)]; subst hs; simp
/-- Four bytes, and noughts behind them. -/
def fourB (l : List Nat) (i : Nat) : Int := (l.getD i 0 : Nat)
/-- What the program's 'four' answers. -/
def FourPost (w : World) (o : Option (List Nat)) : Ending → World → Prop := fun e w' => ∃ (B : Nat → Int) (ok : Bool), e = .returned (.tuple #[adV false B, .bool ok]) ∧ Below w.heap.size w w' ∧
  ((ok = true ∧ ∃ l, o = some l ∧ ∀ i, i < 16 → B i = fourB l i) ∨ (ok = false ∧ o = none))
theorem FourPost.mk {w w' : World} {o : Option (List Nat)} {B : Nat → Int} {ok : Bool} (hb : Below w.heap.size w w') (h : (ok = true ∧ ∃ l, o = some l ∧ ∀ i, i < 16 → B i = fourB l i) ∨ (ok = false ∧ o = none)) :
    FourPost w o (.returned (.tuple #[adV false B, .bool ok])) w' := ⟨B, ok, rfl, hb, h⟩
theorem info_ad : (Tryd.prog.info? 25).map (·.size) = some 17 := by kernel_rfl
theorem info_rad : (Tryd.prog.info? 29).map (·.size) = some 17 := by kernel_rfl
theorem u8_wrap (n : Int) (h0 : 0 ≤ n) (h1 : n < 256) : IntKind.u8.wrap n = n := by
  simp [IntKind.wrap, IntKind.bits, IntKind.signed]; omega

set_option maxRecDepth 20000 in
set_option maxHeartbeats 8000000 in
theorem four_any (s : ByteArray) (w : World) (hs : s.size ≤ 1000) (henv : Env w) : Calls Tryd.prog 31 #[.string s] w (FourPost w (fourL s.data.toList)) := by
  have HE := Lib.hid henv
  clear henv
  have HFL : Hid (fourL s.data.toList = if (cutsL 46 s.data.toList).length = 4 then (cutsL 46 s.data.toList).mapM (decL 256) else none) := Lib.hid rfl
  have hls : s.data.toList.length = s.size := by rw [Array.length_toList, ByteArray.size_data]
  have HPL : Hid (∀ p ∈ cutsL 46 s.data.toList, p.length ≤ 1000) := Lib.hid (fun p hp => by have := cutsL_len 46 _ p hp; omega)
  have HPC : Hid ((cutsL 46 s.data.toList).length ≤ 1001) := Lib.hid (by have := cutsL_count 46 s.data.toList; omega)
  have HCA := Lib.hid (fun w h => split_new s 46 w h hs)
  clear hls hs
  generalize cutsL 46 s.data.toList = P at *
  go_enter Tryd.func31, Tryd.ntmps31
  go_wp2_with fail
  refine Calls.mono (HCA.out _ (HE.out.below (Below.all (Below.refl _ _) _))) ?_
  rintro e w1 ⟨op, capp, rfl, HO, HB⟩
  have HX := Lib.hid ((AdBox.made0 w 25 false).below HB)
  have HBB := Lib.hid (Below.via (Below.all (Below.refl _ _) _) HB)
  have HOO := Lib.hid HO
  clear HO HB
  by_cases h4 : P.length = 4
  · rw [h4]
    have HP := Lib.hid h4
    clear h4
    go_wp2_with fail
    go_loopw [3, 5] (fun u3 u5 wr => ∃ (k : Nat) (ok : Bool) (B : Nat → Int), k ≤ 4 ∧ u5 = .int .i64 k ∧ u3 = .bool ok ∧ Hid (AdBox wr w.heap.size 25 false B) ∧ Hid (Owns wr (w.heap.size + 1) 1 op 4 capp (P.map strV)) ∧ Hid (Below w.heap.size w wr) ∧
      Hid ((ok = true ∧ ∃ l, (P.take k).mapM (decL 256) = some l ∧ ∀ i, i < 16 → B i = fourB l i) ∨ (ok = false ∧ P.mapM (decL 256) = none))) (fun _ u5 _ => (4 : Int) - intOf u5 |>.toNat)
    case atStart => exact ⟨0, true, fun _ => 0, by omega, rfl, rfl, HX, Lib.hid (by have := HOO.out; rwa [HP.out, World.size_alloc] at this), HBB, Lib.hid (.inl ⟨rfl, [], rfl, fun i _ => by simp [fourB]⟩)⟩
    case round =>
      obtain ⟨k, ok, B, hk, rfl, rfl, HA, HR, HW, HC⟩ := hrel
      by_cases hlt : k < 4
      · cases ok
        · have hpp := HA.out.part
          have hrr := HA.out.row
          have HAA := HA.out.heap
          have HN := Lib.hid (show P.mapM (decL 256) = none by rcases HC.out with ⟨h, -⟩ | ⟨-, h⟩; cases h; exact h)
          have HH := Lib.hid HAA
          clear HAA
          go_wp2_with fail
          refine bodyPost_ret (v := .tuple #[adV false B, .bool false]) ?_ ?_ ?_
          · exact results_ad2 _ _ Tryd.underlying25 info_ad rfl _ _ w.heap.size (.bool false) rfl rfl (partOf_set HH.out)
          · rfl
          exact FourPost.mk (below_setRow HW.out (Nat.le_refl _) _) (.inr ⟨rfl, by rw [HFL.out, if_pos HP.out, HN.out]⟩)
        · have hkP : k < P.length := by rw [HP.out]; exact hlt
          obtain ⟨g, off, hop, hbg, hg, hc, ht⟩ := HR.out.here (by omega)
          subst hop
          have hcl := hc k (strV P[k]) (by simp [hkP])
          have hpl := HPL.out P[k] (List.getElem_mem hkP)
          have HTS := Lib.hid (show P.take (k + 1) = P.take k ++ [P[k]] by rw [List.take_succ_eq_append_getElem hkP])
          have HMI := Lib.hid (fun h => mapM_miss (decL 256) P k hkP h)
          have HEw := Lib.hid (HE.out.below HW.out)
          clear hc ht
          unfold strV at hcl
          generalize P[k] = p at *
          have hsz : (⟨p.toArray⟩ : ByteArray).size = p.length := by simp [ByteArray.size]
          have hpe : ((⟨p.toArray⟩ : ByteArray).data.toList) = p := by simp
          have hp1 : (⟨p.toArray⟩ : ByteArray).size ≤ 1000 := by omega
          have HD := Lib.hid (decimal_any ⟨p.toArray⟩ 256 (by omega) hp1 wr HEw.out)
          rw [hpe] at HD
          clear hpl hsz hpe hp1
          go_wp2_with fail
          refine Calls.mono HD.out ?_
          rintro e w2 ⟨n, ok2, rfl, hn0, hn1, hcase, hb2⟩
          have HA2 := Lib.hid (HA.out.below hb2)
          have HR2 := Lib.hid (HR.out.below hb2)
          have HW2 := Lib.hid (Below.via HW.out hb2)
          have hcx := HA2.out.cell k (by omega)
          have hfx := HA2.out.free (1 + k)
          have HC2 := Lib.hid hcase
          clear hcase hcl HA HR HW HD hb2
          go_wp2_with fail
          go_roundw
          case rel =>
            refine ⟨k + 1, ok2, fun i => if i = k then n % 256 else B i, by omega, by go_num, rfl, Lib.hid (HA2.out.set k (by omega) _), Lib.hid (HR2.out.other (fun a ha => by cases ha; simp only; omega) _), Lib.hid (HW2.out.setCell (Nat.le_refl _) _), Lib.hid ?_⟩
            rcases HC2.out with ⟨rfl, h0, hd⟩ | ⟨rfl, hd⟩
            · obtain ⟨l, hl, hB⟩ : ∃ l, List.mapM (decL 256) (List.take k P) = some l ∧ ∀ (i : Nat), i < 16 → B i = fourB l i := by rcases HC.out with ⟨-, h⟩ | ⟨h, -⟩; exact h; cases h
              have hlen : l.length = k := by rw [mapM_len _ _ _ hl, List.length_take]; omega
              have hm := (decL_some.1 hd).1
              refine .inl ⟨rfl, l ++ [n.toNat], by rw [HTS.out]; exact mapM_snoc _ _ _ _ _ hl hd, fun i hi => ?_⟩
              by_cases hik : i = k
              · subst hik
                simp only [if_true, fourB]
                rw [List.getD_eq_getElem?_getD, List.getElem?_append_right (by omega)]
                simp [hlen]; omega
              · simp only [if_neg hik, hB i hi, fourB]
                rw [List.getD_eq_getElem?_getD, List.getD_eq_getElem?_getD]
                by_cases hlt2 : i < k
                · rw [List.getElem?_append_left (by omega)]
                · rw [List.getElem?_eq_none (by omega), List.getElem?_eq_none (by simp; omega)]
            · exact .inr ⟨rfl, HMI.out hd⟩
          case measure => simp [intOf]; omega
      · obtain rfl : k = 4 := by omega
        have hpp := HA.out.part
        have hrr := HA.out.row
        have HH := Lib.hid HA.out.heap
        have HF : Hid (P.take 4 = P) := Lib.hid (by rw [List.take_of_length_le (by rw [HP.out]; exact Nat.le_refl _)])
        go_wp2_with fail
        refine bodyPost_ret (v := .tuple #[adV false B, .bool ok]) ?_ ?_ ?_
        · exact results_ad2 _ _ Tryd.underlying25 info_ad rfl _ _ w.heap.size (.bool ok) rfl rfl (partOf_set HH.out)
        · rfl
        refine FourPost.mk (below_setRow HW.out (Nat.le_refl _) _) ?_
        rcases HC.out with ⟨h1, l, hl, hB⟩ | ⟨h1, hn⟩
        · exact .inl ⟨h1, l, by rw [HFL.out, if_pos HP.out, ← HF.out]; exact hl, hB⟩
        · exact .inr ⟨h1, by rw [HFL.out, if_pos HP.out, hn]⟩
  · have h5 : ((P.length : Int) == 4) = false := by simp; omega
    have HN4 := Lib.hid h4
    have hpp := HX.out.part
    have hrr := HX.out.row
    have HH := Lib.hid HX.out.heap
    have hln := HPC.out
    generalize P.length = nP at *
    go_wp2_with fail
    go_loopw [3, 5] (fun u3 u5 wr => u5 = .int .i64 0 ∧ u3 = .bool false ∧ wr = w1) (fun _ u5 _ => 0)
    case atStart => exact ⟨rfl, rfl, rfl⟩
    case round =>
      obtain ⟨rfl, rfl, rfl⟩ := hrel
      by_cases h0 : 0 < nP
      all_goals
        go_wp2_with fail
        refine bodyPost_ret (v := .tuple #[adV false fun _ => 0, .bool false]) ?_ ?_ ?_
        · exact results_ad2 _ _ Tryd.underlying25 info_ad rfl _ _ w.heap.size (.bool false) rfl rfl (partOf_set HH.out)
        · rfl
        exact FourPost.mk (below_setRow HBB.out (Nat.le_refl _) _) (.inr ⟨rfl, by rw [HFL.out, if_neg HN4.out]⟩)
end Go.Proofs.YtcadpcppnllhnaaDoor
