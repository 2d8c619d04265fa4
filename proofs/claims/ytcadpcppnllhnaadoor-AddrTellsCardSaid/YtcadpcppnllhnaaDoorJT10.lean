/- Walks over texts: the reference's ParsePrefix. -/
import Derived.Test.YtcadpcppnllhnaaDoorJT9
import Derived.Test.YtcadpcppnllhnaaDoorJT8
import Derived.Test.YtcadpcppnllhnaaDoorJT7
import Derived.Test.YtcadpcppnllhnaaDoorJT5

section
set_option linter.unusedSimpArgs false
set_option linter.unusedVariables false
namespace Go.Proofs.YtcadpcppnllhnaaDoor
open Go.RowKit

set_option maxRecDepth 20000 in
set_option maxHeartbeats 8000000 in
theorem rpparse_any (s : ByteArray) (w : World) (hs : s.size ≤ 1000) : Calls Tryd.prog 10 #[.string s] w (RetAt w (ppV (ppL s.data.toList))) := by
  have hls : s.data.toList.length = s.size := by rw [Array.length_toList, ByteArray.size_data]
  have HPL : Hid (∀ p ∈ cutsL 47 s.data.toList, p.length ≤ 1000) := Lib.hid (fun p hp => by have := cutsL_len 47 _ p hp; omega)
  have HPC : Hid ((cutsL 47 s.data.toList).length ≤ 1001) := Lib.hid (by have := cutsL_count 47 s.data.toList; omega)
  have HCA := Lib.hid (fun w => cuts_any s 47 w hs)
  have HPP := Lib.hid (ppL_cuts s.data.toList)
  have HPR := Lib.hid (fun p (h : ppL s.data.toList = some p) => ppL_right h)
  clear hls
  generalize ppL s.data.toList = R at *
  generalize cutsL 47 s.data.toList = P at *
  have HB0 : Hid (Below w.heap.size w (w.alloc (.cells #[.bool false, .int .u8 ((fun _ => (0 : Int)) 0), .int .u8 ((fun _ => (0 : Int)) 1), .int .u8 ((fun _ => (0 : Int)) 2), .int .u8 ((fun _ => (0 : Int)) 3), .int .u8 ((fun _ => (0 : Int)) 4), .int .u8 ((fun _ => (0 : Int)) 5), .int .u8 ((fun _ => (0 : Int)) 6), .int .u8 ((fun _ => (0 : Int)) 7), .int .u8 ((fun _ => (0 : Int)) 8), .int .u8 ((fun _ => (0 : Int)) 9), .int .u8 ((fun _ => (0 : Int)) 10), .int .u8 ((fun _ => (0 : Int)) 11), .int .u8 ((fun _ => (0 : Int)) 12), .int .u8 ((fun _ => (0 : Int)) 13), .int .u8 ((fun _ => (0 : Int)) 14), .int .u8 ((fun _ => (0 : Int)) 15), .int .i64 0] 37))) := Lib.hid (Below.all (Below.refl _ _) _)
  have HX0 : Hid (PfBox (w.alloc (.cells #[.bool false, .int .u8 ((fun _ => (0 : Int)) 0), .int .u8 ((fun _ => (0 : Int)) 1), .int .u8 ((fun _ => (0 : Int)) 2), .int .u8 ((fun _ => (0 : Int)) 3), .int .u8 ((fun _ => (0 : Int)) 4), .int .u8 ((fun _ => (0 : Int)) 5), .int .u8 ((fun _ => (0 : Int)) 6), .int .u8 ((fun _ => (0 : Int)) 7), .int .u8 ((fun _ => (0 : Int)) 8), .int .u8 ((fun _ => (0 : Int)) 9), .int .u8 ((fun _ => (0 : Int)) 10), .int .u8 ((fun _ => (0 : Int)) 11), .int .u8 ((fun _ => (0 : Int)) 12), .int .u8 ((fun _ => (0 : Int)) 13), .int .u8 ((fun _ => (0 : Int)) 14), .int .u8 ((fun _ => (0 : Int)) 15), .int .i64 0] 37)) w.heap.size 37 false (fun _ => 0) 0) := Lib.hid (PfBox.made0 w _)
  go_enter Tryd.func10, Tryd.ntmps10
  go_wp2_with fail
  refine Calls.mono (HCA.out _) ?_
  rintro e w1 ⟨op, capp, rfl, HO, HB⟩
  have HX1 := Lib.hid (HX0.out.below HB)
  have HB1 := Lib.hid (Below.via HB0.out HB)
  have HOO := Lib.hid HO
  clear HO HB HX0 HB0 HCA
  rcases HPP.out with ⟨a, b, rfl, hP⟩ | ⟨hn2, hP⟩
  · have HP := Lib.hid hP
    have hla := HPL.out a (by simp)
    have hlb := HPL.out b (by simp)
    clear HPP hP HPL HPC HPR
    obtain ⟨g, off, hop, hbg, hg, hc, ht⟩ := HOO.out.here (by simp)
    subst hop
    have hca := hc 0 (strV a) (by simp)
    have hcb := hc 1 (strV b) (by simp)
    clear hc ht HOO
    unfold strV at hca hcb
    have HPA : Hid (∀ w, Calls Tryd.prog 8 #[.string ⟨a.toArray⟩] w (RetAt w (parseV (parseL a)))) := Lib.hid fun w => rparse_any ⟨a.toArray⟩ w (by simp [ByteArray.size]; omega)
    have HNU : Hid (∀ w, Calls Tryd.prog 35 #[.string ⟨b.toArray⟩, .int .i64 (10 : Nat), .int .i64 (129 : Nat)] w (RetAt w (numV (numberL 10 129 b)))) := Lib.hid fun w => number_any ⟨b.toArray⟩ 10 129 w (by simp [ByteArray.size]; omega) (by decide) (by decide) (by decide)
    have HPV := Lib.hid (parseV_cases a)
    simp only [List.length_cons, List.length_nil]
    rw [show off + 0 = off from rfl] at hca
    go_wp2_with fail
    refine Calls.mono (HPA.out _) ?_
    rintro e w2 ⟨rfl, hb2⟩
    have HX2 := Lib.hid (HX1.out.below hb2)
    have HB2 := Lib.hid (Below.via HB1.out hb2)
    have hca2 := (hb2.cell (World.block_lt_of_cell? w1 _ hca)).trans hca
    have hcb2 := (hb2.cell (World.block_lt_of_cell? w1 _ hcb)).trans hcb
    clear hb2 HX1 HB1 HPA hca hcb
    rcases HPV.out with ⟨six, B, hp, hr, hU, hv⟩ | ⟨hp, hv⟩
    · rw [hv]
      have HPs := Lib.hid hp
      have HRI := Lib.hid hr
      have HU := Lib.hid hU
      clear HPV hp hr hU hv
      unfold adV
      have HX3 := Lib.hid (HX2.out.alloc (.cells #[.bool six, .int .u8 (B 0), .int .u8 (B 1), .int .u8 (B 2), .int .u8 (B 3), .int .u8 (B 4), .int .u8 (B 5), .int .u8 (B 6), .int .u8 (B 7), .int .u8 (B 8), .int .u8 (B 9), .int .u8 (B 10), .int .u8 (B 11), .int .u8 (B 12), .int .u8 (B 13), .int .u8 (B 14), .int .u8 (B 15)] 29))
      have HB3 := Lib.hid (Below.all HB2.out (.cells #[.bool six, .int .u8 (B 0), .int .u8 (B 1), .int .u8 (B 2), .int .u8 (B 3), .int .u8 (B 4), .int .u8 (B 5), .int .u8 (B 6), .int .u8 (B 7), .int .u8 (B 8), .int .u8 (B 9), .int .u8 (B 10), .int .u8 (B 11), .int .u8 (B 12), .int .u8 (B 13), .int .u8 (B 14), .int .u8 (B 15)] 29))
      have HY3 := Lib.hid (AdBox.made w2 29 six B)
      have hcb3 : (w2.alloc (.cells #[.bool six, .int .u8 (B 0), .int .u8 (B 1), .int .u8 (B 2), .int .u8 (B 3), .int .u8 (B 4), .int .u8 (B 5), .int .u8 (B 6), .int .u8 (B 7), .int .u8 (B 8), .int .u8 (B 9), .int .u8 (B 10), .int .u8 (B 11), .int .u8 (B 12), .int .u8 (B 13), .int .u8 (B 14), .int .u8 (B 15)] 29)).cell? ⟨g, off + 1, none⟩ = some (.string ⟨b.toArray⟩) := ((Below.all (Below.refl _ _) _).cell (World.block_lt_of_cell? w2 _ hcb2)).trans hcb2
      clear HX2 HB2 hca2 hcb2
      go_wp2_with fail
      generalize w2.alloc (.cells #[.bool six, .int .u8 (B 0), .int .u8 (B 1), .int .u8 (B 2), .int .u8 (B 3), .int .u8 (B 4), .int .u8 (B 5), .int .u8 (B 6), .int .u8 (B 7), .int .u8 (B 8), .int .u8 (B 9), .int .u8 (B 10), .int .u8 (B 11), .int .u8 (B 12), .int .u8 (B 13), .int .u8 (B 14), .int .u8 (B 15)] 29) = w3 at *
      refine Calls.mono (HNU.out w3) ?_
      rintro e w4 ⟨rfl, hb4⟩
      have HX4 := Lib.hid (HX3.out.below hb4)
      have HB4 := Lib.hid (Below.via HB3.out hb4)
      have hpp := (HY3.out.below hb4).part
      have hlt4 := HX4.out.lt
      have hcb4 := (hb4.cell (World.block_lt_of_cell? w3 _ hcb3)).trans hcb3
      clear hb4 HX3 HB3 HY3 hcb3
      cases hn : numberL 10 129 b with
      | none =>
        have HR : Hid (R = none) := Lib.hid (by rw [HP.out, show decL 129 b = none by unfold decL; rw [hn]]; exact pfOf_none _)
        simp only [numV]
        clear hn
        unfold pfV at *
        have HX8 := Lib.hid (HX4.out.alloc (.cells #[.bool six, .int .u8 (B 0), .int .u8 (B 1), .int .u8 (B 2), .int .u8 (B 3), .int .u8 (B 4), .int .u8 (B 5), .int .u8 (B 6), .int .u8 (B 7), .int .u8 (B 8), .int .u8 (B 9), .int .u8 (B 10), .int .u8 (B 11), .int .u8 (B 12), .int .u8 (B 13), .int .u8 (B 14), .int .u8 (B 15), .int .i64 (0 : Int)] 37))
        have HB8 := Lib.hid (Below.all HB4.out (.cells #[.bool six, .int .u8 (B 0), .int .u8 (B 1), .int .u8 (B 2), .int .u8 (B 3), .int .u8 (B 4), .int .u8 (B 5), .int .u8 (B 6), .int .u8 (B 7), .int .u8 (B 8), .int .u8 (B 9), .int .u8 (B 10), .int .u8 (B 11), .int .u8 (B 12), .int .u8 (B 13), .int .u8 (B 14), .int .u8 (B 15), .int .i64 (0 : Int)] 37))
        have HY8 := Lib.hid (PfBox.made w4 37 six B (0 : Int))
        have hcb8 : (w4.alloc (.cells #[.bool six, .int .u8 (B 0), .int .u8 (B 1), .int .u8 (B 2), .int .u8 (B 3), .int .u8 (B 4), .int .u8 (B 5), .int .u8 (B 6), .int .u8 (B 7), .int .u8 (B 8), .int .u8 (B 9), .int .u8 (B 10), .int .u8 (B 11), .int .u8 (B 12), .int .u8 (B 13), .int .u8 (B 14), .int .u8 (B 15), .int .i64 (0 : Int)] 37)).cell? ⟨g, off + 1, none⟩ = some (.string ⟨b.toArray⟩) := ((Below.all (Below.refl _ _) _).cell (World.block_lt_of_cell? w4 _ hcb4)).trans hcb4
        go_wp2_with fail
        clear HX4 HB4 hcb4 hpp
        generalize w4.alloc (.cells #[.bool six, .int .u8 (B 0), .int .u8 (B 1), .int .u8 (B 2), .int .u8 (B 3), .int .u8 (B 4), .int .u8 (B 5), .int .u8 (B 6), .int .u8 (B 7), .int .u8 (B 8), .int .u8 (B 9), .int .u8 (B 10), .int .u8 (B 11), .int .u8 (B 12), .int .u8 (B 13), .int .u8 (B 14), .int .u8 (B 15), .int .i64 (0 : Int)] 37) = w8 at *
        have hp8 := HY8.out.part
        have hl8 := HY8.out.lt
        have hg8 : g < w8.heap.size := World.block_lt_of_cell? w8 _ hcb8
        refine wp_region_later (by kernel_rfl) (by kernel_rfl) ?_
        repeat go_big_quiet_step (fail)
        refine wpQuiet_nil ?_
        intro x
        have HX9 := Lib.hid (HX8.out.below x.below)
        have HB9 := Lib.hid (Below.via HB8.out x.below)
        have hrr := HX9.out.row
        have HH := Lib.hid HX9.out.heap
        go_wp2_with fail
        exact bodyPost_ret (v := .tuple #[pfV false (fun _ => 0) 0, .int .i64 40]) (results_pf2 _ _ Tryd.underlying37 info_rpf rfl _ _ w.heap.size (.int .i64 40) rfl rfl (partOf_set2 HH.out)) rfl (.mk (by rw [HR.out]; rfl) (below_setRow HB9.out (Nat.le_refl _) _))
      | some n =>
        simp only [numV]
        have hn129 := numberL_bd (by decide) hn
        have HD : Hid (∀ w, Calls Tryd.prog 36 #[.int .i64 (n : Int), .int .i64 10] w (RetAt w (.string ⟨(Lib.decDigits n).toArray⟩))) := Lib.hid fun w => by
          have := digits10_any n (n : Int) w (by omega) (by omega) (by omega)
          rwa [Int.toNat_natCast, digB_ten n n (Nat.le_refl _)] at this
        by_cases hq : Lib.decDigits n = b
        · have hd : decL 129 b = some n := by unfold decL; rw [hn]; simp only; rw [if_pos hq]
          have HR : Hid (R = if rightPB six B (n : Int) = true then some (six, B, n) else none) := Lib.hid (by rw [HP.out, HPs.out, hd]; rfl)
          have HPR := Lib.hid (fun w => rpright_any six B (n : Int) HU.out (by omega) (by omega) w)
          clear hd hn HP HPs hlb hla HNU
          subst hq
          unfold pfV at *
          have HX8 := Lib.hid (HX4.out.alloc (.cells #[.bool six, .int .u8 (B 0), .int .u8 (B 1), .int .u8 (B 2), .int .u8 (B 3), .int .u8 (B 4), .int .u8 (B 5), .int .u8 (B 6), .int .u8 (B 7), .int .u8 (B 8), .int .u8 (B 9), .int .u8 (B 10), .int .u8 (B 11), .int .u8 (B 12), .int .u8 (B 13), .int .u8 (B 14), .int .u8 (B 15), .int .i64 (n : Int)] 37))
          have HB8 := Lib.hid (Below.all HB4.out (.cells #[.bool six, .int .u8 (B 0), .int .u8 (B 1), .int .u8 (B 2), .int .u8 (B 3), .int .u8 (B 4), .int .u8 (B 5), .int .u8 (B 6), .int .u8 (B 7), .int .u8 (B 8), .int .u8 (B 9), .int .u8 (B 10), .int .u8 (B 11), .int .u8 (B 12), .int .u8 (B 13), .int .u8 (B 14), .int .u8 (B 15), .int .i64 (n : Int)] 37))
          have HY8 := Lib.hid (PfBox.made w4 37 six B (n : Int))
          have hcb8 : (w4.alloc (.cells #[.bool six, .int .u8 (B 0), .int .u8 (B 1), .int .u8 (B 2), .int .u8 (B 3), .int .u8 (B 4), .int .u8 (B 5), .int .u8 (B 6), .int .u8 (B 7), .int .u8 (B 8), .int .u8 (B 9), .int .u8 (B 10), .int .u8 (B 11), .int .u8 (B 12), .int .u8 (B 13), .int .u8 (B 14), .int .u8 (B 15), .int .i64 (n : Int)] 37)).cell? ⟨g, off + 1, none⟩ = some (.string ⟨(Lib.decDigits n).toArray⟩) := ((Below.all (Below.refl _ _) _).cell (World.block_lt_of_cell? w4 _ hcb4)).trans hcb4
          go_wp2_with fail
          clear HX4 HB4 hcb4 hpp
          generalize w4.alloc (.cells #[.bool six, .int .u8 (B 0), .int .u8 (B 1), .int .u8 (B 2), .int .u8 (B 3), .int .u8 (B 4), .int .u8 (B 5), .int .u8 (B 6), .int .u8 (B 7), .int .u8 (B 8), .int .u8 (B 9), .int .u8 (B 10), .int .u8 (B 11), .int .u8 (B 12), .int .u8 (B 13), .int .u8 (B 14), .int .u8 (B 15), .int .i64 (n : Int)] 37) = w8 at *
          have hp8 := HY8.out.part
          have hl8 := HY8.out.lt
          have hg8 : g < w8.heap.size := World.block_lt_of_cell? w8 _ hcb8
          generalize hrb : rightPB six B (n : Int) = rb at *
          cases rb
          · rw [if_neg (by simp)] at HR
            refine wp_region_later (by kernel_rfl) (by kernel_rfl) ?_
            repeat go_big_quiet_step ((first | (go_at_call 36; exact later_call (HD.out _)) | (go_at_call 39; exact later_call (HPR.out _))))
            refine wpQuiet_nil ?_
            intro x
            have HX9 := Lib.hid (HX8.out.below x.below)
            have HB9 := Lib.hid (Below.via HB8.out x.below)
            have hrr := HX9.out.row
            have HH := Lib.hid HX9.out.heap
            go_wp2_with fail
            exact bodyPost_ret (v := .tuple #[pfV false (fun _ => 0) 0, .int .i64 40]) (results_pf2 _ _ Tryd.underlying37 info_rpf rfl _ _ w.heap.size (.int .i64 40) rfl rfl (partOf_set2 HH.out)) rfl (.mk (by rw [HR.out]; rfl) (below_setRow HB9.out (Nat.le_refl _) _))
          · rw [if_pos rfl] at HR
            refine wp_region_later (by kernel_rfl) (by kernel_rfl) ?_
            repeat go_big_quiet_step ((first | (go_at_call 36; exact later_call (HD.out _)) | (go_at_call 39; exact later_call (HPR.out _))))
            refine wpQuiet_nil ?_
            intro x
            have HX9 := Lib.hid (HX8.out.below x.below)
            have HB9 := Lib.hid (Below.via HB8.out x.below)
            have hp9 := (HY8.out.below x.below).part
            have hrr := HX9.out.row
            have HH := Lib.hid HX9.out.heap
            go_wp2_with fail
            exact bodyPost_ret (v := .tuple #[pfV six B (n : Int), .int .i64 0]) (results_pf2 _ _ Tryd.underlying37 info_rpf rfl _ _ w.heap.size (.int .i64 0) rfl rfl (partOf_set2 HH.out)) rfl (.mk (by rw [HR.out]; rfl) (below_setRow HB9.out (Nat.le_refl _) _))
        · have HR : Hid (R = none) := Lib.hid (by rw [HP.out, show decL 129 b = none by unfold decL; rw [hn]; simp only; rw [if_neg hq]]; exact pfOf_none _)
          have hqb : (Lib.decDigits n == b) = false := by simpa using hq
          clear hn hq
          unfold pfV at *
          have HX8 := Lib.hid (HX4.out.alloc (.cells #[.bool six, .int .u8 (B 0), .int .u8 (B 1), .int .u8 (B 2), .int .u8 (B 3), .int .u8 (B 4), .int .u8 (B 5), .int .u8 (B 6), .int .u8 (B 7), .int .u8 (B 8), .int .u8 (B 9), .int .u8 (B 10), .int .u8 (B 11), .int .u8 (B 12), .int .u8 (B 13), .int .u8 (B 14), .int .u8 (B 15), .int .i64 (n : Int)] 37))
          have HB8 := Lib.hid (Below.all HB4.out (.cells #[.bool six, .int .u8 (B 0), .int .u8 (B 1), .int .u8 (B 2), .int .u8 (B 3), .int .u8 (B 4), .int .u8 (B 5), .int .u8 (B 6), .int .u8 (B 7), .int .u8 (B 8), .int .u8 (B 9), .int .u8 (B 10), .int .u8 (B 11), .int .u8 (B 12), .int .u8 (B 13), .int .u8 (B 14), .int .u8 (B 15), .int .i64 (n : Int)] 37))
          have HY8 := Lib.hid (PfBox.made w4 37 six B (n : Int))
          have hcb8 : (w4.alloc (.cells #[.bool six, .int .u8 (B 0), .int .u8 (B 1), .int .u8 (B 2), .int .u8 (B 3), .int .u8 (B 4), .int .u8 (B 5), .int .u8 (B 6), .int .u8 (B 7), .int .u8 (B 8), .int .u8 (B 9), .int .u8 (B 10), .int .u8 (B 11), .int .u8 (B 12), .int .u8 (B 13), .int .u8 (B 14), .int .u8 (B 15), .int .i64 (n : Int)] 37)).cell? ⟨g, off + 1, none⟩ = some (.string ⟨b.toArray⟩) := ((Below.all (Below.refl _ _) _).cell (World.block_lt_of_cell? w4 _ hcb4)).trans hcb4
          go_wp2_with fail
          clear HX4 HB4 hcb4 hpp
          generalize w4.alloc (.cells #[.bool six, .int .u8 (B 0), .int .u8 (B 1), .int .u8 (B 2), .int .u8 (B 3), .int .u8 (B 4), .int .u8 (B 5), .int .u8 (B 6), .int .u8 (B 7), .int .u8 (B 8), .int .u8 (B 9), .int .u8 (B 10), .int .u8 (B 11), .int .u8 (B 12), .int .u8 (B 13), .int .u8 (B 14), .int .u8 (B 15), .int .i64 (n : Int)] 37) = w8 at *
          have hp8 := HY8.out.part
          have hl8 := HY8.out.lt
          have hg8 : g < w8.heap.size := World.block_lt_of_cell? w8 _ hcb8
          refine wp_region_later (by kernel_rfl) (by kernel_rfl) ?_
          repeat go_big_quiet_step ((go_at_call 36; exact later_call (HD.out _)))
          refine wpQuiet_nil ?_
          intro x
          have HX9 := Lib.hid (HX8.out.below x.below)
          have HB9 := Lib.hid (Below.via HB8.out x.below)
          have hrr := HX9.out.row
          have HH := Lib.hid HX9.out.heap
          go_wp2_with fail
          exact bodyPost_ret (v := .tuple #[pfV false (fun _ => 0) 0, .int .i64 40]) (results_pf2 _ _ Tryd.underlying37 info_rpf rfl _ _ w.heap.size (.int .i64 40) rfl rfl (partOf_set2 HH.out)) rfl (.mk (by rw [HR.out]; rfl) (below_setRow HB9.out (Nat.le_refl _) _))
    · rw [hv]
      have HR : Hid (R = none) := Lib.hid (by rw [HP.out, hp]; rfl)
      clear HPV hp hv HP
      unfold adV
      have HX3 := Lib.hid (HX2.out.alloc (.cells #[.bool false, .int .u8 ((fun _ => (0 : Int)) 0), .int .u8 ((fun _ => (0 : Int)) 1), .int .u8 ((fun _ => (0 : Int)) 2), .int .u8 ((fun _ => (0 : Int)) 3), .int .u8 ((fun _ => (0 : Int)) 4), .int .u8 ((fun _ => (0 : Int)) 5), .int .u8 ((fun _ => (0 : Int)) 6), .int .u8 ((fun _ => (0 : Int)) 7), .int .u8 ((fun _ => (0 : Int)) 8), .int .u8 ((fun _ => (0 : Int)) 9), .int .u8 ((fun _ => (0 : Int)) 10), .int .u8 ((fun _ => (0 : Int)) 11), .int .u8 ((fun _ => (0 : Int)) 12), .int .u8 ((fun _ => (0 : Int)) 13), .int .u8 ((fun _ => (0 : Int)) 14), .int .u8 ((fun _ => (0 : Int)) 15)] 29))
      have HB3 := Lib.hid (Below.all HB2.out (.cells #[.bool false, .int .u8 ((fun _ => (0 : Int)) 0), .int .u8 ((fun _ => (0 : Int)) 1), .int .u8 ((fun _ => (0 : Int)) 2), .int .u8 ((fun _ => (0 : Int)) 3), .int .u8 ((fun _ => (0 : Int)) 4), .int .u8 ((fun _ => (0 : Int)) 5), .int .u8 ((fun _ => (0 : Int)) 6), .int .u8 ((fun _ => (0 : Int)) 7), .int .u8 ((fun _ => (0 : Int)) 8), .int .u8 ((fun _ => (0 : Int)) 9), .int .u8 ((fun _ => (0 : Int)) 10), .int .u8 ((fun _ => (0 : Int)) 11), .int .u8 ((fun _ => (0 : Int)) 12), .int .u8 ((fun _ => (0 : Int)) 13), .int .u8 ((fun _ => (0 : Int)) 14), .int .u8 ((fun _ => (0 : Int)) 15)] 29))
      have HY3 := Lib.hid (AdBox.made w2 29 false (fun _ => (0 : Int)))
      have hcb3 : (w2.alloc (.cells #[.bool false, .int .u8 ((fun _ => (0 : Int)) 0), .int .u8 ((fun _ => (0 : Int)) 1), .int .u8 ((fun _ => (0 : Int)) 2), .int .u8 ((fun _ => (0 : Int)) 3), .int .u8 ((fun _ => (0 : Int)) 4), .int .u8 ((fun _ => (0 : Int)) 5), .int .u8 ((fun _ => (0 : Int)) 6), .int .u8 ((fun _ => (0 : Int)) 7), .int .u8 ((fun _ => (0 : Int)) 8), .int .u8 ((fun _ => (0 : Int)) 9), .int .u8 ((fun _ => (0 : Int)) 10), .int .u8 ((fun _ => (0 : Int)) 11), .int .u8 ((fun _ => (0 : Int)) 12), .int .u8 ((fun _ => (0 : Int)) 13), .int .u8 ((fun _ => (0 : Int)) 14), .int .u8 ((fun _ => (0 : Int)) 15)] 29)).cell? ⟨g, off + 1, none⟩ = some (.string ⟨b.toArray⟩) := ((Below.all (Below.refl _ _) _).cell (World.block_lt_of_cell? w2 _ hcb2)).trans hcb2
      clear HX2 HB2 hca2 hcb2
      go_wp2_with fail
      generalize w2.alloc (.cells #[.bool false, .int .u8 ((fun _ => (0 : Int)) 0), .int .u8 ((fun _ => (0 : Int)) 1), .int .u8 ((fun _ => (0 : Int)) 2), .int .u8 ((fun _ => (0 : Int)) 3), .int .u8 ((fun _ => (0 : Int)) 4), .int .u8 ((fun _ => (0 : Int)) 5), .int .u8 ((fun _ => (0 : Int)) 6), .int .u8 ((fun _ => (0 : Int)) 7), .int .u8 ((fun _ => (0 : Int)) 8), .int .u8 ((fun _ => (0 : Int)) 9), .int .u8 ((fun _ => (0 : Int)) 10), .int .u8 ((fun _ => (0 : Int)) 11), .int .u8 ((fun _ => (0 : Int)) 12), .int .u8 ((fun _ => (0 : Int)) 13), .int .u8 ((fun _ => (0 : Int)) 14), .int .u8 ((fun _ => (0 : Int)) 15)] 29) = w3 at *
      refine Calls.mono (HNU.out w3) ?_
      rintro e w4 ⟨rfl, hb4⟩
      have HX4 := Lib.hid (HX3.out.below hb4)
      have HB4 := Lib.hid (Below.via HB3.out hb4)
      have hpp := (HY3.out.below hb4).part
      have hlt4 := HX4.out.lt
      have hcb4 := (hb4.cell (World.block_lt_of_cell? w3 _ hcb3)).trans hcb3
      clear hb4 HX3 HB3 HY3 hcb3
      cases hn : numberL 10 129 b with
      | none =>
        simp only [numV]
        clear hn
        unfold pfV at *
        have HX8 := Lib.hid (HX4.out.alloc (.cells #[.bool false, .int .u8 ((fun _ => (0 : Int)) 0), .int .u8 ((fun _ => (0 : Int)) 1), .int .u8 ((fun _ => (0 : Int)) 2), .int .u8 ((fun _ => (0 : Int)) 3), .int .u8 ((fun _ => (0 : Int)) 4), .int .u8 ((fun _ => (0 : Int)) 5), .int .u8 ((fun _ => (0 : Int)) 6), .int .u8 ((fun _ => (0 : Int)) 7), .int .u8 ((fun _ => (0 : Int)) 8), .int .u8 ((fun _ => (0 : Int)) 9), .int .u8 ((fun _ => (0 : Int)) 10), .int .u8 ((fun _ => (0 : Int)) 11), .int .u8 ((fun _ => (0 : Int)) 12), .int .u8 ((fun _ => (0 : Int)) 13), .int .u8 ((fun _ => (0 : Int)) 14), .int .u8 ((fun _ => (0 : Int)) 15), .int .i64 (0 : Int)] 37))
        have HB8 := Lib.hid (Below.all HB4.out (.cells #[.bool false, .int .u8 ((fun _ => (0 : Int)) 0), .int .u8 ((fun _ => (0 : Int)) 1), .int .u8 ((fun _ => (0 : Int)) 2), .int .u8 ((fun _ => (0 : Int)) 3), .int .u8 ((fun _ => (0 : Int)) 4), .int .u8 ((fun _ => (0 : Int)) 5), .int .u8 ((fun _ => (0 : Int)) 6), .int .u8 ((fun _ => (0 : Int)) 7), .int .u8 ((fun _ => (0 : Int)) 8), .int .u8 ((fun _ => (0 : Int)) 9), .int .u8 ((fun _ => (0 : Int)) 10), .int .u8 ((fun _ => (0 : Int)) 11), .int .u8 ((fun _ => (0 : Int)) 12), .int .u8 ((fun _ => (0 : Int)) 13), .int .u8 ((fun _ => (0 : Int)) 14), .int .u8 ((fun _ => (0 : Int)) 15), .int .i64 (0 : Int)] 37))
        have HY8 := Lib.hid (PfBox.made w4 37 false (fun _ => (0 : Int)) (0 : Int))
        have hcb8 : (w4.alloc (.cells #[.bool false, .int .u8 ((fun _ => (0 : Int)) 0), .int .u8 ((fun _ => (0 : Int)) 1), .int .u8 ((fun _ => (0 : Int)) 2), .int .u8 ((fun _ => (0 : Int)) 3), .int .u8 ((fun _ => (0 : Int)) 4), .int .u8 ((fun _ => (0 : Int)) 5), .int .u8 ((fun _ => (0 : Int)) 6), .int .u8 ((fun _ => (0 : Int)) 7), .int .u8 ((fun _ => (0 : Int)) 8), .int .u8 ((fun _ => (0 : Int)) 9), .int .u8 ((fun _ => (0 : Int)) 10), .int .u8 ((fun _ => (0 : Int)) 11), .int .u8 ((fun _ => (0 : Int)) 12), .int .u8 ((fun _ => (0 : Int)) 13), .int .u8 ((fun _ => (0 : Int)) 14), .int .u8 ((fun _ => (0 : Int)) 15), .int .i64 (0 : Int)] 37)).cell? ⟨g, off + 1, none⟩ = some (.string ⟨b.toArray⟩) := ((Below.all (Below.refl _ _) _).cell (World.block_lt_of_cell? w4 _ hcb4)).trans hcb4
        go_wp2_with fail
        clear HX4 HB4 hcb4 hpp
        generalize w4.alloc (.cells #[.bool false, .int .u8 ((fun _ => (0 : Int)) 0), .int .u8 ((fun _ => (0 : Int)) 1), .int .u8 ((fun _ => (0 : Int)) 2), .int .u8 ((fun _ => (0 : Int)) 3), .int .u8 ((fun _ => (0 : Int)) 4), .int .u8 ((fun _ => (0 : Int)) 5), .int .u8 ((fun _ => (0 : Int)) 6), .int .u8 ((fun _ => (0 : Int)) 7), .int .u8 ((fun _ => (0 : Int)) 8), .int .u8 ((fun _ => (0 : Int)) 9), .int .u8 ((fun _ => (0 : Int)) 10), .int .u8 ((fun _ => (0 : Int)) 11), .int .u8 ((fun _ => (0 : Int)) 12), .int .u8 ((fun _ => (0 : Int)) 13), .int .u8 ((fun _ => (0 : Int)) 14), .int .u8 ((fun _ => (0 : Int)) 15), .int .i64 (0 : Int)] 37) = w8 at *
        have hp8 := HY8.out.part
        have hl8 := HY8.out.lt
        have hg8 : g < w8.heap.size := World.block_lt_of_cell? w8 _ hcb8
        refine wp_region_later (by kernel_rfl) (by kernel_rfl) ?_
        repeat go_big_quiet_step (fail)
        refine wpQuiet_nil ?_
        intro x
        have HX9 := Lib.hid (HX8.out.below x.below)
        have HB9 := Lib.hid (Below.via HB8.out x.below)
        have hrr := HX9.out.row
        have HH := Lib.hid HX9.out.heap
        go_wp2_with fail
        exact bodyPost_ret (v := .tuple #[pfV false (fun _ => 0) 0, .int .i64 40]) (results_pf2 _ _ Tryd.underlying37 info_rpf rfl _ _ w.heap.size (.int .i64 40) rfl rfl (partOf_set2 HH.out)) rfl (.mk (by rw [HR.out]; rfl) (below_setRow HB9.out (Nat.le_refl _) _))
      | some n =>
        simp only [numV]
        have hn129 := numberL_bd (by decide) hn
        clear hn
        unfold pfV at *
        have HX8 := Lib.hid (HX4.out.alloc (.cells #[.bool false, .int .u8 ((fun _ => (0 : Int)) 0), .int .u8 ((fun _ => (0 : Int)) 1), .int .u8 ((fun _ => (0 : Int)) 2), .int .u8 ((fun _ => (0 : Int)) 3), .int .u8 ((fun _ => (0 : Int)) 4), .int .u8 ((fun _ => (0 : Int)) 5), .int .u8 ((fun _ => (0 : Int)) 6), .int .u8 ((fun _ => (0 : Int)) 7), .int .u8 ((fun _ => (0 : Int)) 8), .int .u8 ((fun _ => (0 : Int)) 9), .int .u8 ((fun _ => (0 : Int)) 10), .int .u8 ((fun _ => (0 : Int)) 11), .int .u8 ((fun _ => (0 : Int)) 12), .int .u8 ((fun _ => (0 : Int)) 13), .int .u8 ((fun _ => (0 : Int)) 14), .int .u8 ((fun _ => (0 : Int)) 15), .int .i64 (n : Int)] 37))
        have HB8 := Lib.hid (Below.all HB4.out (.cells #[.bool false, .int .u8 ((fun _ => (0 : Int)) 0), .int .u8 ((fun _ => (0 : Int)) 1), .int .u8 ((fun _ => (0 : Int)) 2), .int .u8 ((fun _ => (0 : Int)) 3), .int .u8 ((fun _ => (0 : Int)) 4), .int .u8 ((fun _ => (0 : Int)) 5), .int .u8 ((fun _ => (0 : Int)) 6), .int .u8 ((fun _ => (0 : Int)) 7), .int .u8 ((fun _ => (0 : Int)) 8), .int .u8 ((fun _ => (0 : Int)) 9), .int .u8 ((fun _ => (0 : Int)) 10), .int .u8 ((fun _ => (0 : Int)) 11), .int .u8 ((fun _ => (0 : Int)) 12), .int .u8 ((fun _ => (0 : Int)) 13), .int .u8 ((fun _ => (0 : Int)) 14), .int .u8 ((fun _ => (0 : Int)) 15), .int .i64 (n : Int)] 37))
        have HY8 := Lib.hid (PfBox.made w4 37 false (fun _ => (0 : Int)) (n : Int))
        have hcb8 : (w4.alloc (.cells #[.bool false, .int .u8 ((fun _ => (0 : Int)) 0), .int .u8 ((fun _ => (0 : Int)) 1), .int .u8 ((fun _ => (0 : Int)) 2), .int .u8 ((fun _ => (0 : Int)) 3), .int .u8 ((fun _ => (0 : Int)) 4), .int .u8 ((fun _ => (0 : Int)) 5), .int .u8 ((fun _ => (0 : Int)) 6), .int .u8 ((fun _ => (0 : Int)) 7), .int .u8 ((fun _ => (0 : Int)) 8), .int .u8 ((fun _ => (0 : Int)) 9), .int .u8 ((fun _ => (0 : Int)) 10), .int .u8 ((fun _ => (0 : Int)) 11), .int .u8 ((fun _ => (0 : Int)) 12), .int .u8 ((fun _ => (0 : Int)) 13), .int .u8 ((fun _ => (0 : Int)) 14), .int .u8 ((fun _ => (0 : Int)) 15), .int .i64 (n : Int)] 37)).cell? ⟨g, off + 1, none⟩ = some (.string ⟨b.toArray⟩) := ((Below.all (Below.refl _ _) _).cell (World.block_lt_of_cell? w4 _ hcb4)).trans hcb4
        go_wp2_with fail
        clear HX4 HB4 hcb4 hpp
        generalize w4.alloc (.cells #[.bool false, .int .u8 ((fun _ => (0 : Int)) 0), .int .u8 ((fun _ => (0 : Int)) 1), .int .u8 ((fun _ => (0 : Int)) 2), .int .u8 ((fun _ => (0 : Int)) 3), .int .u8 ((fun _ => (0 : Int)) 4), .int .u8 ((fun _ => (0 : Int)) 5), .int .u8 ((fun _ => (0 : Int)) 6), .int .u8 ((fun _ => (0 : Int)) 7), .int .u8 ((fun _ => (0 : Int)) 8), .int .u8 ((fun _ => (0 : Int)) 9), .int .u8 ((fun _ => (0 : Int)) 10), .int .u8 ((fun _ => (0 : Int)) 11), .int .u8 ((fun _ => (0 : Int)) 12), .int .u8 ((fun _ => (0 : Int)) 13), .int .u8 ((fun _ => (0 : Int)) 14), .int .u8 ((fun _ => (0 : Int)) 15), .int .i64 (n : Int)] 37) = w8 at *
        have hp8 := HY8.out.part
        have hl8 := HY8.out.lt
        have hg8 : g < w8.heap.size := World.block_lt_of_cell? w8 _ hcb8
        refine wp_region_later (by kernel_rfl) (by kernel_rfl) ?_
        repeat go_big_quiet_step (fail)
        refine wpQuiet_nil ?_
        intro x
        have HX9 := Lib.hid (HX8.out.below x.below)
        have HB9 := Lib.hid (Below.via HB8.out x.below)
        have hrr := HX9.out.row
        have HH := Lib.hid HX9.out.heap
        go_wp2_with fail
        exact bodyPost_ret (v := .tuple #[pfV false (fun _ => 0) 0, .int .i64 40]) (results_pf2 _ _ Tryd.underlying37 info_rpf rfl _ _ w.heap.size (.int .i64 40) rfl rfl (partOf_set2 HH.out)) rfl (.mk (by rw [HR.out]; rfl) (below_setRow HB9.out (Nat.le_refl _) _))
  · have HR := Lib.hid hP
    have hln := HPC.out
    clear HPP hP HPL HPC HOO
    have hn3 : ¬ ((P.length : Int) = 2) := by omega
    generalize P.length = nP at *
    have hrr := HX1.out.row
    have HH := Lib.hid HX1.out.heap
    go_wp2_with fail
    exact bodyPost_ret (v := .tuple #[pfV false (fun _ => 0) 0, .int .i64 40]) (results_pf2 _ _ Tryd.underlying37 info_rpf rfl _ _ w.heap.size (.int .i64 40) rfl rfl (partOf_set2 HH.out)) rfl (.mk (by rw [HR.out]; rfl) (below_setRow HB1.out (Nat.le_refl _) _))
end Go.Proofs.YtcadpcppnllhnaaDoor
end

/- The plain law of addresses: what is told is read as it was; the order; prefixes of addresses that are right. -/
section
set_option linter.unusedSimpArgs false
set_option linter.unusedVariables false
namespace Go.Proofs.YtcadpcppnllhnaaDoor
open Go.Lib

theorem fourB_range (b : Nat → Nat) (i : Nat) : fourB ((List.range 4).map b) i = if i < 4 then (b i : Int) else 0 := by
  unfold fourB
  rw [List.getD_eq_getElem?_getD]
  by_cases h : i < 4
  · rw [if_pos h, List.getElem?_map, List.getElem?_range h]; rfl
  · rw [if_neg h, List.getElem?_eq_none (by simp; omega)]; rfl
theorem sixB_range (g : Nat → Nat) (i : Nat) (h : i < 16) : sixB ((List.range 8).map g) i = if i % 2 = 0 then ((g (i / 2) / 256 : Nat) : Int) else ((g (i / 2) % 256 : Nat) : Int) := by
  unfold sixB
  have : ((List.range 8).map g).getD (i / 2) 0 = g (i / 2) := by
    rw [List.getD_eq_getElem?_getD, List.getElem?_map, List.getElem?_range (by omega)]; rfl
  rw [this]
/-- What is told is read as it was. -/
theorem back_text {s : Bool} {B : Nat → Int} (hB : U8 B) (hr : rightB s B = true) : ∃ B' : Nat → Int, parseL (adText s B) = some (s, B') ∧ ∀ i, i < 16 → B' i = B i := by
  unfold adText
  rw [if_pos hr, parseL_of]
  cases s
  · rw [if_neg (by simp), text4_back _ (fun i => by have := hB i; omega)]
    refine ⟨_, rfl, fun i hi => ?_⟩
    rw [fourB_range]
    by_cases h : i < 4
    · rw [if_pos h]; have := hB i; omega
    · rw [if_neg h, rightB_four.1 hr i (by omega) hi]
  · rw [if_pos rfl]
    have h6 := text6_back (grpN B) (fun i => grpN_lt hB i)
    rw [four_six _ h6, h6]
    refine ⟨_, rfl, fun i hi => ?_⟩
    rw [sixB_range _ _ hi]
    have hg : grpN B (i / 2) = (B (2 * (i / 2)) * 256 + B (2 * (i / 2) + 1)).toNat := rfl
    have h1 := hB (2 * (i / 2))
    have h2 := hB (2 * (i / 2) + 1)
    rw [hg]
    by_cases he : i % 2 = 0
    · rw [if_pos he]
      have : B i = B (2 * (i / 2)) := by rw [show 2 * (i / 2) = i by omega]
      rw [this]; omega
    · rw [if_neg he]
      have : B i = B (2 * (i / 2) + 1) := by rw [show 2 * (i / 2) + 1 = i by omega]
      rw [this]; omega
theorem back_value {s : Bool} {B : Nat → Int} (hB : U8 B) (hr : rightB s B = true) : parseV (parseL (adText s B)) = .tuple #[adV s B, .int .i64 0] := by
  obtain ⟨B', h, e⟩ := back_text hB hr
  rw [h]
  show Value.tuple #[adV s B', .int .i64 0] = _
  rw [ad_congr e]
theorem zg_congr {g g' : Nat → Nat} (h : ∀ k, k < 8 → g k = g' k) : zg g = zg g' := by
  unfold zg
  rw [h 0 (by omega), h 1 (by omega), h 2 (by omega), h 3 (by omega), h 4 (by omega), h 5 (by omega), h 6 (by omega), h 7 (by omega)]
theorem text6_congr {g g' : Nat → Nat} (h : ∀ k, k < 8 → g k = g' k) : text6 g = text6 g' := by
  have e : (List.range 8).map (fun i => digB 16 (g i)) = (List.range 8).map fun i => digB 16 (g' i) := List.map_congr_left fun i hi => by rw [h i (List.mem_range.1 hi)]
  rw [text6_of, text6_of, zg_congr h, e]
theorem text4_congr {b b' : Nat → Nat} (h : ∀ k, k < 4 → b k = b' k) : text4 b = text4 b' := by
  unfold text4
  rw [List.map_congr_left fun i hi => by rw [h i (List.mem_range.1 hi)]]
theorem rightB_congr {s : Bool} {B A : Nat → Int} (h : ∀ i, i < 16 → B i = A i) : rightB s B = rightB s A := by
  cases s
  · rw [Bool.eq_iff_iff, rightB_four, rightB_four]
    exact ⟨fun h' i h1 h2 => (h i h2) ▸ h' i h1 h2, fun h' i h1 h2 => (h i h2).trans (h' i h1 h2)⟩
  · rfl
theorem adText_congr {s : Bool} {B A : Nat → Int} (h : ∀ i, i < 16 → B i = A i) : adText s B = adText s A := by
  unfold adText
  rw [rightB_congr h, text6_congr (g := grpN B) (g' := grpN A) (fun k hk => by unfold grpN grpI; rw [h (2 * k) (by omega), h (2 * k + 1) (by omega)]), text4_congr (b := fun i => (B i).toNat) (b' := fun i => (A i).toNat) (fun k hk => by show (B k).toNat = (A k).toNat; rw [h k (by omega)])]
/-- Are two addresses the same? -/
def adEq (s : Bool) (B : Nat → Int) (t : Bool) (A : Nat → Int) : Bool := s == t && eqL (b16 B) (b16 A)
theorem adEq_iff {s t : Bool} {B A : Nat → Int} : adEq s B t A = true ↔ s = t ∧ ∀ i, i < 16 → B i = A i := by
  unfold adEq
  rw [Bool.and_eq_true, eqL_iff, b16_eq]
  simp
/-- Two addresses that are right have the same text just if they are the same. -/
theorem text_iff {s t : Bool} {B A : Nat → Int} (hB : U8 B) (hA : U8 A) (h1 : rightB s B = true) (h2 : rightB t A = true) : (adText s B == adText t A) = adEq s B t A := by
  rw [Bool.eq_iff_iff, beq_iff_eq, adEq_iff]
  constructor
  · intro h
    obtain ⟨B', hb, eb⟩ := back_text hB h1
    obtain ⟨A', ha, ea⟩ := back_text hA h2
    rw [h, ha] at hb
    obtain ⟨rfl, rfl⟩ : t = s ∧ A' = B' := by simpa using hb
    exact ⟨rfl, fun i hi => (eb i hi).symm.trans (ea i hi)⟩
  · rintro ⟨rfl, h⟩
    exact adText_congr h
theorem cmpI_zero : ∀ (xs ys : List Int), xs.length = ys.length → (cmpI xs ys = 0 ↔ xs = ys)
  | [], [], _ => by simp [cmpI]
  | [], _ :: _, h => by simp at h
  | _ :: _, [], h => by simp at h
  | x :: xs, y :: ys, h => by
    have ih := cmpI_zero xs ys (by simpa using h)
    rw [cmpI]
    by_cases h1 : x < y
    · rw [if_pos h1]
      constructor
      · intro h; omega
      · intro h; simp only [List.cons.injEq] at h; omega
    · by_cases h2 : y < x
      · rw [if_neg h1, if_pos h2]
        constructor
        · intro h; omega
        · intro h; simp only [List.cons.injEq] at h; omega
      · rw [if_neg h1, if_neg h2, ih]
        have : x = y := by omega
        simp [this]
/-- They are alike in order just if they are the same. -/
theorem cmp_iff (s : Bool) (B : Nat → Int) (t : Bool) (A : Nat → Int) : (adCmp s B t A == 0) = adEq s B t A := by
  rw [Bool.eq_iff_iff, beq_iff_eq, adEq_iff, ← b16_eq]
  unfold adCmp
  by_cases h : s = t
  · rw [if_pos h, cmpI_zero (b16 B) (b16 A) rfl]
    simp [h]
  · rw [if_neg h]
    constructor
    · intro h'
      split at h' <;> omega
    · rintro ⟨h', -⟩; exact absurd h' h
theorem cmpI_neg : ∀ (xs ys : List Int), cmpI ys xs = - cmpI xs ys
  | [], [] => rfl
  | [], _ :: _ => rfl
  | _ :: _, [] => rfl
  | x :: xs, y :: ys => by
    have ih := cmpI_neg xs ys
    rw [cmpI, cmpI]
    by_cases h1 : x < y
    · rw [if_pos h1, if_neg (by omega), if_pos h1]; rfl
    · by_cases h2 : y < x
      · rw [if_pos h2, if_neg h1, if_pos h2]
      · rw [if_neg h1, if_neg h2, if_neg h2, if_neg h1, ih]
theorem adCmp_neg (s : Bool) (B : Nat → Int) (t : Bool) (A : Nat → Int) : adCmp t A s B = - adCmp s B t A := by
  unfold adCmp
  by_cases h : s = t
  · subst h
    rw [if_pos rfl, if_pos rfl, cmpI_neg]
  · rw [if_neg h, if_neg (fun e => h e.symm)]
    cases s <;> cases t <;> first | rfl | exact absurd rfl h
theorem cmpI_bd : ∀ (xs ys : List Int), -1 ≤ cmpI xs ys ∧ cmpI xs ys ≤ 1
  | [], [] => by simp [cmpI]
  | [], _ :: _ => by simp [cmpI]
  | _ :: _, [] => by simp [cmpI]
  | x :: xs, y :: ys => by
    have ih := cmpI_bd xs ys
    rw [cmpI]
    split
    · omega
    · split <;> omega
theorem adCmp_bd (s : Bool) (B : Nat → Int) (t : Bool) (A : Nat → Int) : -1 ≤ adCmp s B t A ∧ adCmp s B t A ≤ 1 := by
  unfold adCmp
  have := cmpI_bd (b16 B) (b16 A)
  split
  · exact this
  · split <;> omega

/-! ### Prefixes -/
theorem pfEq_self (s : Bool) (B : Nat → Int) (n : Int) : pfEq s B n s B n = true := by
  unfold pfEq
  rw [(eqL_iff _ _).2 rfl]; simp
theorem pfEq_congr {s : Bool} {B A : Nat → Int} {n : Int} (h : ∀ i, B i = A i) : pfEq s B n s A n = true := by
  unfold pfEq
  rw [(eqL_iff _ _).2 (b16_congr h)]; simp
theorem pfEq_six {s t : Bool} {B A : Nat → Int} {n m : Int} (h : s ≠ t) : pfEq s B n t A m = false := by
  unfold pfEq
  have : (s == t) = false := by simpa using h
  rw [this]; rfl
theorem has_self {s : Bool} {B : Nat → Int} (m : Int) (hr : rightB s B = true) : hasV s (cutB (clampN s m) B) (clampN s m : Int) s B = true := by
  unfold hasV
  rw [rightPB_cut m hr, hr, clampN_idem]
  exact pfEq_self _ _ _
theorem within_self {s : Bool} {B : Nat → Int} (m : Int) (hr : rightB s B = true) : withinV s (cutB (clampN s m) B) (clampN s m : Int) s (cutB (clampN s m) B) (clampN s m : Int) = true := by
  unfold withinV hasV
  rw [rightPB_cut m hr, cutB_right _ hr, clampN_idem, decide_eq_true (Int.le_refl _)]
  exact pfEq_congr fun i => by rw [cutB_cut, Nat.min_self]
theorem within_is {s : Bool} {B : Nat → Int} (m : Int) (hr : rightB s B = true) (t : Bool) (Q : Nat → Int) (qn : Int) :
    withinV s (cutB (clampN s m) B) (clampN s m : Int) t Q qn = (decide (qn ≤ (clampN s m : Int)) && hasV t Q qn s (cutB (clampN s m) B)) := by
  unfold withinV
  rw [rightPB_cut m hr]; rfl
theorem within_less {s : Bool} {B : Nat → Int} {m n : Int} (hr : rightB s B = true) (h : n ≤ m) :
    withinV s (cutB (clampN s m) B) (clampN s m : Int) s (cutB (clampN s n) B) (clampN s n : Int) = true := by
  have hmn := clampN_mono s h
  unfold withinV hasV
  rw [rightPB_cut m hr, rightPB_cut n hr, cutB_right _ hr, clampN_idem, decide_eq_true (by omega)]
  exact pfEq_congr fun i => by rw [cutB_cut, Nat.min_eq_left hmn]
theorem has_is {s t : Bool} {B A : Nat → Int} (n : Int) (h1 : rightB s B = true) (h2 : rightB t A = true) :
    hasV t (cutB (clampN t n) A) (clampN t n : Int) s B = (s == t && pfEq s (cutB (clampN s n) B) (clampN s n : Int) t (cutB (clampN t n) A) (clampN t n : Int)) := by
  unfold hasV
  rw [rightPB_cut n h2, h1]
  by_cases h : s = t
  · subst h
    rw [clampN_idem]; simp
  · rw [pfEq_six h, pfEq_six h]; simp
theorem cut_again {s : Bool} {B : Nat → Int} (m : Int) : pfEq s (cutB (clampN s m) (cutB (clampN s m) B)) (clampN s m : Int) s (cutB (clampN s m) B) (clampN s m : Int) = true :=
  pfEq_congr fun i => by rw [cutB_cut, Nat.min_self]

/-! ### A prefix's text -/
theorem joinL_mem (x c : UInt8) : ∀ L : List (List UInt8), x ∈ joinL c L → x = c ∨ ∃ p ∈ L, x ∈ p
  | [], h => by simp [joinL] at h
  | [p], h => .inr ⟨p, by simp, by simpa [joinL] using h⟩
  | p :: q :: l, h => by
    rw [joinL_cons2] at h
    rcases List.mem_append.1 h with h | h
    · exact .inr ⟨p, by simp, h⟩
    · rcases List.mem_cons.1 h with h | h
      · exact .inl h
      · rcases joinL_mem x c (q :: l) h with h | ⟨r, hr, hx⟩
        · exact .inl h
        · exact .inr ⟨r, by simp at hr ⊢; exact .inr hr, hx⟩
theorem digB_slash (u : Nat) : (47 : UInt8) ∉ digB 16 u := fun h => by
  obtain ⟨d, hd, e⟩ := digB_signs 16 (by omega) (by omega) u u (Nat.le_refl _) _ h
  exact (toNat_hexc d hd).2.2.2 e.symm
theorem dec_slash (u : Nat) : (47 : UInt8) ∉ decDigits u := fun h => by
  obtain ⟨d, hd, e⟩ := decDigits_signs u _ h
  exact (toNat_hexc d hd).2.2.2 e.symm
theorem adText_slash (s : Bool) (B : Nat → Int) : (47 : UInt8) ∉ adText s B := by
  intro h
  unfold adText at h
  split at h
  · split at h
    · rw [text6_of] at h
      have hm : ∀ p ∈ (List.range 8).map fun i => digB 16 (grpN B i), (47 : UInt8) ∉ p := fun p hp => by
        obtain ⟨i, -, rfl⟩ := List.mem_map.1 hp
        exact digB_slash _
      split at h
      · rcases joinL_mem _ _ _ h with h | ⟨p, hp, hx⟩
        · exact absurd h (by decide)
        · exact hm p hp hx
      · rcases List.mem_append.1 h with h | h
        · rcases List.mem_append.1 h with h | h
          · rcases joinL_mem _ _ _ h with h | ⟨p, hp, hx⟩
            · exact absurd h (by decide)
            · exact hm p (List.mem_of_mem_take hp) hx
          · simp at h
        · rcases joinL_mem _ _ _ h with h | ⟨p, hp, hx⟩
          · exact absurd h (by decide)
          · exact hm p (List.mem_of_mem_drop hp) hx
    · rcases joinL_mem _ _ _ h with h | ⟨p, hp, hx⟩
      · exact absurd h (by decide)
      · obtain ⟨i, -, rfl⟩ := List.mem_map.1 hp
        exact dec_slash _ hx
  · simp at h
theorem index_one_app (c : UInt8) : ∀ (p r : List UInt8), c ∉ p → index (p ++ c :: r) [c] = (p.length : Int)
  | [], r, _ => by rw [List.nil_append, index_one_cons]; simp
  | x :: p, r, h => by
    have hx : x ≠ c := fun e => h (by simp [e])
    have hp : c ∉ p := fun e => h (by simp [e])
    rw [List.cons_append, index_one_cons, if_neg hx, index_one_app c p r hp, if_neg (by omega)]
    simp
theorem rightPB_congr {s : Bool} {B A : Nat → Int} {n : Int} (hB : ∀ i, i < 16 → B i = A i) : rightPB s B n = rightPB s A n := by
  unfold rightPB
  have e1 : b16 B = b16 A := b16_eq.2 hB
  have e2 : b16 (cutB (clampN s n) B) = b16 (cutB (clampN s n) A) := b16_eq.2 fun i hi => by unfold cutB; rw [hB i hi]
  rw [rightB_congr hB, e1, e2]
/-- A prefix is read as it was told. -/
theorem back_prefix {s : Bool} {B : Nat → Int} (m : Int) (hB : U8 B) (hr : rightB s B = true) :
    ppV (ppL (pfText s (cutB (clampN s m) B) (clampN s m : Int))) = .tuple #[pfV s (cutB (clampN s m) B) (clampN s m : Int), .int .i64 0] := by
  have hp := rightPB_cut (B := B) m hr
  have hle := clampN_le s m
  generalize hP : cutB (clampN s m) B = P at *
  have hU : U8 P := by rw [← hP]; exact cutB_u8 hB
  have hrP : rightB s P = true := by rw [← hP]; exact cutB_right _ hr
  generalize clampN s m = k at *
  unfold pfText
  rw [if_pos hp, Int.toNat_natCast]
  have hcut : cut (adText s P ++ [47] ++ decDigits k) [47] = (adText s P, decDigits k, true) := by
    rw [cut_one, List.append_assoc, List.singleton_append, index_one_app 47 _ _ (adText_slash s P), if_neg (by omega), Int.toNat_natCast]
    simp
  obtain ⟨P', hpp, e⟩ := back_text hU hrP
  have hd : decL 129 (decDigits k) = some k := decL_some.2 ⟨by omega, rfl⟩
  have hR : rightPB s P' (k : Int) = true := by rw [rightPB_congr e]; exact hp
  unfold ppL
  rw [hcut]
  simp only
  rw [hpp, hd]
  show ppV (if rightPB s P' (k : Int) = true then some (s, P', k) else none) = _
  rw [if_pos hR]
  show Value.tuple #[pfV s P' (k : Int), .int .i64 0] = _
  rw [pf_congr e]
theorem dec3 : ∀ b : Fin 256, (Lib.decDigits b).length ≤ 3 := by decide +kernel
theorem adText_max (s : Bool) (B : Nat → Int) (hB : U8 B) : (adText s B).length ≤ 100 := by
  unfold adText
  split
  · split
    · have hp : ∀ p ∈ (List.range 8).map fun i => digB 16 (grpN B i), p.length ≤ 4 := fun p hp => by
        obtain ⟨i, -, rfl⟩ := List.mem_map.1 hp
        exact digB16_len _ (grpN_lt hB i)
      rw [text6_of]
      split
      · exact Nat.le_trans (joinL_len 58 4 _ hp) (by simp)
      · have h1 := joinL_len 58 4 (((List.range 8).map fun i => digB 16 (grpN B i)).take (noughtsZ (zg (grpN B))).1) (fun p h => hp p (List.mem_of_mem_take h))
        have h2 := joinL_len 58 4 (((List.range 8).map fun i => digB 16 (grpN B i)).drop (noughtsZ (zg (grpN B))).2) (fun p h => hp p (List.mem_of_mem_drop h))
        rw [List.length_take, List.length_map, List.length_range] at h1
        rw [List.length_drop, List.length_map, List.length_range] at h2
        simp only [List.length_append, List.length_cons, List.length_nil]
        have h3 : min (noughtsZ (zg (grpN B))).1 8 * (4 + 1) ≤ 40 := by have := Nat.min_le_right (noughtsZ (zg (grpN B))).1 8; omega
        have h4 : (8 - (noughtsZ (zg (grpN B))).2) * (4 + 1) ≤ 40 := by omega
        omega
    · refine Nat.le_trans (joinL_len 46 3 _ fun p hp => ?_) (by simp)
      obtain ⟨i, -, rfl⟩ := List.mem_map.1 hp
      have := hB i
      exact dec3 ⟨(B i).toNat, by omega⟩
  · simp
theorem pfText_max (s : Bool) (B : Nat → Int) (n : Nat) (hB : U8 B) (hn : n ≤ 128) : (pfText s B (n : Int)).length ≤ 200 := by
  unfold pfText
  have := adText_max s B hB
  have h3 := dec3 ⟨n, by omega⟩
  split
  · simp only [List.length_append, List.length_cons, List.length_nil, Int.toNat_natCast]
    simp only at h3
    omega
  · simp


/-! ### What the law AddrBack asks of prefixes, call by call -/
section
open Go.RowKit

structure BackF (s : Bool) (B : Nat → Int) (t : Bool) (A : Nat → Int) (m n : Int) (P : Nat → Int) (pn : Int) (Q : Nat → Int) (qn : Int) (S : Nat → Int) (sn : Int) (T : List UInt8) (h : Bool) : Prop where
  f1 : ∀ w, Calls Tryd.prog 26 #[adV s B, .int .i64 m] w (RetAt w (pfV s P pn))
  f2 : ∀ w, Calls Tryd.prog 26 #[adV t A, .int .i64 n] w (RetAt w (pfV t Q qn))
  f3 : ∀ w, Env w → Calls Tryd.prog 27 #[pfV s P pn] w (RetAt w (.string ⟨T.toArray⟩))
  f4 : ∀ w, Env w → Calls Tryd.prog 9 #[.string ⟨T.toArray⟩] w (RetAt w (.tuple #[pfV s P pn, .int .i64 0]))
  f5 : ∀ w, Calls Tryd.prog 28 #[pfV s P pn] w (RetAt w (.bool true))
  f6 : ∀ w, Calls Tryd.prog 29 #[pfV s P pn, adV s B] w (RetAt w (.bool true))
  f7 : ∀ w, Calls Tryd.prog 30 #[pfV s P pn, pfV s P pn] w (RetAt w (.bool true))
  f8 : ∀ w, Calls Tryd.prog 30 #[pfV s P pn, pfV t Q qn] w (RetAt w (.bool (decide (qn ≤ pn) && h)))
  f9 : ∀ w, Calls Tryd.prog 29 #[pfV t Q qn, adV s P] w (RetAt w (.bool h))
  f10 : ∀ w, Calls Tryd.prog 26 #[adV s B, .int .i64 n] w (RetAt w (pfV s S sn))
  f11 : n ≤ m → ∀ w, Calls Tryd.prog 30 #[pfV s P pn, pfV s S sn] w (RetAt w (.bool true))
  f12 : ∀ w, Calls Tryd.prog 29 #[pfV t Q qn, adV s B] w (RetAt w (.bool (s == t && pfEq s S sn t Q qn)))
  f13 : ∀ w, Calls Tryd.prog 26 #[adV s P, .int .i64 m] w (RetAt w (pfV s P pn))

theorem cut_is (s : Bool) (B : Nat → Int) (n : Int) (hB : U8 B) (hr : rightB s B = true) (hn0 : -9223372036854775808 ≤ n) (hn1 : n ≤ 9223372036854775807) (w : World) :
    Calls Tryd.prog 26 #[adV s B, .int .i64 n] w (RetAt w (pfV s (cutB (clampN s n) B) (clampN s n : Int))) := by
  have := cut_any s B n hB hn0 hn1 w
  unfold cutSix cutBy cutLen at this
  rwa [if_pos hr, if_pos hr, if_pos hr] at this

set_option maxHeartbeats 1000000 in
theorem back_facts (s : Bool) (B : Nat → Int) (t : Bool) (A : Nat → Int) (m n : Int) (hB : U8 B) (hA : U8 A) (h1 : rightB s B = true) (h2 : rightB t A = true) (hm0 : -9223372036854775808 ≤ m) (hm1 : m ≤ 9223372036854775807) (hn0 : -9223372036854775808 ≤ n) (hn1 : n ≤ 9223372036854775807) :
    BackF s B t A m n (cutB (clampN s m) B) (clampN s m : Int) (cutB (clampN t n) A) (clampN t n : Int) (cutB (clampN s n) B) (clampN s n : Int) (pfText s (cutB (clampN s m) B) (clampN s m : Int)) (hasV t (cutB (clampN t n) A) (clampN t n : Int) s (cutB (clampN s m) B)) := by
  have hP : U8 (cutB (clampN s m) B) := cutB_u8 hB
  have hQ : U8 (cutB (clampN t n) A) := cutB_u8 hA
  have hS : U8 (cutB (clampN s n) B) := cutB_u8 hB
  have cp := clampN_le s m
  have cq := clampN_le t n
  have cs := clampN_le s n
  refine ⟨fun w => cut_is s B m hB h1 hm0 hm1 w, fun w => cut_is t A n hA h2 hn0 hn1 w, fun w he => ptext_any s _ _ hP (by omega) (by omega) w he, fun w he => ?_, fun w => ?_, fun w => ?_, fun w => ?_, fun w => ?_, fun w => ?_,
    fun w => cut_is s B n hB h1 hn0 hn1 w, fun hle w => ?_, fun w => ?_, fun w => ?_⟩
  · have hT : (⟨(pfText s (cutB (clampN s m) B) (clampN s m : Int)).toArray⟩ : ByteArray).size ≤ 1000 := by
      have := pfText_max s (cutB (clampN s m) B) (clampN s m) hP cp
      show (pfText s (cutB (clampN s m) B) (clampN s m : Int)).toArray.size ≤ 1000
      rw [List.size_toArray]; omega
    have := pparse_any ⟨(pfText s (cutB (clampN s m) B) (clampN s m : Int)).toArray⟩ w hT he
    rwa [show ppL (⟨(pfText s (cutB (clampN s m) B) (clampN s m : Int)).toArray⟩ : ByteArray).data.toList = ppL (pfText s (cutB (clampN s m) B) (clampN s m : Int)) from rfl, back_prefix m hB h1] at this
  · have := pright_any s (cutB (clampN s m) B) (clampN s m : Int) hP (by omega) (by omega) w
    rwa [rightPB_cut m h1] at this
  · have := has_any s (cutB (clampN s m) B) (clampN s m : Int) s B hP hB (by omega) (by omega) w
    rwa [has_self m h1] at this
  · have := within_any s (cutB (clampN s m) B) (clampN s m : Int) s (cutB (clampN s m) B) (clampN s m : Int) hP hP (by omega) (by omega) (by omega) (by omega) w
    rwa [within_self m h1] at this
  · have := within_any s (cutB (clampN s m) B) (clampN s m : Int) t (cutB (clampN t n) A) (clampN t n : Int) hP hQ (by omega) (by omega) (by omega) (by omega) w
    rwa [within_is m h1] at this
  · exact has_any t (cutB (clampN t n) A) (clampN t n : Int) s (cutB (clampN s m) B) hQ hP (by omega) (by omega) w
  · have := within_any s (cutB (clampN s m) B) (clampN s m : Int) s (cutB (clampN s n) B) (clampN s n : Int) hP hS (by omega) (by omega) (by omega) (by omega) w
    rwa [within_less h1 hle] at this
  · have := has_any t (cutB (clampN t n) A) (clampN t n : Int) s B hQ hB (by omega) (by omega) w
    rwa [has_is n h1 h2] at this
  · have := cut_is s (cutB (clampN s m) B) m hP (cutB_right _ h1) hm0 hm1 w
    rwa [pf_congr (B := cutB (clampN s m) (cutB (clampN s m) B)) (fun i _ => by rw [cutB_cut, Nat.min_self])] at this
end
end Go.Proofs.YtcadpcppnllhnaaDoor
end

/- The walk over the chapter's examples (works). -/
section
set_option linter.unusedSimpArgs false
set_option linter.unusedVariables false
namespace Go.Proofs.YtcadpcppnllhnaaDoor
open Go.RowKit

theorem ex1 : fourL [49, 48, 46, 48, 46, 48, 46, 50, 53, 53] = some [10, 0, 0, 255] := by decide +kernel
theorem ex2a : fourL [50, 48, 48, 49, 58, 68, 66, 56, 58, 48, 58, 48, 58, 49, 58, 48, 58, 48, 58, 49] = none := by decide +kernel
theorem ex2b : sixL [50, 48, 48, 49, 58, 68, 66, 56, 58, 48, 58, 48, 58, 49, 58, 48, 58, 48, 58, 49] = some [8193, 3512, 0, 0, 1, 0, 0, 1] := by decide +kernel
theorem ex3a : fourL [49, 58, 58] = none := by decide +kernel
theorem ex3b : sixL [49, 58, 58] = some [1, 0, 0, 0, 0, 0, 0, 0] := by decide +kernel
theorem ex4a : fourL [48, 49, 46, 50, 46, 51, 46, 52] = none := by decide +kernel
theorem ex4b : sixL [48, 49, 46, 50, 46, 51, 46, 52] = none := by decide +kernel
theorem ex5a : fourL [49, 58, 58, 50, 58, 58, 51] = none := by decide +kernel
theorem ex5b : sixL [49, 58, 58, 50, 58, 58, 51] = none := by decide +kernel
theorem ex6a : fourL [49, 48, 46, 48, 46, 48, 46, 49] = some [10, 0, 0, 1] := by decide +kernel
theorem ex6b : decL 129 [56] = some 8 := by decide +kernel
theorem ex6c : Lib.cut [49, 48, 46, 48, 46, 48, 46, 49, 47, 56] [47] = ([49, 48, 46, 48, 46, 48, 46, 49], [56], true) := by decide +kernel
theorem ex6d : rightPB false (fourB [10, 0, 0, 1]) 8 = false := by decide +kernel
theorem ex6 : ppL [49, 48, 46, 48, 46, 48, 46, 49, 47, 56] = none := by
  unfold ppL
  rw [ex6c, parseL_of, ex6a, ex6b]
  show (if rightPB false (fourB [10, 0, 0, 1]) 8 = true then some (false, fourB [10, 0, 0, 1], 8) else none) = none
  rw [ex6d]; rfl
theorem ex2t : adText true (sixB [8193, 3512, 0, 0, 1, 0, 0, 1]) = [50, 48, 48, 49, 58, 100, 98, 56, 58, 58, 49, 58, 48, 58, 48, 58, 49] := by decide +kernel
theorem exc1 (w : World) (h : Env w) : Calls Tryd.prog 7 #[.string ⟨#[49, 48, 46, 48, 46, 48, 46, 50, 53, 53]⟩] w (RetAt w (.tuple #[.agg #[.bool false, .int .u8 10, .int .u8 0, .int .u8 0, .int .u8 255, .int .u8 0, .int .u8 0, .int .u8 0, .int .u8 0, .int .u8 0, .int .u8 0, .int .u8 0, .int .u8 0, .int .u8 0, .int .u8 0, .int .u8 0, .int .u8 0], .int .i64 0])) := by
  have h1 := parse_any ⟨#[49, 48, 46, 48, 46, 48, 46, 50, 53, 53]⟩ w (by decide) h
  rw [show (⟨#[49, 48, 46, 48, 46, 48, 46, 50, 53, 53]⟩ : ByteArray).data.toList = [49, 48, 46, 48, 46, 48, 46, 50, 53, 53] from rfl, parseL_of, ex1] at h1
  exact h1
theorem exc2 (w : World) (h : Env w) : Calls Tryd.prog 7 #[.string ⟨#[50, 48, 48, 49, 58, 68, 66, 56, 58, 48, 58, 48, 58, 49, 58, 48, 58, 48, 58, 49]⟩] w (RetAt w (.tuple #[.agg #[.bool true, .int .u8 32, .int .u8 1, .int .u8 13, .int .u8 184, .int .u8 0, .int .u8 0, .int .u8 0, .int .u8 0, .int .u8 0, .int .u8 1, .int .u8 0, .int .u8 0, .int .u8 0, .int .u8 0, .int .u8 0, .int .u8 1], .int .i64 0])) := by
  have h1 := parse_any ⟨#[50, 48, 48, 49, 58, 68, 66, 56, 58, 48, 58, 48, 58, 49, 58, 48, 58, 48, 58, 49]⟩ w (by decide) h
  rw [show (⟨#[50, 48, 48, 49, 58, 68, 66, 56, 58, 48, 58, 48, 58, 49, 58, 48, 58, 48, 58, 49]⟩ : ByteArray).data.toList = [50, 48, 48, 49, 58, 68, 66, 56, 58, 48, 58, 48, 58, 49, 58, 48, 58, 48, 58, 49] from rfl, parseL_of, ex2a, ex2b] at h1
  exact h1
theorem exc3 (w : World) (h : Env w) : Calls Tryd.prog 7 #[.string ⟨#[49, 58, 58]⟩] w (RetAt w (.tuple #[.agg #[.bool true, .int .u8 0, .int .u8 1, .int .u8 0, .int .u8 0, .int .u8 0, .int .u8 0, .int .u8 0, .int .u8 0, .int .u8 0, .int .u8 0, .int .u8 0, .int .u8 0, .int .u8 0, .int .u8 0, .int .u8 0, .int .u8 0], .int .i64 0])) := by
  have h1 := parse_any ⟨#[49, 58, 58]⟩ w (by decide) h
  rw [show (⟨#[49, 58, 58]⟩ : ByteArray).data.toList = [49, 58, 58] from rfl, parseL_of, ex3a, ex3b] at h1
  exact h1
theorem exc4 (w : World) (h : Env w) : Calls Tryd.prog 7 #[.string ⟨#[48, 49, 46, 50, 46, 51, 46, 52]⟩] w (RetAt w (.tuple #[.agg #[.bool false, .int .u8 0, .int .u8 0, .int .u8 0, .int .u8 0, .int .u8 0, .int .u8 0, .int .u8 0, .int .u8 0, .int .u8 0, .int .u8 0, .int .u8 0, .int .u8 0, .int .u8 0, .int .u8 0, .int .u8 0, .int .u8 0], .int .i64 40])) := by
  have h1 := parse_any ⟨#[48, 49, 46, 50, 46, 51, 46, 52]⟩ w (by decide) h
  rw [show (⟨#[48, 49, 46, 50, 46, 51, 46, 52]⟩ : ByteArray).data.toList = [48, 49, 46, 50, 46, 51, 46, 52] from rfl, parseL_of, ex4a, ex4b] at h1
  exact h1
theorem exc5 (w : World) (h : Env w) : Calls Tryd.prog 7 #[.string ⟨#[49, 58, 58, 50, 58, 58, 51]⟩] w (RetAt w (.tuple #[.agg #[.bool false, .int .u8 0, .int .u8 0, .int .u8 0, .int .u8 0, .int .u8 0, .int .u8 0, .int .u8 0, .int .u8 0, .int .u8 0, .int .u8 0, .int .u8 0, .int .u8 0, .int .u8 0, .int .u8 0, .int .u8 0, .int .u8 0], .int .i64 40])) := by
  have h1 := parse_any ⟨#[49, 58, 58, 50, 58, 58, 51]⟩ w (by decide) h
  rw [show (⟨#[49, 58, 58, 50, 58, 58, 51]⟩ : ByteArray).data.toList = [49, 58, 58, 50, 58, 58, 51] from rfl, parseL_of, ex5a, ex5b] at h1
  exact h1
theorem exc6 (w : World) (h : Env w) : Calls Tryd.prog 9 #[.string ⟨#[49, 48, 46, 48, 46, 48, 46, 49, 47, 56]⟩] w (RetAt w (.tuple #[.agg #[.bool false, .int .u8 0, .int .u8 0, .int .u8 0, .int .u8 0, .int .u8 0, .int .u8 0, .int .u8 0, .int .u8 0, .int .u8 0, .int .u8 0, .int .u8 0, .int .u8 0, .int .u8 0, .int .u8 0, .int .u8 0, .int .u8 0, .int .i64 0], .int .i64 40])) := by
  have h1 := pparse_any ⟨#[49, 48, 46, 48, 46, 48, 46, 49, 47, 56]⟩ w (by decide) h
  rw [show (⟨#[49, 48, 46, 48, 46, 48, 46, 49, 47, 56]⟩ : ByteArray).data.toList = [49, 48, 46, 48, 46, 48, 46, 49, 47, 56] from rfl, ex6] at h1
  exact h1
theorem exc7 (w : World) (h : Env w) : Calls Tryd.prog 21 #[.agg #[.bool true, .int .u8 32, .int .u8 1, .int .u8 13, .int .u8 184, .int .u8 0, .int .u8 0, .int .u8 0, .int .u8 0, .int .u8 0, .int .u8 1, .int .u8 0, .int .u8 0, .int .u8 0, .int .u8 0, .int .u8 0, .int .u8 1]] w (RetAt w (.string ⟨#[50, 48, 48, 49, 58, 100, 98, 56, 58, 58, 49, 58, 48, 58, 48, 58, 49]⟩)) := by
  have h1 := text_any true (sixB [8193, 3512, 0, 0, 1, 0, 0, 1]) (sixB_u8 (by decide)) w h
  rw [ex2t] at h1
  exact h1

theorem cell_up {w w' : World} (h : Below w.heap.size w w') {b : Nat} {cs : Array Value} {t : TypeId} (hc : w.heap[b]? = some (.cells cs t (0, 0))) : w'.heap[b]? = some (.cells cs t (0, 0)) := (h.block _ (Array.getElem?_eq_some_iff.1 hc).1).trans hc

set_option maxRecDepth 20000 in
set_option maxHeartbeats 16000000 in
theorem works_any (w : World) (henv : Env w) : Calls Tryd.prog 6 #[] w (RetAt w (.bool true)) := by
  have HE := Lib.hid henv
  clear henv
  have he1 : eqL [10, 0, 0, 255, 0, 0, 0, 0, 0, 0, 0, 0, 0, 0, 0, 0] [10, 0, 0, 255, 0, 0, 0, 0, 0, 0, 0, 0, 0, 0, 0, 0] = true := by decide
  have he3 : eqL [0, 1, 0, 0, 0, 0, 0, 0, 0, 0, 0, 0, 0, 0, 0, 0] [0, 1, 0, 0, 0, 0, 0, 0, 0, 0, 0, 0, 0, 0, 0, 0] = true := by decide
  go_enter Tryd.func6, Tryd.ntmps6
  go_wp2_with fail
  refine Calls.mono (exc1 _ (HE.out)) ?_
  rintro e w1 ⟨rfl, hb⟩
  have HB1 : Hid (Below w.heap.size w (w1.alloc (.cells #[.bool false, .int .u8 10, .int .u8 0, .int .u8 0, .int .u8 255, .int .u8 0, .int .u8 0, .int .u8 0, .int .u8 0, .int .u8 0, .int .u8 0, .int .u8 0, .int .u8 0, .int .u8 0, .int .u8 0, .int .u8 0, .int .u8 0] 25))) := Lib.hid (Below.all (Below.via (Below.refl _ _) hb) _)
  have hz1 : w1.heap.size < (w1.alloc (.cells #[.bool false, .int .u8 10, .int .u8 0, .int .u8 0, .int .u8 255, .int .u8 0, .int .u8 0, .int .u8 0, .int .u8 0, .int .u8 0, .int .u8 0, .int .u8 0, .int .u8 0, .int .u8 0, .int .u8 0, .int .u8 0, .int .u8 0] 25)).heap.size := by simp
  have HC1 : Hid ((w1.alloc (.cells #[.bool false, .int .u8 10, .int .u8 0, .int .u8 0, .int .u8 255, .int .u8 0, .int .u8 0, .int .u8 0, .int .u8 0, .int .u8 0, .int .u8 0, .int .u8 0, .int .u8 0, .int .u8 0, .int .u8 0, .int .u8 0, .int .u8 0] 25)).heap[w1.heap.size]? = some (.cells #[.bool false, .int .u8 10, .int .u8 0, .int .u8 0, .int .u8 255, .int .u8 0, .int .u8 0, .int .u8 0, .int .u8 0, .int .u8 0, .int .u8 0, .int .u8 0, .int .u8 0, .int .u8 0, .int .u8 0, .int .u8 0, .int .u8 0] 25 (0, 0))) := Lib.hid (heap_alloc_new w1 _)
  clear hb
  go_wp2_with fail
  generalize w1.alloc (.cells #[.bool false, .int .u8 10, .int .u8 0, .int .u8 0, .int .u8 255, .int .u8 0, .int .u8 0, .int .u8 0, .int .u8 0, .int .u8 0, .int .u8 0, .int .u8 0, .int .u8 0, .int .u8 0, .int .u8 0, .int .u8 0, .int .u8 0] 25) = v1 at *
  refine Calls.mono (exc2 _ (HE.out.below HB1.out)) ?_
  rintro e w2 ⟨rfl, hb⟩
  have HB2 : Hid (Below w.heap.size w (w2.alloc (.cells #[.bool true, .int .u8 32, .int .u8 1, .int .u8 13, .int .u8 184, .int .u8 0, .int .u8 0, .int .u8 0, .int .u8 0, .int .u8 0, .int .u8 1, .int .u8 0, .int .u8 0, .int .u8 0, .int .u8 0, .int .u8 0, .int .u8 1] 25))) := Lib.hid (Below.all (Below.via (HB1.out) hb) _)
  have hz2 : w2.heap.size < (w2.alloc (.cells #[.bool true, .int .u8 32, .int .u8 1, .int .u8 13, .int .u8 184, .int .u8 0, .int .u8 0, .int .u8 0, .int .u8 0, .int .u8 0, .int .u8 1, .int .u8 0, .int .u8 0, .int .u8 0, .int .u8 0, .int .u8 0, .int .u8 1] 25)).heap.size := by simp
  have HC1 := Lib.hid (cell_up (Below.all hb (.cells #[.bool true, .int .u8 32, .int .u8 1, .int .u8 13, .int .u8 184, .int .u8 0, .int .u8 0, .int .u8 0, .int .u8 0, .int .u8 0, .int .u8 1, .int .u8 0, .int .u8 0, .int .u8 0, .int .u8 0, .int .u8 0, .int .u8 1] 25)) HC1.out)
  have HC2 : Hid ((w2.alloc (.cells #[.bool true, .int .u8 32, .int .u8 1, .int .u8 13, .int .u8 184, .int .u8 0, .int .u8 0, .int .u8 0, .int .u8 0, .int .u8 0, .int .u8 1, .int .u8 0, .int .u8 0, .int .u8 0, .int .u8 0, .int .u8 0, .int .u8 1] 25)).heap[w2.heap.size]? = some (.cells #[.bool true, .int .u8 32, .int .u8 1, .int .u8 13, .int .u8 184, .int .u8 0, .int .u8 0, .int .u8 0, .int .u8 0, .int .u8 0, .int .u8 1, .int .u8 0, .int .u8 0, .int .u8 0, .int .u8 0, .int .u8 0, .int .u8 1] 25 (0, 0))) := Lib.hid (heap_alloc_new w2 _)
  clear hb
  go_wp2_with fail
  generalize w2.alloc (.cells #[.bool true, .int .u8 32, .int .u8 1, .int .u8 13, .int .u8 184, .int .u8 0, .int .u8 0, .int .u8 0, .int .u8 0, .int .u8 0, .int .u8 1, .int .u8 0, .int .u8 0, .int .u8 0, .int .u8 0, .int .u8 0, .int .u8 1] 25) = v2 at *
  refine Calls.mono (exc3 _ (HE.out.below HB2.out)) ?_
  rintro e w3 ⟨rfl, hb⟩
  have HB3 : Hid (Below w.heap.size w (w3.alloc (.cells #[.bool true, .int .u8 0, .int .u8 1, .int .u8 0, .int .u8 0, .int .u8 0, .int .u8 0, .int .u8 0, .int .u8 0, .int .u8 0, .int .u8 0, .int .u8 0, .int .u8 0, .int .u8 0, .int .u8 0, .int .u8 0, .int .u8 0] 25))) := Lib.hid (Below.all (Below.via (HB2.out) hb) _)
  have hz3 : w3.heap.size < (w3.alloc (.cells #[.bool true, .int .u8 0, .int .u8 1, .int .u8 0, .int .u8 0, .int .u8 0, .int .u8 0, .int .u8 0, .int .u8 0, .int .u8 0, .int .u8 0, .int .u8 0, .int .u8 0, .int .u8 0, .int .u8 0, .int .u8 0, .int .u8 0] 25)).heap.size := by simp
  have HC1 := Lib.hid (cell_up (Below.all hb (.cells #[.bool true, .int .u8 0, .int .u8 1, .int .u8 0, .int .u8 0, .int .u8 0, .int .u8 0, .int .u8 0, .int .u8 0, .int .u8 0, .int .u8 0, .int .u8 0, .int .u8 0, .int .u8 0, .int .u8 0, .int .u8 0, .int .u8 0] 25)) HC1.out)
  have HC2 := Lib.hid (cell_up (Below.all hb (.cells #[.bool true, .int .u8 0, .int .u8 1, .int .u8 0, .int .u8 0, .int .u8 0, .int .u8 0, .int .u8 0, .int .u8 0, .int .u8 0, .int .u8 0, .int .u8 0, .int .u8 0, .int .u8 0, .int .u8 0, .int .u8 0, .int .u8 0] 25)) HC2.out)
  have HC3 : Hid ((w3.alloc (.cells #[.bool true, .int .u8 0, .int .u8 1, .int .u8 0, .int .u8 0, .int .u8 0, .int .u8 0, .int .u8 0, .int .u8 0, .int .u8 0, .int .u8 0, .int .u8 0, .int .u8 0, .int .u8 0, .int .u8 0, .int .u8 0, .int .u8 0] 25)).heap[w3.heap.size]? = some (.cells #[.bool true, .int .u8 0, .int .u8 1, .int .u8 0, .int .u8 0, .int .u8 0, .int .u8 0, .int .u8 0, .int .u8 0, .int .u8 0, .int .u8 0, .int .u8 0, .int .u8 0, .int .u8 0, .int .u8 0, .int .u8 0, .int .u8 0] 25 (0, 0))) := Lib.hid (heap_alloc_new w3 _)
  clear hb
  go_wp2_with fail
  generalize w3.alloc (.cells #[.bool true, .int .u8 0, .int .u8 1, .int .u8 0, .int .u8 0, .int .u8 0, .int .u8 0, .int .u8 0, .int .u8 0, .int .u8 0, .int .u8 0, .int .u8 0, .int .u8 0, .int .u8 0, .int .u8 0, .int .u8 0, .int .u8 0] 25) = v3 at *
  refine Calls.mono (exc4 _ (HE.out.below HB3.out)) ?_
  rintro e w4 ⟨rfl, hb⟩
  have HB4 : Hid (Below w.heap.size w (w4.alloc (.cells #[.bool false, .int .u8 0, .int .u8 0, .int .u8 0, .int .u8 0, .int .u8 0, .int .u8 0, .int .u8 0, .int .u8 0, .int .u8 0, .int .u8 0, .int .u8 0, .int .u8 0, .int .u8 0, .int .u8 0, .int .u8 0, .int .u8 0] 25))) := Lib.hid (Below.all (Below.via (HB3.out) hb) _)
  have hz4 : w4.heap.size < (w4.alloc (.cells #[.bool false, .int .u8 0, .int .u8 0, .int .u8 0, .int .u8 0, .int .u8 0, .int .u8 0, .int .u8 0, .int .u8 0, .int .u8 0, .int .u8 0, .int .u8 0, .int .u8 0, .int .u8 0, .int .u8 0, .int .u8 0, .int .u8 0] 25)).heap.size := by simp
  have HC1 := Lib.hid (cell_up (Below.all hb (.cells #[.bool false, .int .u8 0, .int .u8 0, .int .u8 0, .int .u8 0, .int .u8 0, .int .u8 0, .int .u8 0, .int .u8 0, .int .u8 0, .int .u8 0, .int .u8 0, .int .u8 0, .int .u8 0, .int .u8 0, .int .u8 0, .int .u8 0] 25)) HC1.out)
  have HC2 := Lib.hid (cell_up (Below.all hb (.cells #[.bool false, .int .u8 0, .int .u8 0, .int .u8 0, .int .u8 0, .int .u8 0, .int .u8 0, .int .u8 0, .int .u8 0, .int .u8 0, .int .u8 0, .int .u8 0, .int .u8 0, .int .u8 0, .int .u8 0, .int .u8 0, .int .u8 0] 25)) HC2.out)
  have HC3 := Lib.hid (cell_up (Below.all hb (.cells #[.bool false, .int .u8 0, .int .u8 0, .int .u8 0, .int .u8 0, .int .u8 0, .int .u8 0, .int .u8 0, .int .u8 0, .int .u8 0, .int .u8 0, .int .u8 0, .int .u8 0, .int .u8 0, .int .u8 0, .int .u8 0, .int .u8 0] 25)) HC3.out)
  clear hb
  go_wp2_with fail
  generalize w4.alloc (.cells #[.bool false, .int .u8 0, .int .u8 0, .int .u8 0, .int .u8 0, .int .u8 0, .int .u8 0, .int .u8 0, .int .u8 0, .int .u8 0, .int .u8 0, .int .u8 0, .int .u8 0, .int .u8 0, .int .u8 0, .int .u8 0, .int .u8 0] 25) = v4 at *
  refine Calls.mono (exc5 _ (HE.out.below HB4.out)) ?_
  rintro e w5 ⟨rfl, hb⟩
  have HB5 : Hid (Below w.heap.size w (w5.alloc (.cells #[.bool false, .int .u8 0, .int .u8 0, .int .u8 0, .int .u8 0, .int .u8 0, .int .u8 0, .int .u8 0, .int .u8 0, .int .u8 0, .int .u8 0, .int .u8 0, .int .u8 0, .int .u8 0, .int .u8 0, .int .u8 0, .int .u8 0] 25))) := Lib.hid (Below.all (Below.via (HB4.out) hb) _)
  have hz5 : w5.heap.size < (w5.alloc (.cells #[.bool false, .int .u8 0, .int .u8 0, .int .u8 0, .int .u8 0, .int .u8 0, .int .u8 0, .int .u8 0, .int .u8 0, .int .u8 0, .int .u8 0, .int .u8 0, .int .u8 0, .int .u8 0, .int .u8 0, .int .u8 0, .int .u8 0] 25)).heap.size := by simp
  have HC1 := Lib.hid (cell_up (Below.all hb (.cells #[.bool false, .int .u8 0, .int .u8 0, .int .u8 0, .int .u8 0, .int .u8 0, .int .u8 0, .int .u8 0, .int .u8 0, .int .u8 0, .int .u8 0, .int .u8 0, .int .u8 0, .int .u8 0, .int .u8 0, .int .u8 0, .int .u8 0] 25)) HC1.out)
  have HC2 := Lib.hid (cell_up (Below.all hb (.cells #[.bool false, .int .u8 0, .int .u8 0, .int .u8 0, .int .u8 0, .int .u8 0, .int .u8 0, .int .u8 0, .int .u8 0, .int .u8 0, .int .u8 0, .int .u8 0, .int .u8 0, .int .u8 0, .int .u8 0, .int .u8 0, .int .u8 0] 25)) HC2.out)
  have HC3 := Lib.hid (cell_up (Below.all hb (.cells #[.bool false, .int .u8 0, .int .u8 0, .int .u8 0, .int .u8 0, .int .u8 0, .int .u8 0, .int .u8 0, .int .u8 0, .int .u8 0, .int .u8 0, .int .u8 0, .int .u8 0, .int .u8 0, .int .u8 0, .int .u8 0, .int .u8 0] 25)) HC3.out)
  clear hb
  go_wp2_with fail
  generalize w5.alloc (.cells #[.bool false, .int .u8 0, .int .u8 0, .int .u8 0, .int .u8 0, .int .u8 0, .int .u8 0, .int .u8 0, .int .u8 0, .int .u8 0, .int .u8 0, .int .u8 0, .int .u8 0, .int .u8 0, .int .u8 0, .int .u8 0, .int .u8 0] 25) = v5 at *
  refine Calls.mono (exc6 _ (HE.out.below HB5.out)) ?_
  rintro e w6 ⟨rfl, hb⟩
  have HB6 : Hid (Below w.heap.size w (w6.alloc (.cells #[.bool false, .int .u8 0, .int .u8 0, .int .u8 0, .int .u8 0, .int .u8 0, .int .u8 0, .int .u8 0, .int .u8 0, .int .u8 0, .int .u8 0, .int .u8 0, .int .u8 0, .int .u8 0, .int .u8 0, .int .u8 0, .int .u8 0, .int .i64 0] 33))) := Lib.hid (Below.all (Below.via (HB5.out) hb) _)
  have hz6 : w6.heap.size < (w6.alloc (.cells #[.bool false, .int .u8 0, .int .u8 0, .int .u8 0, .int .u8 0, .int .u8 0, .int .u8 0, .int .u8 0, .int .u8 0, .int .u8 0, .int .u8 0, .int .u8 0, .int .u8 0, .int .u8 0, .int .u8 0, .int .u8 0, .int .u8 0, .int .i64 0] 33)).heap.size := by simp
  have HC1 := Lib.hid (cell_up (Below.all hb (.cells #[.bool false, .int .u8 0, .int .u8 0, .int .u8 0, .int .u8 0, .int .u8 0, .int .u8 0, .int .u8 0, .int .u8 0, .int .u8 0, .int .u8 0, .int .u8 0, .int .u8 0, .int .u8 0, .int .u8 0, .int .u8 0, .int .u8 0, .int .i64 0] 33)) HC1.out)
  have HC2 := Lib.hid (cell_up (Below.all hb (.cells #[.bool false, .int .u8 0, .int .u8 0, .int .u8 0, .int .u8 0, .int .u8 0, .int .u8 0, .int .u8 0, .int .u8 0, .int .u8 0, .int .u8 0, .int .u8 0, .int .u8 0, .int .u8 0, .int .u8 0, .int .u8 0, .int .u8 0, .int .i64 0] 33)) HC2.out)
  have HC3 := Lib.hid (cell_up (Below.all hb (.cells #[.bool false, .int .u8 0, .int .u8 0, .int .u8 0, .int .u8 0, .int .u8 0, .int .u8 0, .int .u8 0, .int .u8 0, .int .u8 0, .int .u8 0, .int .u8 0, .int .u8 0, .int .u8 0, .int .u8 0, .int .u8 0, .int .u8 0, .int .i64 0] 33)) HC3.out)
  clear hb
  have hp1 : partOf (w6.alloc (.cells #[.bool false, .int .u8 0, .int .u8 0, .int .u8 0, .int .u8 0, .int .u8 0, .int .u8 0, .int .u8 0, .int .u8 0, .int .u8 0, .int .u8 0, .int .u8 0, .int .u8 0, .int .u8 0, .int .u8 0, .int .u8 0, .int .u8 0, .int .i64 0] 33)) w1.heap.size 1 16 = #[.int .u8 10, .int .u8 0, .int .u8 0, .int .u8 255, .int .u8 0, .int .u8 0, .int .u8 0, .int .u8 0, .int .u8 0, .int .u8 0, .int .u8 0, .int .u8 0, .int .u8 0, .int .u8 0, .int .u8 0, .int .u8 0] := by rw [partOf_row _ _ _ _ _ _ _ HC1.out]; rfl
  have hp2 : partOf (w6.alloc (.cells #[.bool false, .int .u8 0, .int .u8 0, .int .u8 0, .int .u8 0, .int .u8 0, .int .u8 0, .int .u8 0, .int .u8 0, .int .u8 0, .int .u8 0, .int .u8 0, .int .u8 0, .int .u8 0, .int .u8 0, .int .u8 0, .int .u8 0, .int .i64 0] 33)) w2.heap.size 0 17 = #[.bool true, .int .u8 32, .int .u8 1, .int .u8 13, .int .u8 184, .int .u8 0, .int .u8 0, .int .u8 0, .int .u8 0, .int .u8 0, .int .u8 1, .int .u8 0, .int .u8 0, .int .u8 0, .int .u8 0, .int .u8 0, .int .u8 1] := by rw [partOf_row _ _ _ _ _ _ _ HC2.out]; rfl
  have hp3 : partOf (w6.alloc (.cells #[.bool false, .int .u8 0, .int .u8 0, .int .u8 0, .int .u8 0, .int .u8 0, .int .u8 0, .int .u8 0, .int .u8 0, .int .u8 0, .int .u8 0, .int .u8 0, .int .u8 0, .int .u8 0, .int .u8 0, .int .u8 0, .int .u8 0, .int .i64 0] 33)) w3.heap.size 0 17 = #[.bool true, .int .u8 0, .int .u8 1, .int .u8 0, .int .u8 0, .int .u8 0, .int .u8 0, .int .u8 0, .int .u8 0, .int .u8 0, .int .u8 0, .int .u8 0, .int .u8 0, .int .u8 0, .int .u8 0, .int .u8 0, .int .u8 0] := by rw [partOf_row _ _ _ _ _ _ _ HC3.out]; rfl
  have hq3 := (Array.getElem?_eq_some_iff.1 HC3.out).1
  go_wp2_with fail
  generalize w6.alloc (.cells #[.bool false, .int .u8 0, .int .u8 0, .int .u8 0, .int .u8 0, .int .u8 0, .int .u8 0, .int .u8 0, .int .u8 0, .int .u8 0, .int .u8 0, .int .u8 0, .int .u8 0, .int .u8 0, .int .u8 0, .int .u8 0, .int .u8 0, .int .i64 0] 33) = v6 at *
  refine Calls.later (exc7 _ (HE.out.below HB6.out)) ?_
  intro x
  go_wp2_with fail
  go_ret
  exact .mk rfl (HB6.out.trans (x.below.mono HB6.out.size))
end Go.Proofs.YtcadpcppnllhnaaDoor
end

/- Walks over texts: the reference's text of an address. -/
section
set_option linter.unusedSimpArgs false
set_option linter.unusedVariables false
namespace Go.Proofs.YtcadpcppnllhnaaDoor
open Go.RowKit

set_option maxHeartbeats 1000000 in
theorem digits16_any (k : Nat) : ∀ (m : Int) (w : World), 0 ≤ m → m < 65536 → m ≤ k → Calls Tryd.prog 36 #[.int .i64 m, .int .i64 16] w (RetAt w (.string ⟨(digB 16 m.toNat).toArray⟩)) := by
  induction k with
  | zero =>
    intro m w h0 h1 hk
    obtain rfl : m = 0 := by omega
    have hsl := slice_digit 0 (by decide)
    go_enter Tryd.func36, Tryd.ntmps36
    go_wp2_with fail
    go_ret
    exact .mk (val_string (by decide +kernel)) (Below.refl _ _)
  | succ k ih =>
    intro m w h0 h1 hk
    by_cases hm : m < 16
    · obtain ⟨d, rfl⟩ : ∃ d : Nat, m = d := ⟨m.toNat, by omega⟩
      have hsl := slice_digit d (by omega)
      clear ih
      go_enter Tryd.func36, Tryd.ntmps36
      go_wp2_with fail
      go_ret
      refine .mk (val_string ?_) (Below.refl _ _)
      rw [Int.toNat_natCast, digB, dif_pos (by omega)]
    · have IH := Lib.hid ih
      have q1 : m.tdiv 16 = m / 16 := Int.tdiv_eq_ediv_of_nonneg h0
      have q2 : m.tmod 16 = m % 16 := Int.tmod_eq_emod_of_nonneg h0
      have q3 : IntKind.i64.wrap (m / 16) = m / 16 := IntWalk.i64_in _ (by omega)
      have q4 : IntKind.i64.wrap (m % 16) = m % 16 := IntWalk.i64_in _ (by omega)
      have hl1 : (digB 16 (m / 16).toNat).length ≤ 100000 := by have := digB_len 16 _ _ (Nat.le_refl (m / 16).toNat); omega
      have hl2 : (digB 16 (m % 16).toNat).length ≤ 100000 := by have := digB_len 16 _ _ (Nat.le_refl (m % 16).toNat); omega
      have hl3 : (digB 16 (m / 16).toNat).length + (digB 16 (m % 16).toNat).length ≤ 9223372036854775807 := by omega
      have hl4 : ((digB 16 (m / 16).toNat).length : Int) + ((digB 16 (m % 16).toNat).length : Int) ≤ 9223372036854775807 := by omega
      have hcat := concat_small (digB 16 (m / 16).toNat) (digB 16 (m % 16).toNat) hl1 hl2
      clear ih
      go_enter Tryd.func36, Tryd.ntmps36
      go_wp2_with fail
      refine wp_region_later (by kernel_rfl) (by kernel_rfl) ?_
      iterate 4 go_big_quiet_step (fail)
      go_big_quiet_step ((go_at_call 36; exact later_call (IH.out (m / 16) _ (by omega) (by omega) (by omega))))
      iterate 4 go_big_quiet_step (fail)
      go_big_quiet_step ((go_at_call 36; exact later_call (IH.out (m % 16) _ (by omega) (by omega) (by omega))))
      repeat go_big_quiet_step (fail)
      refine wpQuiet_nil ?_
      intro x
      go_wp2_with fail
      go_ret
      refine .mk (val_string ?_) x.below
      have e1 : m.toNat / 16 = (m / 16).toNat := by omega
      have e2 : m.toNat % 16 = (m % 16).toNat := by omega
      rw [digB.eq_def 16 m.toNat, dif_neg (by omega), e1, e2, digB.eq_def 16 (m % 16).toNat, dif_pos (by omega)]
      exact bytes_append _ [_]

theorem runZ_le (z : Nat → Bool) : ∀ (f i : Nat), runZ z f i ≤ f
  | 0, _ => Nat.le_refl _
  | f + 1, i => by
    rw [runZ]
    have := runZ_le z f (i + 1)
    split <;> omega

set_option maxRecDepth 20000 in
set_option maxHeartbeats 8000000 in
theorem run_any (six : Bool) (B : Nat → Int) (hB : U8 B) (z : Nat → Bool) (hz : ∀ k, k < 8 → z k = (grpI B k == 0)) (i : Nat) (hi : i ≤ 8) (w : World) :
    Calls Tryd.prog 48 #[adV six B, .int .i64 (i : Int)] w (RetAt w (.int .i64 ((runZ z (8 - i) i : Nat) : Int))) := by
  have HX : Hid (AdBox (w.alloc (.cells #[.bool six, .int .u8 (B 0), .int .u8 (B 1), .int .u8 (B 2), .int .u8 (B 3), .int .u8 (B 4), .int .u8 (B 5), .int .u8 (B 6), .int .u8 (B 7), .int .u8 (B 8), .int .u8 (B 9), .int .u8 (B 10), .int .u8 (B 11), .int .u8 (B 12), .int .u8 (B 13), .int .u8 (B 14), .int .u8 (B 15)] 29)) w.heap.size 29 six B) := Lib.hid (AdBox.made w _ six B)
  have HB := Lib.hid (Below.all (Below.refl w.heap.size w) (.cells #[.bool six, .int .u8 (B 0), .int .u8 (B 1), .int .u8 (B 2), .int .u8 (B 3), .int .u8 (B 4), .int .u8 (B 5), .int .u8 (B 6), .int .u8 (B 7), .int .u8 (B 8), .int .u8 (B 9), .int .u8 (B 10), .int .u8 (B 11), .int .u8 (B 12), .int .u8 (B 13), .int .u8 (B 14), .int .u8 (B 15)] 29))
  have HG := Lib.hid (fun k hk w => rgroup_any six B hB k hk w)
  have HZ := Lib.hid hz
  clear hB hz
  unfold adV at *
  go_enter Tryd.func48, Tryd.ntmps48
  go_wp2_with fail
  generalize w.alloc (.cells #[.bool six, .int .u8 (B 0), .int .u8 (B 1), .int .u8 (B 2), .int .u8 (B 3), .int .u8 (B 4), .int .u8 (B 5), .int .u8 (B 6), .int .u8 (B 7), .int .u8 (B 8), .int .u8 (B 9), .int .u8 (B 10), .int .u8 (B 11), .int .u8 (B 12), .int .u8 (B 13), .int .u8 (B 14), .int .u8 (B 15)] 29) = w1 at *
  go_loopw [5] (fun u5 wr => ∃ n : Nat, i + n ≤ 8 ∧ u5 = .int .i64 n ∧ Hid (runZ z (8 - i) i = n + runZ z (8 - (i + n)) (i + n)) ∧ Hid (AdBox wr w.heap.size 29 six B) ∧ Hid (Below w.heap.size w wr)) (fun u5 _ => (8 : Int) - intOf u5 |>.toNat)
  case atStart => exact ⟨0, hi, rfl, Lib.hid (by simp), HX, HB⟩
  case round =>
    obtain ⟨n, hin, rfl, HN, HX, HW⟩ := hrel
    by_cases hlt : i + n < 8
    · have hpp := HX.out.part
      have hlt2 : (i : Int) + n < 8 := by omega
      have hzn := HZ.out (i + n) hlt
      have HS : Hid (runZ z (8 - (i + n)) (i + n) = if z (i + n) then runZ z (8 - (i + (n + 1))) (i + (n + 1)) + 1 else 0) := Lib.hid (by
        rw [show runZ z (8 - (i + n)) (i + n) = runZ z (8 - (i + (n + 1)) + 1) (i + n) by rw [show 8 - (i + n) = 8 - (i + (n + 1)) + 1 by omega]]; rfl)
      have HGn := HG.out (i + n) hlt
      rw [show (((i + n : Nat)) : Int) = (i : Int) + n by omega] at HGn
      have HGn := Lib.hid HGn
      generalize grpI B (i + n) = g at *
      go_wp2_with fail
      refine Calls.mono (HGn.out _) ?_
      rintro e w2 ⟨rfl, hb2⟩
      have HX2 := Lib.hid (HX.out.below hb2)
      have HW2 := Lib.hid (Below.via HW.out hb2)
      clear hpp hb2 HX HW
      by_cases hg : g = 0
      · have hzt : z (i + n) = true := by rw [hzn, hg]; rfl
        subst hg
        have HS2 := HS.out
        rw [hzt, if_pos rfl] at HS2
        have HS3 := Lib.hid HS2
        clear HS HS2 hzt hzn HGn
        go_wp2_with fail
        go_roundw
        case rel => exact ⟨n + 1, by omega, by go_num, Lib.hid (by rw [HN.out, HS3.out]; omega), HX2, HW2⟩
        case measure => simp [intOf]; omega
      · have hzt : z (i + n) = false := by rw [hzn]; simpa using hg
        have HS2 := HS.out
        rw [hzt, if_neg (by simp)] at HS2
        have HR : Hid (runZ z (8 - i) i = n) := Lib.hid (by rw [HN.out, HS2]; rfl)
        clear HS HS2 hzt hzn HGn HN
        go_wp2_with fail
        go_ret
        exact .mk (by rw [HR.out]; rfl) HW2.out
    · have hlt2 : ¬ ((i : Int) + n < 8) := by omega
      have HR : Hid (runZ z (8 - i) i = n) := Lib.hid (by rw [HN.out, show 8 - (i + n) = 0 by omega]; rfl)
      clear HN
      go_wp2_with fail
      go_ret
      exact .mk (by rw [HR.out]; rfl) HW.out

set_option maxRecDepth 20000 in
set_option maxHeartbeats 8000000 in
theorem rtext_wrong (six : Bool) (B : Nat → Int) (hr : rightB six B = false) (w : World) :
    Calls Tryd.prog 22 #[adV six B] w (RetAt w (.string ⟨([] : List UInt8).toArray⟩)) := by
  have HR : Hid (∀ w, Calls Tryd.prog 18 #[adV six B] w (RetAt w (.bool false))) := Lib.hid fun w => by rw [← hr]; exact rright_any six B w
  clear hr
  unfold adV at *
  go_enter Tryd.func22, Tryd.ntmps22
  go_wp2_with fail
  refine Calls.later (HR.out _) ?_
  intro x
  go_wp2_with fail
  go_ret
  exact .mk rfl (Below.lat (Below.all (Below.refl _ _) _))

theorem digits10_dec (b : Nat) (h : b < 65536) (w : World) : Calls Tryd.prog 36 #[.int .i64 (b : Int), .int .i64 10] w (RetAt w (.string ⟨(Lib.decDigits b).toArray⟩)) := by
  have := digits10_any b (b : Int) w (by omega) (by omega) (by omega)
  rwa [Int.toNat_natCast, digB_ten b b (Nat.le_refl _)] at this

end Go.Proofs.YtcadpcppnllhnaaDoor
end

/- Walks over texts: the reference's text of an address of four bytes. -/
section
set_option linter.unusedSimpArgs false
set_option linter.unusedVariables false
namespace Go.Proofs.YtcadpcppnllhnaaDoor
open Go.RowKit

set_option maxRecDepth 20000 in
set_option maxHeartbeats 8000000 in
theorem rtext_four (B : Nat → Int) (hB : U8 B) (hr : rightB false B = true) (w : World) :
    Calls Tryd.prog 22 #[adV false B] w (RetAt w (.string ⟨(text4 fun i => (B i).toNat).toArray⟩)) := by
  have HR : Hid (∀ w, Calls Tryd.prog 18 #[adV false B] w (RetAt w (.bool true))) := Lib.hid fun w => by rw [← hr]; exact rright_any false B w
  have HX : Hid (AdBox (w.alloc (.cells #[.bool false, .int .u8 (B 0), .int .u8 (B 1), .int .u8 (B 2), .int .u8 (B 3), .int .u8 (B 4), .int .u8 (B 5), .int .u8 (B 6), .int .u8 (B 7), .int .u8 (B 8), .int .u8 (B 9), .int .u8 (B 10), .int .u8 (B 11), .int .u8 (B 12), .int .u8 (B 13), .int .u8 (B 14), .int .u8 (B 15)] 29)) w.heap.size 29 false B) := Lib.hid (AdBox.made w _ false B)
  have HW : Hid (Below w.heap.size w (w.alloc (.cells #[.bool false, .int .u8 (B 0), .int .u8 (B 1), .int .u8 (B 2), .int .u8 (B 3), .int .u8 (B 4), .int .u8 (B 5), .int .u8 (B 6), .int .u8 (B 7), .int .u8 (B 8), .int .u8 (B 9), .int .u8 (B 10), .int .u8 (B 11), .int .u8 (B 12), .int .u8 (B 13), .int .u8 (B 14), .int .u8 (B 15)] 29))) := Lib.hid (Below.all (Below.refl w.heap.size w) _)
  have HT : Hid (text4 (fun i => (B i).toNat) = Lib.decDigits (B 0).toNat ++ [46] ++ Lib.decDigits (B 1).toNat ++ [46] ++ Lib.decDigits (B 2).toNat ++ [46] ++ Lib.decDigits (B 3).toNat) := Lib.hid (by
    show joinL 46 [Lib.decDigits (B 0).toNat, Lib.decDigits (B 1).toNat, Lib.decDigits (B 2).toNat, Lib.decDigits (B 3).toNat] = _
    simp [joinL])
  have h0 := hB 0
  have h1 := hB 1
  have h2 := hB 2
  have h3 := hB 3
  generalize text4 (fun i => (B i).toNat) = T at *
  clear hB hr
  unfold adV at *
  go_enter Tryd.func22, Tryd.ntmps22
  go_wp2_with fail
  generalize w.alloc (.cells #[.bool false, .int .u8 (B 0), .int .u8 (B 1), .int .u8 (B 2), .int .u8 (B 3), .int .u8 (B 4), .int .u8 (B 5), .int .u8 (B 6), .int .u8 (B 7), .int .u8 (B 8), .int .u8 (B 9), .int .u8 (B 10), .int .u8 (B 11), .int .u8 (B 12), .int .u8 (B 13), .int .u8 (B 14), .int .u8 (B 15)] 29) = w1 at *
  refine Calls.mono (HR.out _) ?_
  rintro e w2 ⟨rfl, hb2⟩
  have HX2 := Lib.hid (HX.out.below hb2)
  have HW2 := Lib.hid (Below.via HW.out hb2)
  have hsx := HX2.out.six
  clear hb2 HX HW HR
  go_wp2_with fail
  clear hsx
  have hc0 : w2.cell? ⟨w.heap.size, 1, none⟩ = some (.int .u8 (B 0)) := HX2.out.cell 0 (by omega)
  have hc1 : w2.cell? ⟨w.heap.size, 2, none⟩ = some (.int .u8 (B 1)) := HX2.out.cell 1 (by omega)
  have hc2 : w2.cell? ⟨w.heap.size, 3, none⟩ = some (.int .u8 (B 2)) := HX2.out.cell 2 (by omega)
  have hc3 : w2.cell? ⟨w.heap.size, 4, none⟩ = some (.int .u8 (B 3)) := HX2.out.cell 3 (by omega)
  have hlt := HX2.out.lt
  obtain ⟨b0, e0⟩ : ∃ b : Nat, B 0 = b := ⟨(B 0).toNat, by omega⟩
  obtain ⟨b1, e1⟩ : ∃ b : Nat, B 1 = b := ⟨(B 1).toNat, by omega⟩
  obtain ⟨b2, e2⟩ : ∃ b : Nat, B 2 = b := ⟨(B 2).toNat, by omega⟩
  obtain ⟨b3, e3⟩ : ∃ b : Nat, B 3 = b := ⟨(B 3).toNat, by omega⟩
  rw [e0, e1, e2, e3] at HT
  rw [e0] at hc0 h0
  rw [e1] at hc1 h1
  rw [e2] at hc2 h2
  rw [e3] at hc3 h3
  simp only [Int.toNat_natCast] at HT
  clear e0 e1 e2 e3
  have HD0 := Lib.hid (fun w => digits10_dec b0 (by omega) w)
  have HD1 := Lib.hid (fun w => digits10_dec b1 (by omega) w)
  have HD2 := Lib.hid (fun w => digits10_dec b2 (by omega) w)
  have HD3 := Lib.hid (fun w => digits10_dec b3 (by omega) w)
  have l0 := decDigits_small b0 (by omega)
  have l1 := decDigits_small b1 (by omega)
  have l2 := decDigits_small b2 (by omega)
  have l3 := decDigits_small b3 (by omega)
  generalize Lib.decDigits b0 = d0 at *
  generalize Lib.decDigits b1 = d1 at *
  generalize Lib.decDigits b2 = d2 at *
  generalize Lib.decDigits b3 = d3 at *
  refine wp_region_later (by kernel_rfl) (by kernel_rfl) ?_
  repeat go_big_quiet_step (fail)
  go_big_quiet_step ((go_at_call 36; exact later_call (HD0.out _)))
  repeat go_big_quiet_step (fail)
  go_big_quiet_step ((go_at_call 36; exact later_call (HD1.out _)))
  repeat go_big_quiet_step (fail)
  go_big_quiet_step ((go_at_call 36; exact later_call (HD2.out _)))
  repeat go_big_quiet_step (fail)
  go_big_quiet_step ((go_at_call 36; exact later_call (HD3.out _)))
  repeat go_big_quiet_step (fail)
  refine wpQuiet_nil ?_
  intro x
  go_wp2_with fail
  go_ret
  refine .mk ?_ (HW2.out.trans (x.below.mono HW2.out.size))
  rw [HT.out]
  simp only [← bytes_append]
  rfl

end Go.Proofs.YtcadpcppnllhnaaDoor
end
