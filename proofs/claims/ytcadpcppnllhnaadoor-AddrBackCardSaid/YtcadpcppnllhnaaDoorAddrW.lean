/- Walks over texts: the reference's ParsePrefix. -/
import Derived.Test.YtcadpcppnllhnaaDoorAddrU
set_option linter.unusedSimpArgs false
set_option linter.unusedVariables false
namespace Go.Proofs.YtcadpcppnllhnaaDoor
open Go.RowKit

set_option maxRecDepth 20000 in
set_option maxHeartbeats 8000000 in
theorem rpparse_any (s : ByteArray) (w : World) (hs : s.size ≤ 1000) : Calls Tryd.prog 10 #[.string s] w (RetAt w (ppV (ppL s.data.toList))) := by
  have hls : s.data.toList.length = s.size := by rw [Array.length_toList, ByteArray.size_data]
  have HPL : Hid (∀ p ∈ cutsL 47 s.data.toList, p.length ≤ 1000) := Lib.hid (fun p hp => by have := cutsL_len 47 _ p hp; omega)
  have HPC : Hid ((cutsL 47 s.data.toList).length ≤ 1001) := Lib.hid (by have := cutsL_count 47 s.data.toList; omega)
  have HCA := Lib.hid (fun w => cuts_any s 47 w hs)
  have HPP := Lib.hid (ppL_cuts s.data.toList)
  have HPR := Lib.hid (fun p (h : ppL s.data.toList = some p) => ppL_right h)
  clear hls
  generalize ppL s.data.toList = R at *
  generalize cutsL 47 s.data.toList = P at *
  have HB0 : Hid (Below w.heap.size w (w.alloc (.cells #[.bool false, .int .u8 ((fun _ => (0 : Int)) 0), .int .u8 ((fun _ => (0 : Int)) 1), .int .u8 ((fun _ => (0 : Int)) 2), .int .u8 ((fun _ => (0 : Int)) 3), .int .u8 ((fun _ => (0 : Int)) 4), .int .u8 ((fun _ => (0 : Int)) 5), .int .u8 ((fun _ => (0 : Int)) 6), .int .u8 ((fun _ => (0 : Int)) 7), .int .u8 ((fun _ => (0 : Int)) 8), .int .u8 ((fun _ => (0 : Int)) 9), .int .u8 ((fun _ => (0 : Int)) 10), .int .u8 ((fun _ => (0 : Int)) 11), .int .u8 ((fun _ => (0 : Int)) 12), .int .u8 ((fun _ => (0 : Int)) 13), .int .u8 ((fun _ => (0 : Int)) 14), .int .u8 ((fun _ => (0 : Int)) 15), .int .i64 0] 37))) := Lib.hid (Below.all (Below.refl _ _) _)
  have HX0 : Hid (PfBox (w.alloc (.cells #[.bool false, .int .u8 ((fun _ => (0 : Int)) 0), .int .u8 ((fun _ => (0 : Int)) 1), .int .u8 ((fun _ => (0 : Int)) 2), .int .u8 ((fun _ => (0 : Int)) 3), .int .u8 ((fun _ => (0 : Int)) 4), .int .u8 ((fun _ => (0 : Int)) 5), .int .u8 ((fun _ => (0 : Int)) 6), .int .u8 ((fun _ => (0 : Int)) 7), .int .u8 ((fun _ => (0 : Int)) 8), .int .u8 ((fun _ => (0 : Int)) 9), .int .u8 ((fun _ => (0 : Int)) 10), .int .u8 ((fun _ => (0 : Int)) 11), .int .u8 ((fun _ => (0 : Int)) 12), .int .u8 ((fun _ => (0 : Int)) 13), .int .u8 ((fun _ => (0 : Int)) 14), .int .u8 ((fun _ => (0 : Int)) 15), .int .i64 0] 37)) w.heap.size 37 false (fun _ => 0) 0) := Lib.hid (PfBox.made0 w _)
  go_enter Tryd.func10, Tryd.ntmps10
  go_wp2_with fail
  refine Calls.mono (HCA.out _) ?_
  rintro e w1 ⟨op, capp, rfl, HO, HB⟩
  have HX1 := Lib.hid (HX0.out.below HB)
  have HB1 := Lib.hid (Below.via HB0.out HB)
  have HOO := Lib.hid HO
  clear HO HB HX0 HB0 HCA
  rcases HPP.out with ⟨a, b, rfl, hP⟩ | ⟨hn2, hP⟩
  · have HP := Lib.hid hP
    have hla := HPL.out a (by simp)
    have hlb := HPL.out b (by simp)
    clear HPP hP HPL HPC HPR
    obtain ⟨g, off, hop, hbg, hg, hc, ht⟩ := HOO.out.here (by simp)
    subst hop
    have hca := hc 0 (strV a) (by simp)
    have hcb := hc 1 (strV b) (by simp)
    clear hc ht HOO
    unfold strV at hca hcb
    have HPA : Hid (∀ w, Calls Tryd.prog 8 #[.string ⟨a.toArray⟩] w (RetAt w (parseV (parseL a)))) := Lib.hid fun w => rparse_any ⟨a.toArray⟩ w (by simp [ByteArray.size]; omega)
    have HNU : Hid (∀ w, Calls Tryd.prog 35 #[.string ⟨b.toArray⟩, .int .i64 (10 : Nat), .int .i64 (129 : Nat)] w (RetAt w (numV (numberL 10 129 b)))) := Lib.hid fun w => number_any ⟨b.toArray⟩ 10 129 w (by simp [ByteArray.size]; omega) (by decide) (by decide) (by decide)
    have HPV := Lib.hid (parseV_cases a)
    simp only [List.length_cons, List.length_nil]
    rw [show off + 0 = off from rfl] at hca
    go_wp2_with fail
    refine Calls.mono (HPA.out _) ?_
    rintro e w2 ⟨rfl, hb2⟩
    have HX2 := Lib.hid (HX1.out.below hb2)
    have HB2 := Lib.hid (Below.via HB1.out hb2)
    have hca2 := (hb2.cell (World.block_lt_of_cell? w1 _ hca)).trans hca
    have hcb2 := (hb2.cell (World.block_lt_of_cell? w1 _ hcb)).trans hcb
    clear hb2 HX1 HB1 HPA hca hcb
    rcases HPV.out with ⟨six, B, hp, hr, hU, hv⟩ | ⟨hp, hv⟩
    · rw [hv]
      have HPs := Lib.hid hp
      have HRI := Lib.hid hr
      have HU := Lib.hid hU
      clear HPV hp hr hU hv
      unfold adV
      have HX3 := Lib.hid (HX2.out.alloc (.cells #[.bool six, .int .u8 (B 0), .int .u8 (B 1), .int .u8 (B 2), .int .u8 (B 3), .int .u8 (B 4), .int .u8 (B 5), .int .u8 (B 6), .int .u8 (B 7), .int .u8 (B 8), .int .u8 (B 9), .int .u8 (B 10), .int .u8 (B 11), .int .u8 (B 12), .int .u8 (B 13), .int .u8 (B 14), .int .u8 (B 15)] 29))
      have HB3 := Lib.hid (Below.all HB2.out (.cells #[.bool six, .int .u8 (B 0), .int .u8 (B 1), .int .u8 (B 2), .int .u8 (B 3), .int .u8 (B 4), .int .u8 (B 5), .int .u8 (B 6), .int .u8 (B 7), .int .u8 (B 8), .int .u8 (B 9), .int .u8 (B 10), .int .u8 (B 11), .int .u8 (B 12), .int .u8 (B 13), .int .u8 (B 14), .int .u8 (B 15)] 29))
      have HY3 := Lib.hid (AdBox.made w2 29 six B)
      have hcb3 : (w2.alloc (.cells #[.bool six, .int .u8 (B 0), .int .u8 (B 1), .int .u8 (B 2), .int .u8 (B 3), .int .u8 (B 4), .int .u8 (B 5), .int .u8 (B 6), .int .u8 (B 7), .int .u8 (B 8), .int .u8 (B 9), .int .u8 (B 10), .int .u8 (B 11), .int .u8 (B 12), .int .u8 (B 13), .int .u8 (B 14), .int .u8 (B 15)] 29)).cell? ⟨g, off + 1, none⟩ = some (.string ⟨b.toArray⟩) := ((Below.all (Below.refl _ _) _).cell (World.block_lt_of_cell? w2 _ hcb2)).trans hcb2
      clear HX2 HB2 hca2 hcb2
      go_wp2_with fail
      generalize w2.alloc (.cells #[.bool six, .int .u8 (B 0), .int .u8 (B 1), .int .u8 (B 2), .int .u8 (B 3), .int .u8 (B 4), .int .u8 (B 5), .int .u8 (B 6), .int .u8 (B 7), .int .u8 (B 8), .int .u8 (B 9), .int .u8 (B 10), .int .u8 (B 11), .int .u8 (B 12), .int .u8 (B 13), .int .u8 (B 14), .int .u8 (B 15)] 29) = w3 at *
      refine Calls.mono (HNU.out w3) ?_
      rintro e w4 ⟨rfl, hb4⟩
      have HX4 := Lib.hid (HX3.out.below hb4)
      have HB4 := Lib.hid (Below.via HB3.out hb4)
      have hpp := (HY3.out.below hb4).part
      have hlt4 := HX4.out.lt
      have hcb4 := (hb4.cell (World.block_lt_of_cell? w3 _ hcb3)).trans hcb3
      clear hb4 HX3 HB3 HY3 hcb3
      cases hn : numberL 10 129 b with
      | none =>
        have HR : Hid (R = none) := Lib.hid (by rw [HP.out, show decL 129 b = none by unfold decL; rw [hn]]; exact pfOf_none _)
        simp only [numV]
        clear hn
        unfold pfV at *
        have HX8 := Lib.hid (HX4.out.alloc (.cells #[.bool six, .int .u8 (B 0), .int .u8 (B 1), .int .u8 (B 2), .int .u8 (B 3), .int .u8 (B 4), .int .u8 (B 5), .int .u8 (B 6), .int .u8 (B 7), .int .u8 (B 8), .int .u8 (B 9), .int .u8 (B 10), .int .u8 (B 11), .int .u8 (B 12), .int .u8 (B 13), .int .u8 (B 14), .int .u8 (B 15), .int .i64 (0 : Int)] 37))
        have HB8 := Lib.hid (Below.all HB4.out (.cells #[.bool six, .int .u8 (B 0), .int .u8 (B 1), .int .u8 (B 2), .int .u8 (B 3), .int .u8 (B 4), .int .u8 (B 5), .int .u8 (B 6), .int .u8 (B 7), .int .u8 (B 8), .int .u8 (B 9), .int .u8 (B 10), .int .u8 (B 11), .int .u8 (B 12), .int .u8 (B 13), .int .u8 (B 14), .int .u8 (B 15), .int .i64 (0 : Int)] 37))
        have HY8 := Lib.hid (PfBox.made w4 37 six B (0 : Int))
        have hcb8 : (w4.alloc (.cells #[.bool six, .int .u8 (B 0), .int .u8 (B 1), .int .u8 (B 2), .int .u8 (B 3), .int .u8 (B 4), .int .u8 (B 5), .int .u8 (B 6), .int .u8 (B 7), .int .u8 (B 8), .int .u8 (B 9), .int .u8 (B 10), .int .u8 (B 11), .int .u8 (B 12), .int .u8 (B 13), .int .u8 (B 14), .int .u8 (B 15), .int .i64 (0 : Int)] 37)).cell? ⟨g, off + 1, none⟩ = some (.string ⟨b.toArray⟩) := ((Below.all (Below.refl _ _) _).cell (World.block_lt_of_cell? w4 _ hcb4)).trans hcb4
        go_wp2_with fail
        clear HX4 HB4 hcb4 hpp
        generalize w4.alloc (.cells #[.bool six, .int .u8 (B 0), .int .u8 (B 1), .int .u8 (B 2), .int .u8 (B 3), .int .u8 (B 4), .int .u8 (B 5), .int .u8 (B 6), .int .u8 (B 7), .int .u8 (B 8), .int .u8 (B 9), .int .u8 (B 10), .int .u8 (B 11), .int .u8 (B 12), .int .u8 (B 13), .int .u8 (B 14), .int .u8 (B 15), .int .i64 (0 : Int)] 37) = w8 at *
        have hp8 := HY8.out.part
        have hl8 := HY8.out.lt
        have hg8 : g < w8.heap.size := World.block_lt_of_cell? w8 _ hcb8
        refine wp_region_later (by kernel_rfl) (by kernel_rfl) ?_
        repeat go_big_quiet_step (fail)
        refine wpQuiet_nil ?_
        intro x
        have HX9 := Lib.hid (HX8.out.below x.below)
        have HB9 := Lib.hid (Below.via HB8.out x.below)
        have hrr := HX9.out.row
        have HH := Lib.hid HX9.out.heap
        go_wp2_with fail
        exact bodyPost_ret (v := .tuple #[pfV false (fun _ => 0) 0, .int .i64 40]) (results_pf2 _ _ Tryd.underlying37 info_rpf rfl _ _ w.heap.size (.int .i64 40) rfl rfl (partOf_set2 HH.out)) rfl (.mk (by rw [HR.out]; rfl) (below_setRow HB9.out (Nat.le_refl _) _))
      | some n =>
        simp only [numV]
        have hn129 := numberL_bd (by decide) hn
        have HD : Hid (∀ w, Calls Tryd.prog 36 #[.int .i64 (n : Int), .int .i64 10] w (RetAt w (.string ⟨(Lib.decDigits n).toArray⟩))) := Lib.hid fun w => by
          have := digits10_any n (n : Int) w (by omega) (by omega) (by omega)
          rwa [Int.toNat_natCast, digB_ten n n (Nat.le_refl _)] at this
        by_cases hq : Lib.decDigits n = b
        · have hd : decL 129 b = some n := by unfold decL; rw [hn]; simp only; rw [if_pos hq]
          have HR : Hid (R = if rightPB six B (n : Int) = true then some (six, B, n) else none) := Lib.hid (by rw [HP.out, HPs.out, hd]; rfl)
          have HPR := Lib.hid (fun w => rpright_any six B (n : Int) HU.out (by omega) (by omega) w)
          clear hd hn HP HPs hlb hla HNU
          subst hq
          unfold pfV at *
          have HX8 := Lib.hid (HX4.out.alloc (.cells #[.bool six, .int .u8 (B 0), .int .u8 (B 1), .int .u8 (B 2), .int .u8 (B 3), .int .u8 (B 4), .int .u8 (B 5), .int .u8 (B 6), .int .u8 (B 7), .int .u8 (B 8), .int .u8 (B 9), .int .u8 (B 10), .int .u8 (B 11), .int .u8 (B 12), .int .u8 (B 13), .int .u8 (B 14), .int .u8 (B 15), .int .i64 (n : Int)] 37))
          have HB8 := Lib.hid (Below.all HB4.out (.cells #[.bool six, .int .u8 (B 0), .int .u8 (B 1), .int .u8 (B 2), .int .u8 (B 3), .int .u8 (B 4), .int .u8 (B 5), .int .u8 (B 6), .int .u8 (B 7), .int .u8 (B 8), .int .u8 (B 9), .int .u8 (B 10), .int .u8 (B 11), .int .u8 (B 12), .int .u8 (B 13), .int .u8 (B 14), .int .u8 (B 15), .int .i64 (n : Int)] 37))
          have HY8 := Lib.hid (PfBox.made w4 37 six B (n : Int))
          have hcb8 : (w4.alloc (.cells #[.bool six, .int .u8 (B 0), .int .u8 (B 1), .int .u8 (B 2), .int .u8 (B 3), .int .u8 (B 4), .int .u8 (B 5), .int .u8 (B 6), .int .u8 (B 7), .int .u8 (B 8), .int .u8 (B 9), .int .u8 (B 10), .int .u8 (B 11), .int .u8 (B 12), .int .u8 (B 13), .int .u8 (B 14), .int .u8 (B 15), .int .i64 (n : Int)] 37)).cell? ⟨g, off + 1, none⟩ = some (.string ⟨(Lib.decDigits n).toArray⟩) := ((Below.all (Below.refl _ _) _).cell (World.block_lt_of_cell? w4 _ hcb4)).trans hcb4
          go_wp2_with fail
          clear HX4 HB4 hcb4 hpp
          generalize w4.alloc (.cells #[.bool six, .int .u8 (B 0), .int .u8 (B 1), .int .u8 (B 2), .int .u8 (B 3), .int .u8 (B 4), .int .u8 (B 5), .int .u8 (B 6), .int .u8 (B 7), .int .u8 (B 8), .int .u8 (B 9), .int .u8 (B 10), .int .u8 (B 11), .int .u8 (B 12), .int .u8 (B 13), .int .u8 (B 14), .int .u8 (B 15), .int .i64 (n : Int)] 37) = w8 at *
          have hp8 := HY8.out.part
          have hl8 := HY8.out.lt
          have hg8 : g < w8.heap.size := World.block_lt_of_cell? w8 _ hcb8
          generalize hrb : rightPB six B (n : Int) = rb at *
          cases rb
          · rw [if_neg (by simp)] at HR
            refine wp_region_later (by kernel_rfl) (by kernel_rfl) ?_
            repeat go_big_quiet_step ((first | (go_at_call 36; exact later_call (HD.out _)) | (go_at_call 39; exact later_call (HPR.out _))))
            refine wpQuiet_nil ?_
            intro x
            have HX9 := Lib.hid (HX8.out.below x.below)
            have HB9 := Lib.hid (Below.via HB8.out x.below)
            have hrr := HX9.out.row
            have HH := Lib.hid HX9.out.heap
            go_wp2_with fail
            exact bodyPost_ret (v := .tuple #[pfV false (fun _ => 0) 0, .int .i64 40]) (results_pf2 _ _ Tryd.underlying37 info_rpf rfl _ _ w.heap.size (.int .i64 40) rfl rfl (partOf_set2 HH.out)) rfl (.mk (by rw [HR.out]; rfl) (below_setRow HB9.out (Nat.le_refl _) _))
          · rw [if_pos rfl] at HR
            refine wp_region_later (by kernel_rfl) (by kernel_rfl) ?_
            repeat go_big_quiet_step ((first | (go_at_call 36; exact later_call (HD.out _)) | (go_at_call 39; exact later_call (HPR.out _))))
            refine wpQuiet_nil ?_
            intro x
            have HX9 := Lib.hid (HX8.out.below x.below)
            have HB9 := Lib.hid (Below.via HB8.out x.below)
            have hp9 := (HY8.out.below x.below).part
            have hrr := HX9.out.row
            have HH := Lib.hid HX9.out.heap
            go_wp2_with fail
            exact bodyPost_ret (v := .tuple #[pfV six B (n : Int), .int .i64 0]) (results_pf2 _ _ Tryd.underlying37 info_rpf rfl _ _ w.heap.size (.int .i64 0) rfl rfl (partOf_set2 HH.out)) rfl (.mk (by rw [HR.out]; rfl) (below_setRow HB9.out (Nat.le_refl _) _))
        · have HR : Hid (R = none) := Lib.hid (by rw [HP.out, show decL 129 b = none by unfold decL; rw [hn]; simp only; rw [if_neg hq]]; exact pfOf_none _)
          have hqb : (Lib.decDigits n == b) = false := by simpa using hq
          clear hn hq
          unfold pfV at *
          have HX8 := Lib.hid (HX4.out.alloc (.cells #[.bool six, .int .u8 (B 0), .int .u8 (B 1), .int .u8 (B 2), .int .u8 (B 3), .int .u8 (B 4), .int .u8 (B 5), .int .u8 (B 6), .int .u8 (B 7), .int .u8 (B 8), .int .u8 (B 9), .int .u8 (B 10), .int .u8 (B 11), .int .u8 (B 12), .int .u8 (B 13), .int .u8 (B 14), .int .u8 (B 15), .int .i64 (n : Int)] 37))
          have HB8 := Lib.hid (Below.all HB4.out (.cells #[.bool six, .int .u8 (B 0), .int .u8 (B 1), .int .u8 (B 2), .int .u8 (B 3), .int .u8 (B 4), .int .u8 (B 5), .int .u8 (B 6), .int .u8 (B 7), .int .u8 (B 8), .int .u8 (B 9), .int .u8 (B 10), .int .u8 (B 11), .int .u8 (B 12), .int .u8 (B 13), .int .u8 (B 14), .int .u8 (B 15), .int .i64 (n : Int)] 37))
          have HY8 := Lib.hid (PfBox.made w4 37 six B (n : Int))
          have hcb8 : (w4.alloc (.cells #[.bool six, .int .u8 (B 0), .int .u8 (B 1), .int .u8 (B 2), .int .u8 (B 3), .int .u8 (B 4), .int .u8 (B 5), .int .u8 (B 6), .int .u8 (B 7), .int .u8 (B 8), .int .u8 (B 9), .int .u8 (B 10), .int .u8 (B 11), .int .u8 (B 12), .int .u8 (B 13), .int .u8 (B 14), .int .u8 (B 15), .int .i64 (n : Int)] 37)).cell? ⟨g, off + 1, none⟩ = some (.string ⟨b.toArray⟩) := ((Below.all (Below.refl _ _) _).cell (World.block_lt_of_cell? w4 _ hcb4)).trans hcb4
          go_wp2_with fail
          clear HX4 HB4 hcb4 hpp
          generalize w4.alloc (.cells #[.bool six, .int .u8 (B 0), .int .u8 (B 1), .int .u8 (B 2), .int .u8 (B 3), .int .u8 (B 4), .int .u8 (B 5), .int .u8 (B 6), .int .u8 (B 7), .int .u8 (B 8), .int .u8 (B 9), .int .u8 (B 10), .int .u8 (B 11), .int .u8 (B 12), .int .u8 (B 13), .int .u8 (B 14), .int .u8 (B 15), .int .i64 (n : Int)] 37) = w8 at *
          have hp8 := HY8.out.part
          have hl8 := HY8.out.lt
          have hg8 : g < w8.heap.size := World.block_lt_of_cell? w8 _ hcb8
          refine wp_region_later (by kernel_rfl) (by kernel_rfl) ?_
          repeat go_big_quiet_step ((go_at_call 36; exact later_call (HD.out _)))
          refine wpQuiet_nil ?_
          intro x
          have HX9 := Lib.hid (HX8.out.below x.below)
          have HB9 := Lib.hid (Below.via HB8.out x.below)
          have hrr := HX9.out.row
          have HH := Lib.hid HX9.out.heap
          go_wp2_with fail
          exact bodyPost_ret (v := .tuple #[pfV false (fun _ => 0) 0, .int .i64 40]) (results_pf2 _ _ Tryd.underlying37 info_rpf rfl _ _ w.heap.size (.int .i64 40) rfl rfl (partOf_set2 HH.out)) rfl (.mk (by rw [HR.out]; rfl) (below_setRow HB9.out (Nat.le_refl _) _))
    · rw [hv]
      have HR : Hid (R = none) := Lib.hid (by rw [HP.out, hp]; rfl)
      clear HPV hp hv HP
      unfold adV
      have HX3 := Lib.hid (HX2.out.alloc (.cells #[.bool false, .int .u8 ((fun _ => (0 : Int)) 0), .int .u8 ((fun _ => (0 : Int)) 1), .int .u8 ((fun _ => (0 : Int)) 2), .int .u8 ((fun _ => (0 : Int)) 3), .int .u8 ((fun _ => (0 : Int)) 4), .int .u8 ((fun _ => (0 : Int)) 5), .int .u8 ((fun _ => (0 : Int)) 6), .int .u8 ((fun _ => (0 : Int)) 7), .int .u8 ((fun _ => (0 : Int)) 8), .int .u8 ((fun _ => (0 : Int)) 9), .int .u8 ((fun _ => (0 : Int)) 10), .int .u8 ((fun _ => (0 : Int)) 11), .int .u8 ((fun _ => (0 : Int)) 12), .int .u8 ((fun _ => (0 : Int)) 13), .int .u8 ((fun _ => (0 : Int)) 14), .int .u8 ((fun _ => (0 : Int)) 15)] 29))
      have HB3 := Lib.hid (Below.all HB2.out (.cells #[.bool false, .int .u8 ((fun _ => (0 : Int)) 0), .int .u8 ((fun _ => (0 : Int)) 1), .int .u8 ((fun _ => (0 : Int)) 2), .int .u8 ((fun _ => (0 : Int)) 3), .int .u8 ((fun _ => (0 : Int)) 4), .int .u8 ((fun _ => (0 : Int)) 5), .int .u8 ((fun _ => (0 : Int)) 6), .int .u8 ((fun _ => (0 : Int)) 7), .int .u8 ((fun _ => (0 : Int)) 8), .int .u8 ((fun _ => (0 : Int)) 9), .int .u8 ((fun _ => (0 : Int)) 10), .int .u8 ((fun _ => (0 : Int)) 11), .int .u8 ((fun _ => (0 : Int)) 12), .int .u8 ((fun _ => (0 : Int)) 13), .int .u8 ((fun _ => (0 : Int)) 14), .int .u8 ((fun _ => (0 : Int)) 15)] 29))
      have HY3 := Lib.hid (AdBox.made w2 29 false (fun _ => (0 : Int)))
      have hcb3 : (w2.alloc (.cells #[.bool false, .int .u8 ((fun _ => (0 : Int)) 0), .int .u8 ((fun _ => (0 : Int)) 1), .int .u8 ((fun _ => (0 : Int)) 2), .int .u8 ((fun _ => (0 : Int)) 3), .int .u8 ((fun _ => (0 : Int)) 4), .int .u8 ((fun _ => (0 : Int)) 5), .int .u8 ((fun _ => (0 : Int)) 6), .int .u8 ((fun _ => (0 : Int)) 7), .int .u8 ((fun _ => (0 : Int)) 8), .int .u8 ((fun _ => (0 : Int)) 9), .int .u8 ((fun _ => (0 : Int)) 10), .int .u8 ((fun _ => (0 : Int)) 11), .int .u8 ((fun _ => (0 : Int)) 12), .int .u8 ((fun _ => (0 : Int)) 13), .int .u8 ((fun _ => (0 : Int)) 14), .int .u8 ((fun _ => (0 : Int)) 15)] 29)).cell? ⟨g, off + 1, none⟩ = some (.string ⟨b.toArray⟩) := ((Below.all (Below.refl _ _) _).cell (World.block_lt_of_cell? w2 _ hcb2)).trans hcb2
      clear HX2 HB2 hca2 hcb2
      go_wp2_with fail
      generalize w2.alloc (.cells #[.bool false, .int .u8 ((fun _ => (0 : Int)) 0), .int .u8 ((fun _ => (0 : Int)) 1), .int .u8 ((fun _ => (0 : Int)) 2), .int .u8 ((fun _ => (0 : Int)) 3), .int .u8 ((fun _ => (0 : Int)) 4), .int .u8 ((fun _ => (0 : Int)) 5), .int .u8 ((fun _ => (0 : Int)) 6), .int .u8 ((fun _ => (0 : Int)) 7), .int .u8 ((fun _ => (0 : Int)) 8), .int .u8 ((fun _ => (0 : Int)) 9), .int .u8 ((fun _ => (0 : Int)) 10), .int .u8 ((fun _ => (0 : Int)) 11), .int .u8 ((fun _ => (0 : Int)) 12), .int .u8 ((fun _ => (0 : Int)) 13), .int .u8 ((fun _ => (0 : Int)) 14), .int .u8 ((fun _ => (0 : Int)) 15)] 29) = w3 at *
      refine Calls.mono (HNU.out w3) ?_
      rintro e w4 ⟨rfl, hb4⟩
      have HX4 := Lib.hid (HX3.out.below hb4)
      have HB4 := Lib.hid (Below.via HB3.out hb4)
      have hpp := (HY3.out.below hb4).part
      have hlt4 := HX4.out.lt
      have hcb4 := (hb4.cell (World.block_lt_of_cell? w3 _ hcb3)).trans hcb3
      clear hb4 HX3 HB3 HY3 hcb3
      cases hn : numberL 10 129 b with
      | none =>
        simp only [numV]
        clear hn
        unfold pfV at *
        have HX8 := Lib.hid (HX4.out.alloc (.cells #[.bool false, .int .u8 ((fun _ => (0 : Int)) 0), .int .u8 ((fun _ => (0 : Int)) 1), .int .u8 ((fun _ => (0 : Int)) 2), .int .u8 ((fun _ => (0 : Int)) 3), .int .u8 ((fun _ => (0 : Int)) 4), .int .u8 ((fun _ => (0 : Int)) 5), .int .u8 ((fun _ => (0 : Int)) 6), .int .u8 ((fun _ => (0 : Int)) 7), .int .u8 ((fun _ => (0 : Int)) 8), .int .u8 ((fun _ => (0 : Int)) 9), .int .u8 ((fun _ => (0 : Int)) 10), .int .u8 ((fun _ => (0 : Int)) 11), .int .u8 ((fun _ => (0 : Int)) 12), .int .u8 ((fun _ => (0 : Int)) 13), .int .u8 ((fun _ => (0 : Int)) 14), .int .u8 ((fun _ => (0 : Int)) 15), .int .i64 (0 : Int)] 37))
        have HB8 := Lib.hid (Below.all HB4.out (.cells #[.bool false, .int .u8 ((fun _ => (0 : Int)) 0), .int .u8 ((fun _ => (0 : Int)) 1), .int .u8 ((fun _ => (0 : Int)) 2), .int .u8 ((fun _ => (0 : Int)) 3), .int .u8 ((fun _ => (0 : Int)) 4), .int .u8 ((fun _ => (0 : Int)) 5), .int .u8 ((fun _ => (0 : Int)) 6), .int .u8 ((fun _ => (0 : Int)) 7), .int .u8 ((fun _ => (0 : Int)) 8), .int .u8 ((fun _ => (0 : Int)) 9), .int .u8 ((fun _ => (0 : Int)) 10), .int .u8 ((fun _ => (0 : Int)) 11), .int .u8 ((fun _ => (0 : Int)) 12), .int .u8 ((fun _ => (0 : Int)) 13), .int .u8 ((fun _ => (0 : Int)) 14), .int .u8 ((fun _ => (0 : Int)) 15), .int .i64 (0 : Int)] 37))
        have HY8 := Lib.hid (PfBox.made w4 37 false (fun _ => (0 : Int)) (0 : Int))
        have hcb8 : (w4.alloc (.cells #[.bool false, .int .u8 ((fun _ => (0 : Int)) 0), .int .u8 ((fun _ => (0 : Int)) 1), .int .u8 ((fun _ => (0 : Int)) 2), .int .u8 ((fun _ => (0 : Int)) 3), .int .u8 ((fun _ => (0 : Int)) 4), .int .u8 ((fun _ => (0 : Int)) 5), .int .u8 ((fun _ => (0 : Int)) 6), .int .u8 ((fun _ => (0 : Int)) 7), .int .u8 ((fun _ => (0 : Int)) 8), .int .u8 ((fun _ => (0 : Int)) 9), .int .u8 ((fun _ => (0 : Int)) 10), .int .u8 ((fun _ => (0 : Int)) 11), .int .u8 ((fun _ => (0 : Int)) 12), .int .u8 ((fun _ => (0 : Int)) 13), .int .u8 ((fun _ => (0 : Int)) 14), .int .u8 ((fun _ => (0 : Int)) 15), .int .i64 (0 : Int)] 37)).cell? ⟨g, off + 1, none⟩ = some (.string ⟨b.toArray⟩) := ((Below.all (Below.refl _ _) _).cell (World.block_lt_of_cell? w4 _ hcb4)).trans hcb4
        go_wp2_with fail
        clear HX4 HB4 hcb4 hpp
        generalize w4.alloc (.cells #[.bool false, .int .u8 ((fun _ => (0 : Int)) 0), .int .u8 ((fun _ => (0 : Int)) 1), .int .u8 ((fun _ => (0 : Int)) 2), .int .u8 ((fun _ => (0 : Int)) 3), .int .u8 ((fun _ => (0 : Int)) 4), .int .u8 ((fun _ => (0 : Int)) 5), .int .u8 ((fun _ => (0 : Int)) 6), .int .u8 ((fun _ => (0 : Int)) 7), .int .u8 ((fun _ => (0 : Int)) 8), .int .u8 ((fun _ => (0 : Int)) 9), .int .u8 ((fun _ => (0 : Int)) 10), .int .u8 ((fun _ => (0 : Int)) 11), .int .u8 ((fun _ => (0 : Int)) 12), .int .u8 ((fun _ => (0 : Int)) 13), .int .u8 ((fun _ => (0 : Int)) 14), .int .u8 ((fun _ => (0 : Int)) 15), .int .i64 (0 : Int)] 37) = w8 at *
        have hp8 := HY8.out.part
        have hl8 := HY8.out.lt
        have hg8 : g < w8.heap.size := World.block_lt_of_cell? w8 _ hcb8
        refine wp_region_later (by kernel_rfl) (by kernel_rfl) ?_
        repeat go_big_quiet_step (fail)
        refine wpQuiet_nil ?_
        intro x
        have HX9 := Lib.hid (HX8.out.below x.below)
        have HB9 := Lib.hid (Below.via HB8.out x.below)
        have hrr := HX9.out.row
        have HH := Lib.hid HX9.out.heap
        go_wp2_with fail
        exact bodyPost_ret (v := .tuple #[pfV false (fun _ => 0) 0, .int .i64 40]) (results_pf2 _ _ Tryd.underlying37 info_rpf rfl _ _ w.heap.size (.int .i64 40) rfl rfl (partOf_set2 HH.out)) rfl (.mk (by rw [HR.out]; rfl) (below_setRow HB9.out (Nat.le_refl _) _))
      | some n =>
        simp only [numV]
        have hn129 := numberL_bd (by decide) hn
        clear hn
        unfold pfV at *
        have HX8 := Lib.hid (HX4.out.alloc (.cells #[.bool false, .int .u8 ((fun _ => (0 : Int)) 0), .int .u8 ((fun _ => (0 : Int)) 1), .int .u8 ((fun _ => (0 : Int)) 2), .int .u8 ((fun _ => (0 : Int)) 3), .int .u8 ((fun _ => (0 : Int)) 4), .int .u8 ((fun _ => (0 : Int)) 5), .int .u8 ((fun _ => (0 : Int)) 6), .int .u8 ((fun _ => (0 : Int)) 7), .int .u8 ((fun _ => (0 : Int)) 8), .int .u8 ((fun _ => (0 : Int)) 9), .int .u8 ((fun _ => (0 : Int)) 10), .int .u8 ((fun _ => (0 : Int)) 11), .int .u8 ((fun _ => (0 : Int)) 12), .int .u8 ((fun _ => (0 : Int)) 13), .int .u8 ((fun _ => (0 : Int)) 14), .int .u8 ((fun _ => (0 : Int)) 15), .int .i64 (n : Int)] 37))
        have HB8 := Lib.hid (Below.all HB4.out (.cells #[.bool false, .int .u8 ((fun _ => (0 : Int)) 0), .int .u8 ((fun _ => (0 : Int)) 1), .int .u8 ((fun _ => (0 : Int)) 2), .int .u8 ((fun _ => (0 : Int)) 3), .int .u8 ((fun _ => (0 : Int)) 4), .int .u8 ((fun _ => (0 : Int)) 5), .int .u8 ((fun _ => (0 : Int)) 6), .int .u8 ((fun _ => (0 : Int)) 7), .int .u8 ((fun _ => (0 : Int)) 8), .int .u8 ((fun _ => (0 : Int)) 9), .int .u8 ((fun _ => (0 : Int)) 10), .int .u8 ((fun _ => (0 : Int)) 11), .int .u8 ((fun _ => (0 : Int)) 12), .int .u8 ((fun _ => (0 : Int)) 13), .int .u8 ((fun _ => (0 : Int)) 14), .int .u8 ((fun _ => (0 : Int)) 15), .int .i64 (n : Int)] 37))
        have HY8 := Lib.hid (PfBox.made w4 37 false (fun _ => (0 : Int)) (n : Int))
        have hcb8 : (w4.alloc (.cells #[.bool false, .int .u8 ((fun _ => (0 : Int)) 0), .int .u8 ((fun _ => (0 : Int)) 1), .int .u8 ((fun _ => (0 : Int)) 2), .int .u8 ((fun _ => (0 : Int)) 3), .int .u8 ((fun _ => (0 : Int)) 4), .int .u8 ((fun _ => (0 : Int)) 5), .int .u8 ((fun _ => (0 : Int)) 6), .int .u8 ((fun _ => (0 : Int)) 7), .int .u8 ((fun _ => (0 : Int)) 8), .int .u8 ((fun _ => (0 : Int)) 9), .int .u8 ((fun _ => (0 : Int)) 10), .int .u8 ((fun _ => (0 : Int)) 11), .int .u8 ((fun _ => (0 : Int)) 12), .int .u8 ((fun _ => (0 : Int)) 13), .int .u8 ((fun _ => (0 : Int)) 14), .int .u8 ((fun _ => (0 : Int)) 15), .int .i64 (n : Int)] 37)).cell? ⟨g, off + 1, none⟩ = some (.string ⟨b.toArray⟩) := ((Below.all (Below.refl _ _) _).cell (World.block_lt_of_cell? w4 _ hcb4)).trans hcb4
        go_wp2_with fail
        clear HX4 HB4 hcb4 hpp
        generalize w4.alloc (.cells #[.bool false, .int .u8 ((fun _ => (0 : Int)) 0), .int .u8 ((fun _ => (0 : Int)) 1), .int .u8 ((fun _ => (0 : Int)) 2), .int .u8 ((fun _ => (0 : Int)) 3), .int .u8 ((fun _ => (0 : Int)) 4), .int .u8 ((fun _ => (0 : Int)) 5), .int .u8 ((fun _ => (0 : Int)) 6), .int .u8 ((fun _ => (0 : Int)) 7), .int .u8 ((fun _ => (0 : Int)) 8), .int .u8 ((fun _ => (0 : Int)) 9), .int .u8 ((fun _ => (0 : Int)) 10), .int .u8 ((fun _ => (0 : Int)) 11), .int .u8 ((fun _ => (0 : Int)) 12), .int .u8 ((fun _ => (0 : Int)) 13), .int .u8 ((fun _ => (0 : Int)) 14), .int .u8 ((fun _ => (0 : Int)) 15), .int .i64 (n : Int)] 37) = w8 at *
        have hp8 := HY8.out.part
        have hl8 := HY8.out.lt
        have hg8 : g < w8.heap.size := World.block_lt_of_cell? w8 _ hcb8
        refine wp_region_later (by kernel_rfl) (by kernel_rfl) ?_
        repeat go_big_quiet_step (fail)
        refine wpQuiet_nil ?_
        intro x
        have HX9 := Lib.hid (HX8.out.below x.below)
        have HB9 := Lib.hid (Below.via HB8.out x.below)
        have hrr := HX9.out.row
        have HH := Lib.hid HX9.out.heap
        go_wp2_with fail
        exact bodyPost_ret (v := .tuple #[pfV false (fun _ => 0) 0, .int .i64 40]) (results_pf2 _ _ Tryd.underlying37 info_rpf rfl _ _ w.heap.size (.int .i64 40) rfl rfl (partOf_set2 HH.out)) rfl (.mk (by rw [HR.out]; rfl) (below_setRow HB9.out (Nat.le_refl _) _))
  · have HR := Lib.hid hP
    have hln := HPC.out
    clear HPP hP HPL HPC HOO
    have hn3 : ¬ ((P.length : Int) = 2) := by omega
    generalize P.length = nP at *
    have hrr := HX1.out.row
    have HH := Lib.hid HX1.out.heap
    go_wp2_with fail
    exact bodyPost_ret (v := .tuple #[pfV false (fun _ => 0) 0, .int .i64 40]) (results_pf2 _ _ Tryd.underlying37 info_rpf rfl _ _ w.heap.size (.int .i64 40) rfl rfl (partOf_set2 HH.out)) rfl (.mk (by rw [HR.out]; rfl) (below_setRow HB1.out (Nat.le_refl _) _))
end Go.Proofs.YtcadpcppnllhnaaDoor
