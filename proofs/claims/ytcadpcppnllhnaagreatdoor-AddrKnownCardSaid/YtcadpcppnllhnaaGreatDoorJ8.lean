/- Walks over texts: six. -/
import Derived.Test.YtcadpcppnllhnaaGreatDoorJ7
import Derived.Test.YtcadpcppnllhnaaGreatDoorJ6
import Derived.Test.YtcadpcppnllhnaaGreatDoorJ5

section
set_option linter.unusedSimpArgs false
set_option linter.unusedVariables false
namespace Go.Proofs.YtcadpcppnllhnaaGreatDoor
open Go.RowKit

/-- What both 'six' answer. -/
def SixPost (w : World) (o : Option (List Nat)) : Ending → World → Prop := fun e w' => Below w.heap.size w w' ∧
  ((∃ l, o = some l ∧ e = .returned (.tuple #[adV true (sixB l), .bool true])) ∨ (o = none ∧ e = .returned (.tuple #[adV false fun _ => 0, .bool false])))

section
variable {P : Program}
/-- 'v = append(v, u...)', both own rows of one-cell elements. -/
theorem wpList_append_rows (w : World) {ops : Array Oper} {rest : List Oper} {o : Oper} {a : Act} {Q : Exit → Act → World → Prop}
    (hg : o.guard = none) (s x : Operand) (t : TypeId) (hop : o.op = Op.call { callee := Callee.builtin Builtin.append, args := #[s, x], argTypes := #[t, t] })
    (e : TypeId) (z : Value) (bytes base base2 : Nat) (ht : P.underlying t = some (.slice e)) (hinfo : (P.info? e).map (fun i => (i.zero, i.size, i.bytes)) = some (some z, 1, bytes)) (hzs : z.cells.size = 1)
    (oa : Option Addr) (n cap : Nat) (xs : List Value) (hs : a.eval s = .slice oa n cap) (hown : Owns w base 1 oa n cap xs)
    (A : Option Addr) (m c : Nat) (ys : List Value) (hx : a.eval x = .slice A m c) (hsrc : Owns w base2 1 A m c ys) (h1 : ∀ u ∈ ys, u.oneCell' = true)
    (h63 : n + m ≤ maxLen) (hbytes : (n + m) * bytes ≤ 140737488355328) (hbase : base ≤ w.heap.size)
    (h : ∀ oa' cap' w', Owns w' base 1 oa' (n + m) cap' (xs ++ ys) → w.grownBy w' (oa.map Addr.block) → (∀ a, oa' = some a → oa = some a ∨ w.heap.size ≤ a.block) → wpList P ops Q rest (a.put o.dst (.slice oa' (n + m) cap')) w') :
    wpList P ops Q (o :: rest) a w := by
  rcases Nat.eq_zero_or_pos m with h0 | h0
  · subst h0
    have hy : ys = [] := List.eq_nil_of_length_eq_zero (by simpa using hsrc.len)
    subst hy
    obtain ⟨i, hi, -, h4, -⟩ := info_parts hinfo
    have hr := run_append_empty (P := P) w t o.type e 1 ht (by rw [hi, ← h4]; rfl) oa n cap hown.le A c
    exact Lib.wpList_append_run w hg s x t t hop _ _ hs hx _ _ hr (h oa cap w (by simpa using hown) (World.grownBy_refl w _) fun a ha => .inl ha)
  · obtain ⟨g, off, rfl, -, -, hc, -⟩ := hsrc.here h0
    exact wpList_append_owns w hg s x t hop e z 1 bytes base ht hinfo hzs (by omega) oa n cap xs hs hown ⟨g, off, none⟩ m c ys hx hsrc.len (fun j u hu => by rw [Addr.add_lit]; exact hc j u hu) h1 h0 h63 hbytes hbase h
end

/-- Both bytes of the k-th group are written. -/
theorem ad_six {w : World} {b : Nat} {t : TypeId} {k : Nat} {L : List Nat} (h : AdBox w b t true (fun j => if j < 2 * k then sixB L j else 0)) (hk : k < 8) {u v : Int} (hu : u = sixB L (2 * k)) (hv : v = sixB L (2 * k + 1)) :
    AdBox ((w.setCell ⟨b, 1 + 2 * k, none⟩ (.int .u8 u)).setCell ⟨b, 1 + (2 * k + 1), none⟩ (.int .u8 v)) b t true (fun j => if j < 2 * (k + 1) then sixB L j else 0) :=
  ((h.set (2 * k) (by omega) u).set (2 * k + 1) (by omega) v).congr fun i _ => by
    by_cases e : i = 2 * k + 1
    · subst e; simp only [if_true, if_pos (show 2 * k + 1 < 2 * (k + 1) by omega), hv]
    · by_cases e2 : i = 2 * k
      · subst e2; simp only [if_neg e, if_true, if_pos (show 2 * k < 2 * (k + 1) by omega), hu]
      · simp only [if_neg e, if_neg e2]
        by_cases h : i < 2 * k
        · rw [if_pos h, if_pos (show i < 2 * (k + 1) by omega)]
        · rw [if_neg h, if_neg (show ¬ i < 2 * (k + 1) by omega)]

set_option maxRecDepth 20000 in
set_option maxHeartbeats 8000000 in
theorem six_any (s : ByteArray) (w : World) (hs : s.size ≤ 1000) (henv : Env w) : Calls Tryz.prog 47 #[.string s] w (SixPost w (sixL s.data.toList)) := by
  have HE := Lib.hid henv
  obtain ⟨m, hm⟩ := henv.len
  have HS6 := Lib.hid (sixL_cut s.data.toList)
  have hls : s.data.toList.length = s.size := by rw [Array.length_toList, ByteArray.size_data]
  have hcl := cut_len s.data.toList [58, 58]
  have HC := Lib.hid (fun (w : World) h => Tryz.strings_Cut s ⟨#[58, 58]⟩ m w (by omega) h)
  have HB0 : Hid (Below w.heap.size w (w.alloc (.cells #[.bool false, .int .u8 0, .int .u8 0, .int .u8 0, .int .u8 0, .int .u8 0, .int .u8 0, .int .u8 0, .int .u8 0, .int .u8 0, .int .u8 0, .int .u8 0, .int .u8 0, .int .u8 0, .int .u8 0, .int .u8 0, .int .u8 0] 26))) := Lib.hid (Below.all (Below.refl _ _) _)
  have HM := Lib.hid hm
  rw [show (⟨#[58, 58]⟩ : ByteArray).data.toList = [58, 58] from rfl] at HC
  clear henv hm
  generalize Lib.cut s.data.toList [58, 58] = C at *
  obtain ⟨H, T, short⟩ := C
  obtain ⟨hH, hT⟩ := hcl
  simp only at hH hT HC
  go_enter Tryz.func47, Tryz.ntmps47
  go_wp2_with fail
  have hd0 : ∀ (v : World) (n : Nat), Below v.heap.size v (v.drewN n) := fun v n => ⟨rfl, rfl, rfl, Nat.le_refl _, fun _ _ => rfl⟩
  refine Calls.mono (HC.out _ ((HB0.out.cell (World.block_lt_of_cell? w _ HM.out)).trans HM.out)) ?_
  rintro e w1 ⟨rfl, nd, rfl⟩
  have HX1 := Lib.hid ((AdBox.made0 w 26 false).below (hd0 _ nd))
  have HB1 := Lib.hid (Below.via HB0.out (hd0 _ nd))
  have hW1 : w.heap.size < ((w.alloc (.cells #[.bool false, .int .u8 0, .int .u8 0, .int .u8 0, .int .u8 0, .int .u8 0, .int .u8 0, .int .u8 0, .int .u8 0, .int .u8 0, .int .u8 0, .int .u8 0, .int .u8 0, .int .u8 0, .int .u8 0, .int .u8 0, .int .u8 0] 26)).drewN nd).heap.size := by simp [World.drewN]
  clear hd0 HB0 HC HM
  generalize World.drewN _ nd = w1 at *
  have HE1 := Lib.hid (HE.out.below HB1.out)
  have HR1 : Hid (∀ w, Env w → Calls Tryz.prog 64 #[.string ⟨H.toArray⟩] w (RowPost w (groupsL H))) := Lib.hid fun w h => row_any ⟨H.toArray⟩ w (by simp [ByteArray.size]; omega) h
  have HR2 : Hid (∀ w, Env w → Calls Tryz.prog 64 #[.string ⟨T.toArray⟩] w (RowPost w (groupsL T))) := Lib.hid fun w h => row_any ⟨T.toArray⟩ w (by simp [ByteArray.size]; omega) h
  have HS6' : Hid (sixL s.data.toList = (groupsL H).bind fun l => (groupsL T).bind fun m => if (short = true ∧ l.length + m.length ≤ 7) ∨ (short = false ∧ l.length + m.length = 8) then some (l ++ List.replicate (8 - l.length - m.length) 0 ++ m) else none) := HS6
  clear HS6 hls hH hT hs
  go_wp2_with fail
  refine Calls.mono (HR1.out _ HE1.out) ?_
  rintro e w2 ⟨oa1, cap1, G1, ok1, rfl, hO1, hb2, hl1, hc1⟩
  have HO1 := Lib.hid hO1
  have HE2 := Lib.hid (HE1.out.below hb2)
  have HX2 := Lib.hid (HX1.out.below hb2)
  have HB2 := Lib.hid (Below.via HB1.out hb2)
  have HC1 := Lib.hid hc1
  have HO1l2 := Lib.hid (fun a (ha : oa1 = some a) => hO1.lt ha)
  have hW2 : w1.heap.size ≤ w2.heap.size := hb2.size
  clear hO1 hb2 hc1 HX1 HB1 HE1 HR1
  generalize hn1 : G1.length = n1 at *
  have HN1 := Lib.hid hn1
  clear hn1
  go_wp2_with fail
  refine Calls.mono (HR2.out _ HE2.out) ?_
  rintro e w3 ⟨oa2, cap2, G2, ok2, rfl, hO2, hb3, hl2, hc2⟩
  have HO1 := Lib.hid (HO1.out.below hb3)
  have HO2 := Lib.hid hO2
  have HX3 := Lib.hid (HX2.out.below hb3)
  have HB3 := Lib.hid (Below.via HB2.out hb3)
  have HC2 := Lib.hid hc2
  have HO1lt := Lib.hid (fun a (ha : oa1 = some a) => HO1.out.lt ha)
  have hW3 : w2.heap.size ≤ w3.heap.size := hb3.size
  have hpp := HX3.out.part
  have hrr := HX3.out.row
  have HH := Lib.hid HX3.out.heap
  clear hO2 hb3 hc2 HX2 HB2 HE2 HR2
  generalize hn2 : G2.length = n2 at *
  have HN2 := Lib.hid hn2
  clear hn2
  cases ok1
  · have HF : Hid (sixL s.data.toList = none) := Lib.hid (by
      rcases HC1.out with ⟨h, -⟩ | ⟨-, h⟩
      · cases h
      · rw [HS6'.out, h]; rfl)
    go_wp2_with fail
    refine bodyPost_ret (v := .tuple #[adV false fun _ => 0, .bool false]) ?_ ?_ ?_
    · exact results_ad2 _ _ Tryz.underlying26 info_ad rfl _ _ w.heap.size (.bool false) rfl rfl (partOf_set HH.out)
    · rfl
    · exact ⟨below_setRow HB3.out (Nat.le_refl _) _, .inr ⟨HF.out, rfl⟩⟩
  cases ok2
  · have HF : Hid (sixL s.data.toList = none) := Lib.hid (by
      rcases HC2.out with ⟨h, -⟩ | ⟨-, h⟩
      · cases h
      · rw [HS6'.out, h]; cases groupsL H <;> rfl)
    go_wp2_with fail
    refine bodyPost_ret (v := .tuple #[adV false fun _ => 0, .bool false]) ?_ ?_ ?_
    · exact results_ad2 _ _ Tryz.underlying26 info_ad rfl _ _ w.heap.size (.bool false) rfl rfl (partOf_set HH.out)
    · rfl
    · exact ⟨below_setRow HB3.out (Nat.le_refl _) _, .inr ⟨HF.out, rfl⟩⟩
  have HG1 : Hid (groupsL H = some G1) := Lib.hid (by rcases HC1.out with ⟨-, h⟩ | ⟨h, -⟩; exact h; cases h)
  have HG2 : Hid (groupsL T = some G2) := Lib.hid (by rcases HC2.out with ⟨-, h⟩ | ⟨h, -⟩; exact h; cases h)
  have HS7 : Hid (sixL s.data.toList = if (short = true ∧ n1 + n2 ≤ 7) ∨ (short = false ∧ n1 + n2 = 8) then some (G1 ++ List.replicate (8 - n1 - n2) 0 ++ G2) else none) := Lib.hid (by rw [HS6'.out, HG1.out, HG2.out, ← HN1.out, ← HN2.out]; rfl)
  clear HS6' HC1 HC2
  by_cases hok : (short = true ∧ n1 + n2 ≤ 7) ∨ (short = false ∧ n1 + n2 = 8)
  · have HF : Hid (sixL s.data.toList = some (G1 ++ List.replicate (8 - n1 - n2) 0 ++ G2)) := Lib.hid (by rw [HS7.out, if_pos hok])
    obtain ⟨mi, hmi⟩ : ∃ mi : Nat, (8 : Int) - n1 - n2 = mi := ⟨8 - n1 - n2, by omega⟩
    have hsm : (short = true ∧ 1 ≤ mi) ∨ (short = false ∧ mi = 0) := by rcases hok with ⟨h1, h2⟩ | ⟨h1, h2⟩ <;> simp only [h1, true_and, false_and, Bool.false_eq_true] <;> omega
    have h8 : n1 + mi + n2 = 8 := by omega
    have hm8 : mi ≤ 8 := by omega
    rw [show 8 - n1 - n2 = mi by omega] at HF
    clear hok HS7
    cases short
    all_goals
      first
        | (have hmz : mi = 0 := by simpa using hsm)
        | (have hmz : 1 ≤ mi := by simpa using hsm)
      clear hsm
      go_wp2_with (at_builtin; refine Stopped.of ?_)
      have HMZ := Lib.hid hmz
      clear hmz
      refine Stopped.mk ?_
      refine wpList_append_zeros _ rfl _ _ 101 3 rfl 74 (.int .u64 0) 8 w1.heap.size .i64 Tryz.underlying101 Tryz.underlying3 info_u64 rfl rfl oa1 n1 cap1 _ rfl (HO1.out.alloc _) mi ?_ (by omega) (by unfold maxLen; omega) (by omega) (by simp only [World.size_alloc]; omega) ?_
      · first
          | rfl
          | (show Value.int .i64 0 = .int .i64 (mi : Int); rw [HMZ.out]; rfl)
      intro oa' cap' w5 hO5 hg5 hd5
      have hlt1 := HX3.out.lt
      have hne : ∀ b, (b < w1.heap.size ∨ w3.heap.size ≤ b) → some b ≠ oa1.map Addr.block := fun b hb e => by
        obtain ⟨a, ha, hab⟩ := Option.map_eq_some_iff.1 e.symm
        have := HO1lt.out a ha; omega
      have HX5 := Lib.hid ((HX3.out.alloc (.cells #[.bool true, .int .u8 0, .int .u8 0, .int .u8 0, .int .u8 0, .int .u8 0, .int .u8 0, .int .u8 0, .int .u8 0, .int .u8 0, .int .u8 0, .int .u8 0, .int .u8 0, .int .u8 0, .int .u8 0, .int .u8 0, .int .u8 0] 26)).keep (hg5.block _ (by simp; omega) (hne _ (.inl hW1))))
      have HY5 := Lib.hid ((AdBox.made0 w3 26 true).keep (hg5.block _ (by simp) (hne _ (.inr (Nat.le_refl _)))))
      have HB5 := Lib.hid (Below.grown (Below.all HB3.out _) hg5 (by simp; omega) (fun k hk => by
        obtain ⟨a, ha, hab⟩ := Option.map_eq_some_iff.1 hk
        have := HO1lt.out a ha; omega))
      have HO25 := Lib.hid ((HO2.out.alloc _).grown hg5 (fun a ha e => by
        obtain ⟨a', ha', hab⟩ := Option.map_eq_some_iff.1 e.symm
        have h1 := HO1l2.out a' ha'
        have h2 := HO2.out.lt ha
        omega))
      have hsz5 : w3.heap.size + 1 ≤ w5.heap.size := by have := hg5.size; simpa using this
      have HD5 : Hid (∀ a, oa' = some a → w1.heap.size ≤ a.block ∧ a.block ≠ w3.heap.size ∧ a.block < w5.heap.size) := Lib.hid fun a ha => by
        have h1 := hO5.lt ha
        rcases hd5 a ha with h | h
        · have := HO1lt.out a h; omega
        · simp only [World.size_alloc] at h; omega
      have HO5 := Lib.hid hO5
      clear hne hg5 hd5 hO5 hpp hrr HH HO1 HO2
      go_wp2_with (at_builtin; refine Stopped.of ?_)
      refine Stopped.mk ?_
      refine wpList_append_rows _ rfl _ _ 101 rfl 74 (.int .u64 0) 8 w1.heap.size w2.heap.size Tryz.underlying101 info_u64 rfl oa' (n1 + mi) cap' _ rfl HO5.out oa2 n2 cap2 _ rfl HO25.out ?_ (by unfold maxLen; omega) (by omega) (by omega) ?_
      · intro u hu
        obtain ⟨i, -, rfl⟩ := List.mem_map.1 hu
        rfl
      intro oa'' cap'' w6 hO6 hg6 hd6
      have hne : ∀ b, (b < w1.heap.size ∨ b = w3.heap.size) → some b ≠ oa'.map Addr.block := fun b hb e => by
        obtain ⟨a, ha, hab⟩ := Option.map_eq_some_iff.1 e.symm
        have := HD5.out a ha; omega
      have HX6 := Lib.hid (HX5.out.keep (hg6.block _ (by omega) (hne _ (.inl hW1))))
      have HY6 := Lib.hid (HY5.out.keep (hg6.block _ (by omega) (hne _ (.inr rfl))))
      have HB6 := Lib.hid (Below.grown HB5.out hg6 (by omega) (fun k hk => by
        obtain ⟨a, ha, hab⟩ := Option.map_eq_some_iff.1 hk
        have := HD5.out a ha; omega))
      have HD6 : Hid (∀ a, oa'' = some a → w1.heap.size ≤ a.block ∧ a.block ≠ w3.heap.size) := Lib.hid fun a ha => by
        have h1 := hO6.lt ha
        rcases hd6 a ha with h | h
        · have := HD5.out a h; omega
        · omega
      rw [h8] at hO6 ⊢
      have hmap : List.map (fun (m : Nat) => Value.int .u64 (m : Int)) G1 ++ List.replicate mi (.int .u64 0) ++ List.map (fun (m : Nat) => Value.int .u64 (m : Int)) G2 = (G1 ++ List.replicate mi 0 ++ G2).map fun (m : Nat) => Value.int .u64 (m : Int) := by simp
      rw [hmap] at hO6
      have HO6 := Lib.hid hO6
      have HLB := Lib.hid (sixL_bd HF.out)
      clear hmap hne hg6 hd6 hO6 HX5 HY5 HB5 HO25 HO5 HD5 HX3 HB3 HO1l2 HO1lt HMZ HG1 HG2 HN1 HN2 hmi hl1 hl2 hm8
      generalize G1 ++ List.replicate mi 0 ++ G2 = L at *
      generalize w3.heap.size = b3 at *
      go_wp2_with fail
      have HLG : Hid (∀ k (h : k < L.length), L[k] < 65536) := Lib.hid fun k h => HLB.out.2 _ (List.getElem_mem h)
      have HL8 := Lib.hid HLB.out.1
      clear HLB
      go_loopw [66] (fun u66 wr => ∃ k : Nat, k ≤ 8 ∧ u66 = .int .i64 k ∧ Hid (AdBox wr w.heap.size 26 false fun _ => 0) ∧ Hid (AdBox wr b3 26 true (fun j => if j < 2 * k then sixB L j else 0)) ∧ Hid (Owns wr w1.heap.size 1 oa'' 8 cap'' (L.map fun (m : Nat) => Value.int .u64 (m : Int))) ∧ Hid (Below w.heap.size w wr)) (fun u66 _ => (8 : Int) - intOf u66 |>.toNat)
      case atStart => exact ⟨0, by omega, rfl, HX6, Lib.hid (HY6.out.congr fun i _ => by simp), HO6, HB6⟩
      case round =>
        obtain ⟨k, hk, rfl, HX, HY, HO, HW⟩ := hrel
        by_cases hlt : k < 8
        · have hkL : k < L.length := by rw [HL8.out]; exact hlt
          obtain ⟨g, off, hop, hbg, hg, hc, ht⟩ := HO.out.here (by omega)
          have hgb := (HD6.out _ hop).2
          subst hop
          have hcl := hc k (.int .u64 (L[k] : Nat)) (by simp [hkL])
          have hnb := HLG.out k hkL
          have HSX : Hid (((L[k] / 256 : Nat) : Int) = sixB L (2 * k) ∧ ((L[k] % 256 : Nat) : Int) = sixB L (2 * k + 1)) := Lib.hid (by
            unfold sixB
            rw [if_pos (by omega), if_neg (by omega), show 2 * k / 2 = k by omega, show (2 * k + 1) / 2 = k by omega, List.getD_eq_getElem?_getD, List.getElem?_eq_getElem hkL]
            exact ⟨rfl, rfl⟩)
          generalize L[k] = n at *
          have hcx := HY.out.cell (2 * k) (by omega)
          have hcy := HY.out.cell (2 * k + 1) (by omega)
          have hfx := HY.out.free (1 + 2 * k)
          have hfy := HY.out.free (1 + (2 * k + 1))
          clear hc ht
          go_wp2_with fail
          go_roundw
          case rel =>
            refine ⟨k + 1, by omega, by go_num, Lib.hid ((HX.out.other _ _ (by simp only; omega)).other _ _ (by simp only; omega)), Lib.hid (ad_six HY.out hlt (by rw [← HSX.out.1]; omega) (by rw [← HSX.out.2]; omega)), Lib.hid ((HO.out.other ?_ _).other ?_ _), Lib.hid ((HW.out.setCell (by simp only; omega) _).setCell (by simp only; omega) _)⟩
            · intro a ha; cases ha; exact hgb
            · intro a ha; cases ha; exact hgb
          case measure => simp [intOf]; omega
        · obtain rfl : k = 8 := by omega
          have HZ := HY.out.congr (C := sixB L) fun i hi => by rw [if_pos (by omega)]
          have hpp := HZ.part
          have hrr := HX.out.row
          have HH := Lib.hid HX.out.heap
          clear HZ
          go_wp2_with fail
          refine bodyPost_ret (v := .tuple #[adV true (sixB L), .bool true]) ?_ ?_ ?_
          · exact results_ad2 _ _ Tryz.underlying26 info_ad rfl _ _ w.heap.size (.bool true) rfl rfl (partOf_set HH.out)
          · rfl
          · exact ⟨below_setRow HW.out (Nat.le_refl _) _, .inl ⟨L, HF.out, rfl⟩⟩
  · have HF : Hid (sixL s.data.toList = none) := Lib.hid (by rw [HS7.out, if_neg hok])
    clear HS7
    cases short
    · have hne : ¬ ((8 : Int) - n1 - n2 = 0) := fun h => hok (.inr ⟨rfl, by omega⟩)
      clear hok
      go_wp2_with fail
      refine bodyPost_ret (v := .tuple #[adV false fun _ => 0, .bool false]) ?_ ?_ ?_
      · exact results_ad2 _ _ Tryz.underlying26 info_ad rfl _ _ w.heap.size (.bool false) rfl rfl (partOf_set HH.out)
      · rfl
      · exact ⟨below_setRow HB3.out (Nat.le_refl _) _, .inr ⟨HF.out, rfl⟩⟩
    · have hne : (8 : Int) - n1 - n2 < 1 := by
        have : ¬ (n1 + n2 ≤ 7) := fun h => hok (.inl ⟨rfl, h⟩)
        omega
      clear hok
      go_wp2_with fail
      refine bodyPost_ret (v := .tuple #[adV false fun _ => 0, .bool false]) ?_ ?_ ?_
      · exact results_ad2 _ _ Tryz.underlying26 info_ad rfl _ _ w.heap.size (.bool false) rfl rfl (partOf_set HH.out)
      · rfl
      · exact ⟨below_setRow HB3.out (Nat.le_refl _) _, .inr ⟨HF.out, rfl⟩⟩
end Go.Proofs.YtcadpcppnllhnaaGreatDoor
end

/- Walks over texts: Parse. -/
section
set_option linter.unusedSimpArgs false
set_option linter.unusedVariables false
namespace Go.Proofs.YtcadpcppnllhnaaGreatDoor
open Go.RowKit

/-- The address, by what 'four' and 'six' tell. -/
def parseOf (F S : Option (List Nat)) : Option (Bool × (Nat → Int)) := match F with
  | some l => some (false, fourB l)
  | none => match S with
    | some l => some (true, sixB l)
    | none => none
theorem parseL_of (L : List UInt8) : parseL L = parseOf (fourL L) (sixL L) := rfl
theorem parseOf_none (S : Option (List Nat)) : (∀ l, S = some l → parseOf none S = some (true, sixB l)) ∧ (S = none → parseOf none S = none) := ⟨fun l h => by rw [h]; rfl, fun h => by rw [h]; rfl⟩
/-- The whole value was laid into the block, ahead of a block more. -/
theorem part_up {w : World} {b : Nat} {t : TypeId} {s s' : Bool} {B B' : Nat → Int} (h : AdBox w b t s B) (cs : Array Value) (o : Obj) (hc : cs = #[.bool s', .int .u8 (B' 0), .int .u8 (B' 1), .int .u8 (B' 2), .int .u8 (B' 3), .int .u8 (B' 4), .int .u8 (B' 5), .int .u8 (B' 6), .int .u8 (B' 7), .int .u8 (B' 8), .int .u8 (B' 9), .int .u8 (B' 10), .int .u8 (B' 11), .int .u8 (B' 12), .int .u8 (B' 13), .int .u8 (B' 14), .int .u8 (B' 15)] := by rfl) : partOf ((w.setRow b cs).alloc o) b 0 17 = #[.bool s', .int .u8 (B' 0), .int .u8 (B' 1), .int .u8 (B' 2), .int .u8 (B' 3), .int .u8 (B' 4), .int .u8 (B' 5), .int .u8 (B' 6), .int .u8 (B' 7), .int .u8 (B' 8), .int .u8 (B' 9), .int .u8 (B' 10), .int .u8 (B' 11), .int .u8 (B' 12), .int .u8 (B' 13), .int .u8 (B' 14), .int .u8 (B' 15)] := by
  rw [partOf_old _ _ _ _ _ (by have := h.lt; simpa using this)]
  subst hc
  exact partOf_set h.heap

set_option maxRecDepth 20000 in
set_option maxHeartbeats 8000000 in
theorem parse_any (s : ByteArray) (w : World) (hs : s.size ≤ 1000) (henv : Env w) : Calls Tryz.prog 13 #[.string s] w (RetAt w (parseV (parseL s.data.toList))) := by
  have HE := Lib.hid henv
  have H4 := Lib.hid (fun w h => four_any s w hs h)
  have H6 := Lib.hid (fun w h => six_any s w hs h)
  rw [parseL_of]
  clear henv hs
  generalize s.data.toList = L at *
  generalize fourL L = F at *
  generalize sixL L = S at *
  go_enter Tryz.func13, Tryz.ntmps13
  go_wp2_with fail
  refine Calls.mono (H4.out _ (HE.out.below (Below.all (Below.refl _ _) _))) ?_
  rintro e w2 ⟨B, ok, rfl, hb2, hc⟩
  have HX := Lib.hid ((AdBox.made0 w 26 false).below hb2)
  have HW := Lib.hid (Below.via (Below.all (Below.refl w.heap.size w) _) hb2)
  have hlt := HX.out.lt
  have HC := Lib.hid hc
  clear hb2 hc
  cases ok
  · have hF : F = none := by rcases HC.out with ⟨h, -⟩ | ⟨-, h⟩; cases h; exact h
    subst hF
    have HP2 := Lib.hid (parseOf_none S)
    generalize parseOf none S = R at *
    unfold adV
    have HX2 := Lib.hid (HX.out.alloc (.cells #[.bool false, .int .u8 (B 0), .int .u8 (B 1), .int .u8 (B 2), .int .u8 (B 3), .int .u8 (B 4), .int .u8 (B 5), .int .u8 (B 6), .int .u8 (B 7), .int .u8 (B 8), .int .u8 (B 9), .int .u8 (B 10), .int .u8 (B 11), .int .u8 (B 12), .int .u8 (B 13), .int .u8 (B 14), .int .u8 (B 15)] 26))
    have HW2 := Lib.hid (Below.all HW.out (.cells #[.bool false, .int .u8 (B 0), .int .u8 (B 1), .int .u8 (B 2), .int .u8 (B 3), .int .u8 (B 4), .int .u8 (B 5), .int .u8 (B 6), .int .u8 (B 7), .int .u8 (B 8), .int .u8 (B 9), .int .u8 (B 10), .int .u8 (B 11), .int .u8 (B 12), .int .u8 (B 13), .int .u8 (B 14), .int .u8 (B 15)] 26))
    clear HC HX HW hlt
    go_wp2_with fail
    generalize w2.alloc (.cells #[.bool false, .int .u8 (B 0), .int .u8 (B 1), .int .u8 (B 2), .int .u8 (B 3), .int .u8 (B 4), .int .u8 (B 5), .int .u8 (B 6), .int .u8 (B 7), .int .u8 (B 8), .int .u8 (B 9), .int .u8 (B 10), .int .u8 (B 11), .int .u8 (B 12), .int .u8 (B 13), .int .u8 (B 14), .int .u8 (B 15)] 26) = w3 at *
    refine Calls.mono (H6.out _ (HE.out.below HW2.out)) ?_
    rintro e w4 ⟨hb4, hc⟩
    have HX4 := Lib.hid (HX2.out.below hb4)
    have HW4 := Lib.hid (Below.via HW2.out hb4)
    have hlt := HX4.out.lt
    clear hb4 HX2 HW2
    rcases hc with ⟨l, hl, rfl⟩ | ⟨hl, rfl⟩
    · have HR : Hid (R = some (true, sixB l)) := Lib.hid (HP2.out.1 l hl)
      generalize sixB l = C at *
      have HX4 := Lib.hid HX4.out
      clear hl HP2
      unfold adV
      have hrr := HX4.out.row
      go_wp2_with fail
      exact bodyPost_ret (v := .tuple #[adV true C, .int .i64 0]) (results_ad2 _ _ Tryz.underlying26 info_ad rfl _ _ w.heap.size (.int .i64 0) rfl rfl (part_up (s' := true) (B' := C) HX4.out _ _ rfl)) rfl (.mk (by rw [HR.out]; rfl) (Below.all (below_setRow HW4.out (Nat.le_refl _) _) _))
    · have HR : Hid (R = none) := Lib.hid (HP2.out.2 hl)
      clear hl HP2
      unfold adV
      have hrr := HX4.out.row
      go_wp2_with fail
      exact bodyPost_ret (v := .tuple #[adV false fun _ => 0, .int .i64 40]) (results_ad2 _ _ Tryz.underlying26 info_ad rfl _ _ w.heap.size (.int .i64 40) rfl rfl (part_up (s' := false) (B' := fun _ => 0) HX4.out _ _ rfl)) rfl (.mk (by rw [HR.out]; rfl) (Below.all (below_setRow HW4.out (Nat.le_refl _) _) _))
  · obtain ⟨l, rfl, hB⟩ : ∃ l, F = some l ∧ ∀ i, i < 16 → B i = fourB l i := by
      rcases HC.out with ⟨-, h⟩ | ⟨h, -⟩
      · exact h
      · cases h
    have HBE := Lib.hid (ad_congr (six := false) hB)
    clear HC hB H6
    unfold adV at *
    have hrr := HX.out.row
    go_wp2_with fail
    refine bodyPost_ret (v := .tuple #[adV false B, .int .i64 0]) (results_ad2 _ _ Tryz.underlying26 info_ad rfl _ _ w.heap.size (.int .i64 0) rfl rfl (part_up (s' := false) (B' := B) HX.out _ _ rfl)) rfl (.mk ?_ (Below.all (below_setRow HW.out (Nat.le_refl _) _) _))
    show Value.tuple #[adV false B, .int .i64 0] = .tuple #[adV false (fourB l), .int .i64 0]
    rw [show adV false B = adV false (fourB l) from HBE.out]
end Go.Proofs.YtcadpcppnllhnaaGreatDoor
end

/- Walks over texts: an address's text. -/
section
set_option linter.unusedSimpArgs false
set_option linter.unusedVariables false
namespace Go.Proofs.YtcadpcppnllhnaaGreatDoor
open Go.RowKit

theorem join_joinL (c : UInt8) : ∀ l : List (List UInt8), Lib.join l [c] = joinL c l
  | [] => rfl
  | [p] => by rw [Lib.join_one]; rfl
  | p :: q :: l => by
    rw [Lib.join_cons, joinL_cons2, ← join_joinL c (q :: l), Lib.join_cons]
    simp [Lib.joinTail]
/-- strings.Join, over a row of one's own. -/
theorem join_any (oa : Option Addr) (n cap base : Nat) (L : List (List UInt8)) (c : UInt8) (w : World) (hO : Owns w base 1 oa n cap (L.map strV)) (hlen : (joinL c L).length ≤ 140737488355328) (hn : n ≤ 140737488355328) :
    Calls Tryz.prog 42 #[.slice oa n cap, .string ⟨#[c]⟩] w (RetAt w (.string ⟨(joinL c L).toArray⟩)) := by
  have hLn : L.length = n := by have := hO.len; simpa using this
  rcases Nat.eq_zero_or_pos n with h0 | h0
  · subst h0
    obtain rfl := List.eq_nil_of_length_eq_zero hLn
    refine Calls.mono (Tryz.strings_Join_none oa cap _ w) ?_
    rintro e w' ⟨rfl, rfl⟩
    exact .mk rfl (Below.refl _ _)
  · obtain ⟨g, off, rfl, hb, hg, hc, ht⟩ := hO.here h0
    have e1 : (L.map fun l : List UInt8 => (⟨l.toArray⟩ : ByteArray)).length = n := by rw [List.length_map, hLn]
    have e2 : ((L.map fun l : List UInt8 => (⟨l.toArray⟩ : ByteArray)).map (·.data.toList)) = L := by simp [Function.comp_def]
    have h := Tryz.strings_Join g off cap (L.map fun l : List UInt8 => (⟨l.toArray⟩ : ByteArray)) ⟨#[c]⟩ w (fun j x hx => by
      refine hc j _ ?_
      rw [List.getElem?_map] at hx ⊢
      cases h : L[j]? with
      | none => rw [h] at hx; cases hx
      | some l => rw [h] at hx; cases hx; rfl) hg (by rw [e1]; exact hn) (by rw [e1]; exact hO.le) (by rw [e2]; show (Lib.join L [c]).length ≤ _; rw [join_joinL]; exact hlen)
    rw [e1, e2, show (⟨#[c]⟩ : ByteArray).data.toList = [c] from rfl, join_joinL] at h
    refine Calls.mono h ?_
    rintro e w' ⟨rfl, hb'⟩
    exact .mk rfl hb'

/-- strconv.Itoa, of a number that isn't below 0. -/
theorem itoa_any (u : Nat) (hu : u < 9223372036854775808) (w : World) (henv : Env w) : Calls Tryz.prog 41 #[.int .i64 (u : Int)] w (RetAt w (.string ⟨(Lib.decDigits u).toArray⟩)) := by
  refine Calls.mono (Tryz.strconv_Itoa (u : Int) (by omega) (by omega) w henv.tab) ?_
  rintro e w' ⟨rfl, k, os, rfl⟩
  refine .mk ?_ (Lib.below_grow _ _ (Nat.le_refl _) _ _)
  unfold Lib.itoa
  rw [if_neg (by omega)]
  rfl
theorem decDigits_small (u : Nat) (h : u < 256) : (Lib.decDigits u).length ≤ 257 := by
  rw [← digB_ten u u (Nat.le_refl _)]
  have := digB_len 10 u u (Nat.le_refl _)
  omega
theorem joinL_len (c : UInt8) (m : Nat) : ∀ L : List (List UInt8), (∀ p ∈ L, p.length ≤ m) → (joinL c L).length ≤ L.length * (m + 1)
  | [], _ => by simp [joinL]
  | [p], h => by have := h p (by simp); simp [joinL]; omega
  | p :: q :: l, h => by
    have h1 := h p (by simp)
    have h2 := joinL_len c m (q :: l) (fun x hx => h x (by simp at hx ⊢; exact .inr hx))
    have h3 : (p :: q :: l).length * (m + 1) = (q :: l).length * (m + 1) + (m + 1) := by rw [List.length_cons (a := p), Nat.add_mul, Nat.one_mul]
    rw [joinL_cons2, List.length_append, List.length_cons]
    omega

set_option maxRecDepth 20000 in
set_option maxHeartbeats 8000000 in
theorem text_four (B : Nat → Int) (hB : U8 B) (hr : rightB false B = true) (w : World) (henv : Env w) :
    Calls Tryz.prog 10 #[adV false B] w (RetAt w (.string ⟨(text4 fun i => (B i).toNat).toArray⟩)) := by
  have HE := Lib.hid henv
  have HU := Lib.hid hB
  have HR : Hid (∀ w, Calls Tryz.prog 28 #[adV false B] w (RetAt w (.bool true))) := Lib.hid fun w => by rw [← hr]; exact right_any false B w
  clear henv hB hr
  have HX : Hid (AdBox (w.alloc (.cells #[.bool false, .int .u8 (B 0), .int .u8 (B 1), .int .u8 (B 2), .int .u8 (B 3), .int .u8 (B 4), .int .u8 (B 5), .int .u8 (B 6), .int .u8 (B 7), .int .u8 (B 8), .int .u8 (B 9), .int .u8 (B 10), .int .u8 (B 11), .int .u8 (B 12), .int .u8 (B 13), .int .u8 (B 14), .int .u8 (B 15)] 26)) w.heap.size 26 false B) := Lib.hid (AdBox.made w _ false B)
  have HW : Hid (Below w.heap.size w (w.alloc (.cells #[.bool false, .int .u8 (B 0), .int .u8 (B 1), .int .u8 (B 2), .int .u8 (B 3), .int .u8 (B 4), .int .u8 (B 5), .int .u8 (B 6), .int .u8 (B 7), .int .u8 (B 8), .int .u8 (B 9), .int .u8 (B 10), .int .u8 (B 11), .int .u8 (B 12), .int .u8 (B 13), .int .u8 (B 14), .int .u8 (B 15)] 26))) := Lib.hid (Below.all (Below.refl w.heap.size w) _)
  unfold adV at *
  go_enter Tryz.func10, Tryz.ntmps10
  go_wp2_with fail
  generalize hw1 : w.alloc (.cells #[.bool false, .int .u8 (B 0), .int .u8 (B 1), .int .u8 (B 2), .int .u8 (B 3), .int .u8 (B 4), .int .u8 (B 5), .int .u8 (B 6), .int .u8 (B 7), .int .u8 (B 8), .int .u8 (B 9), .int .u8 (B 10), .int .u8 (B 11), .int .u8 (B 12), .int .u8 (B 13), .int .u8 (B 14), .int .u8 (B 15)] 26) = w1 at *
  have hs1 : w1.heap.size = w.heap.size + 1 := by rw [← hw1]; simp
  clear hw1
  refine Calls.mono (HR.out _) ?_
  rintro e w2 ⟨rfl, hb2⟩
  have HX2 := Lib.hid (HX.out.below hb2)
  have HW2 := Lib.hid (Below.via HW.out hb2)
  have hs2 : w.heap.size + 1 ≤ w2.heap.size := by have := hb2.size; omega
  have hsx := HX2.out.six
  clear hb2 HX HW hs1
  go_wp2_with fail
  clear hsx
  go_loopw [3, 20] (fun u3 u20 wr => ∃ (k : Nat) (oa : Option Addr) (cap : Nat), k ≤ 4 ∧ u20 = .int .i64 k ∧ u3 = .slice oa k cap ∧ Hid (Owns wr (w.heap.size + 1) 1 oa k cap (((List.range k).map fun i => Lib.decDigits (B i).toNat).map strV)) ∧ Hid (AdBox wr w.heap.size 26 false B) ∧ Hid (Below w.heap.size w wr) ∧ w.heap.size + 1 ≤ wr.heap.size) (fun _ u20 _ => (4 : Int) - intOf u20 |>.toNat)
  case atStart => exact ⟨0, none, 0, by omega, rfl, rfl, Lib.hid (Owns.nil _ _ _), HX2, HW2, hs2⟩
  case round =>
    obtain ⟨k, oa, cap, hk, rfl, rfl, HO, HX, HW, hsr⟩ := hrel
    by_cases hlt : k < 4
    · have hcx := HX.out.cell k (by omega)
      have hbk := HU.out k
      have HR1 : Hid (List.range (k + 1) = List.range k ++ [k]) := Lib.hid List.range_succ
      obtain ⟨b, hbe⟩ := Int.eq_ofNat_of_zero_le hbk.1
      have HBE := Lib.hid hbe
      rw [hbe] at hcx hbk
      clear hbe
      go_wp2_with fail
      refine Calls.mono (itoa_any b (by omega) wr (HE.out.below HW.out)) ?_
      rintro e w3 ⟨rfl, hb3⟩
      have HO3 := Lib.hid (HO.out.below hb3)
      have HX3 := Lib.hid (HX.out.below hb3)
      have HW3 := Lib.hid (Below.via HW.out hb3)
      have hs3 : w.heap.size + 1 ≤ w3.heap.size := by have := hb3.size; omega
      have HLT := Lib.hid (fun a (ha : oa = some a) => (HO3.out.lt ha).1)
      clear hb3 hcx HO HX HW hsr
      go_wp2_with (at_builtin; refine Stopped.of ?_)
      refine Stopped.mk ?_
      refine wpList_append_owns _ rfl _ _ 22 rfl 9 (.string ⟨#[]⟩) 1 16 (w.heap.size + 1) Tryz.underlying22 info_str rfl (by decide) oa k cap _ rfl (HO3.out.alloc _) ⟨w3.heap.size, 0, none⟩ 1 1 [.string ⟨(Lib.decDigits b).toArray⟩] rfl rfl ?_ ?_ (by decide) ?_ ?_ ?_ ?_
      · exact news_new _ _ _
      · simp [Value.oneCell']
      · unfold maxLen; omega
      · omega
      · simp only [World.size_alloc]; omega
      intro oa' cap' w4 ho' hg hd
      have HX4 := Lib.hid ((HX3.out.alloc (.cells #[.string ⟨(Lib.decDigits b).toArray⟩] 9)).keep (hg.block _ (by simp; omega) (fun e => by
        obtain ⟨a, ha, hab⟩ := Option.map_eq_some_iff.1 e.symm
        have := HLT.out a ha; omega)))
      have HW4 : Hid (Below w.heap.size w w4) := Lib.hid (Below.appended (Below.all HW3.out _) (HO3.out.alloc _) (by omega) hg (by simp only [World.size_alloc]; omega))
      have hs4 : w.heap.size + 1 ≤ w4.heap.size := by have := hg.size; simp only [World.size_alloc] at this; omega
      have HO4 : Hid (Owns w4 (w.heap.size + 1) 1 oa' (k + 1) cap' (((List.range (k + 1)).map fun i => Lib.decDigits (B i).toNat).map strV)) := Lib.hid (by
        rw [HR1.out, List.map_append, List.map_append]
        simp only [List.map_cons, List.map_nil]
        rw [HBE.out]
        exact ho')
      clear hg hd ho' HX3 HW3 HO3 hs3 HLT
      go_wp2_with fail
      go_roundw
      case rel => exact ⟨k + 1, oa', cap', by omega, by go_num, rfl, HO4, HX4, HW4, hs4⟩
      case measure => simp [intOf]; omega
    · obtain rfl : k = 4 := by omega
      go_wp2_with fail
      refine Calls.mono (join_any oa 4 cap _ _ 46 wr HO.out ?_ (by omega)) ?_
      · refine Nat.le_trans (joinL_len 46 257 _ fun p hp => ?_) (by simp)
        obtain ⟨i, -, rfl⟩ := List.mem_map.1 hp
        exact decDigits_small _ (by have := HU.out i; omega)
      rintro e w3 ⟨rfl, hb3⟩
      have HW3 := Lib.hid (Below.via HW.out hb3)
      go_wp2_with fail
      go_ret
      exact .mk rfl HW3.out

/-- The groups' numbers. -/
def grpN (B : Nat → Int) (k : Nat) : Nat := (grpI B k).toNat
theorem grpN_lt {B : Nat → Int} (hB : U8 B) (k : Nat) : grpN B k < 65536 := by have := grpI_bd hB k; unfold grpN; omega
theorem grpN_eq {B : Nat → Int} (hB : U8 B) (k : Nat) : grpI B k = (grpN B k : Int) := by have := grpI_bd hB k; unfold grpN; omega
theorem zg_grp {B : Nat → Int} (hB : U8 B) (k : Nat) (h : k < 8) : zg (grpN B) k = (grpI B k == 0) := by
  rw [zg_at _ _ h, grpN_eq hB k, Bool.eq_iff_iff]
  simp only [beq_iff_eq]
  omega
theorem noughts_bd (z : Nat → Bool) (hz : ∃ a b c d e f g h : Bool, z = zof [a, b, c, d, e, f, g, h]) : (noughtsZ z).1 ≤ (noughtsZ z).2 ∧ (noughtsZ z).2 ≤ 8 := by
  obtain ⟨a, b, c, d, e, f, g, h, rfl⟩ := hz
  exact noughts_bd8 a b c d e f g h
/-- The text, by what 'noughts' tells. -/
theorem text6_of (g : Nat → Nat) : text6 g = if (noughtsZ (zg g)).1 = (noughtsZ (zg g)).2 then joinL 58 ((List.range 8).map fun i => digB 16 (g i))
    else joinL 58 (((List.range 8).map fun i => digB 16 (g i)).take (noughtsZ (zg g)).1) ++ [58, 58] ++ joinL 58 (((List.range 8).map fun i => digB 16 (g i)).drop (noughtsZ (zg g)).2) := by
  unfold text6 progTok
  split
  · exact flat_join _ _
  · rw [flatT_append, flatT_append, flat_join, flat_join, List.map_take, List.map_drop]; rfl

set_option maxRecDepth 20000 in
set_option maxHeartbeats 8000000 in
theorem text_six (B : Nat → Int) (hB : U8 B) (w : World) (henv : Env w) :
    Calls Tryz.prog 10 #[adV true B] w (RetAt w (.string ⟨(text6 (grpN B)).toArray⟩)) := by
  have HE := Lib.hid henv
  have HU := Lib.hid hB
  have HR : Hid (∀ w, Calls Tryz.prog 28 #[adV true B] w (RetAt w (.bool true))) := Lib.hid fun w => right_any true B w
  have HG := Lib.hid (fun k hk w => group_any true B hB k hk w)
  have HN := Lib.hid (fun w => noughts_any true B hB (zg (grpN B)) (fun k hk => zg_grp hB k hk) w)
  have HNB := noughts_bd (zg (grpN B)) ⟨_, _, _, _, _, _, _, _, rfl⟩
  have HT := Lib.hid (text6_of (grpN B))
  have HGL := Lib.hid (fun k => grpN_lt hB k)
  have HGE := Lib.hid (fun k => grpN_eq hB k)
  clear henv hB
  generalize text6 (grpN B) = T at *
  generalize noughtsZ (zg (grpN B)) = ft at *
  obtain ⟨f, t⟩ := ft
  simp only at HN HNB HT
  obtain ⟨hft, ht8⟩ := HNB
  have HX : Hid (AdBox (w.alloc (.cells #[.bool true, .int .u8 (B 0), .int .u8 (B 1), .int .u8 (B 2), .int .u8 (B 3), .int .u8 (B 4), .int .u8 (B 5), .int .u8 (B 6), .int .u8 (B 7), .int .u8 (B 8), .int .u8 (B 9), .int .u8 (B 10), .int .u8 (B 11), .int .u8 (B 12), .int .u8 (B 13), .int .u8 (B 14), .int .u8 (B 15)] 26)) w.heap.size 26 true B) := Lib.hid (AdBox.made w _ true B)
  have HW : Hid (Below w.heap.size w (w.alloc (.cells #[.bool true, .int .u8 (B 0), .int .u8 (B 1), .int .u8 (B 2), .int .u8 (B 3), .int .u8 (B 4), .int .u8 (B 5), .int .u8 (B 6), .int .u8 (B 7), .int .u8 (B 8), .int .u8 (B 9), .int .u8 (B 10), .int .u8 (B 11), .int .u8 (B 12), .int .u8 (B 13), .int .u8 (B 14), .int .u8 (B 15)] 26))) := Lib.hid (Below.all (Below.refl w.heap.size w) _)
  unfold adV at *
  go_enter Tryz.func10, Tryz.ntmps10
  go_wp2_with fail
  generalize hw1 : w.alloc (.cells #[.bool true, .int .u8 (B 0), .int .u8 (B 1), .int .u8 (B 2), .int .u8 (B 3), .int .u8 (B 4), .int .u8 (B 5), .int .u8 (B 6), .int .u8 (B 7), .int .u8 (B 8), .int .u8 (B 9), .int .u8 (B 10), .int .u8 (B 11), .int .u8 (B 12), .int .u8 (B 13), .int .u8 (B 14), .int .u8 (B 15)] 26) = w1 at *
  have hs1 : w1.heap.size = w.heap.size + 1 := by rw [← hw1]; simp
  clear hw1
  refine Calls.mono (HR.out _) ?_
  rintro e w2 ⟨rfl, hb2⟩
  have HX2 := Lib.hid (HX.out.below hb2)
  have HW2 := Lib.hid (Below.via HW.out hb2)
  have hs2 : w.heap.size + 1 ≤ w2.heap.size := by have := hb2.size; omega
  have hsx := HX2.out.six
  clear hb2 HX HW hs1
  go_wp2_with fail
  clear hsx
  go_loopw [3, 33] (fun u3 u33 wr => ∃ (k : Nat) (oa : Option Addr) (cap : Nat), k ≤ 8 ∧ u33 = .int .i64 k ∧ u3 = .slice oa k cap ∧ Hid (Owns wr (w.heap.size + 1) 1 oa k cap (((List.range k).map fun i => digB 16 (grpN B i)).map strV)) ∧ Hid (AdBox wr w.heap.size 26 true B) ∧ Hid (Below w.heap.size w wr) ∧ w.heap.size + 1 ≤ wr.heap.size) (fun _ u33 _ => (8 : Int) - intOf u33 |>.toNat)
  case atStart => exact ⟨0, none, 0, by omega, rfl, rfl, Lib.hid (Owns.nil _ _ _), HX2, HW2, hs2⟩
  case round =>
    obtain ⟨k, oa, cap, hk, rfl, rfl, HO, HX, HW, hsr⟩ := hrel
    by_cases hlt : k < 8
    · have hpp := HX.out.part
      have HR1 : Hid (List.range (k + 1) = List.range k ++ [k]) := Lib.hid List.range_succ
      have HGk := Lib.hid (HG.out k hlt)
      have hgl := HGL.out k
      rw [HGE.out k] at HGk
      have HBE : Hid (∃ b, grpN B k = b) := Lib.hid ⟨_, rfl⟩
      obtain ⟨b, hbe⟩ := HBE.out
      clear HBE
      have HBE := Lib.hid hbe
      rw [hbe] at HGk hgl
      clear hbe
      go_wp2_with fail
      refine Calls.mono (HGk.out _) ?_
      rintro e w3 ⟨rfl, hb3⟩
      have HO3 := Lib.hid (HO.out.below hb3)
      have HX3 := Lib.hid (HX.out.below hb3)
      have HW3 := Lib.hid (Below.via HW.out hb3)
      have hs3 : w.heap.size + 1 ≤ w3.heap.size := by have := hb3.size; omega
      clear hb3 hpp HO HX HW hsr
      go_wp2_with fail
      refine Calls.mono (fmt_16 b hgl w3 (HE.out.below HW3.out)) ?_
      rintro e w4 ⟨rfl, hb4⟩
      have HO4 := Lib.hid (HO3.out.below hb4)
      have HX4 := Lib.hid (HX3.out.below hb4)
      have HW4 := Lib.hid (Below.via HW3.out hb4)
      have hs4 : w.heap.size + 1 ≤ w4.heap.size := by have := hb4.size; omega
      have HLT := Lib.hid (fun a (ha : oa = some a) => (HO4.out.lt ha).1)
      clear hb4 HO3 HX3 HW3 hs3
      go_wp2_with (at_builtin; refine Stopped.of ?_)
      refine Stopped.mk ?_
      refine wpList_append_owns _ rfl _ _ 22 rfl 9 (.string ⟨#[]⟩) 1 16 (w.heap.size + 1) Tryz.underlying22 info_str rfl (by decide) oa k cap _ rfl (HO4.out.alloc _) ⟨w4.heap.size, 0, none⟩ 1 1 [.string ⟨(digB 16 b).toArray⟩] rfl rfl ?_ ?_ (by decide) ?_ ?_ ?_ ?_
      · exact news_new _ _ _
      · simp [Value.oneCell']
      · unfold maxLen; omega
      · omega
      · simp only [World.size_alloc]; omega
      intro oa' cap' w5 ho' hg hd
      have HX5 := Lib.hid ((HX4.out.alloc (.cells #[.string ⟨(digB 16 b).toArray⟩] 9)).keep (hg.block _ (by simp; omega) (fun e => by
        obtain ⟨a, ha, hab⟩ := Option.map_eq_some_iff.1 e.symm
        have := HLT.out a ha; omega)))
      have HW5 : Hid (Below w.heap.size w w5) := Lib.hid (Below.appended (Below.all HW4.out _) (HO4.out.alloc _) (by omega) hg (by simp only [World.size_alloc]; omega))
      have hs5 : w.heap.size + 1 ≤ w5.heap.size := by have := hg.size; simp only [World.size_alloc] at this; omega
      have HO5 : Hid (Owns w5 (w.heap.size + 1) 1 oa' (k + 1) cap' (((List.range (k + 1)).map fun i => digB 16 (grpN B i)).map strV)) := Lib.hid (by
        rw [HR1.out, List.map_append, List.map_append]
        simp only [List.map_cons, List.map_nil]
        rw [HBE.out]
        exact ho')
      clear hg hd ho' HX4 HW4 HO4 hs4 HLT
      go_wp2_with fail
      go_roundw
      case rel => exact ⟨k + 1, oa', cap', by omega, by go_num, rfl, HO5, HX5, HW5, hs5⟩
      case measure => simp [intOf]; omega
    · obtain rfl : k = 8 := by omega
      have hpp := HX.out.part
      have HPL : Hid (∀ p ∈ (List.range 8).map fun i => digB 16 (grpN B i), p.length ≤ 4) := Lib.hid fun p hp => by
        obtain ⟨i, -, rfl⟩ := List.mem_map.1 hp
        exact digB16_len _ (HGL.out i)
      have HPN : Hid (((List.range 8).map fun i => digB 16 (grpN B i)).length = 8) := Lib.hid (by simp)
      clear HGL HGE HG HU HR
      generalize ((List.range 8).map fun i => digB 16 (grpN B i)) = P at *
      go_wp2_with fail
      refine Calls.mono (HN.out _) ?_
      rintro e w3 ⟨rfl, hb3⟩
      have HO3 := Lib.hid (HO.out.below hb3)
      have HW3 := Lib.hid (Below.via HW.out hb3)
      clear hb3 hpp HX HO HW HN
      by_cases hz : f = t
      · have HT2 := HT.out
        rw [if_pos hz] at HT2
        have HT3 := Lib.hid HT2
        have hz2 : (f : Int) = t := by omega
        clear HT2 HT hz
        go_wp2_with fail
        refine Calls.mono (join_any oa 8 cap _ _ 58 w3 HO3.out (Nat.le_trans (joinL_len 58 4 _ HPL.out) (by rw [HPN.out]; decide)) (by omega)) ?_
        rintro e w4 ⟨rfl, hb4⟩
        have HW4 := Lib.hid (Below.via HW3.out hb4)
        go_wp2_with fail
        go_ret
        exact .mk (by rw [HT3.out]; rfl) HW4.out
      · have HT2 := HT.out
        rw [if_neg hz] at HT2
        have HT3 := Lib.hid HT2
        have hz2 : ¬ ((f : Int) = t) := by omega
        have HT1 : Hid (Owns w3 (w.heap.size + 1) 1 oa f cap ((P.take f).map strV)) := Lib.hid (by rw [List.map_take]; have := HO3.out.take f (by omega); rwa [Nat.mul_one] at this)
        have HT4 : Hid (Owns w3 (w.heap.size + 1) 1 (cutAddr oa t cap 1) (8 - t) (cap - t) ((P.drop t).map strV)) := Lib.hid (by rw [List.map_drop]; have := HO3.out.cut t (by omega); rwa [Nat.mul_one] at this)
        have hcap := HO3.out.le
        have hct := fun w => run_cutTo (P := Tryz.prog) 22 oa 8 cap 1 Tryz.underlying22 (by kernel_rfl) f (f : Int) rfl (by omega) w
        have hcu := fun w => run_cut (P := Tryz.prog) 22 oa 8 cap 1 Tryz.underlying22 (by kernel_rfl) t (t : Int) rfl (by omega) w
        have hA : (joinL 58 (P.take f)).length ≤ 1000 := Nat.le_trans (joinL_len 58 4 _ fun p hp => HPL.out p (List.mem_of_mem_take hp)) (by rw [List.length_take, HPN.out]; omega)
        have hC : (joinL 58 (P.drop t)).length ≤ 1000 := Nat.le_trans (joinL_len 58 4 _ fun p hp => HPL.out p (List.mem_of_mem_drop hp)) (by rw [List.length_drop, HPN.out]; omega)
        have HJ1 := Lib.hid (fun (x : Later w3) => join_any oa f cap _ _ 58 _ (HT1.out.later x) (by omega) (by omega))
        have HJ2 := Lib.hid (fun (x : Later w3) => join_any _ (8 - t) (cap - t) _ _ 58 _ (HT4.out.later x) (by omega) (by omega))
        generalize joinL 58 (P.take f) = A at *
        generalize joinL 58 (P.drop t) = C at *
        generalize cutAddr oa t cap 1 = oc at *
        clear HT2 HT hz HT1 HT4 HO3 HPL HPN
        go_wp2_with fail
        have hl1 : A.length + 2 ≤ 9223372036854775807 := by omega
        have hl2 : (A.length : Int) + 2 ≤ 9223372036854775807 := by omega
        have hl3 : A.length + 2 + C.length ≤ 9223372036854775807 := by omega
        have hl4 : (A.length : Int) + 2 + (C.length : Int) ≤ 9223372036854775807 := by omega
        refine wp_region_later (by kernel_rfl) (by kernel_rfl) ?_
        iterate 3 go_big_quiet_step (fail)
        go_big_quiet_step ((go_at_call 42; exact later_call (HJ1.out _)))
        iterate 4 go_big_quiet_step (fail)
        go_big_quiet_step ((go_at_call 42; exact later_call (HJ2.out _)))
        repeat go_big_quiet_step (fail)
        refine wpQuiet_nil ?_
        intro x
        go_wp2_with fail
        go_ret
        refine .mk ?_ (HW3.out.trans (x.below.mono HW3.out.size))
        rw [HT3.out, ← bytes_append, ← bytes_append]; rfl

set_option maxRecDepth 20000 in
set_option maxHeartbeats 8000000 in
theorem text_wrong (six : Bool) (B : Nat → Int) (hr : rightB six B = false) (w : World) :
    Calls Tryz.prog 10 #[adV six B] w (RetAt w (.string ⟨([] : List UInt8).toArray⟩)) := by
  have HR : Hid (∀ w, Calls Tryz.prog 28 #[adV six B] w (RetAt w (.bool false))) := Lib.hid fun w => by rw [← hr]; exact right_any six B w
  clear hr
  unfold adV at *
  go_enter Tryz.func10, Tryz.ntmps10
  go_wp2_with fail
  refine Calls.later (HR.out _) ?_
  intro x
  go_wp2_with fail
  go_ret
  exact .mk rfl (Below.lat (Below.all (Below.refl _ _) _))

/-- The text of an address. -/
def adText (six : Bool) (B : Nat → Int) : List UInt8 := if rightB six B = true then (if six = true then text6 (grpN B) else text4 fun i => (B i).toNat) else []
theorem text_any (six : Bool) (B : Nat → Int) (hB : U8 B) (w : World) (henv : Env w) :
    Calls Tryz.prog 10 #[adV six B] w (RetAt w (.string ⟨(adText six B).toArray⟩)) := by
  unfold adText
  by_cases h : rightB six B = true
  · rw [if_pos h]
    cases six
    · exact text_four B hB h w henv
    · exact text_six B hB w henv
  · rw [if_neg h]
    exact text_wrong six B (by simpa using h) w
end Go.Proofs.YtcadpcppnllhnaaGreatDoor
end

/- Walks: both Cmp; a prefix's text. -/
section
set_option linter.unusedSimpArgs false
set_option linter.unusedVariables false
namespace Go.Proofs.YtcadpcppnllhnaaGreatDoor
open Go.RowKit

set_option maxRecDepth 20000 in
set_option maxHeartbeats 8000000 in
theorem cmp_any (s : Bool) (B : Nat → Int) (t : Bool) (A : Nat → Int) (hB : U8 B) (hA : U8 A) (w : World) :
    Calls Tryz.prog 21 #[adV s B, adV t A] w (RetAt w (.int .i64 (adCmp s B t A))) := by
  have HB := Lib.hid (show Below w.heap.size w ((w.alloc (.cells #[.bool s, .int .u8 (B 0), .int .u8 (B 1), .int .u8 (B 2), .int .u8 (B 3), .int .u8 (B 4), .int .u8 (B 5), .int .u8 (B 6), .int .u8 (B 7), .int .u8 (B 8), .int .u8 (B 9), .int .u8 (B 10), .int .u8 (B 11), .int .u8 (B 12), .int .u8 (B 13), .int .u8 (B 14), .int .u8 (B 15)] 26)).alloc (.cells #[.bool t, .int .u8 (A 0), .int .u8 (A 1), .int .u8 (A 2), .int .u8 (A 3), .int .u8 (A 4), .int .u8 (A 5), .int .u8 (A 6), .int .u8 (A 7), .int .u8 (A 8), .int .u8 (A 9), .int .u8 (A 10), .int .u8 (A 11), .int .u8 (A 12), .int .u8 (A 13), .int .u8 (A 14), .int .u8 (A 15)] 26)) from Below.all (Below.all (Below.refl _ _) _) _)
  have HX : Hid (AdBox ((w.alloc (.cells #[.bool s, .int .u8 (B 0), .int .u8 (B 1), .int .u8 (B 2), .int .u8 (B 3), .int .u8 (B 4), .int .u8 (B 5), .int .u8 (B 6), .int .u8 (B 7), .int .u8 (B 8), .int .u8 (B 9), .int .u8 (B 10), .int .u8 (B 11), .int .u8 (B 12), .int .u8 (B 13), .int .u8 (B 14), .int .u8 (B 15)] 26)).alloc (.cells #[.bool t, .int .u8 (A 0), .int .u8 (A 1), .int .u8 (A 2), .int .u8 (A 3), .int .u8 (A 4), .int .u8 (A 5), .int .u8 (A 6), .int .u8 (A 7), .int .u8 (A 8), .int .u8 (A 9), .int .u8 (A 10), .int .u8 (A 11), .int .u8 (A 12), .int .u8 (A 13), .int .u8 (A 14), .int .u8 (A 15)] 26)) w.heap.size 26 s B) := Lib.hid ⟨heap_alloc2_old w (.cells #[.bool s, .int .u8 (B 0), .int .u8 (B 1), .int .u8 (B 2), .int .u8 (B 3), .int .u8 (B 4), .int .u8 (B 5), .int .u8 (B 6), .int .u8 (B 7), .int .u8 (B 8), .int .u8 (B 9), .int .u8 (B 10), .int .u8 (B 11), .int .u8 (B 12), .int .u8 (B 13), .int .u8 (B 14), .int .u8 (B 15)] 26) (.cells #[.bool t, .int .u8 (A 0), .int .u8 (A 1), .int .u8 (A 2), .int .u8 (A 3), .int .u8 (A 4), .int .u8 (A 5), .int .u8 (A 6), .int .u8 (A 7), .int .u8 (A 8), .int .u8 (A 9), .int .u8 (A 10), .int .u8 (A 11), .int .u8 (A 12), .int .u8 (A 13), .int .u8 (A 14), .int .u8 (A 15)] 26)⟩
  have HY : Hid (AdBox ((w.alloc (.cells #[.bool s, .int .u8 (B 0), .int .u8 (B 1), .int .u8 (B 2), .int .u8 (B 3), .int .u8 (B 4), .int .u8 (B 5), .int .u8 (B 6), .int .u8 (B 7), .int .u8 (B 8), .int .u8 (B 9), .int .u8 (B 10), .int .u8 (B 11), .int .u8 (B 12), .int .u8 (B 13), .int .u8 (B 14), .int .u8 (B 15)] 26)).alloc (.cells #[.bool t, .int .u8 (A 0), .int .u8 (A 1), .int .u8 (A 2), .int .u8 (A 3), .int .u8 (A 4), .int .u8 (A 5), .int .u8 (A 6), .int .u8 (A 7), .int .u8 (A 8), .int .u8 (A 9), .int .u8 (A 10), .int .u8 (A 11), .int .u8 (A 12), .int .u8 (A 13), .int .u8 (A 14), .int .u8 (A 15)] 26)) (w.heap.size + 1) 26 t A) := Lib.hid ⟨heap_alloc2_new w (.cells #[.bool s, .int .u8 (B 0), .int .u8 (B 1), .int .u8 (B 2), .int .u8 (B 3), .int .u8 (B 4), .int .u8 (B 5), .int .u8 (B 6), .int .u8 (B 7), .int .u8 (B 8), .int .u8 (B 9), .int .u8 (B 10), .int .u8 (B 11), .int .u8 (B 12), .int .u8 (B 13), .int .u8 (B 14), .int .u8 (B 15)] 26) (.cells #[.bool t, .int .u8 (A 0), .int .u8 (A 1), .int .u8 (A 2), .int .u8 (A 3), .int .u8 (A 4), .int .u8 (A 5), .int .u8 (A 6), .int .u8 (A 7), .int .u8 (A 8), .int .u8 (A 9), .int .u8 (A 10), .int .u8 (A 11), .int .u8 (A 12), .int .u8 (A 13), .int .u8 (A 14), .int .u8 (A 15)] 26)⟩
  have HU1 := Lib.hid (b16_u8 hB)
  have HU2 := Lib.hid (b16_u8 hA)
  have HV : Hid (adCmp s B t A = if s = t then cmpI (b16 B) (b16 A) else if s = true then 1 else -1) := Lib.hid rfl
  have HG1 := Lib.hid (fun j x (h : (b16 B)[j]? = some x) => (b16_at h))
  have HG2 := Lib.hid (fun j x (h : (b16 A)[j]? = some x) => (b16_at h))
  have HL1 : Hid ((b16 B).length = 16) := Lib.hid rfl
  have HL2 : Hid ((b16 A).length = 16) := Lib.hid rfl
  clear hB hA
  generalize adCmp s B t A = v at *
  generalize b16 B = xs at *
  generalize b16 A = ys at *
  unfold adV
  by_cases hst : s = t
  · subst hst
    rw [if_pos rfl] at HV
    have hss : (s == s) = true := by simp
    go_enter Tryz.func21, Tryz.ntmps21
    go_wp2_with fail
    generalize (w.alloc (.cells #[.bool s, .int .u8 (B 0), .int .u8 (B 1), .int .u8 (B 2), .int .u8 (B 3), .int .u8 (B 4), .int .u8 (B 5), .int .u8 (B 6), .int .u8 (B 7), .int .u8 (B 8), .int .u8 (B 9), .int .u8 (B 10), .int .u8 (B 11), .int .u8 (B 12), .int .u8 (B 13), .int .u8 (B 14), .int .u8 (B 15)] 26)).alloc (.cells #[.bool s, .int .u8 (A 0), .int .u8 (A 1), .int .u8 (A 2), .int .u8 (A 3), .int .u8 (A 4), .int .u8 (A 5), .int .u8 (A 6), .int .u8 (A 7), .int .u8 (A 8), .int .u8 (A 9), .int .u8 (A 10), .int .u8 (A 11), .int .u8 (A 12), .int .u8 (A 13), .int .u8 (A 14), .int .u8 (A 15)] 26) = w1 at *
    have hsx := HX.out.six
    have hsy := HY.out.six
    go_wp2_with fail
    have HCA := Lib.hid (fun (x : Later w1) => compare_any w.heap.size 1 16 (w.heap.size + 1) 1 16 16 xs ys x.world HL1.out HL2.out (fun j u hu => by
      obtain ⟨hj, rfl⟩ := HG1.out j u hu
      exact (HX.out.below x.below).cell j hj) (fun j u hu => by
      obtain ⟨hj, rfl⟩ := HG2.out j u hu
      exact (HY.out.below x.below).cell j hj) HU1.out HU2.out)
    have HCB : Hid (∀ (x : Later w1), Calls Tryz.prog 53 #[.slice (some ⟨w.heap.size, 1, none⟩) 16 16, .slice (some ⟨w.heap.size + 1, 1, none⟩) 16 16] x.world (RetAt x.world (.int .i64 (cmpI xs ys)))) := Lib.hid fun x => by
      refine Calls.mono (HCA.out x) ?_
      rintro e w' ⟨rfl, rfl⟩
      exact .mk rfl (Below.refl _ _)
    clear HCA hsx hsy
    refine wp_region_later (by kernel_rfl) (by kernel_rfl) ?_
    repeat go_big_quiet_step ((go_at_call 53; exact later_call (HCB.out _)))
    refine wpQuiet_nil ?_
    intro x
    go_wp2_with fail
    go_ret
    exact .mk (val_int HV.out.symm) (HB.out.trans (x.below.mono HB.out.size))
  · rw [if_neg hst] at HV
    cases s
    · have htt : t = true := by cases t; exact absurd rfl hst; rfl
      subst htt
      clear hst
      have HV2 : Hid (v = -1) := Lib.hid (by rw [HV.out]; rfl)
      clear HV
      go_enter Tryz.func21, Tryz.ntmps21
      go_wp2_with fail
      generalize (w.alloc (.cells #[.bool false, .int .u8 (B 0), .int .u8 (B 1), .int .u8 (B 2), .int .u8 (B 3), .int .u8 (B 4), .int .u8 (B 5), .int .u8 (B 6), .int .u8 (B 7), .int .u8 (B 8), .int .u8 (B 9), .int .u8 (B 10), .int .u8 (B 11), .int .u8 (B 12), .int .u8 (B 13), .int .u8 (B 14), .int .u8 (B 15)] 26)).alloc (.cells #[.bool true, .int .u8 (A 0), .int .u8 (A 1), .int .u8 (A 2), .int .u8 (A 3), .int .u8 (A 4), .int .u8 (A 5), .int .u8 (A 6), .int .u8 (A 7), .int .u8 (A 8), .int .u8 (A 9), .int .u8 (A 10), .int .u8 (A 11), .int .u8 (A 12), .int .u8 (A 13), .int .u8 (A 14), .int .u8 (A 15)] 26) = w1 at *
      have hsx := HX.out.six
      have hsy := HY.out.six
      go_wp2_with fail
      go_ret
      exact .mk (val_int HV2.out.symm) HB.out
    · have htt : t = false := by cases t; rfl; exact absurd rfl hst
      subst htt
      clear hst
      have HV2 : Hid (v = 1) := Lib.hid (by rw [HV.out]; rfl)
      clear HV
      go_enter Tryz.func21, Tryz.ntmps21
      go_wp2_with fail
      generalize (w.alloc (.cells #[.bool true, .int .u8 (B 0), .int .u8 (B 1), .int .u8 (B 2), .int .u8 (B 3), .int .u8 (B 4), .int .u8 (B 5), .int .u8 (B 6), .int .u8 (B 7), .int .u8 (B 8), .int .u8 (B 9), .int .u8 (B 10), .int .u8 (B 11), .int .u8 (B 12), .int .u8 (B 13), .int .u8 (B 14), .int .u8 (B 15)] 26)).alloc (.cells #[.bool false, .int .u8 (A 0), .int .u8 (A 1), .int .u8 (A 2), .int .u8 (A 3), .int .u8 (A 4), .int .u8 (A 5), .int .u8 (A 6), .int .u8 (A 7), .int .u8 (A 8), .int .u8 (A 9), .int .u8 (A 10), .int .u8 (A 11), .int .u8 (A 12), .int .u8 (A 13), .int .u8 (A 14), .int .u8 (A 15)] 26) = w1 at *
      have hsx := HX.out.six
      have hsy := HY.out.six
      go_wp2_with fail
      go_ret
      exact .mk (val_int HV2.out.symm) HB.out

theorem cmpI_drop (B A : Nat → Int) (k : Nat) (hk : k < 16) : cmpI ((b16 B).drop k) ((b16 A).drop k) = if B k < A k then -1 else if A k < B k then 1 else cmpI ((b16 B).drop (k + 1)) ((b16 A).drop (k + 1)) := by
  have e : ∀ C : Nat → Int, (b16 C).drop k = C k :: (b16 C).drop (k + 1) := fun C => by
    have hl : k < (b16 C).length := hk
    rw [List.drop_eq_getElem_cons hl]
    have := b16_get C k hk
    rw [List.getElem?_eq_getElem hl] at this
    rw [Option.some.inj this]
  rw [e B, e A]; rfl

set_option maxRecDepth 20000 in
set_option maxHeartbeats 8000000 in
theorem rcmp_any (s : Bool) (B : Nat → Int) (t : Bool) (A : Nat → Int) (hB : U8 B) (hA : U8 A) (w : World) :
    Calls Tryz.prog 33 #[adV s B, adV t A] w (RetAt w (.int .i64 (adCmp s B t A))) := by
  have HB := Lib.hid (show Below w.heap.size w ((w.alloc (.cells #[.bool s, .int .u8 (B 0), .int .u8 (B 1), .int .u8 (B 2), .int .u8 (B 3), .int .u8 (B 4), .int .u8 (B 5), .int .u8 (B 6), .int .u8 (B 7), .int .u8 (B 8), .int .u8 (B 9), .int .u8 (B 10), .int .u8 (B 11), .int .u8 (B 12), .int .u8 (B 13), .int .u8 (B 14), .int .u8 (B 15)] 41)).alloc (.cells #[.bool t, .int .u8 (A 0), .int .u8 (A 1), .int .u8 (A 2), .int .u8 (A 3), .int .u8 (A 4), .int .u8 (A 5), .int .u8 (A 6), .int .u8 (A 7), .int .u8 (A 8), .int .u8 (A 9), .int .u8 (A 10), .int .u8 (A 11), .int .u8 (A 12), .int .u8 (A 13), .int .u8 (A 14), .int .u8 (A 15)] 41)) from Below.all (Below.all (Below.refl _ _) _) _)
  have HX : Hid (AdBox ((w.alloc (.cells #[.bool s, .int .u8 (B 0), .int .u8 (B 1), .int .u8 (B 2), .int .u8 (B 3), .int .u8 (B 4), .int .u8 (B 5), .int .u8 (B 6), .int .u8 (B 7), .int .u8 (B 8), .int .u8 (B 9), .int .u8 (B 10), .int .u8 (B 11), .int .u8 (B 12), .int .u8 (B 13), .int .u8 (B 14), .int .u8 (B 15)] 41)).alloc (.cells #[.bool t, .int .u8 (A 0), .int .u8 (A 1), .int .u8 (A 2), .int .u8 (A 3), .int .u8 (A 4), .int .u8 (A 5), .int .u8 (A 6), .int .u8 (A 7), .int .u8 (A 8), .int .u8 (A 9), .int .u8 (A 10), .int .u8 (A 11), .int .u8 (A 12), .int .u8 (A 13), .int .u8 (A 14), .int .u8 (A 15)] 41)) w.heap.size 41 s B) := Lib.hid ⟨heap_alloc2_old w (.cells #[.bool s, .int .u8 (B 0), .int .u8 (B 1), .int .u8 (B 2), .int .u8 (B 3), .int .u8 (B 4), .int .u8 (B 5), .int .u8 (B 6), .int .u8 (B 7), .int .u8 (B 8), .int .u8 (B 9), .int .u8 (B 10), .int .u8 (B 11), .int .u8 (B 12), .int .u8 (B 13), .int .u8 (B 14), .int .u8 (B 15)] 41) (.cells #[.bool t, .int .u8 (A 0), .int .u8 (A 1), .int .u8 (A 2), .int .u8 (A 3), .int .u8 (A 4), .int .u8 (A 5), .int .u8 (A 6), .int .u8 (A 7), .int .u8 (A 8), .int .u8 (A 9), .int .u8 (A 10), .int .u8 (A 11), .int .u8 (A 12), .int .u8 (A 13), .int .u8 (A 14), .int .u8 (A 15)] 41)⟩
  have HY : Hid (AdBox ((w.alloc (.cells #[.bool s, .int .u8 (B 0), .int .u8 (B 1), .int .u8 (B 2), .int .u8 (B 3), .int .u8 (B 4), .int .u8 (B 5), .int .u8 (B 6), .int .u8 (B 7), .int .u8 (B 8), .int .u8 (B 9), .int .u8 (B 10), .int .u8 (B 11), .int .u8 (B 12), .int .u8 (B 13), .int .u8 (B 14), .int .u8 (B 15)] 41)).alloc (.cells #[.bool t, .int .u8 (A 0), .int .u8 (A 1), .int .u8 (A 2), .int .u8 (A 3), .int .u8 (A 4), .int .u8 (A 5), .int .u8 (A 6), .int .u8 (A 7), .int .u8 (A 8), .int .u8 (A 9), .int .u8 (A 10), .int .u8 (A 11), .int .u8 (A 12), .int .u8 (A 13), .int .u8 (A 14), .int .u8 (A 15)] 41)) (w.heap.size + 1) 41 t A) := Lib.hid ⟨heap_alloc2_new w (.cells #[.bool s, .int .u8 (B 0), .int .u8 (B 1), .int .u8 (B 2), .int .u8 (B 3), .int .u8 (B 4), .int .u8 (B 5), .int .u8 (B 6), .int .u8 (B 7), .int .u8 (B 8), .int .u8 (B 9), .int .u8 (B 10), .int .u8 (B 11), .int .u8 (B 12), .int .u8 (B 13), .int .u8 (B 14), .int .u8 (B 15)] 41) (.cells #[.bool t, .int .u8 (A 0), .int .u8 (A 1), .int .u8 (A 2), .int .u8 (A 3), .int .u8 (A 4), .int .u8 (A 5), .int .u8 (A 6), .int .u8 (A 7), .int .u8 (A 8), .int .u8 (A 9), .int .u8 (A 10), .int .u8 (A 11), .int .u8 (A 12), .int .u8 (A 13), .int .u8 (A 14), .int .u8 (A 15)] 41)⟩
  have HV : Hid (adCmp s B t A = if s = t then cmpI ((b16 B).drop 0) ((b16 A).drop 0) else if s = true then 1 else -1) := Lib.hid rfl
  have HS := Lib.hid (fun k hk => cmpI_drop B A k hk)
  have HE : Hid (cmpI ((b16 B).drop 16) ((b16 A).drop 16) = 0) := Lib.hid rfl
  have HU1 := Lib.hid hB
  have HU2 := Lib.hid hA
  clear hB hA
  generalize adCmp s B t A = v at *
  generalize hF : (fun k => cmpI ((b16 B).drop k) ((b16 A).drop k)) = F at *
  have HF : Hid (∀ k, cmpI ((b16 B).drop k) ((b16 A).drop k) = F k) := Lib.hid fun k => by rw [← hF]
  have HV2 : Hid (v = if s = t then F 0 else if s = true then 1 else -1) := Lib.hid (by rw [← HF.out 0]; exact HV.out)
  have HS2 : Hid (∀ k, k < 16 → F k = if B k < A k then -1 else if A k < B k then 1 else F (k + 1)) := Lib.hid fun k hk => by rw [← HF.out k, ← HF.out (k + 1)]; exact HS.out k hk
  have HE2 : Hid (F 16 = 0) := Lib.hid (by rw [← HF.out 16]; exact HE.out)
  clear hF HF HV HS HE
  unfold adV
  by_cases hst : s = t
  · subst hst
    have hss : (s == s) = true := by simp
    have HV4 : Hid (v = F 0) := Lib.hid (by rw [HV2.out, if_pos rfl])
    clear HV2
    go_enter Tryz.func33, Tryz.ntmps33
    go_wp2_with fail
    generalize (w.alloc (.cells #[.bool s, .int .u8 (B 0), .int .u8 (B 1), .int .u8 (B 2), .int .u8 (B 3), .int .u8 (B 4), .int .u8 (B 5), .int .u8 (B 6), .int .u8 (B 7), .int .u8 (B 8), .int .u8 (B 9), .int .u8 (B 10), .int .u8 (B 11), .int .u8 (B 12), .int .u8 (B 13), .int .u8 (B 14), .int .u8 (B 15)] 41)).alloc (.cells #[.bool s, .int .u8 (A 0), .int .u8 (A 1), .int .u8 (A 2), .int .u8 (A 3), .int .u8 (A 4), .int .u8 (A 5), .int .u8 (A 6), .int .u8 (A 7), .int .u8 (A 8), .int .u8 (A 9), .int .u8 (A 10), .int .u8 (A 11), .int .u8 (A 12), .int .u8 (A 13), .int .u8 (A 14), .int .u8 (A 15)] 41) = w1 at *
    have hsx := HX.out.six
    have hsy := HY.out.six
    go_wp2_with fail
    clear hsx hsy
    go_loopw [5] (fun u5 wr => ∃ k : Nat, k ≤ 16 ∧ u5 = .int .i64 k ∧ Hid (v = F k) ∧ Hid (AdBox wr w.heap.size 41 s B) ∧ Hid (AdBox wr (w.heap.size + 1) 41 s A) ∧ Hid (Below w.heap.size w wr)) (fun u5 _ => (16 : Int) - intOf u5 |>.toNat)
    case atStart => exact ⟨0, by omega, rfl, HV4, HX, HY, HB⟩
    case round =>
      obtain ⟨k, hk, rfl, HVk, HX, HY, HW⟩ := hrel
      by_cases hlt : k < 16
      · have hcx := HX.out.cell k hlt
        have hcy := HY.out.cell k hlt
        have HSk := Lib.hid (HS2.out k hlt)
        have hb1 := HU1.out k
        have hb2 := HU2.out k
        generalize B k = x at *
        generalize A k = y at *
        by_cases h1 : x < y
        · have HR : Hid (v = -1) := Lib.hid (by rw [HVk.out, HSk.out, if_pos h1])
          clear HVk HSk
          go_wp2_with fail
          go_region
          go_wp2_with fail
          go_ret
          exact .mk (val_int HR.out.symm) HW.out.drew
        · by_cases h2 : y < x
          · have HR : Hid (v = 1) := Lib.hid (by rw [HVk.out, HSk.out, if_neg h1, if_pos h2])
            clear HVk HSk
            go_wp2_with fail
            go_region
            go_wp2_with fail
            go_region
            go_wp2_with fail
            go_ret
            exact .mk (val_int HR.out.symm) HW.out.drew.drew
          · have HR : Hid (v = F (k + 1)) := Lib.hid (by rw [HVk.out, HSk.out, if_neg h1, if_neg h2])
            clear HVk HSk
            go_wp2_with fail
            go_region
            go_wp2_with fail
            go_region
            go_wp2_with fail
            go_roundw
            case rel => exact ⟨k + 1, by omega, by go_num, HR, Lib.hid ((HX.out.below (Below.refl _ _).drew).below (Below.refl _ _).drew), Lib.hid ((HY.out.below (Below.refl _ _).drew).below (Below.refl _ _).drew), Lib.hid HW.out.drew.drew⟩
            case measure => simp [intOf]; omega
      · obtain rfl : k = 16 := by omega
        have HR : Hid (v = 0) := Lib.hid (by rw [HVk.out]; exact HE2.out)
        clear HVk
        go_wp2_with fail
        go_ret
        exact .mk (val_int HR.out.symm) HW.out
  · cases s
    · have htt : t = true := by cases t; exact absurd rfl hst; rfl
      subst htt
      clear hst
      have HV4 : Hid (v = -1) := Lib.hid (by rw [HV2.out, if_neg (by decide)]; rfl)
      clear HV2
      go_enter Tryz.func33, Tryz.ntmps33
      go_wp2_with fail
      generalize (w.alloc (.cells #[.bool false, .int .u8 (B 0), .int .u8 (B 1), .int .u8 (B 2), .int .u8 (B 3), .int .u8 (B 4), .int .u8 (B 5), .int .u8 (B 6), .int .u8 (B 7), .int .u8 (B 8), .int .u8 (B 9), .int .u8 (B 10), .int .u8 (B 11), .int .u8 (B 12), .int .u8 (B 13), .int .u8 (B 14), .int .u8 (B 15)] 41)).alloc (.cells #[.bool true, .int .u8 (A 0), .int .u8 (A 1), .int .u8 (A 2), .int .u8 (A 3), .int .u8 (A 4), .int .u8 (A 5), .int .u8 (A 6), .int .u8 (A 7), .int .u8 (A 8), .int .u8 (A 9), .int .u8 (A 10), .int .u8 (A 11), .int .u8 (A 12), .int .u8 (A 13), .int .u8 (A 14), .int .u8 (A 15)] 41) = w1 at *
      have hsx := HX.out.six
      have hsy := HY.out.six
      go_wp2_with fail
      go_ret
      exact .mk (val_int HV4.out.symm) HB.out
    · have htt : t = false := by cases t; rfl; exact absurd rfl hst
      subst htt
      clear hst
      have HV4 : Hid (v = 1) := Lib.hid (by rw [HV2.out, if_neg (by decide)]; rfl)
      clear HV2
      go_enter Tryz.func33, Tryz.ntmps33
      go_wp2_with fail
      generalize (w.alloc (.cells #[.bool true, .int .u8 (B 0), .int .u8 (B 1), .int .u8 (B 2), .int .u8 (B 3), .int .u8 (B 4), .int .u8 (B 5), .int .u8 (B 6), .int .u8 (B 7), .int .u8 (B 8), .int .u8 (B 9), .int .u8 (B 10), .int .u8 (B 11), .int .u8 (B 12), .int .u8 (B 13), .int .u8 (B 14), .int .u8 (B 15)] 41)).alloc (.cells #[.bool false, .int .u8 (A 0), .int .u8 (A 1), .int .u8 (A 2), .int .u8 (A 3), .int .u8 (A 4), .int .u8 (A 5), .int .u8 (A 6), .int .u8 (A 7), .int .u8 (A 8), .int .u8 (A 9), .int .u8 (A 10), .int .u8 (A 11), .int .u8 (A 12), .int .u8 (A 13), .int .u8 (A 14), .int .u8 (A 15)] 41) = w1 at *
      have hsx := HX.out.six
      have hsy := HY.out.six
      go_wp2_with fail
      go_ret
      exact .mk (val_int HV4.out.symm) HB.out

/-- A prefix's text. -/
def pfText (s : Bool) (B : Nat → Int) (n : Int) : List UInt8 := if rightPB s B n = true then adText s B ++ [47] ++ Lib.decDigits n.toNat else []
theorem text4_len (b : Nat → Nat) (hb : ∀ i, b i < 256) : (text4 b).length ≤ 100000 := by
  refine Nat.le_trans (joinL_len 46 257 _ fun p hp => ?_) (by simp)
  obtain ⟨i, -, rfl⟩ := List.mem_map.1 hp
  exact decDigits_small _ (hb i)
theorem text6_len (g : Nat → Nat) (hg : ∀ i, g i < 65536) : (text6 g).length ≤ 100000 := by
  have hp : ∀ p ∈ (List.range 8).map fun i => digB 16 (g i), p.length ≤ 4 := fun p hp => by
    obtain ⟨i, -, rfl⟩ := List.mem_map.1 hp
    exact digB16_len _ (hg i)
  rw [text6_of]
  split
  · exact Nat.le_trans (joinL_len 58 4 _ hp) (by simp)
  · have h1 := joinL_len 58 4 (((List.range 8).map fun i => digB 16 (g i)).take (noughtsZ (zg g)).1) (fun p h => hp p (List.mem_of_mem_take h))
    have h2 := joinL_len 58 4 (((List.range 8).map fun i => digB 16 (g i)).drop (noughtsZ (zg g)).2) (fun p h => hp p (List.mem_of_mem_drop h))
    rw [List.length_take, List.length_map, List.length_range] at h1
    rw [List.length_drop, List.length_map, List.length_range] at h2
    simp only [List.length_append, List.length_cons, List.length_nil]
    have h3 : min (noughtsZ (zg g)).1 8 * (4 + 1) ≤ 40 := by have := Nat.min_le_right (noughtsZ (zg g)).1 8; omega
    have h4 : (8 - (noughtsZ (zg g)).2) * (4 + 1) ≤ 40 := by omega
    omega
theorem adText_len (s : Bool) (B : Nat → Int) (hB : U8 B) : (adText s B).length ≤ 100000 := by
  unfold adText
  split
  · split
    · exact text6_len _ fun i => grpN_lt hB i
    · exact text4_len _ fun i => by have := hB i; omega
  · simp

set_option maxRecDepth 20000 in
set_option maxHeartbeats 8000000 in
theorem ptext_any (s : Bool) (B : Nat → Int) (n : Int) (hB : U8 B) (hn0 : -9223372036854775808 ≤ n) (hn1 : n ≤ 9223372036854775807) (w : World) (henv : Env w) :
    Calls Tryz.prog 22 #[pfV s B n] w (RetAt w (.string ⟨(pfText s B n).toArray⟩)) := by
  have HP := Lib.hid (fun w => pright_any s B n hB hn0 hn1 w)
  have HT := Lib.hid (fun w h => text_any s B hB w h)
  have HE := Lib.hid henv
  have hl := adText_len s B hB
  have HV : Hid (pfText s B n = if rightPB s B n = true then adText s B ++ [47] ++ Lib.decDigits n.toNat else []) := Lib.hid rfl
  have HN : Hid (rightPB s B n = true → n = (clampN s n : Int)) := Lib.hid fun h => by
    unfold rightPB at h
    simp only [Bool.and_eq_true, beq_iff_eq] at h
    exact h.2.2.symm
  have HCL := clampN_le s n
  clear henv hB
  generalize pfText s B n = T at *
  generalize adText s B = L at *
  generalize hp : rightPB s B n = bp at *
  have HX : Hid (PfBox (w.alloc (.cells #[.bool s, .int .u8 (B 0), .int .u8 (B 1), .int .u8 (B 2), .int .u8 (B 3), .int .u8 (B 4), .int .u8 (B 5), .int .u8 (B 6), .int .u8 (B 7), .int .u8 (B 8), .int .u8 (B 9), .int .u8 (B 10), .int .u8 (B 11), .int .u8 (B 12), .int .u8 (B 13), .int .u8 (B 14), .int .u8 (B 15), .int .i64 n] 33)) w.heap.size 33 s B n) := Lib.hid (PfBox.made w _ s B n)
  have HW : Hid (Below w.heap.size w (w.alloc (.cells #[.bool s, .int .u8 (B 0), .int .u8 (B 1), .int .u8 (B 2), .int .u8 (B 3), .int .u8 (B 4), .int .u8 (B 5), .int .u8 (B 6), .int .u8 (B 7), .int .u8 (B 8), .int .u8 (B 9), .int .u8 (B 10), .int .u8 (B 11), .int .u8 (B 12), .int .u8 (B 13), .int .u8 (B 14), .int .u8 (B 15), .int .i64 n] 33))) := Lib.hid (Below.all (Below.refl w.heap.size w) _)
  cases bp
  · rw [if_neg (by simp)] at HV
    clear HN HCL
    unfold adV pfV at *
    go_enter Tryz.func22, Tryz.ntmps22
    go_wp2_with fail
    refine Calls.later (HP.out _) ?_
    intro x
    go_wp2_with fail
    go_ret
    exact .mk (by rw [HV.out]; rfl) (Below.lat (Below.all (Below.refl _ _) _))
  · rw [if_pos rfl] at HV
    have hn := HN.out rfl
    generalize clampN s n = m at *
    subst hn
    rw [Int.toNat_natCast] at HV
    unfold adV pfV at *
    go_enter Tryz.func22, Tryz.ntmps22
    go_wp2_with fail
    generalize w.alloc (.cells #[.bool s, .int .u8 (B 0), .int .u8 (B 1), .int .u8 (B 2), .int .u8 (B 3), .int .u8 (B 4), .int .u8 (B 5), .int .u8 (B 6), .int .u8 (B 7), .int .u8 (B 8), .int .u8 (B 9), .int .u8 (B 10), .int .u8 (B 11), .int .u8 (B 12), .int .u8 (B 13), .int .u8 (B 14), .int .u8 (B 15), .int .i64 (m : Int)] 33) = w1 at *
    refine Calls.mono (HP.out _) ?_
    rintro e w2 ⟨rfl, hb2⟩
    have HX2 := Lib.hid (HX.out.below hb2)
    have HW2 := Lib.hid (Below.via HW.out hb2)
    clear hb2 HX HW HP
    go_wp2_with fail
    have hA := HX2.out.ad
    have hN := HX2.out.len
    have hlt := HX2.out.lt
    have hld := decDigits_small m (by omega)
    have HT2 := Lib.hid (fun (x : Later w2) => HT.out x.world ((HE.out.below HW2.out).later x))
    have HI2 := Lib.hid (fun (x : Later w2) => itoa_any m (by omega) x.world ((HE.out.below HW2.out).later x))
    generalize Lib.decDigits m = D at *
    have hl1 : L.length + 1 ≤ 9223372036854775807 := by omega
    have hl2 : (L.length : Int) + 1 ≤ 9223372036854775807 := by omega
    have hl3 : L.length + 1 + D.length ≤ 9223372036854775807 := by omega
    have hl4 : (L.length : Int) + 1 + (D.length : Int) ≤ 9223372036854775807 := by omega
    refine wp_region_later (by kernel_rfl) (by kernel_rfl) ?_
    repeat go_big_quiet_step (first | (go_at_call 10; exact later_call (HT2.out _)) | (go_at_call 41; exact later_call (HI2.out _)))
    refine wpQuiet_nil ?_
    intro x
    go_wp2_with fail
    go_ret
    refine .mk ?_ (HW2.out.trans (x.below.mono HW2.out.size))
    rw [HV.out]
    simp only [← bytes_append]
    rfl
end Go.Proofs.YtcadpcppnllhnaaGreatDoor
end

/- Walks over texts: the reference's text of an address. -/
section
set_option linter.unusedSimpArgs false
set_option linter.unusedVariables false
namespace Go.Proofs.YtcadpcppnllhnaaGreatDoor
open Go.RowKit

set_option maxHeartbeats 1000000 in
theorem digits16_any (k : Nat) : ∀ (m : Int) (w : World), 0 ≤ m → m < 65536 → m ≤ k → Calls Tryz.prog 11 #[.int .i64 m, .int .i64 16] w (RetAt w (.string ⟨(digB 16 m.toNat).toArray⟩)) := by
  induction k with
  | zero =>
    intro m w h0 h1 hk
    obtain rfl : m = 0 := by omega
    have hsl := slice_digit 0 (by decide)
    go_enter Tryz.func11, Tryz.ntmps11
    go_wp2_with fail
    go_ret
    exact .mk (val_string (by decide +kernel)) (Below.refl _ _)
  | succ k ih =>
    intro m w h0 h1 hk
    by_cases hm : m < 16
    · obtain ⟨d, rfl⟩ : ∃ d : Nat, m = d := ⟨m.toNat, by omega⟩
      have hsl := slice_digit d (by omega)
      clear ih
      go_enter Tryz.func11, Tryz.ntmps11
      go_wp2_with fail
      go_ret
      refine .mk (val_string ?_) (Below.refl _ _)
      rw [Int.toNat_natCast, digB, dif_pos (by omega)]
    · have IH := Lib.hid ih
      have q1 : m.tdiv 16 = m / 16 := Int.tdiv_eq_ediv_of_nonneg h0
      have q2 : m.tmod 16 = m % 16 := Int.tmod_eq_emod_of_nonneg h0
      have q3 : IntKind.i64.wrap (m / 16) = m / 16 := IntWalk.i64_in _ (by omega)
      have q4 : IntKind.i64.wrap (m % 16) = m % 16 := IntWalk.i64_in _ (by omega)
      have hl1 : (digB 16 (m / 16).toNat).length ≤ 100000 := by have := digB_len 16 _ _ (Nat.le_refl (m / 16).toNat); omega
      have hl2 : (digB 16 (m % 16).toNat).length ≤ 100000 := by have := digB_len 16 _ _ (Nat.le_refl (m % 16).toNat); omega
      have hl3 : (digB 16 (m / 16).toNat).length + (digB 16 (m % 16).toNat).length ≤ 9223372036854775807 := by omega
      have hl4 : ((digB 16 (m / 16).toNat).length : Int) + ((digB 16 (m % 16).toNat).length : Int) ≤ 9223372036854775807 := by omega
      have hcat := concat_small (digB 16 (m / 16).toNat) (digB 16 (m % 16).toNat) hl1 hl2
      clear ih
      go_enter Tryz.func11, Tryz.ntmps11
      go_wp2_with fail
      refine wp_region_later (by kernel_rfl) (by kernel_rfl) ?_
      iterate 4 go_big_quiet_step (fail)
      go_big_quiet_step ((go_at_call 11; exact later_call (IH.out (m / 16) _ (by omega) (by omega) (by omega))))
      iterate 4 go_big_quiet_step (fail)
      go_big_quiet_step ((go_at_call 11; exact later_call (IH.out (m % 16) _ (by omega) (by omega) (by omega))))
      repeat go_big_quiet_step (fail)
      refine wpQuiet_nil ?_
      intro x
      go_wp2_with fail
      go_ret
      refine .mk (val_string ?_) x.below
      have e1 : m.toNat / 16 = (m / 16).toNat := by omega
      have e2 : m.toNat % 16 = (m % 16).toNat := by omega
      rw [digB.eq_def 16 m.toNat, dif_neg (by omega), e1, e2, digB.eq_def 16 (m % 16).toNat, dif_pos (by omega)]
      exact bytes_append _ [_]

theorem runZ_le (z : Nat → Bool) : ∀ (f i : Nat), runZ z f i ≤ f
  | 0, _ => Nat.le_refl _
  | f + 1, i => by
    rw [runZ]
    have := runZ_le z f (i + 1)
    split <;> omega

set_option maxRecDepth 20000 in
set_option maxHeartbeats 8000000 in
theorem run_any (six : Bool) (B : Nat → Int) (hB : U8 B) (z : Nat → Bool) (hz : ∀ k, k < 8 → z k = (grpI B k == 0)) (i : Nat) (hi : i ≤ 8) (w : World) :
    Calls Tryz.prog 55 #[adV six B, .int .i64 (i : Int)] w (RetAt w (.int .i64 ((runZ z (8 - i) i : Nat) : Int))) := by
  have HX : Hid (AdBox (w.alloc (.cells #[.bool six, .int .u8 (B 0), .int .u8 (B 1), .int .u8 (B 2), .int .u8 (B 3), .int .u8 (B 4), .int .u8 (B 5), .int .u8 (B 6), .int .u8 (B 7), .int .u8 (B 8), .int .u8 (B 9), .int .u8 (B 10), .int .u8 (B 11), .int .u8 (B 12), .int .u8 (B 13), .int .u8 (B 14), .int .u8 (B 15)] 41)) w.heap.size 41 six B) := Lib.hid (AdBox.made w _ six B)
  have HB := Lib.hid (Below.all (Below.refl w.heap.size w) (.cells #[.bool six, .int .u8 (B 0), .int .u8 (B 1), .int .u8 (B 2), .int .u8 (B 3), .int .u8 (B 4), .int .u8 (B 5), .int .u8 (B 6), .int .u8 (B 7), .int .u8 (B 8), .int .u8 (B 9), .int .u8 (B 10), .int .u8 (B 11), .int .u8 (B 12), .int .u8 (B 13), .int .u8 (B 14), .int .u8 (B 15)] 41))
  have HG := Lib.hid (fun k hk w => rgroup_any six B hB k hk w)
  have HZ := Lib.hid hz
  clear hB hz
  unfold adV at *
  go_enter Tryz.func55, Tryz.ntmps55
  go_wp2_with fail
  generalize w.alloc (.cells #[.bool six, .int .u8 (B 0), .int .u8 (B 1), .int .u8 (B 2), .int .u8 (B 3), .int .u8 (B 4), .int .u8 (B 5), .int .u8 (B 6), .int .u8 (B 7), .int .u8 (B 8), .int .u8 (B 9), .int .u8 (B 10), .int .u8 (B 11), .int .u8 (B 12), .int .u8 (B 13), .int .u8 (B 14), .int .u8 (B 15)] 41) = w1 at *
  go_loopw [5] (fun u5 wr => ∃ n : Nat, i + n ≤ 8 ∧ u5 = .int .i64 n ∧ Hid (runZ z (8 - i) i = n + runZ z (8 - (i + n)) (i + n)) ∧ Hid (AdBox wr w.heap.size 41 six B) ∧ Hid (Below w.heap.size w wr)) (fun u5 _ => (8 : Int) - intOf u5 |>.toNat)
  case atStart => exact ⟨0, hi, rfl, Lib.hid (by simp), HX, HB⟩
  case round =>
    obtain ⟨n, hin, rfl, HN, HX, HW⟩ := hrel
    by_cases hlt : i + n < 8
    · have hpp := HX.out.part
      have hlt2 : (i : Int) + n < 8 := by omega
      have hzn := HZ.out (i + n) hlt
      have HS : Hid (runZ z (8 - (i + n)) (i + n) = if z (i + n) then runZ z (8 - (i + (n + 1))) (i + (n + 1)) + 1 else 0) := Lib.hid (by
        rw [show runZ z (8 - (i + n)) (i + n) = runZ z (8 - (i + (n + 1)) + 1) (i + n) by rw [show 8 - (i + n) = 8 - (i + (n + 1)) + 1 by omega]]; rfl)
      have HGn := HG.out (i + n) hlt
      rw [show (((i + n : Nat)) : Int) = (i : Int) + n by omega] at HGn
      have HGn := Lib.hid HGn
      generalize grpI B (i + n) = g at *
      go_wp2_with fail
      refine Calls.mono (HGn.out _) ?_
      rintro e w2 ⟨rfl, hb2⟩
      have HX2 := Lib.hid (HX.out.below hb2)
      have HW2 := Lib.hid (Below.via HW.out hb2)
      clear hpp hb2 HX HW
      by_cases hg : g = 0
      · have hzt : z (i + n) = true := by rw [hzn, hg]; rfl
        subst hg
        have HS2 := HS.out
        rw [hzt, if_pos rfl] at HS2
        have HS3 := Lib.hid HS2
        clear HS HS2 hzt hzn HGn
        go_wp2_with fail
        go_roundw
        case rel => exact ⟨n + 1, by omega, by go_num, Lib.hid (by rw [HN.out, HS3.out]; omega), HX2, HW2⟩
        case measure => simp [intOf]; omega
      · have hzt : z (i + n) = false := by rw [hzn]; simpa using hg
        have HS2 := HS.out
        rw [hzt, if_neg (by simp)] at HS2
        have HR : Hid (runZ z (8 - i) i = n) := Lib.hid (by rw [HN.out, HS2]; rfl)
        clear HS HS2 hzt hzn HGn HN
        go_wp2_with fail
        go_ret
        exact .mk (by rw [HR.out]; rfl) HW2.out
    · have hlt2 : ¬ ((i : Int) + n < 8) := by omega
      have HR : Hid (runZ z (8 - i) i = n) := Lib.hid (by rw [HN.out, show 8 - (i + n) = 0 by omega]; rfl)
      clear HN
      go_wp2_with fail
      go_ret
      exact .mk (by rw [HR.out]; rfl) HW.out

set_option maxRecDepth 20000 in
set_option maxHeartbeats 8000000 in
theorem rtext_wrong (six : Bool) (B : Nat → Int) (hr : rightB six B = false) (w : World) :
    Calls Tryz.prog 31 #[adV six B] w (RetAt w (.string ⟨([] : List UInt8).toArray⟩)) := by
  have HR : Hid (∀ w, Calls Tryz.prog 19 #[adV six B] w (RetAt w (.bool false))) := Lib.hid fun w => by rw [← hr]; exact rright_any six B w
  clear hr
  unfold adV at *
  go_enter Tryz.func31, Tryz.ntmps31
  go_wp2_with fail
  refine Calls.later (HR.out _) ?_
  intro x
  go_wp2_with fail
  go_ret
  exact .mk rfl (Below.lat (Below.all (Below.refl _ _) _))

theorem digits10_dec (b : Nat) (h : b < 65536) (w : World) : Calls Tryz.prog 11 #[.int .i64 (b : Int), .int .i64 10] w (RetAt w (.string ⟨(Lib.decDigits b).toArray⟩)) := by
  have := digits10_any b (b : Int) w (by omega) (by omega) (by omega)
  rwa [Int.toNat_natCast, digB_ten b b (Nat.le_refl _)] at this

end Go.Proofs.YtcadpcppnllhnaaGreatDoor
end

/- Walks over texts: the reference's text of an address of four bytes. -/
section
set_option linter.unusedSimpArgs false
set_option linter.unusedVariables false
namespace Go.Proofs.YtcadpcppnllhnaaGreatDoor
open Go.RowKit

set_option maxRecDepth 20000 in
set_option maxHeartbeats 8000000 in
theorem rtext_four (B : Nat → Int) (hB : U8 B) (hr : rightB false B = true) (w : World) :
    Calls Tryz.prog 31 #[adV false B] w (RetAt w (.string ⟨(text4 fun i => (B i).toNat).toArray⟩)) := by
  have HR : Hid (∀ w, Calls Tryz.prog 19 #[adV false B] w (RetAt w (.bool true))) := Lib.hid fun w => by rw [← hr]; exact rright_any false B w
  have HX : Hid (AdBox (w.alloc (.cells #[.bool false, .int .u8 (B 0), .int .u8 (B 1), .int .u8 (B 2), .int .u8 (B 3), .int .u8 (B 4), .int .u8 (B 5), .int .u8 (B 6), .int .u8 (B 7), .int .u8 (B 8), .int .u8 (B 9), .int .u8 (B 10), .int .u8 (B 11), .int .u8 (B 12), .int .u8 (B 13), .int .u8 (B 14), .int .u8 (B 15)] 41)) w.heap.size 41 false B) := Lib.hid (AdBox.made w _ false B)
  have HW : Hid (Below w.heap.size w (w.alloc (.cells #[.bool false, .int .u8 (B 0), .int .u8 (B 1), .int .u8 (B 2), .int .u8 (B 3), .int .u8 (B 4), .int .u8 (B 5), .int .u8 (B 6), .int .u8 (B 7), .int .u8 (B 8), .int .u8 (B 9), .int .u8 (B 10), .int .u8 (B 11), .int .u8 (B 12), .int .u8 (B 13), .int .u8 (B 14), .int .u8 (B 15)] 41))) := Lib.hid (Below.all (Below.refl w.heap.size w) _)
  have HT : Hid (text4 (fun i => (B i).toNat) = Lib.decDigits (B 0).toNat ++ [46] ++ Lib.decDigits (B 1).toNat ++ [46] ++ Lib.decDigits (B 2).toNat ++ [46] ++ Lib.decDigits (B 3).toNat) := Lib.hid (by
    show joinL 46 [Lib.decDigits (B 0).toNat, Lib.decDigits (B 1).toNat, Lib.decDigits (B 2).toNat, Lib.decDigits (B 3).toNat] = _
    simp [joinL])
  have h0 := hB 0
  have h1 := hB 1
  have h2 := hB 2
  have h3 := hB 3
  generalize text4 (fun i => (B i).toNat) = T at *
  clear hB hr
  unfold adV at *
  go_enter Tryz.func31, Tryz.ntmps31
  go_wp2_with fail
  generalize w.alloc (.cells #[.bool false, .int .u8 (B 0), .int .u8 (B 1), .int .u8 (B 2), .int .u8 (B 3), .int .u8 (B 4), .int .u8 (B 5), .int .u8 (B 6), .int .u8 (B 7), .int .u8 (B 8), .int .u8 (B 9), .int .u8 (B 10), .int .u8 (B 11), .int .u8 (B 12), .int .u8 (B 13), .int .u8 (B 14), .int .u8 (B 15)] 41) = w1 at *
  refine Calls.mono (HR.out _) ?_
  rintro e w2 ⟨rfl, hb2⟩
  have HX2 := Lib.hid (HX.out.below hb2)
  have HW2 := Lib.hid (Below.via HW.out hb2)
  have hsx := HX2.out.six
  clear hb2 HX HW HR
  go_wp2_with fail
  clear hsx
  have hc0 : w2.cell? ⟨w.heap.size, 1, none⟩ = some (.int .u8 (B 0)) := HX2.out.cell 0 (by omega)
  have hc1 : w2.cell? ⟨w.heap.size, 2, none⟩ = some (.int .u8 (B 1)) := HX2.out.cell 1 (by omega)
  have hc2 : w2.cell? ⟨w.heap.size, 3, none⟩ = some (.int .u8 (B 2)) := HX2.out.cell 2 (by omega)
  have hc3 : w2.cell? ⟨w.heap.size, 4, none⟩ = some (.int .u8 (B 3)) := HX2.out.cell 3 (by omega)
  have hlt := HX2.out.lt
  obtain ⟨b0, e0⟩ : ∃ b : Nat, B 0 = b := ⟨(B 0).toNat, by omega⟩
  obtain ⟨b1, e1⟩ : ∃ b : Nat, B 1 = b := ⟨(B 1).toNat, by omega⟩
  obtain ⟨b2, e2⟩ : ∃ b : Nat, B 2 = b := ⟨(B 2).toNat, by omega⟩
  obtain ⟨b3, e3⟩ : ∃ b : Nat, B 3 = b := ⟨(B 3).toNat, by omega⟩
  rw [e0, e1, e2, e3] at HT
  rw [e0] at hc0 h0
  rw [e1] at hc1 h1
  rw [e2] at hc2 h2
  rw [e3] at hc3 h3
  simp only [Int.toNat_natCast] at HT
  clear e0 e1 e2 e3
  have HD0 := Lib.hid (fun w => digits10_dec b0 (by omega) w)
  have HD1 := Lib.hid (fun w => digits10_dec b1 (by omega) w)
  have HD2 := Lib.hid (fun w => digits10_dec b2 (by omega) w)
  have HD3 := Lib.hid (fun w => digits10_dec b3 (by omega) w)
  have l0 := decDigits_small b0 (by omega)
  have l1 := decDigits_small b1 (by omega)
  have l2 := decDigits_small b2 (by omega)
  have l3 := decDigits_small b3 (by omega)
  generalize Lib.decDigits b0 = d0 at *
  generalize Lib.decDigits b1 = d1 at *
  generalize Lib.decDigits b2 = d2 at *
  generalize Lib.decDigits b3 = d3 at *
  refine wp_region_later (by kernel_rfl) (by kernel_rfl) ?_
  repeat go_big_quiet_step (fail)
  go_big_quiet_step ((go_at_call 11; exact later_call (HD0.out _)))
  repeat go_big_quiet_step (fail)
  go_big_quiet_step ((go_at_call 11; exact later_call (HD1.out _)))
  repeat go_big_quiet_step (fail)
  go_big_quiet_step ((go_at_call 11; exact later_call (HD2.out _)))
  repeat go_big_quiet_step (fail)
  go_big_quiet_step ((go_at_call 11; exact later_call (HD3.out _)))
  repeat go_big_quiet_step (fail)
  refine wpQuiet_nil ?_
  intro x
  go_wp2_with fail
  go_ret
  refine .mk ?_ (HW2.out.trans (x.below.mono HW2.out.size))
  rw [HT.out]
  simp only [← bytes_append]
  rfl

end Go.Proofs.YtcadpcppnllhnaaGreatDoor
end
