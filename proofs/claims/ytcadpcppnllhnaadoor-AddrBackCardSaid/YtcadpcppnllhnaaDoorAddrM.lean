/- Walks over texts: six. -/
import Derived.Test.YtcadpcppnllhnaaDoorAddrL
import Derived.Test.YtcadpcppnllhnaaDoorZeros
import Derived.Test.YtcadpcppnllhnaaDoorParsePlain
set_option linter.unusedSimpArgs false
set_option linter.unusedVariables false
namespace Go.Proofs.YtcadpcppnllhnaaDoor
open Go.RowKit

/-- What both 'six' answer. -/
def SixPost (w : World) (o : Option (List Nat)) : Ending → World → Prop := fun e w' => Below w.heap.size w w' ∧
  ((∃ l, o = some l ∧ e = .returned (.tuple #[adV true (sixB l), .bool true])) ∨ (o = none ∧ e = .returned (.tuple #[adV false fun _ => 0, .bool false])))

section
variable {P : Program}
/-- 'v = append(v, u...)', both own rows of one-cell elements. -/
theorem wpList_append_rows (w : World) {ops : Array Oper} {rest : List Oper} {o : Oper} {a : Act} {Q : Exit → Act → World → Prop}
    (hg : o.guard = none) (s x : Operand) (t : TypeId) (hop : o.op = Op.call { callee := Callee.builtin Builtin.append, args := #[s, x], argTypes := #[t, t] })
    (e : TypeId) (z : Value) (bytes base base2 : Nat) (ht : P.underlying t = some (.slice e)) (hinfo : (P.info? e).map (fun i => (i.zero, i.size, i.bytes)) = some (some z, 1, bytes)) (hzs : z.cells.size = 1)
    (oa : Option Addr) (n cap : Nat) (xs : List Value) (hs : a.eval s = .slice oa n cap) (hown : Owns w base 1 oa n cap xs)
    (A : Option Addr) (m c : Nat) (ys : List Value) (hx : a.eval x = .slice A m c) (hsrc : Owns w base2 1 A m c ys) (h1 : ∀ u ∈ ys, u.oneCell' = true)
    (h63 : n + m ≤ maxLen) (hbytes : (n + m) * bytes ≤ 140737488355328) (hbase : base ≤ w.heap.size)
    (h : ∀ oa' cap' w', Owns w' base 1 oa' (n + m) cap' (xs ++ ys) → w.grownBy w' (oa.map Addr.block) → (∀ a, oa' = some a → oa = some a ∨ w.heap.size ≤ a.block) → wpList P ops Q rest (a.put o.dst (.slice oa' (n + m) cap')) w') :
    wpList P ops Q (o :: rest) a w := by
  rcases Nat.eq_zero_or_pos m with h0 | h0
  · subst h0
    have hy : ys = [] := List.eq_nil_of_length_eq_zero (by simpa using hsrc.len)
    subst hy
    obtain ⟨i, hi, -, h4, -⟩ := info_parts hinfo
    have hr := run_append_empty (P := P) w t o.type e 1 ht (by rw [hi, ← h4]; rfl) oa n cap hown.le A c
    exact Lib.wpList_append_run w hg s x t t hop _ _ hs hx _ _ hr (h oa cap w (by simpa using hown) (World.grownBy_refl w _) fun a ha => .inl ha)
  · obtain ⟨g, off, rfl, -, -, hc, -⟩ := hsrc.here h0
    exact wpList_append_owns w hg s x t hop e z 1 bytes base ht hinfo hzs (by omega) oa n cap xs hs hown ⟨g, off, none⟩ m c ys hx hsrc.len (fun j u hu => by rw [Addr.add_lit]; exact hc j u hu) h1 h0 h63 hbytes hbase h
end

/-- Both bytes of the k-th group are written. -/
theorem ad_six {w : World} {b : Nat} {t : TypeId} {k : Nat} {L : List Nat} (h : AdBox w b t true (fun j => if j < 2 * k then sixB L j else 0)) (hk : k < 8) {u v : Int} (hu : u = sixB L (2 * k)) (hv : v = sixB L (2 * k + 1)) :
    AdBox ((w.setCell ⟨b, 1 + 2 * k, none⟩ (.int .u8 u)).setCell ⟨b, 1 + (2 * k + 1), none⟩ (.int .u8 v)) b t true (fun j => if j < 2 * (k + 1) then sixB L j else 0) :=
  ((h.set (2 * k) (by omega) u).set (2 * k + 1) (by omega) v).congr fun i _ => by
    by_cases e : i = 2 * k + 1
    · subst e; simp only [if_true, if_pos (show 2 * k + 1 < 2 * (k + 1) by omega), hv]
    · by_cases e2 : i = 2 * k
      · subst e2; simp only [if_neg e, if_true, if_pos (show 2 * k < 2 * (k + 1) by omega), hu]
      · simp only [if_neg e, if_neg e2]
        by_cases h : i < 2 * k
        · rw [if_pos h, if_pos (show i < 2 * (k + 1) by omega)]
        · rw [if_neg h, if_neg (show ¬ i < 2 * (k + 1) by omega)]

set_option maxRecDepth 20000 in
set_option maxHeartbeats 8000000 in
theorem six_any (s : ByteArray) (w : World) (hs : s.size ≤ 1000) (henv : Env w) : Calls Tryd.prog 32 #[.string s] w (SixPost w (sixL s.data.toList)) := by
  have HE := Lib.hid henv
  obtain ⟨m, hm⟩ := henv.len
  have HS6 := Lib.hid (sixL_cut s.data.toList)
  have hls : s.data.toList.length = s.size := by rw [Array.length_toList, ByteArray.size_data]
  have hcl := cut_len s.data.toList [58, 58]
  have HC := Lib.hid (fun (w : World) h => Tryd.strings_Cut s ⟨#[58, 58]⟩ m w (by omega) h)
  have HB0 : Hid (Below w.heap.size w (w.alloc (.cells #[.bool false, .int .u8 0, .int .u8 0, .int .u8 0, .int .u8 0, .int .u8 0, .int .u8 0, .int .u8 0, .int .u8 0, .int .u8 0, .int .u8 0, .int .u8 0, .int .u8 0, .int .u8 0, .int .u8 0, .int .u8 0, .int .u8 0] 25))) := Lib.hid (Below.all (Below.refl _ _) _)
  have HM := Lib.hid hm
  rw [show (⟨#[58, 58]⟩ : ByteArray).data.toList = [58, 58] from rfl] at HC
  clear henv hm
  generalize Lib.cut s.data.toList [58, 58] = C at *
  obtain ⟨H, T, short⟩ := C
  obtain ⟨hH, hT⟩ := hcl
  simp only at hH hT HC
  go_enter Tryd.func32, Tryd.ntmps32
  go_wp2_with fail
  have hd0 : ∀ (v : World) (n : Nat), Below v.heap.size v (v.drewN n) := fun v n => ⟨rfl, rfl, rfl, Nat.le_refl _, fun _ _ => rfl⟩
  refine Calls.mono (HC.out _ ((HB0.out.cell (World.block_lt_of_cell? w _ HM.out)).trans HM.out)) ?_
  rintro e w1 ⟨rfl, nd, rfl⟩
  have HX1 := Lib.hid ((AdBox.made0 w 25 false).below (hd0 _ nd))
  have HB1 := Lib.hid (Below.via HB0.out (hd0 _ nd))
  have hW1 : w.heap.size < ((w.alloc (.cells #[.bool false, .int .u8 0, .int .u8 0, .int .u8 0, .int .u8 0, .int .u8 0, .int .u8 0, .int .u8 0, .int .u8 0, .int .u8 0, .int .u8 0, .int .u8 0, .int .u8 0, .int .u8 0, .int .u8 0, .int .u8 0, .int .u8 0] 25)).drewN nd).heap.size := by simp [World.drewN]
  clear hd0 HB0 HC HM
  generalize World.drewN _ nd = w1 at *
  have HE1 := Lib.hid (HE.out.below HB1.out)
  have HR1 : Hid (∀ w, Env w → Calls Tryd.prog 52 #[.string ⟨H.toArray⟩] w (RowPost w (groupsL H))) := Lib.hid fun w h => row_any ⟨H.toArray⟩ w (by simp [ByteArray.size]; omega) h
  have HR2 : Hid (∀ w, Env w → Calls Tryd.prog 52 #[.string ⟨T.toArray⟩] w (RowPost w (groupsL T))) := Lib.hid fun w h => row_any ⟨T.toArray⟩ w (by simp [ByteArray.size]; omega) h
  have HS6' : Hid (sixL s.data.toList = (groupsL H).bind fun l => (groupsL T).bind fun m => if (short = true ∧ l.length + m.length ≤ 7) ∨ (short = false ∧ l.length + m.length = 8) then some (l ++ List.replicate (8 - l.length - m.length) 0 ++ m) else none) := HS6
  clear HS6 hls hH hT hs
  go_wp2_with fail
  refine Calls.mono (HR1.out _ HE1.out) ?_
  rintro e w2 ⟨oa1, cap1, G1, ok1, rfl, hO1, hb2, hl1, hc1⟩
  have HO1 := Lib.hid hO1
  have HE2 := Lib.hid (HE1.out.below hb2)
  have HX2 := Lib.hid (HX1.out.below hb2)
  have HB2 := Lib.hid (Below.via HB1.out hb2)
  have HC1 := Lib.hid hc1
  have HO1l2 := Lib.hid (fun a (ha : oa1 = some a) => hO1.lt ha)
  have hW2 : w1.heap.size ≤ w2.heap.size := hb2.size
  clear hO1 hb2 hc1 HX1 HB1 HE1 HR1
  generalize hn1 : G1.length = n1 at *
  have HN1 := Lib.hid hn1
  clear hn1
  go_wp2_with fail
  refine Calls.mono (HR2.out _ HE2.out) ?_
  rintro e w3 ⟨oa2, cap2, G2, ok2, rfl, hO2, hb3, hl2, hc2⟩
  have HO1 := Lib.hid (HO1.out.below hb3)
  have HO2 := Lib.hid hO2
  have HX3 := Lib.hid (HX2.out.below hb3)
  have HB3 := Lib.hid (Below.via HB2.out hb3)
  have HC2 := Lib.hid hc2
  have HO1lt := Lib.hid (fun a (ha : oa1 = some a) => HO1.out.lt ha)
  have hW3 : w2.heap.size ≤ w3.heap.size := hb3.size
  have hpp := HX3.out.part
  have hrr := HX3.out.row
  have HH := Lib.hid HX3.out.heap
  clear hO2 hb3 hc2 HX2 HB2 HE2 HR2
  generalize hn2 : G2.length = n2 at *
  have HN2 := Lib.hid hn2
  clear hn2
  cases ok1
  · have HF : Hid (sixL s.data.toList = none) := Lib.hid (by
      rcases HC1.out with ⟨h, -⟩ | ⟨-, h⟩
      · cases h
      · rw [HS6'.out, h]; rfl)
    go_wp2_with fail
    refine bodyPost_ret (v := .tuple #[adV false fun _ => 0, .bool false]) ?_ ?_ ?_
    · exact results_ad2 _ _ Tryd.underlying25 info_ad rfl _ _ w.heap.size (.bool false) rfl rfl (partOf_set HH.out)
    · rfl
    · exact ⟨below_setRow HB3.out (Nat.le_refl _) _, .inr ⟨HF.out, rfl⟩⟩
  cases ok2
  · have HF : Hid (sixL s.data.toList = none) := Lib.hid (by
      rcases HC2.out with ⟨h, -⟩ | ⟨-, h⟩
      · cases h
      · rw [HS6'.out, h]; cases groupsL H <;> rfl)
    go_wp2_with fail
    refine bodyPost_ret (v := .tuple #[adV false fun _ => 0, .bool false]) ?_ ?_ ?_
    · exact results_ad2 _ _ Tryd.underlying25 info_ad rfl _ _ w.heap.size (.bool false) rfl rfl (partOf_set HH.out)
    · rfl
    · exact ⟨below_setRow HB3.out (Nat.le_refl _) _, .inr ⟨HF.out, rfl⟩⟩
  have HG1 : Hid (groupsL H = some G1) := Lib.hid (by rcases HC1.out with ⟨-, h⟩ | ⟨h, -⟩; exact h; cases h)
  have HG2 : Hid (groupsL T = some G2) := Lib.hid (by rcases HC2.out with ⟨-, h⟩ | ⟨h, -⟩; exact h; cases h)
  have HS7 : Hid (sixL s.data.toList = if (short = true ∧ n1 + n2 ≤ 7) ∨ (short = false ∧ n1 + n2 = 8) then some (G1 ++ List.replicate (8 - n1 - n2) 0 ++ G2) else none) := Lib.hid (by rw [HS6'.out, HG1.out, HG2.out, ← HN1.out, ← HN2.out]; rfl)
  clear HS6' HC1 HC2
  by_cases hok : (short = true ∧ n1 + n2 ≤ 7) ∨ (short = false ∧ n1 + n2 = 8)
  · have HF : Hid (sixL s.data.toList = some (G1 ++ List.replicate (8 - n1 - n2) 0 ++ G2)) := Lib.hid (by rw [HS7.out, if_pos hok])
    obtain ⟨mi, hmi⟩ : ∃ mi : Nat, (8 : Int) - n1 - n2 = mi := ⟨8 - n1 - n2, by omega⟩
    have hsm : (short = true ∧ 1 ≤ mi) ∨ (short = false ∧ mi = 0) := by rcases hok with ⟨h1, h2⟩ | ⟨h1, h2⟩ <;> simp only [h1, true_and, false_and, Bool.false_eq_true] <;> omega
    have h8 : n1 + mi + n2 = 8 := by omega
    have hm8 : mi ≤ 8 := by omega
    rw [show 8 - n1 - n2 = mi by omega] at HF
    clear hok HS7
    cases short
    all_goals
      first
        | (have hmz : mi = 0 := by simpa using hsm)
        | (have hmz : 1 ≤ mi := by simpa using hsm)
      clear hsm
      go_wp2_with (at_builtin; refine Stopped.of ?_)
      have HMZ := Lib.hid hmz
      clear hmz
      refine Stopped.mk ?_
      refine wpList_append_zeros _ rfl _ _ 87 3 rfl 79 (.int .u64 0) 8 w1.heap.size .i64 Tryd.underlying87 Tryd.underlying3 info_u64 rfl rfl oa1 n1 cap1 _ rfl (HO1.out.alloc _) mi ?_ (by omega) (by unfold maxLen; omega) (by omega) (by simp only [World.size_alloc]; omega) ?_
      · first
          | rfl
          | (show Value.int .i64 0 = .int .i64 (mi : Int); rw [HMZ.out]; rfl)
      intro oa' cap' w5 hO5 hg5 hd5
      have hlt1 := HX3.out.lt
      have hne : ∀ b, (b < w1.heap.size ∨ w3.heap.size ≤ b) → some b ≠ oa1.map Addr.block := fun b hb e => by
        obtain ⟨a, ha, hab⟩ := Option.map_eq_some_iff.1 e.symm
        have := HO1lt.out a ha; omega
      have HX5 := Lib.hid ((HX3.out.alloc (.cells #[.bool true, .int .u8 0, .int .u8 0, .int .u8 0, .int .u8 0, .int .u8 0, .int .u8 0, .int .u8 0, .int .u8 0, .int .u8 0, .int .u8 0, .int .u8 0, .int .u8 0, .int .u8 0, .int .u8 0, .int .u8 0, .int .u8 0] 25)).keep (hg5.block _ (by simp; omega) (hne _ (.inl hW1))))
      have HY5 := Lib.hid ((AdBox.made0 w3 25 true).keep (hg5.block _ (by simp) (hne _ (.inr (Nat.le_refl _)))))
      have HB5 := Lib.hid (Below.grown (Below.all HB3.out _) hg5 (by simp; omega) (fun k hk => by
        obtain ⟨a, ha, hab⟩ := Option.map_eq_some_iff.1 hk
        have := HO1lt.out a ha; omega))
      have HO25 := Lib.hid ((HO2.out.alloc _).grown hg5 (fun a ha e => by
        obtain ⟨a', ha', hab⟩ := Option.map_eq_some_iff.1 e.symm
        have h1 := HO1l2.out a' ha'
        have h2 := HO2.out.lt ha
        omega))
      have hsz5 : w3.heap.size + 1 ≤ w5.heap.size := by have := hg5.size; simpa using this
      have HD5 : Hid (∀ a, oa' = some a → w1.heap.size ≤ a.block ∧ a.block ≠ w3.heap.size ∧ a.block < w5.heap.size) := Lib.hid fun a ha => by
        have h1 := hO5.lt ha
        rcases hd5 a ha with h | h
        · have := HO1lt.out a h; omega
        · simp only [World.size_alloc] at h; omega
      have HO5 := Lib.hid hO5
      clear hne hg5 hd5 hO5 hpp hrr HH HO1 HO2
      go_wp2_with (at_builtin; refine Stopped.of ?_)
      refine Stopped.mk ?_
      refine wpList_append_rows _ rfl _ _ 87 rfl 79 (.int .u64 0) 8 w1.heap.size w2.heap.size Tryd.underlying87 info_u64 rfl oa' (n1 + mi) cap' _ rfl HO5.out oa2 n2 cap2 _ rfl HO25.out ?_ (by unfold maxLen; omega) (by omega) (by omega) ?_
      · intro u hu
        obtain ⟨i, -, rfl⟩ := List.mem_map.1 hu
        rfl
      intro oa'' cap'' w6 hO6 hg6 hd6
      have hne : ∀ b, (b < w1.heap.size ∨ b = w3.heap.size) → some b ≠ oa'.map Addr.block := fun b hb e => by
        obtain ⟨a, ha, hab⟩ := Option.map_eq_some_iff.1 e.symm
        have := HD5.out a ha; omega
      have HX6 := Lib.hid (HX5.out.keep (hg6.block _ (by omega) (hne _ (.inl hW1))))
      have HY6 := Lib.hid (HY5.out.keep (hg6.block _ (by omega) (hne _ (.inr rfl))))
      have HB6 := Lib.hid (Below.grown HB5.out hg6 (by omega) (fun k hk => by
        obtain ⟨a, ha, hab⟩ := Option.map_eq_some_iff.1 hk
        have := HD5.out a ha; omega))
      have HD6 : Hid (∀ a, oa'' = some a → w1.heap.size ≤ a.block ∧ a.block ≠ w3.heap.size) := Lib.hid fun a ha => by
        have h1 := hO6.lt ha
        rcases hd6 a ha with h | h
        · have := HD5.out a h; omega
        · omega
      rw [h8] at hO6 ⊢
      have hmap : List.map (fun (m : Nat) => Value.int .u64 (m : Int)) G1 ++ List.replicate mi (.int .u64 0) ++ List.map (fun (m : Nat) => Value.int .u64 (m : Int)) G2 = (G1 ++ List.replicate mi 0 ++ G2).map fun (m : Nat) => Value.int .u64 (m : Int) := by simp
      rw [hmap] at hO6
      have HO6 := Lib.hid hO6
      have HLB := Lib.hid (sixL_bd HF.out)
      clear hmap hne hg6 hd6 hO6 HX5 HY5 HB5 HO25 HO5 HD5 HX3 HB3 HO1l2 HO1lt HMZ HG1 HG2 HN1 HN2 hmi hl1 hl2 hm8
      generalize G1 ++ List.replicate mi 0 ++ G2 = L at *
      generalize w3.heap.size = b3 at *
      go_wp2_with fail
      have HLG : Hid (∀ k (h : k < L.length), L[k] < 65536) := Lib.hid fun k h => HLB.out.2 _ (List.getElem_mem h)
      have HL8 := Lib.hid HLB.out.1
      clear HLB
      go_loopw [66] (fun u66 wr => ∃ k : Nat, k ≤ 8 ∧ u66 = .int .i64 k ∧ Hid (AdBox wr w.heap.size 25 false fun _ => 0) ∧ Hid (AdBox wr b3 25 true (fun j => if j < 2 * k then sixB L j else 0)) ∧ Hid (Owns wr w1.heap.size 1 oa'' 8 cap'' (L.map fun (m : Nat) => Value.int .u64 (m : Int))) ∧ Hid (Below w.heap.size w wr)) (fun u66 _ => (8 : Int) - intOf u66 |>.toNat)
      case atStart => exact ⟨0, by omega, rfl, HX6, Lib.hid (HY6.out.congr fun i _ => by simp), HO6, HB6⟩
      case round =>
        obtain ⟨k, hk, rfl, HX, HY, HO, HW⟩ := hrel
        by_cases hlt : k < 8
        · have hkL : k < L.length := by rw [HL8.out]; exact hlt
          obtain ⟨g, off, hop, hbg, hg, hc, ht⟩ := HO.out.here (by omega)
          have hgb := (HD6.out _ hop).2
          subst hop
          have hcl := hc k (.int .u64 (L[k] : Nat)) (by simp [hkL])
          have hnb := HLG.out k hkL
          have HSX : Hid (((L[k] / 256 : Nat) : Int) = sixB L (2 * k) ∧ ((L[k] % 256 : Nat) : Int) = sixB L (2 * k + 1)) := Lib.hid (by
            unfold sixB
            rw [if_pos (by omega), if_neg (by omega), show 2 * k / 2 = k by omega, show (2 * k + 1) / 2 = k by omega, List.getD_eq_getElem?_getD, List.getElem?_eq_getElem hkL]
            exact ⟨rfl, rfl⟩)
          generalize L[k] = n at *
          have hcx := HY.out.cell (2 * k) (by omega)
          have hcy := HY.out.cell (2 * k + 1) (by omega)
          have hfx := HY.out.free (1 + 2 * k)
          have hfy := HY.out.free (1 + (2 * k + 1))
          clear hc ht
          go_wp2_with fail
          go_roundw
          case rel =>
            refine ⟨k + 1, by omega, by go_num, Lib.hid ((HX.out.other _ _ (by simp only; omega)).other _ _ (by simp only; omega)), Lib.hid (ad_six HY.out hlt (by rw [← HSX.out.1]; omega) (by rw [← HSX.out.2]; omega)), Lib.hid ((HO.out.other ?_ _).other ?_ _), Lib.hid ((HW.out.setCell (by simp only; omega) _).setCell (by simp only; omega) _)⟩
            · intro a ha; cases ha; exact hgb
            · intro a ha; cases ha; exact hgb
          case measure => simp [intOf]; omega
        · obtain rfl : k = 8 := by omega
          have HZ := HY.out.congr (C := sixB L) fun i hi => by rw [if_pos (by omega)]
          have hpp := HZ.part
          have hrr := HX.out.row
          have HH := Lib.hid HX.out.heap
          clear HZ
          go_wp2_with fail
          refine bodyPost_ret (v := .tuple #[adV true (sixB L), .bool true]) ?_ ?_ ?_
          · exact results_ad2 _ _ Tryd.underlying25 info_ad rfl _ _ w.heap.size (.bool true) rfl rfl (partOf_set HH.out)
          · rfl
          · exact ⟨below_setRow HW.out (Nat.le_refl _) _, .inl ⟨L, HF.out, rfl⟩⟩
  · have HF : Hid (sixL s.data.toList = none) := Lib.hid (by rw [HS7.out, if_neg hok])
    clear HS7
    cases short
    · have hne : ¬ ((8 : Int) - n1 - n2 = 0) := fun h => hok (.inr ⟨rfl, by omega⟩)
      clear hok
      go_wp2_with fail
      refine bodyPost_ret (v := .tuple #[adV false fun _ => 0, .bool false]) ?_ ?_ ?_
      · exact results_ad2 _ _ Tryd.underlying25 info_ad rfl _ _ w.heap.size (.bool false) rfl rfl (partOf_set HH.out)
      · rfl
      · exact ⟨below_setRow HB3.out (Nat.le_refl _) _, .inr ⟨HF.out, rfl⟩⟩
    · have hne : (8 : Int) - n1 - n2 < 1 := by
        have : ¬ (n1 + n2 ≤ 7) := fun h => hok (.inl ⟨rfl, h⟩)
        omega
      clear hok
      go_wp2_with fail
      refine bodyPost_ret (v := .tuple #[adV false fun _ => 0, .bool false]) ?_ ?_ ?_
      · exact results_ad2 _ _ Tryd.underlying25 info_ad rfl _ _ w.heap.size (.bool false) rfl rfl (partOf_set HH.out)
      · rfl
      · exact ⟨below_setRow HB3.out (Nat.le_refl _) _, .inr ⟨HF.out, rfl⟩⟩
end Go.Proofs.YtcadpcppnllhnaaDoor
