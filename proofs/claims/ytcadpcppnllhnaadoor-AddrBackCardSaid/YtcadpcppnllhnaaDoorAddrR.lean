/- Walks over texts: an address's text. -/
import Derived.Test.YtcadpcppnllhnaaDoorAddrN
import Derived.Test.YtcadpcppnllhnaaDoorAddrP
import Derived.Test.YtcadpcppnllhnaaDoorAddrQ
set_option linter.unusedSimpArgs false
set_option linter.unusedVariables false
namespace Go.Proofs.YtcadpcppnllhnaaDoor
open Go.RowKit

theorem join_joinL (c : UInt8) : ∀ l : List (List UInt8), Lib.join l [c] = joinL c l
  | [] => rfl
  | [p] => by rw [Lib.join_one]; rfl
  | p :: q :: l => by
    rw [Lib.join_cons, joinL_cons2, ← join_joinL c (q :: l), Lib.join_cons]
    simp [Lib.joinTail]
/-- strings.Join, over a row of one's own. -/
theorem join_any (oa : Option Addr) (n cap base : Nat) (L : List (List UInt8)) (c : UInt8) (w : World) (hO : Owns w base 1 oa n cap (L.map strV)) (hlen : (joinL c L).length ≤ 140737488355328) (hn : n ≤ 140737488355328) :
    Calls Tryd.prog 44 #[.slice oa n cap, .string ⟨#[c]⟩] w (RetAt w (.string ⟨(joinL c L).toArray⟩)) := by
  have hLn : L.length = n := by have := hO.len; simpa using this
  rcases Nat.eq_zero_or_pos n with h0 | h0
  · subst h0
    obtain rfl := List.eq_nil_of_length_eq_zero hLn
    refine Calls.mono (Tryd.strings_Join_none oa cap _ w) ?_
    rintro e w' ⟨rfl, rfl⟩
    exact .mk rfl (Below.refl _ _)
  · obtain ⟨g, off, rfl, hb, hg, hc, ht⟩ := hO.here h0
    have e1 : (L.map fun l : List UInt8 => (⟨l.toArray⟩ : ByteArray)).length = n := by rw [List.length_map, hLn]
    have e2 : ((L.map fun l : List UInt8 => (⟨l.toArray⟩ : ByteArray)).map (·.data.toList)) = L := by simp [Function.comp_def]
    have h := Tryd.strings_Join g off cap (L.map fun l : List UInt8 => (⟨l.toArray⟩ : ByteArray)) ⟨#[c]⟩ w (fun j x hx => by
      refine hc j _ ?_
      rw [List.getElem?_map] at hx ⊢
      cases h : L[j]? with
      | none => rw [h] at hx; cases hx
      | some l => rw [h] at hx; cases hx; rfl) hg (by rw [e1]; exact hn) (by rw [e1]; exact hO.le) (by rw [e2]; show (Lib.join L [c]).length ≤ _; rw [join_joinL]; exact hlen)
    rw [e1, e2, show (⟨#[c]⟩ : ByteArray).data.toList = [c] from rfl, join_joinL] at h
    refine Calls.mono h ?_
    rintro e w' ⟨rfl, hb'⟩
    exact .mk rfl hb'

/-- strconv.Itoa, of a number that isn't below 0. -/
theorem itoa_any (u : Nat) (hu : u < 9223372036854775808) (w : World) (henv : Env w) : Calls Tryd.prog 43 #[.int .i64 (u : Int)] w (RetAt w (.string ⟨(Lib.decDigits u).toArray⟩)) := by
  refine Calls.mono (Tryd.strconv_Itoa (u : Int) (by omega) (by omega) w henv.tab) ?_
  rintro e w' ⟨rfl, k, os, rfl⟩
  refine .mk ?_ (Lib.below_grow _ _ (Nat.le_refl _) _ _)
  unfold Lib.itoa
  rw [if_neg (by omega)]
  rfl
theorem decDigits_small (u : Nat) (h : u < 256) : (Lib.decDigits u).length ≤ 257 := by
  rw [← digB_ten u u (Nat.le_refl _)]
  have := digB_len 10 u u (Nat.le_refl _)
  omega
theorem joinL_len (c : UInt8) (m : Nat) : ∀ L : List (List UInt8), (∀ p ∈ L, p.length ≤ m) → (joinL c L).length ≤ L.length * (m + 1)
  | [], _ => by simp [joinL]
  | [p], h => by have := h p (by simp); simp [joinL]; omega
  | p :: q :: l, h => by
    have h1 := h p (by simp)
    have h2 := joinL_len c m (q :: l) (fun x hx => h x (by simp at hx ⊢; exact .inr hx))
    have h3 : (p :: q :: l).length * (m + 1) = (q :: l).length * (m + 1) + (m + 1) := by rw [List.length_cons (a := p), Nat.add_mul, Nat.one_mul]
    rw [joinL_cons2, List.length_append, List.length_cons]
    omega

set_option maxRecDepth 20000 in
set_option maxHeartbeats 8000000 in
theorem text_four (B : Nat → Int) (hB : U8 B) (hr : rightB false B = true) (w : World) (henv : Env w) :
    Calls Tryd.prog 21 #[adV false B] w (RetAt w (.string ⟨(text4 fun i => (B i).toNat).toArray⟩)) := by
  have HE := Lib.hid henv
  have HU := Lib.hid hB
  have HR : Hid (∀ w, Calls Tryd.prog 17 #[adV false B] w (RetAt w (.bool true))) := Lib.hid fun w => by rw [← hr]; exact right_any false B w
  clear henv hB hr
  have HX : Hid (AdBox (w.alloc (.cells #[.bool false, .int .u8 (B 0), .int .u8 (B 1), .int .u8 (B 2), .int .u8 (B 3), .int .u8 (B 4), .int .u8 (B 5), .int .u8 (B 6), .int .u8 (B 7), .int .u8 (B 8), .int .u8 (B 9), .int .u8 (B 10), .int .u8 (B 11), .int .u8 (B 12), .int .u8 (B 13), .int .u8 (B 14), .int .u8 (B 15)] 25)) w.heap.size 25 false B) := Lib.hid (AdBox.made w _ false B)
  have HW : Hid (Below w.heap.size w (w.alloc (.cells #[.bool false, .int .u8 (B 0), .int .u8 (B 1), .int .u8 (B 2), .int .u8 (B 3), .int .u8 (B 4), .int .u8 (B 5), .int .u8 (B 6), .int .u8 (B 7), .int .u8 (B 8), .int .u8 (B 9), .int .u8 (B 10), .int .u8 (B 11), .int .u8 (B 12), .int .u8 (B 13), .int .u8 (B 14), .int .u8 (B 15)] 25))) := Lib.hid (Below.all (Below.refl w.heap.size w) _)
  unfold adV at *
  go_enter Tryd.func21, Tryd.ntmps21
  go_wp2_with fail
  generalize hw1 : w.alloc (.cells #[.bool false, .int .u8 (B 0), .int .u8 (B 1), .int .u8 (B 2), .int .u8 (B 3), .int .u8 (B 4), .int .u8 (B 5), .int .u8 (B 6), .int .u8 (B 7), .int .u8 (B 8), .int .u8 (B 9), .int .u8 (B 10), .int .u8 (B 11), .int .u8 (B 12), .int .u8 (B 13), .int .u8 (B 14), .int .u8 (B 15)] 25) = w1 at *
  have hs1 : w1.heap.size = w.heap.size + 1 := by rw [← hw1]; simp
  clear hw1
  refine Calls.mono (HR.out _) ?_
  rintro e w2 ⟨rfl, hb2⟩
  have HX2 := Lib.hid (HX.out.below hb2)
  have HW2 := Lib.hid (Below.via HW.out hb2)
  have hs2 : w.heap.size + 1 ≤ w2.heap.size := by have := hb2.size; omega
  have hsx := HX2.out.six
  clear hb2 HX HW hs1
  go_wp2_with fail
  clear hsx
  go_loopw [3, 20] (fun u3 u20 wr => ∃ (k : Nat) (oa : Option Addr) (cap : Nat), k ≤ 4 ∧ u20 = .int .i64 k ∧ u3 = .slice oa k cap ∧ Hid (Owns wr (w.heap.size + 1) 1 oa k cap (((List.range k).map fun i => Lib.decDigits (B i).toNat).map strV)) ∧ Hid (AdBox wr w.heap.size 25 false B) ∧ Hid (Below w.heap.size w wr) ∧ w.heap.size + 1 ≤ wr.heap.size) (fun _ u20 _ => (4 : Int) - intOf u20 |>.toNat)
  case atStart => exact ⟨0, none, 0, by omega, rfl, rfl, Lib.hid (Owns.nil _ _ _), HX2, HW2, hs2⟩
  case round =>
    obtain ⟨k, oa, cap, hk, rfl, rfl, HO, HX, HW, hsr⟩ := hrel
    by_cases hlt : k < 4
    · have hcx := HX.out.cell k (by omega)
      have hbk := HU.out k
      have HR1 : Hid (List.range (k + 1) = List.range k ++ [k]) := Lib.hid List.range_succ
      obtain ⟨b, hbe⟩ := Int.eq_ofNat_of_zero_le hbk.1
      have HBE := Lib.hid hbe
      rw [hbe] at hcx hbk
      clear hbe
      go_wp2_with fail
      refine Calls.mono (itoa_any b (by omega) wr (HE.out.below HW.out)) ?_
      rintro e w3 ⟨rfl, hb3⟩
      have HO3 := Lib.hid (HO.out.below hb3)
      have HX3 := Lib.hid (HX.out.below hb3)
      have HW3 := Lib.hid (Below.via HW.out hb3)
      have hs3 : w.heap.size + 1 ≤ w3.heap.size := by have := hb3.size; omega
      have HLT := Lib.hid (fun a (ha : oa = some a) => (HO3.out.lt ha).1)
      clear hb3 hcx HO HX HW hsr
      go_wp2_with (at_builtin; refine Stopped.of ?_)
      refine Stopped.mk ?_
      refine wpList_append_owns _ rfl _ _ 65 rfl 9 (.string ⟨#[]⟩) 1 16 (w.heap.size + 1) Tryd.underlying65 info_str rfl (by decide) oa k cap _ rfl (HO3.out.alloc _) ⟨w3.heap.size, 0, none⟩ 1 1 [.string ⟨(Lib.decDigits b).toArray⟩] rfl rfl ?_ ?_ (by decide) ?_ ?_ ?_ ?_
      · exact news_new _ _ _
      · simp [Value.oneCell']
      · unfold maxLen; omega
      · omega
      · simp only [World.size_alloc]; omega
      intro oa' cap' w4 ho' hg hd
      have HX4 := Lib.hid ((HX3.out.alloc (.cells #[.string ⟨(Lib.decDigits b).toArray⟩] 9)).keep (hg.block _ (by simp; omega) (fun e => by
        obtain ⟨a, ha, hab⟩ := Option.map_eq_some_iff.1 e.symm
        have := HLT.out a ha; omega)))
      have HW4 : Hid (Below w.heap.size w w4) := Lib.hid (Below.appended (Below.all HW3.out _) (HO3.out.alloc _) (by omega) hg (by simp only [World.size_alloc]; omega))
      have hs4 : w.heap.size + 1 ≤ w4.heap.size := by have := hg.size; simp only [World.size_alloc] at this; omega
      have HO4 : Hid (Owns w4 (w.heap.size + 1) 1 oa' (k + 1) cap' (((List.range (k + 1)).map fun i => Lib.decDigits (B i).toNat).map strV)) := Lib.hid (by
        rw [HR1.out, List.map_append, List.map_append]
        simp only [List.map_cons, List.map_nil]
        rw [HBE.out]
        exact ho')
      clear hg hd ho' HX3 HW3 HO3 hs3 HLT
      go_wp2_with fail
      go_roundw
      case rel => exact ⟨k + 1, oa', cap', by omega, by go_num, rfl, HO4, HX4, HW4, hs4⟩
      case measure => simp [intOf]; omega
    · obtain rfl : k = 4 := by omega
      go_wp2_with fail
      refine Calls.mono (join_any oa 4 cap _ _ 46 wr HO.out ?_ (by omega)) ?_
      · refine Nat.le_trans (joinL_len 46 257 _ fun p hp => ?_) (by simp)
        obtain ⟨i, -, rfl⟩ := List.mem_map.1 hp
        exact decDigits_small _ (by have := HU.out i; omega)
      rintro e w3 ⟨rfl, hb3⟩
      have HW3 := Lib.hid (Below.via HW.out hb3)
      go_wp2_with fail
      go_ret
      exact .mk rfl HW3.out

/-- The groups' numbers. -/
def grpN (B : Nat → Int) (k : Nat) : Nat := (grpI B k).toNat
theorem grpN_lt {B : Nat → Int} (hB : U8 B) (k : Nat) : grpN B k < 65536 := by have := grpI_bd hB k; unfold grpN; omega
theorem grpN_eq {B : Nat → Int} (hB : U8 B) (k : Nat) : grpI B k = (grpN B k : Int) := by have := grpI_bd hB k; unfold grpN; omega
theorem zg_grp {B : Nat → Int} (hB : U8 B) (k : Nat) (h : k < 8) : zg (grpN B) k = (grpI B k == 0) := by
  rw [zg_at _ _ h, grpN_eq hB k, Bool.eq_iff_iff]
  simp only [beq_iff_eq]
  omega
theorem noughts_bd (z : Nat → Bool) (hz : ∃ a b c d e f g h : Bool, z = zof [a, b, c, d, e, f, g, h]) : (noughtsZ z).1 ≤ (noughtsZ z).2 ∧ (noughtsZ z).2 ≤ 8 := by
  obtain ⟨a, b, c, d, e, f, g, h, rfl⟩ := hz
  exact noughts_bd8 a b c d e f g h
/-- The text, by what 'noughts' tells. -/
theorem text6_of (g : Nat → Nat) : text6 g = if (noughtsZ (zg g)).1 = (noughtsZ (zg g)).2 then joinL 58 ((List.range 8).map fun i => digB 16 (g i))
    else joinL 58 (((List.range 8).map fun i => digB 16 (g i)).take (noughtsZ (zg g)).1) ++ [58, 58] ++ joinL 58 (((List.range 8).map fun i => digB 16 (g i)).drop (noughtsZ (zg g)).2) := by
  unfold text6 progTok
  split
  · exact flat_join _ _
  · rw [flatT_append, flatT_append, flat_join, flat_join, List.map_take, List.map_drop]; rfl

set_option maxRecDepth 20000 in
set_option maxHeartbeats 8000000 in
theorem text_six (B : Nat → Int) (hB : U8 B) (w : World) (henv : Env w) :
    Calls Tryd.prog 21 #[adV true B] w (RetAt w (.string ⟨(text6 (grpN B)).toArray⟩)) := by
  have HE := Lib.hid henv
  have HU := Lib.hid hB
  have HR : Hid (∀ w, Calls Tryd.prog 17 #[adV true B] w (RetAt w (.bool true))) := Lib.hid fun w => right_any true B w
  have HG := Lib.hid (fun k hk w => group_any true B hB k hk w)
  have HN := Lib.hid (fun w => noughts_any true B hB (zg (grpN B)) (fun k hk => zg_grp hB k hk) w)
  have HNB := noughts_bd (zg (grpN B)) ⟨_, _, _, _, _, _, _, _, rfl⟩
  have HT := Lib.hid (text6_of (grpN B))
  have HGL := Lib.hid (fun k => grpN_lt hB k)
  have HGE := Lib.hid (fun k => grpN_eq hB k)
  clear henv hB
  generalize text6 (grpN B) = T at *
  generalize noughtsZ (zg (grpN B)) = ft at *
  obtain ⟨f, t⟩ := ft
  simp only at HN HNB HT
  obtain ⟨hft, ht8⟩ := HNB
  have HX : Hid (AdBox (w.alloc (.cells #[.bool true, .int .u8 (B 0), .int .u8 (B 1), .int .u8 (B 2), .int .u8 (B 3), .int .u8 (B 4), .int .u8 (B 5), .int .u8 (B 6), .int .u8 (B 7), .int .u8 (B 8), .int .u8 (B 9), .int .u8 (B 10), .int .u8 (B 11), .int .u8 (B 12), .int .u8 (B 13), .int .u8 (B 14), .int .u8 (B 15)] 25)) w.heap.size 25 true B) := Lib.hid (AdBox.made w _ true B)
  have HW : Hid (Below w.heap.size w (w.alloc (.cells #[.bool true, .int .u8 (B 0), .int .u8 (B 1), .int .u8 (B 2), .int .u8 (B 3), .int .u8 (B 4), .int .u8 (B 5), .int .u8 (B 6), .int .u8 (B 7), .int .u8 (B 8), .int .u8 (B 9), .int .u8 (B 10), .int .u8 (B 11), .int .u8 (B 12), .int .u8 (B 13), .int .u8 (B 14), .int .u8 (B 15)] 25))) := Lib.hid (Below.all (Below.refl w.heap.size w) _)
  unfold adV at *
  go_enter Tryd.func21, Tryd.ntmps21
  go_wp2_with fail
  generalize hw1 : w.alloc (.cells #[.bool true, .int .u8 (B 0), .int .u8 (B 1), .int .u8 (B 2), .int .u8 (B 3), .int .u8 (B 4), .int .u8 (B 5), .int .u8 (B 6), .int .u8 (B 7), .int .u8 (B 8), .int .u8 (B 9), .int .u8 (B 10), .int .u8 (B 11), .int .u8 (B 12), .int .u8 (B 13), .int .u8 (B 14), .int .u8 (B 15)] 25) = w1 at *
  have hs1 : w1.heap.size = w.heap.size + 1 := by rw [← hw1]; simp
  clear hw1
  refine Calls.mono (HR.out _) ?_
  rintro e w2 ⟨rfl, hb2⟩
  have HX2 := Lib.hid (HX.out.below hb2)
  have HW2 := Lib.hid (Below.via HW.out hb2)
  have hs2 : w.heap.size + 1 ≤ w2.heap.size := by have := hb2.size; omega
  have hsx := HX2.out.six
  clear hb2 HX HW hs1
  go_wp2_with fail
  clear hsx
  go_loopw [3, 33] (fun u3 u33 wr => ∃ (k : Nat) (oa : Option Addr) (cap : Nat), k ≤ 8 ∧ u33 = .int .i64 k ∧ u3 = .slice oa k cap ∧ Hid (Owns wr (w.heap.size + 1) 1 oa k cap (((List.range k).map fun i => digB 16 (grpN B i)).map strV)) ∧ Hid (AdBox wr w.heap.size 25 true B) ∧ Hid (Below w.heap.size w wr) ∧ w.heap.size + 1 ≤ wr.heap.size) (fun _ u33 _ => (8 : Int) - intOf u33 |>.toNat)
  case atStart => exact ⟨0, none, 0, by omega, rfl, rfl, Lib.hid (Owns.nil _ _ _), HX2, HW2, hs2⟩
  case round =>
    obtain ⟨k, oa, cap, hk, rfl, rfl, HO, HX, HW, hsr⟩ := hrel
    by_cases hlt : k < 8
    · have hpp := HX.out.part
      have HR1 : Hid (List.range (k + 1) = List.range k ++ [k]) := Lib.hid List.range_succ
      have HGk := Lib.hid (HG.out k hlt)
      have hgl := HGL.out k
      rw [HGE.out k] at HGk
      have HBE : Hid (∃ b, grpN B k = b) := Lib.hid ⟨_, rfl⟩
      obtain ⟨b, hbe⟩ := HBE.out
      clear HBE
      have HBE := Lib.hid hbe
      rw [hbe] at HGk hgl
      clear hbe
      go_wp2_with fail
      refine Calls.mono (HGk.out _) ?_
      rintro e w3 ⟨rfl, hb3⟩
      have HO3 := Lib.hid (HO.out.below hb3)
      have HX3 := Lib.hid (HX.out.below hb3)
      have HW3 := Lib.hid (Below.via HW.out hb3)
      have hs3 : w.heap.size + 1 ≤ w3.heap.size := by have := hb3.size; omega
      clear hb3 hpp HO HX HW hsr
      go_wp2_with fail
      refine Calls.mono (fmt_16 b hgl w3 (HE.out.below HW3.out)) ?_
      rintro e w4 ⟨rfl, hb4⟩
      have HO4 := Lib.hid (HO3.out.below hb4)
      have HX4 := Lib.hid (HX3.out.below hb4)
      have HW4 := Lib.hid (Below.via HW3.out hb4)
      have hs4 : w.heap.size + 1 ≤ w4.heap.size := by have := hb4.size; omega
      have HLT := Lib.hid (fun a (ha : oa = some a) => (HO4.out.lt ha).1)
      clear hb4 HO3 HX3 HW3 hs3
      go_wp2_with (at_builtin; refine Stopped.of ?_)
      refine Stopped.mk ?_
      refine wpList_append_owns _ rfl _ _ 65 rfl 9 (.string ⟨#[]⟩) 1 16 (w.heap.size + 1) Tryd.underlying65 info_str rfl (by decide) oa k cap _ rfl (HO4.out.alloc _) ⟨w4.heap.size, 0, none⟩ 1 1 [.string ⟨(digB 16 b).toArray⟩] rfl rfl ?_ ?_ (by decide) ?_ ?_ ?_ ?_
      · exact news_new _ _ _
      · simp [Value.oneCell']
      · unfold maxLen; omega
      · omega
      · simp only [World.size_alloc]; omega
      intro oa' cap' w5 ho' hg hd
      have HX5 := Lib.hid ((HX4.out.alloc (.cells #[.string ⟨(digB 16 b).toArray⟩] 9)).keep (hg.block _ (by simp; omega) (fun e => by
        obtain ⟨a, ha, hab⟩ := Option.map_eq_some_iff.1 e.symm
        have := HLT.out a ha; omega)))
      have HW5 : Hid (Below w.heap.size w w5) := Lib.hid (Below.appended (Below.all HW4.out _) (HO4.out.alloc _) (by omega) hg (by simp only [World.size_alloc]; omega))
      have hs5 : w.heap.size + 1 ≤ w5.heap.size := by have := hg.size; simp only [World.size_alloc] at this; omega
      have HO5 : Hid (Owns w5 (w.heap.size + 1) 1 oa' (k + 1) cap' (((List.range (k + 1)).map fun i => digB 16 (grpN B i)).map strV)) := Lib.hid (by
        rw [HR1.out, List.map_append, List.map_append]
        simp only [List.map_cons, List.map_nil]
        rw [HBE.out]
        exact ho')
      clear hg hd ho' HX4 HW4 HO4 hs4 HLT
      go_wp2_with fail
      go_roundw
      case rel => exact ⟨k + 1, oa', cap', by omega, by go_num, rfl, HO5, HX5, HW5, hs5⟩
      case measure => simp [intOf]; omega
    · obtain rfl : k = 8 := by omega
      have hpp := HX.out.part
      have HPL : Hid (∀ p ∈ (List.range 8).map fun i => digB 16 (grpN B i), p.length ≤ 4) := Lib.hid fun p hp => by
        obtain ⟨i, -, rfl⟩ := List.mem_map.1 hp
        exact digB16_len _ (HGL.out i)
      have HPN : Hid (((List.range 8).map fun i => digB 16 (grpN B i)).length = 8) := Lib.hid (by simp)
      clear HGL HGE HG HU HR
      generalize ((List.range 8).map fun i => digB 16 (grpN B i)) = P at *
      go_wp2_with fail
      refine Calls.mono (HN.out _) ?_
      rintro e w3 ⟨rfl, hb3⟩
      have HO3 := Lib.hid (HO.out.below hb3)
      have HW3 := Lib.hid (Below.via HW.out hb3)
      clear hb3 hpp HX HO HW HN
      by_cases hz : f = t
      · have HT2 := HT.out
        rw [if_pos hz] at HT2
        have HT3 := Lib.hid HT2
        have hz2 : (f : Int) = t := by omega
        clear HT2 HT hz
        go_wp2_with fail
        refine Calls.mono (join_any oa 8 cap _ _ 58 w3 HO3.out (Nat.le_trans (joinL_len 58 4 _ HPL.out) (by rw [HPN.out]; decide)) (by omega)) ?_
        rintro e w4 ⟨rfl, hb4⟩
        have HW4 := Lib.hid (Below.via HW3.out hb4)
        go_wp2_with fail
        go_ret
        exact .mk (by rw [HT3.out]; rfl) HW4.out
      · have HT2 := HT.out
        rw [if_neg hz] at HT2
        have HT3 := Lib.hid HT2
        have hz2 : ¬ ((f : Int) = t) := by omega
        have HT1 : Hid (Owns w3 (w.heap.size + 1) 1 oa f cap ((P.take f).map strV)) := Lib.hid (by rw [List.map_take]; have := HO3.out.take f (by omega); rwa [Nat.mul_one] at this)
        have HT4 : Hid (Owns w3 (w.heap.size + 1) 1 (cutAddr oa t cap 1) (8 - t) (cap - t) ((P.drop t).map strV)) := Lib.hid (by rw [List.map_drop]; have := HO3.out.cut t (by omega); rwa [Nat.mul_one] at this)
        have hcap := HO3.out.le
        have hct := fun w => run_cutTo (P := Tryd.prog) 65 oa 8 cap 1 Tryd.underlying65 (by kernel_rfl) f (f : Int) rfl (by omega) w
        have hcu := fun w => run_cut (P := Tryd.prog) 65 oa 8 cap 1 Tryd.underlying65 (by kernel_rfl) t (t : Int) rfl (by omega) w
        have hA : (joinL 58 (P.take f)).length ≤ 1000 := Nat.le_trans (joinL_len 58 4 _ fun p hp => HPL.out p (List.mem_of_mem_take hp)) (by rw [List.length_take, HPN.out]; omega)
        have hC : (joinL 58 (P.drop t)).length ≤ 1000 := Nat.le_trans (joinL_len 58 4 _ fun p hp => HPL.out p (List.mem_of_mem_drop hp)) (by rw [List.length_drop, HPN.out]; omega)
        have HJ1 := Lib.hid (fun (x : Later w3) => join_any oa f cap _ _ 58 _ (HT1.out.later x) (by omega) (by omega))
        have HJ2 := Lib.hid (fun (x : Later w3) => join_any _ (8 - t) (cap - t) _ _ 58 _ (HT4.out.later x) (by omega) (by omega))
        generalize joinL 58 (P.take f) = A at *
        generalize joinL 58 (P.drop t) = C at *
        generalize cutAddr oa t cap 1 = oc at *
        clear HT2 HT hz HT1 HT4 HO3 HPL HPN
        go_wp2_with fail
        have hl1 : A.length + 2 ≤ 9223372036854775807 := by omega
        have hl2 : (A.length : Int) + 2 ≤ 9223372036854775807 := by omega
        have hl3 : A.length + 2 + C.length ≤ 9223372036854775807 := by omega
        have hl4 : (A.length : Int) + 2 + (C.length : Int) ≤ 9223372036854775807 := by omega
        refine wp_region_later (by kernel_rfl) (by kernel_rfl) ?_
        iterate 3 go_big_quiet_step (fail)
        go_big_quiet_step ((go_at_call 44; exact later_call (HJ1.out _)))
        iterate 4 go_big_quiet_step (fail)
        go_big_quiet_step ((go_at_call 44; exact later_call (HJ2.out _)))
        repeat go_big_quiet_step (fail)
        refine wpQuiet_nil ?_
        intro x
        go_wp2_with fail
        go_ret
        refine .mk ?_ (HW3.out.trans (x.below.mono HW3.out.size))
        rw [HT3.out, ← bytes_append, ← bytes_append]; rfl

set_option maxRecDepth 20000 in
set_option maxHeartbeats 8000000 in
theorem text_wrong (six : Bool) (B : Nat → Int) (hr : rightB six B = false) (w : World) :
    Calls Tryd.prog 21 #[adV six B] w (RetAt w (.string ⟨([] : List UInt8).toArray⟩)) := by
  have HR : Hid (∀ w, Calls Tryd.prog 17 #[adV six B] w (RetAt w (.bool false))) := Lib.hid fun w => by rw [← hr]; exact right_any six B w
  clear hr
  unfold adV at *
  go_enter Tryd.func21, Tryd.ntmps21
  go_wp2_with fail
  refine Calls.later (HR.out _) ?_
  intro x
  go_wp2_with fail
  go_ret
  exact .mk rfl (Below.lat (Below.all (Below.refl _ _) _))

/-- The text of an address. -/
def adText (six : Bool) (B : Nat → Int) : List UInt8 := if rightB six B = true then (if six = true then text6 (grpN B) else text4 fun i => (B i).toNat) else []
theorem text_any (six : Bool) (B : Nat → Int) (hB : U8 B) (w : World) (henv : Env w) :
    Calls Tryd.prog 21 #[adV six B] w (RetAt w (.string ⟨(adText six B).toArray⟩)) := by
  unfold adText
  by_cases h : rightB six B = true
  · rw [if_pos h]
    cases six
    · exact text_four B hB h w henv
    · exact text_six B hB w henv
  · rw [if_neg h]
    exact text_wrong six B (by simpa using h) w
end Go.Proofs.YtcadpcppnllhnaaDoor
