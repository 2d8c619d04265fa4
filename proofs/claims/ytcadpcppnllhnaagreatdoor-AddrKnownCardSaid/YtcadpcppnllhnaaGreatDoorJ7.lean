/- Walks over texts: strconv.ParseUint at base 16, 16 bits; digit; IndexFunc over what is no digit. -/
import Derived.Test.YtcadpcppnllhnaaGreatDoorJ6
import Derived.Lib.SplitLaws
import Derived.Test.YtcadpcppnllhnaaGreatDoorJ2
import Derived.Test.YtcadpcppnllhnaaGreatDoorJ1
import Derived.Lib.AppendZerosOnto
import Derived.Test.YtcadpcppnllhnaaGreatDoorJ5

section
set_option linter.unusedSimpArgs false
set_option linter.unusedVariables false
namespace Go.Proofs.YtcadpcppnllhnaaGreatDoor
open Go.RowKit

/-- A call that returns a number, or an error. -/
def UintPost (w : World) (o : Option Nat) : Ending → World → Prop := fun e w' => ∃ (u : Int) (er : Value), e = .returned (.tuple #[.int .u64 u, er]) ∧ 0 ≤ u ∧ u ≤ 65535 ∧
  ((∃ n : Nat, o = some n ∧ u = n ∧ er = .nilIface) ∨ (o = none ∧ ∃ te pe, er = .iface te pe)) ∧ Below w.heap.size w w'

theorem parse16_all (t : ByteArray) (hmax : t.size ≤ 1000) (w : World) :
    Calls Tryz.prog 95 #[.string t, .int .i64 16, .int .i64 16] w fun e w' => e = .returned (Lib.uintTupleM 134 65535 (if t.size = 0 then badNum else hexEnd 0 t.data.toList)) ∧ Below w.heap.size w w' := by
  by_cases h : t.size = 0
  · obtain rfl : t = ⟨#[]⟩ := by
      cases t; rename_i d
      have : d.size = 0 := h
      rw [Array.eq_empty_of_size_eq_zero this]
    refine (Tryz.internal_strconv_ParseUint_empty 16 16 w).mono ?_
    rintro e w' ⟨rfl, rfl⟩
    exact ⟨rfl, Below.refl _ _⟩
  · refine (parse16_in t h hmax w).mono ?_
    rintro e w' ⟨rfl, rfl⟩
    exact ⟨by rw [if_neg h], bytesWorld_below _ _⟩

theorem hexEnd_le : ∀ (l : List UInt8) (acc n : Nat), acc ≤ 65535 → hexEnd acc l = .ok n → n ≤ 65535
  | [], acc, n, h, e => by simp only [hexEnd, Lib.NumEnd.ok.injEq] at e; omega
  | c :: r, acc, n, h, e => by
    rw [hexEnd] at e
    split at e
    · exact absurd e (badNum_ok n)
    · split at e
      · cases e
      · exact hexEnd_le r _ n (by omega) e

set_option maxHeartbeats 4000000 in
theorem ParseUint_any (t : ByteArray) (hmax : t.size ≤ 1000) (w : World) (henv : Env w) :
    Calls Tryz.prog 78 #[.string t, .int .i64 16, .int .i64 16] w (UintPost w (numberL 16 65536 t.data.toList)) := by
  have HE := Lib.hid henv
  clear henv
  have hnum : numberL 16 65536 t.data.toList = match (if t.size = 0 then badNum else hexEnd 0 t.data.toList) with | .ok n => some n | _ => none := by
    have hl : t.data.toList.length = t.size := by rw [Array.length_toList, ByteArray.size_data]
    rw [numberL]
    by_cases h : t.size = 0
    · rw [if_pos h, if_pos (List.length_eq_zero_iff.1 (by omega))]; rfl
    · rw [if_neg h, if_neg (fun e => h (by rw [← hl, e]; rfl)), hexEnd_numL]
      cases hexEnd 0 t.data.toList <;> rfl
  have hle : ∀ n, (if t.size = 0 then badNum else hexEnd 0 t.data.toList) = Lib.NumEnd.ok n → n ≤ 65535 := by
    intro n h
    split at h
    · exact absurd h (badNum_ok n)
    · exact hexEnd_le _ _ _ (by omega) h
  have HC := Lib.hid (parse16_all t hmax w)
  cases hR : (if t.size = 0 then badNum else hexEnd 0 t.data.toList) with
  | ok n =>
    rw [hR] at HC hnum
    have HN := Lib.hid hnum
    have hn := hle n hR
    clear hR hle hnum
    go_enter Tryz.func78, Tryz.ntmps78
    go_wp2_with fail
    refine Calls.mono HC.out ?_
    rintro e w1 ⟨rfl, hb⟩
    simp only [Lib.uintTupleM]
    go_wp2_with fail
    go_ret2
    exact ⟨n, .nilIface, rfl, by omega, by omega, .inl ⟨n, HN.out, rfl, rfl⟩, hb⟩
  | range =>
    rw [hR] at HC hnum
    have HN := Lib.hid hnum
    clear hR hle hnum
    go_enter Tryz.func78, Tryz.ntmps78
    go_wp2_with fail
    refine Calls.mono HC.out ?_
    rintro e w1 ⟨rfl, hb⟩
    simp only [Lib.uintTupleM]
    obtain ⟨te, pe, hev⟩ := (HE.out.below hb).rng
    have HT := Lib.hid (Tryz.strconv_toError_range ⟨#[80, 97, 114, 115, 101, 85, 105, 110, 116]⟩ t 16 16 _ w1 (by omega) hev (.inr ⟨te, pe, rfl⟩))
    go_wp2_with fail
    refine Calls.mono HT.out ?_
    rintro e w2 ⟨N, rfl, -, -, hb2⟩
    go_wp2_with fail
    go_ret2
    exact ⟨65535, _, rfl, by omega, by omega, .inr ⟨HN.out, _, _, rfl⟩, Below.via hb hb2⟩
  | _ =>
    rw [hR] at HC hnum
    have HN := Lib.hid hnum
    clear hR hle hnum
    go_enter Tryz.func78, Tryz.ntmps78
    go_wp2_with fail
    refine Calls.mono HC.out ?_
    rintro e w1 ⟨rfl, hb⟩
    simp only [Lib.uintTupleM]
    obtain ⟨te, pe, hev⟩ := (HE.out.below hb).syn
    have HT := Lib.hid (Tryz.strconv_toError_syntax ⟨#[80, 97, 114, 115, 101, 85, 105, 110, 116]⟩ t 16 16 _ w1 (by omega) hev (.inr ⟨te, pe, rfl⟩))
    go_wp2_with fail
    refine Calls.mono HT.out ?_
    rintro e w2 ⟨N, rfl, -, -, hb2⟩
    go_wp2_with fail
    go_ret2
    exact ⟨0, _, rfl, by omega, by omega, .inr ⟨HN.out, _, _, rfl⟩, Below.via hb hb2⟩
end Go.Proofs.YtcadpcppnllhnaaGreatDoor
end

/- Walks over texts: digit; IndexFunc over what is no digit. -/
section
set_option linter.unusedSimpArgs false
set_option linter.unusedVariables false
namespace Go.Proofs.YtcadpcppnllhnaaGreatDoor
open Go.RowKit

def digR (x : Nat) : Bool := decide (48 ≤ x ∧ x ≤ 57 ∨ 97 ≤ x ∧ x ≤ 102 ∨ 65 ≤ x ∧ x ≤ 70)

set_option maxHeartbeats 4000000 in
theorem digit_any (x : Nat) (hx : x ≤ 1114111) (w : World) : Calls Tryz.prog 81 #[.int .i32 (x : Int)] w (RetAt w (.bool (digR x))) := by
  have h0 : (0 : Int) ≤ (x : Int) := by omega
  have h1 : (x : Int) ≤ 1114111 := by omega
  go_enter Tryz.func81, Tryz.ntmps81
  go_wp2_with fail
  all_goals go_ret
  all_goals refine .mk (val_bool ?_) (Below.refl _ _)
  all_goals unfold digR
  all_goals rw [Bool.eq_iff_iff]
  all_goals simp
  all_goals omega

theorem numL_digits (base most : Nat) : ∀ (l : List UInt8) (acc n : Nat), numL base most acc l = some n → ∀ c ∈ l, digitN c < base
  | [], _, _, _, c, hc => absurd hc (List.not_mem_nil)
  | x :: r, acc, n, h, c, hc => by
    rw [numL] at h
    split at h
    · cases h
    · rcases List.mem_cons.1 hc with rfl | hc
      · omega
      · exact numL_digits base most r _ n h c hc
theorem digR_of (c : UInt8) (h : digitN c < 16) : digR c.toNat = true ∧ c.toNat < 128 := by
  unfold digitN at h
  unfold digR
  split at h
  · exact ⟨decide_eq_true (by omega), by omega⟩
  · split at h
    · exact ⟨decide_eq_true (by omega), by omega⟩
    · split at h
      · exact ⟨decide_eq_true (by omega), by omega⟩
      · omega
theorem idx_none (s : ByteArray) (h : ∀ c ∈ s.data.toList, digitN c < 16) : ∀ (f pos : Nat), Lib.idxFuncFrom (fun x => !digR x) true s f pos = -1
  | 0, _ => rfl
  | f + 1, pos => by
    rw [Lib.idxFuncFrom]
    by_cases hp : pos < s.size
    · have hd := digR_of (s[pos]'hp) (h _ (by rw [show s[pos]'hp = s.data.toList[pos]'(by simpa using hp) from rfl]; exact List.getElem_mem _))
      rw [if_pos hp, decode_ascii s pos hp hd.2]
      simp only [hd.1]
      exact idx_none s h f _
    · rw [if_neg hp]

set_option maxHeartbeats 4000000 in
theorem undigit_grows (w : World) : PredGrows Tryz.prog 80 #[] (fun x => !digR x) w := by
  intro W x hx hb
  show Calls Tryz.prog 80 #[.int .i32 (x : Int)] W _
  go_enter Tryz.func80, Tryz.ntmps80
  go_wp2_with fail
  refine Calls.mono (digit_any x hx W) ?_
  rintro e w1 ⟨rfl, hb1⟩
  go_wp2_with fail
  go_ret
  exact ⟨rfl, hb1⟩
end Go.Proofs.YtcadpcppnllhnaaGreatDoor
end

/- Walks over texts: row's closure. -/
section
set_option linter.unusedSimpArgs false
set_option linter.unusedVariables false
namespace Go.Proofs.YtcadpcppnllhnaaGreatDoor
open Go.RowKit

/-- row's memory between two calls of its closure: the list and 'ok' in blocks of their own, the parts (a row of strings), the list's row. -/
structure RowSt (w W : World) (hi : Nat) (op : Option Addr) (nP capp : Nat) (P : List (List UInt8)) (oa : Option Addr) (n cap : Nat) (G : List Nat) (ok : Bool) : Prop where
  below : Below w.heap.size w W
  list : W.cell? ⟨w.heap.size, 0, none⟩ = some (.slice oa n cap)
  okc : W.cell? ⟨w.heap.size + 1, 0, none⟩ = some (.bool ok)
  listF : W.frozen? ⟨w.heap.size, 0, none⟩ = false
  okF : W.frozen? ⟨w.heap.size + 1, 0, none⟩ = false
  parts : Owns W (w.heap.size + 2) 1 op nP capp (P.map strV)
  plt : ∀ a, op = some a → a.block < hi
  hiW : hi ≤ W.heap.size
  lo : w.heap.size + 2 ≤ hi
  row : Owns W hi 1 oa n cap (G.map fun (m : Nat) => Value.int .u64 (m : Int))
theorem RowSt.go {w W W' : World} {hi : Nat} {op : Option Addr} {nP capp : Nat} {P : List (List UInt8)} {oa : Option Addr} {n cap : Nat} {G : List Nat} {ok : Bool} (h : RowSt w W hi op nP capp P oa n cap G ok) (hb : Below W.heap.size W W') : RowSt w W' hi op nP capp P oa n cap G ok where
  below := Below.via h.below hb
  list := (hb.cell (p := ⟨_, _, none⟩) (World.block_lt_of_cell? W _ h.list)).trans h.list
  okc := (hb.cell (p := ⟨_, _, none⟩) (World.block_lt_of_cell? W _ h.okc)).trans h.okc
  listF := (hb.frozen (p := ⟨_, _, none⟩) (World.block_lt_of_cell? W _ h.list)).trans h.listF
  okF := (hb.frozen (p := ⟨_, _, none⟩) (World.block_lt_of_cell? W _ h.okc)).trans h.okF
  parts := h.parts.below hb
  plt := h.plt
  hiW := Nat.le_trans h.hiW hb.size
  lo := h.lo
  row := h.row.below hb
theorem info_u64 : (Tryz.prog.info? 74).map (fun i => (i.zero, i.size, i.bytes)) = some (some (.int .u64 0), 1, 8) := by kernel_rfl

/-- 'ok' written. -/
theorem RowSt.put {w W : World} {hi : Nat} {op : Option Addr} {nP capp : Nat} {P : List (List UInt8)} {oa : Option Addr} {n cap : Nat} {G : List Nat} {ok : Bool} (h : RowSt w W hi op nP capp P oa n cap G ok) (b : Bool) : RowSt w (W.setCell ⟨w.heap.size + 1, 0, none⟩ (.bool b)) hi op nP capp P oa n cap G b where
  below := h.below.setCell (by simp only; omega) _
  list := (by rw [World.cell?_setCell_other]; exact h.list; intro e; injection e; omega)
  okc := by first | exact World.cell?_setCell_same _ h.okc | exact World.cell?_setCell_same _ _ h.okc | exact World.cell?_setCell_same _ _ _ h.okc
  listF := by simpa using h.listF
  okF := by simpa using h.okF
  parts := h.parts.other (fun a ha => by have := (h.parts.lt ha).1; simp only; omega) _
  plt := h.plt
  hiW := by simpa using h.hiW
  lo := h.lo
  row := h.row.other (fun a ha => by have := (h.row.lt ha).1; have := h.lo; simp only; omega) _

/-- The list's row grown, the list not yet written. -/
structure RowGrown (w W : World) (hi : Nat) (op : Option Addr) (nP capp : Nat) (P : List (List UInt8)) (oa : Option Addr) (n cap : Nat) (G : List Nat) (ok : Bool) : Prop where
  list : ∃ v, W.cell? ⟨w.heap.size, 0, none⟩ = some v
  listF : W.frozen? ⟨w.heap.size, 0, none⟩ = false
  put : RowSt w (W.setCell ⟨w.heap.size, 0, none⟩ (.slice oa n cap)) hi op nP capp P oa n cap G ok
theorem RowSt.grown {w W w' : World} {hi : Nat} {op : Option Addr} {nP capp : Nat} {P : List (List UInt8)} {oa : Option Addr} {n cap : Nat} {G : List Nat} {ok : Bool} (h : RowSt w W hi op nP capp P oa n cap G ok)
    (hg : W.grownBy w' (oa.map Addr.block)) {oa' : Option Addr} {n' cap' : Nat} {G' : List Nat} (ho : Owns w' hi 1 oa' n' cap' (G'.map fun (m : Nat) => Value.int .u64 (m : Int))) : RowGrown w w' hi op nP capp P oa' n' cap' G' ok := by
  have hlo := h.lo
  have hhi := h.hiW
  have hne : ∀ k, k < hi → some k ≠ oa.map Addr.block := by
    intro k hk e
    obtain ⟨a, e1, e2⟩ := Option.map_eq_some_iff.1 e.symm
    have := (h.row.lt e1).1
    omega
  have e0 : w'.heap[w.heap.size]? = W.heap[w.heap.size]? := hg.block _ (by omega) (hne _ (by omega))
  have e1 : w'.heap[w.heap.size + 1]? = W.heap[w.heap.size + 1]? := hg.block _ (by omega) (hne _ (by omega))
  have hl : w'.cell? ⟨w.heap.size, 0, none⟩ = some (.slice oa n cap) := by rw [World.cell?_of_block (w := W) (a := ⟨w.heap.size, 0, none⟩) e0]; exact h.list
  have hok : w'.cell? ⟨w.heap.size + 1, 0, none⟩ = some (.bool ok) := by rw [World.cell?_of_block (w := W) (a := ⟨w.heap.size + 1, 0, none⟩) e1]; exact h.okc
  have hlF : w'.frozen? ⟨w.heap.size, 0, none⟩ = false := by rw [World.frozen?_of_block (w := W) (a := ⟨w.heap.size, 0, none⟩) e0]; exact h.listF
  have hokF : w'.frozen? ⟨w.heap.size + 1, 0, none⟩ = false := by rw [World.frozen?_of_block (w := W) (a := ⟨w.heap.size + 1, 0, none⟩) e1]; exact h.okF
  have hP : Owns w' (w.heap.size + 2) 1 op nP capp (P.map strV) := h.parts.grown hg fun a ha => hne _ (h.plt a ha)
  have hB : Below w.heap.size w w' := Below.appended h.below h.row (by omega) hg (by omega)
  refine ⟨⟨_, hl⟩, hlF, ?_⟩
  refine ⟨hB.setCell (by simp only; omega) _, ?_, ?_, by simpa using hlF, by simpa using hokF, hP.other (fun a ha => by have := (hP.lt ha).1; simp only; omega) _, h.plt, ?_, hlo, ho.other (fun a ha => by have := (ho.lt ha).1; simp only; omega) _⟩
  · first | exact World.cell?_setCell_same _ hl | exact World.cell?_setCell_same _ _ hl | exact World.cell?_setCell_same _ _ _ hl
  · rw [World.cell?_setCell_other]; exact hok; intro e; injection e; omega
  · have := hg.size; simp; omega

set_option maxHeartbeats 8000000 in
theorem closure_no (p : ByteArray) (hp : p.size ≤ 1000) (w W : World) (hi : Nat) (op : Option Addr) (nP capp : Nat) (P : List (List UInt8)) (oa : Option Addr) (n cap : Nat) (G : List Nat) (HE : Hid (Env W))
    (hn : n ≤ 1000) (h : Hid (RowSt w W hi op nP capp P oa n cap G false)) :
    Calls Tryz.prog 77 #[.string p, .pointer (some ⟨w.heap.size + 1, 0, none⟩), .pointer (some ⟨w.heap.size, 0, none⟩)] W
      (fun e w' => ∃ oa' cap' u, e = .returned (.tuple #[]) ∧ RowSt w w' hi op nP capp P oa' (n + 1) cap' (G ++ [u]) false) := by
  go_enter Tryz.func77, Tryz.ntmps77
  go_wp2_with fail
  refine Calls.mono (ParseUint_any p hp W HE.out) ?_
  rintro e w1 ⟨u, er, rfl, hu0, hu1, -, hb⟩
  obtain ⟨v, rfl⟩ : ∃ v : Nat, u = (v : Int) := ⟨u.toNat, by omega⟩
  have H1 := Lib.hid (h.out.go hb)
  have hl := H1.out.list
  have ho := H1.out.okc
  have hlF := H1.out.listF
  have hoF := H1.out.okF
  clear hb HE h
  go_wp2_with (at_builtin; refine Stopped.of ?_)
  refine Stopped.mk ?_
  have H2 := Lib.hid (H1.out.put false)
  refine wpList_append_owns _ rfl _ _ 101 rfl 74 (.int .u64 0) 1 8 hi Tryz.underlying101 info_u64 rfl (by decide) oa n cap _ rfl (H2.out.row.alloc _) ⟨w1.heap.size, 0, none⟩ 1 1 [.int .u64 v] rfl rfl ?_ ?_ (by decide) ?_ ?_ ?_ ?_
  · have h := news_new (w1.setCell ⟨w.heap.size + 1, 0, none⟩ (.bool false)) #[.int .u64 v] 74
    simpa using h
  · simp [Value.oneCell']
  · unfold maxLen; omega
  · omega
  · have := H2.out.hiW; simp only [World.size_alloc]; omega
  intro oa' cap' w' ho' hg2 hd
  have HG := Lib.hid ((H2.out.go ((Below.refl _ _).alloc (Nat.le_refl _) _)).grown hg2 (G' := G ++ [v]) (by rw [List.map_append]; exact ho'))
  obtain ⟨vl, hvl⟩ := HG.out.list
  have hvF := HG.out.listF
  clear hg2 hd ho' H1 H2 hl ho hlF hoF
  go_wp2_with fail
  go_end0
  exact ⟨oa', cap', v, rfl, HG.out.put⟩
set_option maxHeartbeats 8000000 in
theorem closure_err (p : ByteArray) (hp : p.size ≤ 1000) (w W : World) (hi : Nat) (op : Option Addr) (nP capp : Nat) (P : List (List UInt8)) (oa : Option Addr) (n cap : Nat) (G : List Nat) (HE : Hid (Env W))
    (hn : n ≤ 1000) (h : Hid (RowSt w W hi op nP capp P oa n cap G true)) (hx : numberL 16 65536 p.data.toList = none) :
    Calls Tryz.prog 77 #[.string p, .pointer (some ⟨w.heap.size + 1, 0, none⟩), .pointer (some ⟨w.heap.size, 0, none⟩)] W
      (fun e w' => ∃ oa' cap' u, e = .returned (.tuple #[]) ∧ RowSt w w' hi op nP capp P oa' (n + 1) cap' (G ++ [u]) false) := by
  go_enter Tryz.func77, Tryz.ntmps77
  go_wp2_with fail
  refine Calls.mono (ParseUint_any p hp W HE.out) ?_
  rintro e w1 ⟨u, er, rfl, hu0, hu1, hcase, hb⟩
  obtain ⟨te, pe, rfl⟩ : ∃ te pe, er = .iface te pe := by
    rcases hcase with ⟨m, h1, -⟩ | ⟨-, h2⟩
    · rw [hx] at h1; cases h1
    · exact h2
  clear hcase hx
  obtain ⟨v, rfl⟩ : ∃ v : Nat, u = (v : Int) := ⟨u.toNat, by omega⟩
  have H1 := Lib.hid (h.out.go hb)
  have hl := H1.out.list
  have ho := H1.out.okc
  have hlF := H1.out.listF
  have hoF := H1.out.okF
  clear hb HE h
  go_wp2_with (at_builtin; refine Stopped.of ?_)
  refine Stopped.mk ?_
  have H2 := Lib.hid (H1.out.put false)
  refine wpList_append_owns _ rfl _ _ 101 rfl 74 (.int .u64 0) 1 8 hi Tryz.underlying101 info_u64 rfl (by decide) oa n cap _ rfl (H2.out.row.alloc _) ⟨w1.heap.size, 0, none⟩ 1 1 [.int .u64 v] rfl rfl ?_ ?_ (by decide) ?_ ?_ ?_ ?_
  · have h := news_new (w1.setCell ⟨w.heap.size + 1, 0, none⟩ (.bool false)) #[.int .u64 v] 74
    simpa using h
  · simp [Value.oneCell']
  · unfold maxLen; omega
  · omega
  · have := H2.out.hiW; simp only [World.size_alloc]; omega
  intro oa' cap' w' ho' hg2 hd
  have HG := Lib.hid ((H2.out.go ((Below.refl _ _).alloc (Nat.le_refl _) _)).grown hg2 (G' := G ++ [v]) (by rw [List.map_append]; exact ho'))
  obtain ⟨vl, hvl⟩ := HG.out.list
  have hvF := HG.out.listF
  clear hg2 hd ho' H1 H2 hl ho hlF hoF
  go_wp2_with fail
  go_end0
  exact ⟨oa', cap', v, rfl, HG.out.put⟩
set_option maxHeartbeats 8000000 in
theorem closure_long (p : ByteArray) (hp : p.size ≤ 1000) (w W : World) (hi : Nat) (op : Option Addr) (nP capp : Nat) (P : List (List UInt8)) (oa : Option Addr) (n cap : Nat) (G : List Nat) (HE : Hid (Env W))
    (hn : n ≤ 1000) (h : Hid (RowSt w W hi op nP capp P oa n cap G true)) (m : Nat) (hx : numberL 16 65536 p.data.toList = some m) (h4 : 4 < p.size) :
    Calls Tryz.prog 77 #[.string p, .pointer (some ⟨w.heap.size + 1, 0, none⟩), .pointer (some ⟨w.heap.size, 0, none⟩)] W
      (fun e w' => ∃ oa' cap' u, e = .returned (.tuple #[]) ∧ RowSt w w' hi op nP capp P oa' (n + 1) cap' (G ++ [u]) false) := by
  go_enter Tryz.func77, Tryz.ntmps77
  go_wp2_with fail
  refine Calls.mono (ParseUint_any p hp W HE.out) ?_
  rintro e w1 ⟨u, er, rfl, hu0, hu1, hcase, hb⟩
  obtain rfl : er = .nilIface := by
    rcases hcase with ⟨m, h1, -, h2⟩ | ⟨h1, -⟩
    · exact h2
    · rw [hx] at h1; cases h1
  clear hcase hx
  obtain ⟨v, rfl⟩ : ∃ v : Nat, u = (v : Int) := ⟨u.toNat, by omega⟩
  have H1 := Lib.hid (h.out.go hb)
  have hl := H1.out.list
  have ho := H1.out.okc
  have hlF := H1.out.listF
  have hoF := H1.out.okF
  clear hb HE h
  go_wp2_with (at_builtin; refine Stopped.of ?_)
  refine Stopped.mk ?_
  have H2 := Lib.hid (H1.out.put false)
  refine wpList_append_owns _ rfl _ _ 101 rfl 74 (.int .u64 0) 1 8 hi Tryz.underlying101 info_u64 rfl (by decide) oa n cap _ rfl (H2.out.row.alloc _) ⟨w1.heap.size, 0, none⟩ 1 1 [.int .u64 v] rfl rfl ?_ ?_ (by decide) ?_ ?_ ?_ ?_
  · have h := news_new (w1.setCell ⟨w.heap.size + 1, 0, none⟩ (.bool false)) #[.int .u64 v] 74
    simpa using h
  · simp [Value.oneCell']
  · unfold maxLen; omega
  · omega
  · have := H2.out.hiW; simp only [World.size_alloc]; omega
  intro oa' cap' w' ho' hg2 hd
  have HG := Lib.hid ((H2.out.go ((Below.refl _ _).alloc (Nat.le_refl _) _)).grown hg2 (G' := G ++ [v]) (by rw [List.map_append]; exact ho'))
  obtain ⟨vl, hvl⟩ := HG.out.list
  have hvF := HG.out.listF
  clear hg2 hd ho' H1 H2 hl ho hlF hoF
  go_wp2_with fail
  go_end0
  exact ⟨oa', cap', v, rfl, HG.out.put⟩
end Go.Proofs.YtcadpcppnllhnaaGreatDoor
end

/- Walks over texts: row's closure, where all is well. -/
section
set_option linter.unusedSimpArgs false
set_option linter.unusedVariables false
namespace Go.Proofs.YtcadpcppnllhnaaGreatDoor
open Go.RowKit

set_option maxHeartbeats 8000000 in
theorem closure_yes (p : ByteArray) (hp : p.size ≤ 1000) (w W : World) (hi : Nat) (op : Option Addr) (nP capp : Nat) (P : List (List UInt8)) (oa : Option Addr) (n cap : Nat) (G : List Nat) (HE : Hid (Env W))
    (hn : n ≤ 1000) (h : Hid (RowSt w W hi op nP capp P oa n cap G true)) (m : Nat) (hx : numberL 16 65536 p.data.toList = some m) (h4 : p.size ≤ 4) :
    Calls Tryz.prog 77 #[.string p, .pointer (some ⟨w.heap.size + 1, 0, none⟩), .pointer (some ⟨w.heap.size, 0, none⟩)] W
      (fun e w' => ∃ oa' cap' u, e = .returned (.tuple #[]) ∧ RowSt w w' hi op nP capp P oa' (n + 1) cap' (G ++ [u]) true ∧ u = m) := by
  go_enter Tryz.func77, Tryz.ntmps77
  go_wp2_with fail
  refine Calls.mono (ParseUint_any p hp W HE.out) ?_
  rintro e w1 ⟨u, er, rfl, hu0, hu1, hcase, hb⟩
  obtain ⟨rfl, rfl⟩ : u = (m : Int) ∧ er = .nilIface := by
    rcases hcase with ⟨m', h1, h3, h2⟩ | ⟨h1, -⟩
    · rw [hx] at h1; cases h1; exact ⟨h3, h2⟩
    · rw [hx] at h1; cases h1
  have hdg : ∀ c ∈ p.data.toList, digitN c < 16 := by
    unfold numberL at hx
    split at hx
    · cases hx
    · exact numL_digits 16 65536 _ _ _ hx
  have HI := Lib.hid (idx_none p hdg p.size 0)
  clear hcase hx hdg
  have H1 := Lib.hid (h.out.go hb)
  have hl := H1.out.list
  have ho := H1.out.okc
  have hlF := H1.out.listF
  have hoF := H1.out.okF
  clear hb HE h
  go_wp2_with fail
  refine Calls.mono (Tryz.strings_IndexFunc_grows 80 #[] (enters_of Tryz.func80 (by kernel_rfl) rfl) (fun x => !digR x) p w1 (undigit_grows w1)) ?_
  rintro e w2 ⟨rfl, hb2⟩
  rw [show Lib.idxFunc (fun x => !digR x) true p = -1 from HI.out]
  have H3 := Lib.hid (H1.out.go hb2)
  clear H1
  clear hl ho hlF hoF hb2
  have H1 := H3
  have hl := H1.out.list
  have ho := H1.out.okc
  have hlF := H1.out.listF
  have hoF := H1.out.okF
  clear H3
  go_wp2_with (at_builtin; refine Stopped.of ?_)
  refine Stopped.mk ?_
  have H2 := Lib.hid (H1.out.put true)
  refine wpList_append_owns _ rfl _ _ 101 rfl 74 (.int .u64 0) 1 8 hi Tryz.underlying101 info_u64 rfl (by decide) oa n cap _ rfl (H2.out.row.alloc _) ⟨w2.heap.size, 0, none⟩ 1 1 [.int .u64 m] rfl rfl ?_ ?_ (by decide) ?_ ?_ ?_ ?_
  · have h := news_new (w2.setCell ⟨w.heap.size + 1, 0, none⟩ (.bool true)) #[.int .u64 m] 74
    simpa using h
  · simp [Value.oneCell']
  · unfold maxLen; omega
  · omega
  · have := H2.out.hiW; simp only [World.size_alloc]; omega
  intro oa' cap' w' ho' hg2 hd
  have HG := Lib.hid ((H2.out.go ((Below.refl _ _).alloc (Nat.le_refl _) _)).grown hg2 (G' := G ++ [m]) (by rw [List.map_append]; exact ho'))
  obtain ⟨vl, hvl⟩ := HG.out.list
  have hvF := HG.out.listF
  clear hg2 hd ho' H1 H2 hl ho hlF hoF
  go_wp2_with fail
  go_end0
  exact ⟨oa', cap', m, rfl, HG.out.put, rfl⟩
end Go.Proofs.YtcadpcppnllhnaaGreatDoor
end

/- strings.Split at one byte: an own row of strings. -/
section
set_option linter.unusedSimpArgs false
set_option linter.unusedVariables false
namespace Go.Proofs.YtcadpcppnllhnaaGreatDoor
open Go.RowKit

theorem split_row (s : ByteArray) (c : UInt8) : (Lib.splitB ⟨#[c]⟩ 0 (Lib.countB s ⟨#[c]⟩) s).map Value.string = (cutsL c s.data.toList).map strV := by
  have h := Lib.splitB_data ⟨#[c]⟩ 0 (Lib.countB s ⟨#[c]⟩) s
  have h2 : Lib.splitK (⟨#[c]⟩ : ByteArray).data.toList 0 (Lib.countB s ⟨#[c]⟩) s.data.toList = cutsL c s.data.toList := split_cuts c s.data.toList
  rw [h2] at h
  rw [← h, List.map_map]
  congr 1
theorem split_new (s : ByteArray) (c : UInt8) (w : World) (henv : Env w) (hs : s.size ≤ 1000) : Calls Tryz.prog 63 #[.string s, .string ⟨#[c]⟩] w (NewStrings w (cutsL c s.data.toList)) := by
  obtain ⟨m, hm⟩ := henv.len
  refine (Tryz.strings_Split s ⟨#[c]⟩ m w (by omega) hm (Nat.le_refl 1)).mono ?_
  rintro e w' ⟨rfl, rfl⟩
  have hr := split_row s c
  have hl : Lib.countB s ⟨#[c]⟩ + 1 = (cutsL c s.data.toList).length := by
    have h1 := Lib.splitB_all ⟨#[c]⟩ (Nat.le_refl 1) 0 (Lib.countB s ⟨#[c]⟩) s rfl
    have h2 := congrArg List.length hr
    rw [List.length_map, List.length_map, h1] at h2
    exact h2
  have hn : (cutsL c s.data.toList).length ≤ 1001 := by
    have := cutsL_count c s.data.toList
    have hz : s.data.toList.length = s.size := by rw [Array.length_toList, ByteArray.size_data]
    omega
  rw [hl, hr]
  refine ⟨_, _, rfl, ?_, (Below.refl _ _).alloc (Nat.le_refl _) _⟩
  exact Owns.made _ _ _ _ _ (Nat.le_refl _) (by simp) (Nat.le_refl _) (by unfold maxLen; omega) (by
    rw [List.toList_toArray, Nat.mul_one]
    exact List.take_of_length_le (by rw [List.length_map]; exact Nat.le_refl _))
end Go.Proofs.YtcadpcppnllhnaaGreatDoor
end

/- Walks over texts: row. -/
section
set_option linter.unusedSimpArgs false
set_option linter.unusedVariables false
namespace Go.Proofs.YtcadpcppnllhnaaGreatDoor
open Go.RowKit

/-- What row answers: the numbers and true; or whatever numbers and false. -/
def RowPost (w : World) (o : Option (List Nat)) : Ending → World → Prop := fun e w' => ∃ (oa : Option Addr) (cap : Nat) (G : List Nat) (ok : Bool), e = .returned (.tuple #[.slice oa G.length cap, .bool ok]) ∧
  Owns w' w.heap.size 1 oa G.length cap (G.map fun (m : Nat) => Value.int .u64 (m : Int)) ∧ Below w.heap.size w w' ∧ G.length ≤ 1001 ∧ ((ok = true ∧ o = some G) ∨ (ok = false ∧ o = none))

theorem RowSt.start {w w1 : World} {op : Option Addr} {nP capp : Nat} {P : List (List UInt8)} (HO : Owns w1 ((w.alloc (Obj.cells #[Value.slice none 0 0] 101)).alloc (Obj.cells #[Value.bool true] 4)).heap.size 1 op nP capp (P.map strV))
    (HB : Below ((w.alloc (Obj.cells #[Value.slice none 0 0] 101)).alloc (Obj.cells #[Value.bool true] 4)).heap.size ((w.alloc (Obj.cells #[Value.slice none 0 0] 101)).alloc (Obj.cells #[Value.bool true] 4)) w1) :
    RowSt w w1 w1.heap.size op nP capp P none 0 0 [] true where
  below := Below.via (Below.all (Below.all (Below.refl _ _) _) _) HB
  list := (HB.cell (p := ⟨w.heap.size, 0, none⟩) (by simp; omega)).trans (by simp [go_sem])
  okc := (HB.cell (p := ⟨w.heap.size + 1, 0, none⟩) (by simp)).trans (by simp [go_sem])
  listF := (HB.frozen (p := ⟨w.heap.size, 0, none⟩) (by simp; omega)).trans (by simp [go_sem])
  okF := (HB.frozen (p := ⟨w.heap.size + 1, 0, none⟩) (by simp)).trans (by simp [go_sem])
  parts := by simpa using HO
  plt := fun a ha => (HO.lt ha).2
  hiW := Nat.le_refl _
  lo := by have := HB.size; simpa using this
  row := Owns.nil _ _ _

set_option maxHeartbeats 8000000 in
theorem row_any (s : ByteArray) (w : World) (hs : s.size ≤ 1000) (henv : Env w) : Calls Tryz.prog 64 #[.string s] w (RowPost w (groupsL s.data.toList)) := by
  have HE := Lib.hid henv
  clear henv
  by_cases he : s = ⟨#[]⟩
  · subst he
    go_enter Tryz.func64, Tryz.ntmps64
    go_wp2_with fail
    refine bodyPost_ret (v := .tuple #[.slice none 0 0, .bool true]) (by simp [results, Tryz.results64, go_sem]) rfl ⟨none, 0, [], true, rfl, Owns.nil _ _ _, ?_, by simp, .inl ⟨rfl, rfl⟩⟩
    exact Below.all (Below.all (Below.refl _ _) _) _
  · have hne : s.data.toList ≠ [] := fun e => he (by cases s; rename_i d; cases d; simp only at e; subst e; rfl)
    have HGL := Lib.hid (show groupsL s.data.toList = (cutsL 58 s.data.toList).mapM hexG by rw [groupsL, if_neg hne])
    have hls : s.data.toList.length = s.size := by rw [Array.length_toList, ByteArray.size_data]
    have HPL : Hid (∀ p ∈ cutsL 58 s.data.toList, p.length ≤ 1000) := Lib.hid (fun p hp => by have := cutsL_len 58 _ p hp; omega)
    have HPC : Hid ((cutsL 58 s.data.toList).length ≤ 1001) := Lib.hid (by have := cutsL_count 58 s.data.toList; omega)
    have HCA := Lib.hid (fun w h => split_new s 58 w h hs)
    have heq : s.toList.isEmpty = false := by rw [toList_data8]; cases h : s.data.toList with
      | nil => exact absurd h hne
      | cons a t => rfl
    clear he hls hs hne
    generalize cutsL 58 s.data.toList = P at *
    go_enter Tryz.func64, Tryz.ntmps64
    go_wp2_with fail
    refine Calls.mono (HCA.out _ (HE.out.below (Below.all (Below.all (Below.refl _ _) _) _))) ?_
    rintro e w1 ⟨op, capp, rfl, HO, HB⟩
    have HS := Lib.hid (RowSt.start HO HB)
    clear HO HB
    have hpc := HPC.out
    generalize hnP : P.length = nP at *
    have HNP := Lib.hid hnP
    clear hnP
    generalize w1.heap.size = hi at *
    go_wp2_with fail
    go_loopw [6, 13] (fun u6 u13 wr => ∃ (k : Nat) (oa : Option Addr) (cap : Nat) (G : List Nat) (ok : Bool), k ≤ nP ∧ u13 = .int .i64 k ∧ Hid (G.length = k) ∧ Hid ((ok = true ∧ (P.take k).mapM hexG = some G) ∨ (ok = false ∧ P.mapM hexG = none)) ∧ Hid (RowSt w wr hi op nP capp P oa k cap G ok)) (fun _ u13 _ => (nP : Int) - intOf u13 |>.toNat)
    case atStart => exact ⟨0, none, 0, [], true, Nat.zero_le _, rfl, Lib.hid rfl, Lib.hid (.inl ⟨rfl, rfl⟩), HS⟩
    case round =>
      obtain ⟨k, oa, cap, G, ok, hk, rfl, HGn, HG, HR⟩ := hrel
      by_cases hlt : k < nP
      · have hkP : k < P.length := by rw [HNP.out]; exact hlt
        obtain ⟨g, off, hop, hbg, hg, hc, ht⟩ := HR.out.parts.here (by omega)
        subst hop
        have hcl := hc k (strV P[k]) (by simp [hkP])
        have hpl := HPL.out P[k] (List.getElem_mem hkP)
        have HTS := Lib.hid (show P.take (k + 1) = P.take k ++ [P[k]] by rw [List.take_succ_eq_append_getElem hkP])
        have HMI := Lib.hid (fun h => mapM_miss hexG P k hkP h)
        have HEw := Lib.hid (HE.out.below HR.out.below)
        clear hc ht
        unfold strV at hcl
        generalize P[k] = p at *
        have hsz : (⟨p.toArray⟩ : ByteArray).size = p.length := by simp [ByteArray.size]
        have hpe : ((⟨p.toArray⟩ : ByteArray).data.toList) = p := by simp
        have hp1 : (⟨p.toArray⟩ : ByteArray).size ≤ 1000 := by omega
        have hk1 : k ≤ 1000 := by omega
        rcases HG.out with ⟨rfl, hG⟩ | ⟨rfl, hG⟩
        · cases hn : numberL 16 65536 p with
          | none =>
            have HX := Lib.hid (HMI.out (by unfold hexG; split <;> simp [hn]))
            rw [← hpe] at hn
            clear hpl hsz
            go_wp2_with fail
            refine Calls.mono (closure_err _ hp1 w wr hi _ nP capp P oa k cap G HEw hk1 HR hn) ?_
            rintro e w2 ⟨oa', cap', u, rfl, H⟩
            have H2 := Lib.hid H
            clear H
            go_wp2_with fail
            go_roundw
            case rel => exact ⟨k + 1, oa', cap', G ++ [u], false, by omega, by go_num, Lib.hid (by rw [List.length_append, HGn.out]; rfl), Lib.hid (.inr ⟨rfl, HX.out⟩), H2⟩
            case measure => simp [intOf]; omega
          | some n =>
            by_cases h4 : p.length ≤ 4
            · have HX := Lib.hid (show (P.take (k + 1)).mapM hexG = some (G ++ [n]) by rw [HTS.out]; exact mapM_snoc _ _ _ _ _ hG (by unfold hexG; rw [if_pos h4, hn]))
              rw [← hpe] at hn
              rw [← hsz] at h4
              clear hpl hsz
              go_wp2_with fail
              refine Calls.mono (closure_yes _ hp1 w wr hi _ nP capp P oa k cap G HEw hk1 HR n hn h4) ?_
              rintro e w2 ⟨oa', cap', u, rfl, H, rfl⟩
              have H2 := Lib.hid H
              clear H
              go_wp2_with fail
              go_roundw
              case rel => exact ⟨k + 1, oa', cap', G ++ [u], true, by omega, by go_num, Lib.hid (by rw [List.length_append, HGn.out]; rfl), Lib.hid (.inl ⟨rfl, HX.out⟩), H2⟩
              case measure => simp [intOf]; omega
            · have HX := Lib.hid (HMI.out (by unfold hexG; rw [if_neg h4]))
              rw [← hpe] at hn
              have h5 : 4 < (⟨p.toArray⟩ : ByteArray).size := by omega
              clear hpl hsz
              go_wp2_with fail
              refine Calls.mono (closure_long _ hp1 w wr hi _ nP capp P oa k cap G HEw hk1 HR n hn h5) ?_
              rintro e w2 ⟨oa', cap', u, rfl, H⟩
              have H2 := Lib.hid H
              clear H
              go_wp2_with fail
              go_roundw
              case rel => exact ⟨k + 1, oa', cap', G ++ [u], false, by omega, by go_num, Lib.hid (by rw [List.length_append, HGn.out]; rfl), Lib.hid (.inr ⟨rfl, HX.out⟩), H2⟩
              case measure => simp [intOf]; omega
        · have HX := Lib.hid hG
          clear hpl hsz
          go_wp2_with fail
          refine Calls.mono (closure_no _ hp1 w wr hi _ nP capp P oa k cap G HEw hk1 HR) ?_
          rintro e w2 ⟨oa', cap', u, rfl, H⟩
          have H2 := Lib.hid H
          clear H
          go_wp2_with fail
          go_roundw
          case rel => exact ⟨k + 1, oa', cap', G ++ [u], false, by omega, by go_num, Lib.hid (by rw [List.length_append, HGn.out]; rfl), Lib.hid (.inr ⟨rfl, HX.out⟩), H2⟩
          case measure => simp [intOf]; omega
      · obtain rfl : k = nP := by omega
        have HF : Hid (P.take k = P) := Lib.hid (by rw [List.take_of_length_le (by rw [HNP.out]; exact Nat.le_refl _)])
        have hl := HR.out.list
        have ho := HR.out.okc
        have hlF := HR.out.listF
        have hoF := HR.out.okF
        go_wp2_with fail
        go_region
        go_wp2_with fail
        refine bodyPost_ret (v := .tuple #[.slice oa k cap, .bool ok]) (by simp [results, Tryz.results64, go_sem, hl, ho]) rfl ?_
        have h1 := HR.out.row
        have hh := HR.out.lo
        have h2 : ∀ (b : Nat) (u : Value), b < hi → ∀ w', Owns w' hi 1 oa k cap (G.map fun (m : Nat) => Value.int .u64 (m : Int)) → Owns (w'.setCell ⟨b, 0, none⟩ u) hi 1 oa k cap (G.map fun (m : Nat) => Value.int .u64 (m : Int)) := fun b u hb w' h => h.other (fun a ha => by have := (h.lt ha).1; simp only; omega) u
        obtain rfl := HGn.out
        have hpc := HPC.out
        have hnp := HNP.out
        refine ⟨oa, cap, G, ok, rfl, ?_, ?_, by omega, ?_⟩
        · exact Owns.mono (by first | exact (h2 _ _ (by omega) _ (h2 _ _ (by omega) _ h1)).drew | exact h2 _ _ (by omega) _ (h2 _ _ (by omega) _ h1) | exact h2 _ _ (by omega) _ (h2 _ _ (by omega) _ h1.drew)) (by omega)
        · first | exact ((HR.out.below.setCell (by simp only; omega) _).setCell (by simp only; omega) _).drew | exact (HR.out.below.setCell (by simp only; omega) _).setCell (by simp only; omega) _ | exact (HR.out.below.drew.setCell (by simp only; omega) _).setCell (by simp only; omega) _
        · rcases HG.out with ⟨h, hG⟩ | ⟨h, hG⟩
          · exact .inl ⟨h, by rw [HGL.out, ← hG, HF.out]⟩
          · exact .inr ⟨h, by rw [HGL.out, hG]⟩
end Go.Proofs.YtcadpcppnllhnaaGreatDoor
end

/- Walks over texts: four. -/
section
set_option linter.unusedSimpArgs false
set_option linter.unusedVariables false
namespace Go.Proofs.YtcadpcppnllhnaaGreatDoor
open Go.RowKit

theorem partOf_set {w : World} {b n : Nat} {cs cs' : Array Value} {t : TypeId} {fr : Nat × Nat} (h : w.heap[b]? = some (.cells cs t fr)) (hs : cs'.size = n := by rfl) : partOf (w.setRow b cs') b 0 n = cs' := by
  rw [partOf_row _ _ _ _ _ _ _ (setRow_heap _ _ _ _ _ _ h)]; subst hs; simp
/-- Four bytes, and noughts behind them. -/
def fourB (l : List Nat) (i : Nat) : Int := (l.getD i 0 : Nat)
/-- What the program's 'four' answers. -/
def FourPost (w : World) (o : Option (List Nat)) : Ending → World → Prop := fun e w' => ∃ (B : Nat → Int) (ok : Bool), e = .returned (.tuple #[adV false B, .bool ok]) ∧ Below w.heap.size w w' ∧
  ((ok = true ∧ ∃ l, o = some l ∧ ∀ i, i < 16 → B i = fourB l i) ∨ (ok = false ∧ o = none))
theorem FourPost.mk {w w' : World} {o : Option (List Nat)} {B : Nat → Int} {ok : Bool} (hb : Below w.heap.size w w') (h : (ok = true ∧ ∃ l, o = some l ∧ ∀ i, i < 16 → B i = fourB l i) ∨ (ok = false ∧ o = none)) :
    FourPost w o (.returned (.tuple #[adV false B, .bool ok])) w' := ⟨B, ok, rfl, hb, h⟩
theorem info_ad : (Tryz.prog.info? 26).map (·.size) = some 17 := by kernel_rfl
theorem info_rad : (Tryz.prog.info? 41).map (·.size) = some 17 := by kernel_rfl
theorem u8_wrap (n : Int) (h0 : 0 ≤ n) (h1 : n < 256) : IntKind.u8.wrap n = n := by
  simp [IntKind.wrap, IntKind.bits, IntKind.signed]; omega

set_option maxRecDepth 20000 in
set_option maxHeartbeats 8000000 in
theorem four_any (s : ByteArray) (w : World) (hs : s.size ≤ 1000) (henv : Env w) : Calls Tryz.prog 46 #[.string s] w (FourPost w (fourL s.data.toList)) := by
  have HE := Lib.hid henv
  clear henv
  have HFL : Hid (fourL s.data.toList = if (cutsL 46 s.data.toList).length = 4 then (cutsL 46 s.data.toList).mapM (decL 256) else none) := Lib.hid rfl
  have hls : s.data.toList.length = s.size := by rw [Array.length_toList, ByteArray.size_data]
  have HPL : Hid (∀ p ∈ cutsL 46 s.data.toList, p.length ≤ 1000) := Lib.hid (fun p hp => by have := cutsL_len 46 _ p hp; omega)
  have HPC : Hid ((cutsL 46 s.data.toList).length ≤ 1001) := Lib.hid (by have := cutsL_count 46 s.data.toList; omega)
  have HCA := Lib.hid (fun w h => split_new s 46 w h hs)
  clear hls hs
  generalize cutsL 46 s.data.toList = P at *
  go_enter Tryz.func46, Tryz.ntmps46
  go_wp2_with fail
  refine Calls.mono (HCA.out _ (HE.out.below (Below.all (Below.refl _ _) _))) ?_
  rintro e w1 ⟨op, capp, rfl, HO, HB⟩
  have HX := Lib.hid ((AdBox.made0 w 26 false).below HB)
  have HBB := Lib.hid (Below.via (Below.all (Below.refl _ _) _) HB)
  have HOO := Lib.hid HO
  clear HO HB
  by_cases h4 : P.length = 4
  · rw [h4]
    have HP := Lib.hid h4
    clear h4
    go_wp2_with fail
    go_loopw [3, 5] (fun u3 u5 wr => ∃ (k : Nat) (ok : Bool) (B : Nat → Int), k ≤ 4 ∧ u5 = .int .i64 k ∧ u3 = .bool ok ∧ Hid (AdBox wr w.heap.size 26 false B) ∧ Hid (Owns wr (w.heap.size + 1) 1 op 4 capp (P.map strV)) ∧ Hid (Below w.heap.size w wr) ∧
      Hid ((ok = true ∧ ∃ l, (P.take k).mapM (decL 256) = some l ∧ ∀ i, i < 16 → B i = fourB l i) ∨ (ok = false ∧ P.mapM (decL 256) = none))) (fun _ u5 _ => (4 : Int) - intOf u5 |>.toNat)
    case atStart => exact ⟨0, true, fun _ => 0, by omega, rfl, rfl, HX, Lib.hid (by have := HOO.out; rwa [HP.out, World.size_alloc] at this), HBB, Lib.hid (.inl ⟨rfl, [], rfl, fun i _ => by simp [fourB]⟩)⟩
    case round =>
      obtain ⟨k, ok, B, hk, rfl, rfl, HA, HR, HW, HC⟩ := hrel
      by_cases hlt : k < 4
      · cases ok
        · have hpp := HA.out.part
          have hrr := HA.out.row
          have HAA := HA.out.heap
          have HN := Lib.hid (show P.mapM (decL 256) = none by rcases HC.out with ⟨h, -⟩ | ⟨-, h⟩; cases h; exact h)
          have HH := Lib.hid HAA
          clear HAA
          go_wp2_with fail
          refine bodyPost_ret (v := .tuple #[adV false B, .bool false]) ?_ ?_ ?_
          · exact results_ad2 _ _ Tryz.underlying26 info_ad rfl _ _ w.heap.size (.bool false) rfl rfl (partOf_set HH.out)
          · rfl
          exact FourPost.mk (below_setRow HW.out (Nat.le_refl _) _) (.inr ⟨rfl, by rw [HFL.out, if_pos HP.out, HN.out]⟩)
        · have hkP : k < P.length := by rw [HP.out]; exact hlt
          obtain ⟨g, off, hop, hbg, hg, hc, ht⟩ := HR.out.here (by omega)
          subst hop
          have hcl := hc k (strV P[k]) (by simp [hkP])
          have hpl := HPL.out P[k] (List.getElem_mem hkP)
          have HTS := Lib.hid (show P.take (k + 1) = P.take k ++ [P[k]] by rw [List.take_succ_eq_append_getElem hkP])
          have HMI := Lib.hid (fun h => mapM_miss (decL 256) P k hkP h)
          have HEw := Lib.hid (HE.out.below HW.out)
          clear hc ht
          unfold strV at hcl
          generalize P[k] = p at *
          have hsz : (⟨p.toArray⟩ : ByteArray).size = p.length := by simp [ByteArray.size]
          have hpe : ((⟨p.toArray⟩ : ByteArray).data.toList) = p := by simp
          have hp1 : (⟨p.toArray⟩ : ByteArray).size ≤ 1000 := by omega
          have HD := Lib.hid (decimal_any ⟨p.toArray⟩ 256 (by omega) hp1 wr HEw.out)
          rw [hpe] at HD
          clear hpl hsz hpe hp1
          go_wp2_with fail
          refine Calls.mono HD.out ?_
          rintro e w2 ⟨n, ok2, rfl, hn0, hn1, hcase, hb2⟩
          have HA2 := Lib.hid (HA.out.below hb2)
          have HR2 := Lib.hid (HR.out.below hb2)
          have HW2 := Lib.hid (Below.via HW.out hb2)
          have hcx := HA2.out.cell k (by omega)
          have hfx := HA2.out.free (1 + k)
          have HC2 := Lib.hid hcase
          clear hcase hcl HA HR HW HD hb2
          go_wp2_with fail
          go_roundw
          case rel =>
            refine ⟨k + 1, ok2, fun i => if i = k then n % 256 else B i, by omega, by go_num, rfl, Lib.hid (HA2.out.set k (by omega) _), Lib.hid (HR2.out.other (fun a ha => by cases ha; simp only; omega) _), Lib.hid (HW2.out.setCell (Nat.le_refl _) _), Lib.hid ?_⟩
            rcases HC2.out with ⟨rfl, h0, hd⟩ | ⟨rfl, hd⟩
            · obtain ⟨l, hl, hB⟩ : ∃ l, List.mapM (decL 256) (List.take k P) = some l ∧ ∀ (i : Nat), i < 16 → B i = fourB l i := by rcases HC.out with ⟨-, h⟩ | ⟨h, -⟩; exact h; cases h
              have hlen : l.length = k := by rw [mapM_len _ _ _ hl, List.length_take]; omega
              have hm := (decL_some.1 hd).1
              refine .inl ⟨rfl, l ++ [n.toNat], by rw [HTS.out]; exact mapM_snoc _ _ _ _ _ hl hd, fun i hi => ?_⟩
              by_cases hik : i = k
              · subst hik
                simp only [if_true, fourB]
                rw [List.getD_eq_getElem?_getD, List.getElem?_append_right (by omega)]
                simp [hlen]; omega
              · simp only [if_neg hik, hB i hi, fourB]
                rw [List.getD_eq_getElem?_getD, List.getD_eq_getElem?_getD]
                by_cases hlt2 : i < k
                · rw [List.getElem?_append_left (by omega)]
                · rw [List.getElem?_eq_none (by omega), List.getElem?_eq_none (by simp; omega)]
            · exact .inr ⟨rfl, HMI.out hd⟩
          case measure => simp [intOf]; omega
      · obtain rfl : k = 4 := by omega
        have hpp := HA.out.part
        have hrr := HA.out.row
        have HH := Lib.hid HA.out.heap
        have HF : Hid (P.take 4 = P) := Lib.hid (by rw [List.take_of_length_le (by rw [HP.out]; exact Nat.le_refl _)])
        go_wp2_with fail
        refine bodyPost_ret (v := .tuple #[adV false B, .bool ok]) ?_ ?_ ?_
        · exact results_ad2 _ _ Tryz.underlying26 info_ad rfl _ _ w.heap.size (.bool ok) rfl rfl (partOf_set HH.out)
        · rfl
        refine FourPost.mk (below_setRow HW.out (Nat.le_refl _) _) ?_
        rcases HC.out with ⟨h1, l, hl, hB⟩ | ⟨h1, hn⟩
        · exact .inl ⟨h1, l, by rw [HFL.out, if_pos HP.out, ← HF.out]; exact hl, hB⟩
        · exact .inr ⟨h1, by rw [HFL.out, if_pos HP.out, hn]⟩
  · have h5 : ((P.length : Int) == 4) = false := by simp; omega
    have HN4 := Lib.hid h4
    have hpp := HX.out.part
    have hrr := HX.out.row
    have HH := Lib.hid HX.out.heap
    have hln := HPC.out
    generalize P.length = nP at *
    go_wp2_with fail
    go_loopw [3, 5] (fun u3 u5 wr => u5 = .int .i64 0 ∧ u3 = .bool false ∧ wr = w1) (fun _ u5 _ => 0)
    case atStart => exact ⟨rfl, rfl, rfl⟩
    case round =>
      obtain ⟨rfl, rfl, rfl⟩ := hrel
      by_cases h0 : 0 < nP
      all_goals
        go_wp2_with fail
        refine bodyPost_ret (v := .tuple #[adV false fun _ => 0, .bool false]) ?_ ?_ ?_
        · exact results_ad2 _ _ Tryz.underlying26 info_ad rfl _ _ w.heap.size (.bool false) rfl rfl (partOf_set HH.out)
        · rfl
        exact FourPost.mk (below_setRow HBB.out (Nat.le_refl _) _) (.inr ⟨rfl, by rw [HFL.out, if_neg HN4.out]⟩)
end Go.Proofs.YtcadpcppnllhnaaGreatDoor
end

/- 'append(v, make([]T, k)...)', v an own row. -/
section
set_option linter.unusedSimpArgs false
set_option linter.unusedVariables false
namespace Go.Proofs.YtcadpcppnllhnaaGreatDoor
open Go.RowKit

theorem zeroCells_one (z : Value) (n : Nat) : Builtin.zeroCells #[z] n = (List.replicate n z).toArray := by
  apply Array.ext
  · simp [Builtin.zeroCells]
  · intro i h1 h2
    simp [Builtin.zeroCells, Nat.mod_one]

section
variable {P : Program}
theorem run_append_zeros_room0 (w : World) (t tn ty e : TypeId) (i : TypeInfo) (kn : IntKind) (ht : P.underlying t = some (.slice e)) (htn : P.underlying tn = some (.int kn)) (hi : P.info? e = some i) (base : Option Addr) (n cap : Nat) (hle : n ≤ cap) :
    (Builtin.append_ #[t, tn] ty #[.slice base n cap, .int .i64 ((0 : Nat) : Int)]).run P w = .ok (.slice base n cap) w := by
  have hw : IntKind.i64.wrap ((0 : Nat) : Int) = 0 := by rw [IntKind.wrap_i64]; decide
  have hw' : IntKind.i64.wrap 0 = 0 := hw
  cases base <;> simp [Builtin.append_, run_underlying ht, run_underlying htn, sizeOf, typeInfo, hi, asInt, asIntOf, hw', hle, storeCells, Question.forced]
theorem run_append_zeros_room (w : World) (t tn ty e : TypeId) (i : TypeInfo) (z : Value) (kn : IntKind) (ht : P.underlying t = some (.slice e)) (htn : P.underlying tn = some (.int kn)) (hi : P.info? e = some i) (hz : i.zero = some z) (hzc : z.cells = #[z])
    (g off n cap k : Nat) (h0 : 0 < k) (hsz : i.size = 1) (hroom : n + k ≤ cap) (hk : k ≤ 1000000) (hby : k * i.bytes ≤ 281474976710656) (h1 : z.oneCell' = true)
    (hc : ∀ j, j < k → (w.cell? ⟨g, off + n + j, none⟩).isSome = true) (hf : ∀ j, j < k → w.frozen? ⟨g, off + n + j, none⟩ = false) :
    (Builtin.append_ #[t, tn] ty #[.slice (some ⟨g, off, none⟩) n cap, .int .i64 (k : Int)]).run P w = .ok (.slice (some ⟨g, off, none⟩) (n + k) cap) (w.setCells g (off + n) (List.replicate k z)) := by
  have hst := run_storeCells_cells (P := P) g (off + n) (List.replicate k z) 0 w (by simpa using hc) (by simpa using hf) (fun v hv => by rw [(List.mem_replicate.1 hv).2]; exact h1)
  simp only [Nat.add_zero] at hst
  have hw : IntKind.i64.wrap (k : Int) = k := by rw [IntKind.wrap_i64]; omega
  have hneg : ¬ ((k : Int) < 0) := by omega
  have hk0 : k ≠ 0 := by omega
  have h48i : ¬ (281474976710656 < (k : Int) * (i.bytes : Int)) := by rw [← Int.natCast_mul]; omega
  simp [Builtin.append_, run_underlying ht, run_underlying htn, sizeOf, typeInfo, zeroValue, hi, hz, hsz, asInt, asIntOf, hw, hneg, h48i, hk0, hroom, hzc, zeroCells_one, Addr.add_lit, hst, Question.forced]

theorem run_append_zeros_owns (w : World) (t tn ty e : TypeId) (z : Value) (bytes base : Nat) (kn : IntKind) (ht : P.underlying t = some (.slice e)) (htn : P.underlying tn = some (.int kn))
    (hinfo : (P.info? e).map (fun i => (i.zero, i.size, i.bytes)) = some (some z, 1, bytes)) (hzc : z.cells = #[z]) (h1 : z.oneCell' = true)
    (oa : Option Addr) (n cap : Nat) (xs : List Value) (hown : Owns w base 1 oa n cap xs) (k : Nat) (hk : k ≤ 1000000) (h63 : n + k ≤ maxLen) (hbytes : (n + k) * bytes ≤ 140737488355328) (hbase : base ≤ w.heap.size) :
    ∃ oa' cap' w', (Builtin.append_ #[t, tn] ty #[.slice oa n cap, .int .i64 (k : Int)]).run P w = .ok (.slice oa' (n + k) cap') w' ∧ Owns w' base 1 oa' (n + k) cap' (xs ++ List.replicate k z) ∧
      w.grownBy w' (oa.map Addr.block) ∧ (∀ a, oa' = some a → oa = some a ∨ w.heap.size ≤ a.block) := by
  obtain ⟨i, hi, hz, h4, h5⟩ := info_parts hinfo
  have hby : k * i.bytes ≤ 140737488355328 := by rw [h5]; exact Nat.le_trans (Nat.mul_le_mul_right _ (by omega)) hbytes
  rcases Nat.eq_zero_or_pos k with h0 | h0
  · subst h0
    exact ⟨oa, cap, w, run_append_zeros_room0 w t tn ty e i kn ht htn hi oa n cap hown.le, by simpa using hown, World.grownBy_refl w _, fun a ha => .inl ha⟩
  · have hsm : ((n + k : Nat) : Int) ≤ 9223372036854775807 := by unfold maxLen at h63; omega
    have hge := grownCap_ge w (n + k) cap e
    have hcm : grownCap w (n + k) cap e ≤ maxLen := grownCap_le_maxLen w (n + k) cap e h63
    have hmade : ∀ (olds : List Value), olds.length = n → (∀ u, (olds[n]? = some u) → False) → olds = xs → ∀ rest : Nat, rest = grownCap w (n + k) cap e - (n + k) →
        Owns (w.drew.alloc (.cells (olds.toArray ++ Builtin.zeroCells z.cells k ++ Builtin.zeroCells z.cells rest) e)) base 1 (some ⟨w.heap.size, 0, none⟩) (n + k) (grownCap w (n + k) cap e) (xs ++ List.replicate k z) := by
      intro olds hl _ he rest hrest
      subst he
      refine Owns.made (w := w.drew) _ _ _ _ _ (by simpa using hbase) ?_ hge hcm ?_
      · simp only [Array.size_append, List.size_toArray, size_zeroCells, hl, hzc, Nat.mul_one, List.size_toArray, List.length_singleton]; omega
      · rw [hzc, zeroCells_one, zeroCells_one]
        simp only [List.append_toArray, List.toList_toArray, Nat.mul_one]
        rw [List.take_append_of_le_length (by simp [hl])]
        exact List.take_of_length_le (by simp [hl])
    rcases hown.at' with ⟨rfl, rfl⟩ | ⟨g, off, rfl, hb, hlt, hc, hth⟩
    · have hn : n = 0 := by have := hown.le; omega
      subst hn
      have hx : xs = [] := List.eq_nil_of_length_eq_zero (by simpa using hown.len)
      subst hx
      have hr := Lib.run_append_grow_zeros (P := P) w t tn ty e i z .i64 kn ht htn hi hz none 0 0 [] (by simp [Builtin.firstCells]) k h0 (by omega) (by omega) hsm (by omega) (growslice_fits (by omega) (by rw [h5]; exact hbytes))
      refine ⟨_, _, _, hr, hmade [] rfl (by simp) rfl _ rfl, ⟨rfl, rfl, rfl, by simp, fun k hk _ => heap_alloc_old w.drew _ hk⟩, fun a ha => .inr ?_⟩
      cases ha; exact Nat.le_refl _
    · by_cases hroom : n + k ≤ cap
      · have hsome : ∀ j, j < k → (w.cell? ⟨g, off + n + j, none⟩).isSome = true := fun j hj => by have := (hth (n + j) (by omega)).1; rwa [← Nat.add_assoc] at this
        have hfz : ∀ j, j < k → w.frozen? ⟨g, off + n + j, none⟩ = false := fun j hj => by have := (hth (n + j) (by omega)).2; rwa [← Nat.add_assoc] at this
        have hr := run_append_zeros_room (P := P) w t tn ty e i z kn ht htn hi hz hzc g off n cap k h0 h4 hroom hk (by omega) h1 hsome hfz
        have hlen := hown.len
        refine ⟨_, _, _, hr, ⟨by rw [List.length_append, List.length_replicate, hlen]; omega, hroom, hown.max, .inr ⟨g, off, rfl, hb, ?_, fun j u hu => ?_, fun j hj => ?_⟩⟩, ?_, fun a ha => .inl ha⟩
        · have hk := World.keptBut_setCells g (may := fun _ => True) (List.replicate k z) (off + n) w (fun _ _ => trivial)
          exact Nat.lt_of_lt_of_le hlt hk.size
        · by_cases hj : j < xs.length
          · rw [List.getElem?_append_left hj] at hu
            rw [World.cell?_setCells_out g _ _ _ _ (fun _ _ => Or.inl (by simp only; omega))]
            exact hc j u hu
          · rw [List.getElem?_append_right (by omega)] at hu
            have hjl := (List.getElem?_eq_some_iff.1 hu).1
            have := World.cell?_setCells_in g (List.replicate k z) (off + n) w (by simpa using hsome) (j - xs.length) hjl
            rw [show off + j = off + n + (j - xs.length) by omega, this, ← hu, List.getElem?_eq_getElem hjl]
        · rw [World.frozen?_setCells]
          refine ⟨?_, (hth j hj).2⟩
          by_cases hin : n ≤ j ∧ j < n + k
          · have := World.cell?_setCells_in g (List.replicate k z) (off + n) w (by simpa using hsome) (j - n) (by simp; omega)
            rw [show off + j = off + n + (j - n) by omega, this]; rfl
          · rw [World.cell?_setCells_out g _ _ _ _ (fun _ _ => by simp only [List.length_replicate]; omega)]
            exact (hth j hj).1
        · have hk := World.keptBut_setCells g (may := fun p => p.block = g) (List.replicate k z) (off + n) w (fun _ _ => rfl)
          have htape : ∀ (vs : List Value) (o : Nat) (w : World), (w.setCells g o vs).tape = w.tape := by
            intro vs; induction vs with
            | nil => intro o w; rfl
            | cons v r ih => intro o w; rw [World.setCells, ih]; rfl
          refine ⟨hk.1, htape _ _ _, hk.2.1, hk.size, fun k hkl hne => ?_⟩
          exact hk.block hkl (fun _ hp e => hne (by simp [← hp, e]))
      · have hr := Lib.run_append_grow_zeros (P := P) w t tn ty e i z .i64 kn ht htn hi hz (some ⟨g, off, none⟩) n cap xs (run_firstCells_some (P := P) w.drew i.size n ⟨g, off, none⟩ n cap xs (by rw [h4]; exact hown.len) (fun j u hu => by rw [Addr.add_lit]; exact hc j u hu)) k h0 (by omega) (by omega) hsm (by omega) (growslice_fits (by omega) (by rw [h5]; exact hbytes))
        refine ⟨_, _, _, hr, hmade xs (by simpa using hown.len) (fun u hu => by rw [List.getElem?_eq_none (by have := hown.len; omega)] at hu; cases hu) rfl _ rfl, ⟨rfl, rfl, rfl, by simp, fun k hk _ => heap_alloc_old w.drew _ hk⟩, fun a ha => .inr ?_⟩
        cases ha; exact Nat.le_refl _

/-- .. for the walk. -/
theorem wpList_append_zeros (w : World) {ops : Array Oper} {rest : List Oper} {o : Oper} {a : Act} {Q : Exit → Act → World → Prop}
    (hg : o.guard = none) (s x : Operand) (t tn : TypeId) (hop : o.op = Op.call { callee := Callee.builtin Builtin.append, args := #[s, x], argTypes := #[t, tn] })
    (e : TypeId) (z : Value) (bytes base : Nat) (kn : IntKind) (ht : P.underlying t = some (.slice e)) (htn : P.underlying tn = some (.int kn))
    (hinfo : (P.info? e).map (fun i => (i.zero, i.size, i.bytes)) = some (some z, 1, bytes)) (hzc : z.cells = #[z]) (h1 : z.oneCell' = true)
    (oa : Option Addr) (n cap : Nat) (xs : List Value) (hs : a.eval s = .slice oa n cap) (hown : Owns w base 1 oa n cap xs) (k : Nat) (hx : a.eval x = .int .i64 (k : Int)) (hk : k ≤ 1000000) (h63 : n + k ≤ maxLen) (hbytes : (n + k) * bytes ≤ 140737488355328) (hbase : base ≤ w.heap.size)
    (h : ∀ oa' cap' w', Owns w' base 1 oa' (n + k) cap' (xs ++ List.replicate k z) → w.grownBy w' (oa.map Addr.block) → (∀ a, oa' = some a → oa = some a ∨ w.heap.size ≤ a.block) → wpList P ops Q rest (a.put o.dst (.slice oa' (n + k) cap')) w') :
    wpList P ops Q (o :: rest) a w := by
  obtain ⟨oa', cap', w', hr, h2, h3, h4⟩ := run_append_zeros_owns (P := P) w t tn o.type e z bytes base kn ht htn hinfo hzc h1 oa n cap xs hown k hk h63 hbytes hbase
  exact Lib.wpList_append_run w hg s x t tn hop _ _ hs hx _ _ hr (h oa' cap' w' h2 h3 h4)
end
end Go.Proofs.YtcadpcppnllhnaaGreatDoor
end

/- The plain law of sixteen bytes: by what is cut. -/
section
set_option linter.unusedSimpArgs false
set_option linter.unusedVariables false
namespace Go.Proofs.YtcadpcppnllhnaaGreatDoor

/-- Sixteen bytes of eight groups. -/
def sixB (l : List Nat) (i : Nat) : Int := if i % 2 = 0 then ((l.getD (i / 2) 0 / 256 : Nat) : Int) else ((l.getD (i / 2) 0 % 256 : Nat) : Int)
theorem cut_two (l : List UInt8) : Lib.cut l [58, 58] = if Lib.index l [58, 58] = -1 then (l, [], false) else (l.take (Lib.index l [58, 58]).toNat, l.drop ((Lib.index l [58, 58]).toNat + 2), true) := by
  unfold Lib.cut
  have := Lib.index_ge l [58, 58]
  by_cases h : Lib.index l [58, 58] = -1
  · rw [if_pos h, if_neg (by omega)]
  · rw [if_neg h, if_pos (by omega)]; rfl
/-- The eight groups, by what is cut. -/
def sixCut (c : List UInt8 × List UInt8 × Bool) : Option (List Nat) := (groupsL c.1).bind fun l => (groupsL c.2.1).bind fun m =>
  if (c.2.2 = true ∧ l.length + m.length ≤ 7) ∨ (c.2.2 = false ∧ l.length + m.length = 8) then some (l ++ List.replicate (8 - l.length - m.length) 0 ++ m) else none
theorem sixL_cut (l : List UInt8) : sixL l = sixCut (Lib.cut l [58, 58]) := by
  rw [cut_two]
  unfold sixL
  split
  · rename_i h
    simp only [sixCut]
    have h0 : groupsL [] = some [] := rfl
    rw [h0]
    cases groupsL l with
    | none => rfl
    | some m =>
      simp only [Option.bind]
      by_cases hm : m.length = 8
      · rw [if_pos hm, if_pos (.inr ⟨by simp, by simpa using hm⟩), hm]; simp
      · rw [if_neg hm, if_neg (by simp; omega)]
  · simp only [sixCut]
    cases groupsL (l.take (Lib.index l [58, 58]).toNat) with
    | none => rfl
    | some a =>
      simp only [Option.bind]
      cases groupsL (l.drop ((Lib.index l [58, 58]).toNat + 2)) with
      | none => rfl
      | some b => simp
theorem cut_len (l sep : List UInt8) : (Lib.cut l sep).1.length ≤ l.length ∧ (Lib.cut l sep).2.1.length ≤ l.length := by
  unfold Lib.cut
  split
  · simp; omega
  · simp

end Go.Proofs.YtcadpcppnllhnaaGreatDoor
end

/- The plain law of texts and addresses: no text is both an address of four and of sixteen bytes; what is told is read as it was. -/
section
set_option linter.unusedSimpArgs false
set_option linter.unusedVariables false
namespace Go.Proofs.YtcadpcppnllhnaaGreatDoor
open Go.Lib

/-! ### No text is both -/
theorem cutsL_mem (c x : UInt8) : ∀ l : List UInt8, x ∈ l → x = c ∨ ∃ p ∈ cutsL c l, x ∈ p
  | [], h => by cases h
  | y :: r, h => by
    rw [cutsL]
    by_cases hy : y = c
    · rw [if_pos hy]
      rcases List.mem_cons.1 h with rfl | h
      · exact .inl hy
      · rcases cutsL_mem c x r h with h | ⟨p, hp, hx⟩
        · exact .inl h
        · exact .inr ⟨p, List.mem_cons_of_mem _ hp, hx⟩
    · rw [if_neg hy]
      cases hc : cutsL c r with
      | nil => exact absurd hc (cutsL_ne c r)
      | cons a t =>
        rcases List.mem_cons.1 h with rfl | h
        · exact .inr ⟨x :: a, by simp, by simp⟩
        · rcases cutsL_mem c x r h with h | ⟨p, hp, hx⟩
          · exact .inl h
          · rw [hc] at hp
            rcases List.mem_cons.1 hp with rfl | hp
            · exact .inr ⟨y :: p, by simp, by simp [hx]⟩
            · exact .inr ⟨p, by simp [hp], hx⟩
theorem mapM_each {α β : Type} (f : α → Option β) : ∀ (l : List α) (a : List β), l.mapM f = some a → ∀ x ∈ l, ∃ b, f x = some b
  | [], _, _, x, hx => by cases hx
  | y :: l, a, h, x, hx => by
    rw [List.mapM_cons] at h
    cases hy : f y with
    | none => rw [hy] at h; cases h
    | some b =>
      rw [hy] at h
      cases hl : l.mapM f with
      | none => rw [hl] at h; cases h
      | some m =>
        rcases List.mem_cons.1 hx with rfl | hx
        · exact ⟨b, hy⟩
        · exact mapM_each f l m hl x hx
theorem hexG_digits {p : List UInt8} {n : Nat} (h : hexG p = some n) : ∀ c ∈ p, digitN c < 16 := by
  unfold hexG at h
  split at h
  · unfold numberL at h
    split at h
    · cases h
    · exact numL_digits 16 65536 p 0 n h
  · cases h
theorem groupsL_dot {l : List UInt8} {m : List Nat} (h : groupsL l = some m) : (46 : UInt8) ∉ l := by
  intro hx
  unfold groupsL at h
  split at h
  · rename_i e; subst e; cases hx
  · rcases cutsL_mem 58 46 l hx with h0 | ⟨p, hp, hxp⟩
    · exact absurd h0 (by decide)
    · obtain ⟨b, hb⟩ := mapM_each hexG _ _ h p hp
      have := hexG_digits hb 46 hxp
      exact absurd this (by decide)
theorem cut_mem (x : UInt8) (l : List UInt8) (hx : x ∈ l) : x ∈ (cut l [58, 58]).1 ∨ x ∈ (cut l [58, 58]).2.1 ∨ x = 58 := by
  unfold cut
  split
  · rename_i h
    rcases index_spec l [58, 58] with ⟨h1, -⟩ | ⟨i, h1, h2, h3, -⟩
    · omega
    · rw [h1] at *
      simp only [Int.toNat_natCast, List.length_cons, List.length_nil]
      have e : l = l.take i ++ l.drop i := (List.take_append_drop _ _).symm
      rw [e, List.mem_append] at hx
      rcases hx with hx | hx
      · exact .inl hx
      · obtain ⟨r, hr⟩ : ∃ r, l.drop i = 58 :: 58 :: r := by
          unfold occAt at h3
          obtain ⟨r, hr⟩ := List.isPrefixOf_iff_prefix.1 h3
          exact ⟨r, by simpa using hr.symm⟩
        have hd : l.drop (i + 2) = r := by rw [← List.drop_drop, hr]; rfl
        rw [hr] at hx
        rcases List.mem_cons.1 hx with h | hx
        · exact .inr (.inr h)
        · rcases List.mem_cons.1 hx with h | hx
          · exact .inr (.inr h)
          · exact .inr (.inl (by rw [hd]; exact hx))
  · exact .inl hx
theorem sixL_dot {l : List UInt8} {m : List Nat} (h : sixL l = some m) : (46 : UInt8) ∉ l := by
  intro hx
  rw [sixL_cut] at h
  unfold sixCut at h
  cases h1 : groupsL (cut l [58, 58]).1 with
  | none => rw [h1] at h; cases h
  | some a =>
    rw [h1] at h
    simp only [Option.bind] at h
    cases h2 : groupsL (cut l [58, 58]).2.1 with
    | none => rw [h2] at h; cases h
    | some b =>
      rcases cut_mem 46 l hx with h3 | h3 | h3
      · exact groupsL_dot h1 h3
      · exact groupsL_dot h2 h3
      · exact absurd h3 (by decide)
/-- No text is an address of four bytes, and one of sixteen. -/
theorem four_six (l : List UInt8) {m : List Nat} (h : sixL l = some m) : fourL l = none := by
  unfold fourL
  rw [cutsL_none 46 l (sixL_dot h)]
  rfl

/-! ### What is told is read as it was -/
theorem toNat_hexc (d : Nat) (h : d < 16) : digitN (hexc d) = d ∧ (hexc d) ≠ 58 ∧ (hexc d) ≠ 46 ∧ (hexc d) ≠ 47 := by
  have : d = 0 ∨ d = 1 ∨ d = 2 ∨ d = 3 ∨ d = 4 ∨ d = 5 ∨ d = 6 ∨ d = 7 ∨ d = 8 ∨ d = 9 ∨ d = 10 ∨ d = 11 ∨ d = 12 ∨ d = 13 ∨ d = 14 ∨ d = 15 := by omega
  rcases this with rfl | rfl | rfl | rfl | rfl | rfl | rfl | rfl | rfl | rfl | rfl | rfl | rfl | rfl | rfl | rfl <;> decide
theorem digB_ne (b u : Nat) : digB b u ≠ [] := by
  rw [digB]; split <;> simp
theorem digB_signs (b : Nat) (hb : b ≤ 16) (hb2 : 2 ≤ b) : ∀ (k u : Nat), u ≤ k → ∀ c ∈ digB b u, ∃ d, d < 16 ∧ c = hexc d
  | 0, u, hk, c, hc => by
    obtain rfl : u = 0 := by omega
    rw [digB, dif_pos (by omega)] at hc
    exact ⟨0, by omega, by simpa using hc⟩
  | k + 1, u, hk, c, hc => by
    rw [digB] at hc
    by_cases h : u < b
    · rw [dif_pos (.inl h)] at hc
      exact ⟨u, by omega, by simpa using hc⟩
    · rw [dif_neg (by omega), List.mem_append] at hc
      have hlt : u / b < u := Nat.div_lt_self (by omega) (by omega)
      rcases hc with hc | hc
      · exact digB_signs b hb hb2 k (u / b) (by omega) c hc
      · exact ⟨u % b, by have := Nat.mod_lt u (show 0 < b by omega); omega, by simpa using hc⟩
theorem numL_digB (b most : Nat) (hb : b ≤ 16) (hb2 : 2 ≤ b) : ∀ (k u : Nat), u ≤ k → u < most → numL b most 0 (digB b u) = some u
  | 0, u, hk, hm => by
    obtain rfl : u = 0 := by omega
    rw [digB, dif_pos (by omega), numL, (toNat_hexc 0 (by omega)).1, if_neg (by omega)]; simp [numL]
  | k + 1, u, hk, hm => by
    rw [digB]
    by_cases h : u < b
    · rw [dif_pos (.inl h), numL, (toNat_hexc u (by omega)).1, if_neg (by omega)]; simp [numL]
    · have hlt : u / b < u := Nat.div_lt_self (by omega) (by omega)
      have hmod : u % b < b := Nat.mod_lt u (by omega)
      have he : u / b * b + u % b = u := by rw [Nat.mul_comm]; exact Nat.div_add_mod u b
      rw [dif_neg (by omega), numL_append, numL_digB b most hb hb2 k (u / b) (by omega) (by omega)]
      simp only [Option.bind]
      rw [numL, (toNat_hexc _ (by omega)).1, he, if_neg (by omega), numL]
theorem digB16_len (u : Nat) (h : u < 65536) : (digB 16 u).length ≤ 4 := by
  rw [digB]; split
  · simp
  rw [digB]; split
  · simp
  rw [digB]; split
  · simp
  rw [digB, dif_pos (.inl (by omega))]
  simp
theorem hexG_digB (u : Nat) (h : u < 65536) : hexG (digB 16 u) = some u := by
  rw [hexG, if_pos (digB16_len u h), numberL, if_neg (digB_ne 16 u), numL_digB 16 65536 (by omega) (by omega) u u (Nat.le_refl _) h]
theorem digB_colon (u : Nat) : (58 : UInt8) ∉ digB 16 u := fun h => by
  obtain ⟨d, hd, e⟩ := digB_signs 16 (by omega) (by omega) u u (Nat.le_refl _) 58 h
  exact (toNat_hexc d hd).2.1 e.symm
theorem mapM_hex (g : Nat → Nat) (hg : ∀ i, g i < 65536) : ∀ l : List Nat, (l.map fun i => digB 16 (g i)).mapM hexG = some (l.map g)
  | [] => rfl
  | i :: l => by
    rw [List.map_cons, List.mapM_cons, hexG_digB _ (hg i), mapM_hex g hg l]; rfl
theorem joinL_ne (c : UInt8) : ∀ l : List (List UInt8), l ≠ [] → (∀ p ∈ l, p ≠ []) → joinL c l ≠ []
  | [], h, _ => absurd rfl h
  | [p], _, h => h p (by simp)
  | p :: q :: l, _, h => by rw [joinL_cons2]; simp
theorem groupsL_join (g : Nat → Nat) (hg : ∀ i, g i < 65536) (l : List Nat) : groupsL (joinL 58 (l.map fun i => digB 16 (g i))) = some (l.map g) := by
  by_cases h : l = []
  · subst h; rfl
  · rw [groupsL, if_neg (joinL_ne 58 _ (by simpa using h) (fun p hp => by obtain ⟨i, -, rfl⟩ := List.mem_map.1 hp; exact digB_ne _ _)), cutsL_join 58 _ (by simpa using h) (fun p hp => by obtain ⟨i, -, rfl⟩ := List.mem_map.1 hp; exact digB_colon _), mapM_hex g hg]

theorem index_step (x : UInt8) (r : List UInt8) (h : ¬ ∃ t, x :: r = 58 :: 58 :: t) : index (x :: r) [58, 58] = if index r [58, 58] = -1 then -1 else index r [58, 58] + 1 := by
  rw [index]
  have : ([58, 58].isPrefixOf (x :: r)) = false := by
    rw [Bool.eq_false_iff]
    intro hp
    obtain ⟨t, ht⟩ := List.isPrefixOf_iff_prefix.1 hp
    exact h ⟨t, by simpa using ht.symm⟩
  rw [this]; simp
/-- A row of texts without a colon, behind it what begins with no colon, or nothing. -/
theorem index_skip : ∀ (p r : List UInt8), p ≠ [] → (58 : UInt8) ∉ p → index (p ++ r) [58, 58] = if index r [58, 58] = -1 then -1 else index r [58, 58] + p.length
  | [], r, h, _ => absurd rfl h
  | [x], r, _, h => by
    rw [List.singleton_append, index_step x r (fun ⟨t, ht⟩ => h (by simp only [List.cons.injEq] at ht; simp [ht.1]))]
    simp
  | x :: y :: p, r, _, h => by
    rw [List.cons_append, index_step x _ (fun ⟨t, ht⟩ => h (by simp only [List.cons.injEq] at ht; simp [ht.1])), index_skip (y :: p) r (by simp) (fun hm => h (by simp [hm]))]
    have := index_ge r [58, 58]
    by_cases e : index r [58, 58] = -1
    · simp [e]
    · rw [if_neg e, if_neg (by omega)]
      simp only [List.length_cons]; omega
theorem index_nil2 : index [] [58, 58] = -1 := by decide
theorem index_join : ∀ (l : List (List UInt8)), (∀ p ∈ l, p ≠ [] ∧ (58 : UInt8) ∉ p) → index (joinL 58 l) [58, 58] = -1
  | [], _ => index_nil2
  | [p], h => by
    have := index_skip p [] (h p (by simp)).1 (h p (by simp)).2
    rw [List.append_nil, index_nil2, if_pos rfl] at this
    exact this
  | p :: q :: l, h => by
    have ih := index_join (q :: l) (fun p' hp => h p' (by simp [hp]))
    have hq : ∃ x t, joinL 58 (q :: l) = x :: t ∧ x ≠ 58 := by
      obtain ⟨h1, h2⟩ := h q (by simp)
      cases q with
      | nil => exact absurd rfl h1
      | cons x t =>
        refine ⟨x, ?_⟩
        have hx : x ≠ 58 := fun e => h2 (by simp [e])
        cases l with
        | nil => exact ⟨t, rfl, hx⟩
        | cons a b => exact ⟨_, rfl, hx⟩
    obtain ⟨x, t, e, hx⟩ := hq
    rw [joinL_cons2, index_skip p _ (h p (by simp)).1 (h p (by simp)).2, e, index_step 58 _ (fun ⟨u, hu⟩ => hx (by simp only [List.cons.injEq] at hu; exact hu.2.1)), ← e, ih]
    rfl
theorem index_hit2 (r : List UInt8) : index (58 :: 58 :: r) [58, 58] = 0 := by
  rw [index]; simp
theorem index_join2 (r : List UInt8) : ∀ (l : List (List UInt8)), (∀ p ∈ l, p ≠ [] ∧ (58 : UInt8) ∉ p) → index (joinL 58 l ++ 58 :: 58 :: r) [58, 58] = ((joinL 58 l).length : Int)
  | [], _ => by rw [joinL, List.nil_append, index_hit2]; rfl
  | [p], h => by
    rw [joinL, index_skip p _ (h p (by simp)).1 (h p (by simp)).2, index_hit2]; simp
  | p :: q :: l, h => by
    have ih := index_join2 r (q :: l) (fun p' hp => h p' (by simp [hp]))
    have hq : ∃ x t, joinL 58 (q :: l) ++ 58 :: 58 :: r = x :: t ∧ x ≠ 58 := by
      obtain ⟨h1, h2⟩ := h q (by simp)
      cases q with
      | nil => exact absurd rfl h1
      | cons x t =>
        refine ⟨x, ?_⟩
        have hx : x ≠ 58 := fun e => h2 (by simp [e])
        cases l with
        | nil => exact ⟨_, rfl, hx⟩
        | cons a b => exact ⟨_, rfl, hx⟩
    obtain ⟨x, t, e, hx⟩ := hq
    rw [joinL_cons2, List.append_assoc, List.cons_append, index_skip p _ (h p (by simp)).1 (h p (by simp)).2, e, index_step 58 _ (fun ⟨u, hu⟩ => hx (by simp only [List.cons.injEq] at hu; exact hu.2.1)), ← e, ih]
    rw [if_neg (by omega), if_neg (by omega)]
    simp only [List.length_append, List.length_cons]; omega

set_option maxRecDepth 1000000 in
theorem nought_zero8 : ∀ a b c d e f g h : Bool, (List.range 8).all (fun i => !(decide ((noughtsZ (zof [a, b, c, d, e, f, g, h])).1 ≤ i ∧ i < (noughtsZ (zof [a, b, c, d, e, f, g, h])).2)) || zof [a, b, c, d, e, f, g, h] i) = true := by decide
/-- The eight groups are nought, or not. -/
def zg (g : Nat → Nat) : Nat → Bool := zof [g 0 == 0, g 1 == 0, g 2 == 0, g 3 == 0, g 4 == 0, g 5 == 0, g 6 == 0, g 7 == 0]
theorem zg_at (g : Nat → Nat) (i : Nat) (h : i < 8) : zg g i = (g i == 0) := by
  rcases i with _ | _ | _ | _ | _ | _ | _ | _ | i
  all_goals first | rfl | omega
/-- The text of eight groups. -/
def text6 (g : Nat → Nat) : List UInt8 := flatT (fun i => digB 16 (g i)) (progTok (zg g))
theorem text6_back (g : Nat → Nat) (hg : ∀ i, g i < 65536) : sixL (text6 g) = some ((List.range 8).map g) := by
  have hbd := noughts_bd8 (g 0 == 0) (g 1 == 0) (g 2 == 0) (g 3 == 0) (g 4 == 0) (g 5 == 0) (g 6 == 0) (g 7 == 0)
  have hz := nought_zero8 (g 0 == 0) (g 1 == 0) (g 2 == 0) (g 3 == 0) (g 4 == 0) (g 5 == 0) (g 6 == 0) (g 7 == 0)
  have hzg : ∀ i, i < 8 → (noughtsZ (zg g)).1 ≤ i → i < (noughtsZ (zg g)).2 → g i = 0 := fun i hi h1 h2 => by
    have := (List.all_eq_true.1 hz) i (List.mem_range.2 hi)
    rw [show zof [g 0 == 0, g 1 == 0, g 2 == 0, g 3 == 0, g 4 == 0, g 5 == 0, g 6 == 0, g 7 == 0] = zg g from rfl] at this
    rw [decide_eq_true (⟨h1, h2⟩ : _ ∧ _), zg_at g i hi] at this
    simpa using this
  change (noughtsZ (zg g)).1 ≤ (noughtsZ (zg g)).2 ∧ (noughtsZ (zg g)).2 ≤ 8 at hbd
  have hp : ∀ (l : List Nat), ∀ p ∈ l.map (fun i => digB 16 (g i)), p ≠ [] ∧ (58 : UInt8) ∉ p := fun l p hp => by
    obtain ⟨i, -, rfl⟩ := List.mem_map.1 hp; exact ⟨digB_ne _ _, digB_colon _⟩
  unfold text6 progTok
  generalize (noughtsZ (zg g)).1 = f at *
  generalize (noughtsZ (zg g)).2 = t at *
  split
  · rw [flat_join, sixL, if_pos (index_join _ (hp _)), groupsL_join g hg]
    simp
  · rw [flatT_append, flatT_append, flat_join, flat_join]
    have e2 : flatT (fun i => digB 16 (g i)) [none, none] = [58, 58] := rfl
    rw [e2, List.append_assoc]
    have hix := index_join2 (joinL 58 (((List.range 8).drop t).map fun i => digB 16 (g i))) _ (hp ((List.range 8).take f))
    rw [sixL]
    simp only [List.cons_append, List.nil_append]
    rw [hix, if_neg (by omega)]
    simp only [Int.toNat_natCast]
    rw [List.take_left, ← List.drop_drop, List.drop_left]
    simp only [List.drop_succ_cons, List.drop_zero]
    rw [groupsL_join g hg, groupsL_join g hg]
    simp only [Option.bind, List.length_map, List.length_take, List.length_drop, List.length_range]
    rw [if_pos (by omega)]
    congr 1
    apply List.ext_getElem?
    intro i
    by_cases hi : i < 8
    · rw [List.getElem?_map, List.getElem?_range hi]
      by_cases h1 : i < f
      · rw [List.append_assoc, List.getElem?_append_left (by simp; omega), List.getElem?_map, List.getElem?_take, if_pos h1, List.getElem?_range hi]
      · by_cases h2 : i < t
        · rw [List.getElem?_append_left (by simp; omega), List.getElem?_append_right (by simp; omega), List.getElem?_replicate, if_pos (by simp; omega), Option.map_some, hzg i hi (by omega) h2]
        · rw [List.getElem?_append_right (by simp; omega), List.getElem?_map, List.getElem?_drop]
          simp only [List.length_append, List.length_map, List.length_take, List.length_range, List.length_replicate]
          rw [show t + (i - (min f 8 + (8 - min f 8 - (8 - t)))) = i by omega, List.getElem?_range hi]
    · rw [List.getElem?_eq_none (by simp; omega), List.getElem?_eq_none (by simp; omega)]

/-- The text of four bytes. -/
def text4 (b : Nat → Nat) : List UInt8 := joinL 46 ((List.range 4).map fun i => decDigits (b i))
theorem decDigits_signs (u : Nat) : ∀ c ∈ decDigits u, ∃ d, d < 16 ∧ c = hexc d := by
  rw [← digB_ten u u (Nat.le_refl _)]; exact digB_signs 10 (by omega) (by omega) u u (Nat.le_refl _)
theorem text4_back (b : Nat → Nat) (hb : ∀ i, b i < 256) : fourL (text4 b) = some ((List.range 4).map b) := by
  have hc : cutsL 46 (text4 b) = (List.range 4).map fun i => decDigits (b i) := cutsL_join 46 _ (by simp) (fun p hp h => by
    obtain ⟨i, -, rfl⟩ := List.mem_map.1 hp
    obtain ⟨d, hd, e⟩ := decDigits_signs _ _ h
    exact (toNat_hexc d hd).2.2.1 e.symm)
  unfold fourL
  rw [hc, if_pos (by simp)]
  have hd : ∀ i, decL 256 (decDigits (b i)) = some (b i) := fun i => decL_some.2 ⟨hb i, rfl⟩
  show List.mapM (decL 256) [decDigits (b 0), decDigits (b 1), decDigits (b 2), decDigits (b 3)] = some [b 0, b 1, b 2, b 3]
  simp [List.mapM_cons, hd]
end Go.Proofs.YtcadpcppnllhnaaGreatDoor
end

/- The plain law of what texts tell: an address, a prefix. -/
section
set_option linter.unusedSimpArgs false
set_option linter.unusedVariables false
namespace Go.Proofs.YtcadpcppnllhnaaGreatDoor
open Go.Lib

/-- The address that a text tells. -/
def parseL (s : List UInt8) : Option (Bool × (Nat → Int)) := match fourL s with
  | some l => some (false, fourB l)
  | none => match sixL s with
    | some l => some (true, sixB l)
    | none => none
def parseV (o : Option (Bool × (Nat → Int))) : Value := match o with
  | some p => .tuple #[adV p.1 p.2, .int .i64 0]
  | none => .tuple #[adV false fun _ => 0, .int .i64 40]
theorem decL_lt {most : Nat} {l : List UInt8} {n : Nat} (h : decL most l = some n) : n < most := (decL_some.1 h).1
theorem mapM_all {α β : Type} (f : α → Option β) (p : β → Prop) (hf : ∀ x b, f x = some b → p b) : ∀ (l : List α) (a : List β), l.mapM f = some a → ∀ b ∈ a, p b
  | [], a, h, b, hb => by
    simp only [List.mapM_nil] at h
    cases h; cases hb
  | y :: l, a, h, b, hb => by
    rw [List.mapM_cons] at h
    cases hy : f y with
    | none => rw [hy] at h; cases h
    | some c =>
      rw [hy] at h
      cases hl : l.mapM f with
      | none => rw [hl] at h; cases h
      | some m =>
        rw [hl] at h
        cases h
        rcases List.mem_cons.1 hb with rfl | hb
        · exact hf _ _ hy
        · exact mapM_all f p hf l m hl b hb
theorem fourL_bd {s : List UInt8} {l : List Nat} (h : fourL s = some l) : l.length = 4 ∧ ∀ n ∈ l, n < 256 := by
  unfold fourL at h
  split at h
  · rename_i h4
    exact ⟨by rw [mapM_len _ _ _ h, h4], mapM_all _ (· < 256) (fun x b e => decL_lt e) _ _ h⟩
  · cases h
theorem hexG_lt {p : List UInt8} {n : Nat} (h : hexG p = some n) : n < 65536 := by
  unfold hexG at h
  split at h
  · unfold numberL at h
    split at h
    · cases h
    · exact numL_lt 16 65536 p 0 n (by omega) h
  · cases h
theorem groupsL_bd {s : List UInt8} {l : List Nat} (h : groupsL s = some l) : ∀ n ∈ l, n < 65536 := by
  unfold groupsL at h
  split at h
  · cases h; intro n hn; cases hn
  · exact mapM_all _ (· < 65536) (fun x b e => hexG_lt e) _ _ h
theorem sixL_bd {s : List UInt8} {l : List Nat} (h : sixL s = some l) : l.length = 8 ∧ ∀ n ∈ l, n < 65536 := by
  unfold sixL at h
  split at h
  · cases hg : groupsL s with
    | none => rw [hg] at h; cases h
    | some a =>
      rw [hg] at h
      simp only [Option.bind] at h
      split at h
      · cases h; rename_i h8; exact ⟨h8, groupsL_bd hg⟩
      · cases h
  · cases hg : groupsL (s.take (index s [58, 58]).toNat) with
    | none => rw [hg] at h; cases h
    | some a =>
      rw [hg] at h
      simp only [Option.bind] at h
      cases hg2 : groupsL (s.drop ((index s [58, 58]).toNat + 2)) with
      | none => rw [hg2] at h; cases h
      | some b =>
        rw [hg2] at h
        simp only at h
        split at h
        · cases h
          refine ⟨by simp; omega, fun n hn => ?_⟩
          simp only [List.mem_append, List.mem_replicate] at hn
          rcases hn with (hn | ⟨-, rfl⟩) | hn
          · exact groupsL_bd hg n hn
          · omega
          · exact groupsL_bd hg2 n hn
        · cases h
theorem getD_bd {l : List Nat} {m : Nat} (hm : 0 < m) (h : ∀ n ∈ l, n < m) (i : Nat) : l.getD i 0 < m := by
  rw [List.getD_eq_getElem?_getD]
  cases hi : l[i]? with
  | none => simpa using hm
  | some n => exact h n (List.mem_of_getElem? hi)
theorem fourB_u8 {l : List Nat} (h : ∀ n ∈ l, n < 256) : U8 (fourB l) := fun i => by
  have := getD_bd (by omega) h i
  unfold fourB
  omega
theorem sixB_u8 {l : List Nat} (h : ∀ n ∈ l, n < 65536) : U8 (sixB l) := fun i => by
  have := getD_bd (by omega) h (i / 2)
  unfold sixB
  split <;> omega
theorem fourB_right {l : List Nat} (h : l.length = 4) : rightB false (fourB l) = true := by
  rw [rightB_four]
  intro i h4 _
  unfold fourB
  rw [List.getD_eq_getElem?_getD, List.getElem?_eq_none (by omega)]; rfl
theorem parseL_right {s : List UInt8} {p : Bool × (Nat → Int)} (h : parseL s = some p) : rightB p.1 p.2 = true ∧ U8 p.2 := by
  unfold parseL at h
  split at h
  · rename_i l hl
    cases h
    exact ⟨fourB_right (fourL_bd hl).1, fourB_u8 (fourL_bd hl).2⟩
  · split at h
    · rename_i l hl
      cases h
      exact ⟨rfl, sixB_u8 (sixL_bd hl).2⟩
    · cases h

/-- The prefix that a text tells. -/
def pfOf (o : Option (Bool × (Nat → Int))) (d : Option Nat) : Option (Bool × (Nat → Int) × Nat) := match o with
  | some p => match d with
    | some n => if rightPB p.1 p.2 (n : Int) = true then some (p.1, p.2, n) else none
    | none => none
  | none => none
def ppL (s : List UInt8) : Option (Bool × (Nat → Int) × Nat) := pfOf (parseL (cut s [47]).1) (decL 129 (cut s [47]).2.1)
def ppV (o : Option (Bool × (Nat → Int) × Nat)) : Value := match o with
  | some p => .tuple #[pfV p.1 p.2.1 (p.2.2 : Int), .int .i64 0]
  | none => .tuple #[pfV false (fun _ => 0) 0, .int .i64 40]
theorem pfOf_none (o : Option (Bool × (Nat → Int))) : pfOf o none = none := by cases o <;> rfl
theorem decL_nil (most : Nat) : decL most [] = none := rfl
theorem decL_slash (most : Nat) {l : List UInt8} (h : (47 : UInt8) ∈ l) : decL most l = none := by
  cases hd : decL most l with
  | none => rfl
  | some n =>
    obtain ⟨-, rfl⟩ := decL_some.1 hd
    obtain ⟨d, hd, e⟩ := decDigits_signs _ _ h
    exact absurd e.symm (toNat_hexc d hd).2.2.2
theorem cut_one (l : List UInt8) (c : UInt8) : cut l [c] = if index l [c] = -1 then (l, [], false) else (l.take (index l [c]).toNat, l.drop ((index l [c]).toNat + 1), true) := by
  unfold cut
  have := index_ge l [c]
  by_cases h : index l [c] = -1
  · rw [if_pos h, if_neg (by omega)]
  · rw [if_neg h, if_pos (by omega)]; rfl
/-- Cut in just two, or none. -/
theorem ppL_cuts (s : List UInt8) : (∃ a b, cutsL 47 s = [a, b] ∧ ppL s = pfOf (parseL a) (decL 129 b)) ∨ ((cutsL 47 s).length ≠ 2 ∧ ppL s = none) := by
  unfold ppL
  rw [cut_one]
  by_cases h : index s [47] = -1
  · rw [if_pos h, cutsL_miss 47 s h]
    exact .inr ⟨by simp, by rw [decL_nil]; exact pfOf_none _⟩
  · rw [if_neg h]
    have hge := index_ge s [47]
    obtain ⟨i, hi⟩ : ∃ i : Nat, index s [47] = (i : Int) := ⟨(index s [47]).toNat, by omega⟩
    rw [cutsL_hit 47 s i hi, hi]
    simp only [Int.toNat_natCast]
    by_cases h2 : index (s.drop (i + 1)) [47] = -1
    · rw [cutsL_miss 47 _ h2]
      exact .inl ⟨_, _, rfl, rfl⟩
    · have hge2 := index_ge (s.drop (i + 1)) [47]
      obtain ⟨j, hj⟩ : ∃ j : Nat, index (s.drop (i + 1)) [47] = (j : Int) := ⟨(index (s.drop (i + 1)) [47]).toNat, by omega⟩
      refine .inr ⟨?_, ?_⟩
      · rw [cutsL_hit 47 _ j hj]
        have := cutsL_ne 47 ((s.drop (i + 1)).drop (j + 1))
        have : 0 < (cutsL 47 ((s.drop (i + 1)).drop (j + 1))).length := List.length_pos_iff.2 this
        simp only [List.length_cons]
        omega
      · have hm : (47 : UInt8) ∈ s.drop (i + 1) := by
          apply Classical.byContradiction
          intro hn
          have := cutsL_none 47 _ hn
          rw [cutsL_hit 47 _ j hj] at this
          have h3 := congrArg List.length this
          have : 0 < (cutsL 47 ((s.drop (i + 1)).drop (j + 1))).length := List.length_pos_iff.2 (cutsL_ne 47 _)
          simp only [List.length_cons, List.length_nil] at h3
          omega
        rw [decL_slash _ hm]
        exact pfOf_none _
theorem ppL_right {s : List UInt8} {p : Bool × (Nat → Int) × Nat} (h : ppL s = some p) : rightPB p.1 p.2.1 (p.2.2 : Int) = true := by
  unfold ppL pfOf at h
  split at h
  · split at h
    · split at h
      · rename_i hr
        cases h; exact hr
      · cases h
    · cases h
  · cases h
end Go.Proofs.YtcadpcppnllhnaaGreatDoor
end
