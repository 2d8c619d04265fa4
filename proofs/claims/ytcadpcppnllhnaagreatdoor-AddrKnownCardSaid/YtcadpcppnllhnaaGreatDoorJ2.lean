/- Whole arrays and structs, loaded and stored at once: a rule at the whole operation. -/
import Derived.Test.YtcadpcppnllhnaaGreatDoorJ1
import Derived.Laws.Rows
import Derived.Laws.Tables
import Derived.ArgAppend
import Derived.IntWalk
import Derived.Laws.StructEq
import Derived.Laws.CopyOwn
import Derived.RegionTactic
import Derived.BigRegion

section
set_option linter.unusedSimpArgs false
set_option linter.unusedVariables false
namespace Go.Proofs.YtcadpcppnllhnaaGreatDoor
open Go.RowKit

/-- The cells from 'off' on, n of them, of block b. -/
def partOf (w : World) (b off n : Nat) : Array Value := match w.heap[b]? with
  | some (.cells cs _ _) => cs.extract off (off + n)
  | _ => #[]
/-- Block b has just n cells, and all may be written. -/
def rowFree (w : World) (b n : Nat) : Bool := match w.heap[b]? with
  | some (.cells cs _ fr) => cs.size == n && fr == (0, 0)
  | _ => false
def ptrPart (w : World) (n : Nat) : Value → Array Value
  | .pointer (some ⟨b, off, none⟩) => partOf w b off n
  | _ => #[]
def ptrFree (w : World) (n : Nat) : Value → Bool
  | .pointer (some ⟨b, 0, none⟩) => rowFree w b n
  | _ => false
def ptrBlock : Value → Nat
  | .pointer (some ⟨b, _, _⟩) => b
  | _ => 0
def aggCells : Value → Array Value
  | .agg cs => cs
  | _ => #[]
def aggOk (n : Nat) : Value → Bool
  | .agg cs => cs.size == n && cs.all (·.oneCell')
  | _ => false
theorem ptrPart_ptr (w : World) (n b off : Nat) : ptrPart w n (.pointer (some ⟨b, off, none⟩)) = partOf w b off n := rfl
theorem ptrFree_ptr (w : World) (n b : Nat) : ptrFree w n (.pointer (some ⟨b, 0, none⟩)) = rowFree w b n := rfl
theorem ptrBlock_ptr (a : Addr) : ptrBlock (.pointer (some a)) = a.block := rfl
theorem aggCells_agg (cs : Array Value) : aggCells (.agg cs) = cs := rfl
theorem aggOk_agg (n : Nat) (cs : Array Value) : aggOk n (.agg cs) = (cs.size == n && cs.all (·.oneCell')) := rfl
attribute [go_sem] ptrPart_ptr ptrFree_ptr ptrBlock_ptr aggCells_agg aggOk_agg

/-! ### What a world's parts are -/
theorem partOf_new (w : World) (b off n : Nat) (cs : Array Value) (t : TypeId) (fr : Nat × Nat) (h : b = w.heap.size) : partOf (w.alloc (.cells cs t fr)) b off n = cs.extract off (off + n) := by
  subst h; unfold partOf; rw [heap_alloc_new]
theorem partOf_old (w : World) (b off n : Nat) (o : Obj) (h : b < w.heap.size) : partOf (w.alloc o) b off n = partOf w b off n := by
  unfold partOf; rw [heap_alloc_old _ _ h]
theorem partOf_drew (w : World) (b off n : Nat) : partOf w.drew b off n = partOf w b off n := rfl
theorem partOf_other (w : World) (b off n : Nat) (a : Addr) (v : Value) (h : b ≠ a.block) : partOf (w.setCell a v) b off n = partOf w b off n := by
  unfold partOf; rw [heap_setCell_other _ _ _ _ h]
theorem partOf_below {B : Nat} {w w' : World} (hb : Below B w w') (b off n : Nat) (h : b < B) : partOf w' b off n = partOf w b off n := by
  unfold partOf; rw [hb.block _ h]
theorem Later.part {w : World} (x : Later w) (b off n : Nat) (h : b < w.heap.size) : partOf x.world b off n = partOf w b off n := partOf_below x.below b off n h
theorem partOf_row (w : World) (b off n : Nat) (cs : Array Value) (t : TypeId) (fr : Nat × Nat) (h : w.heap[b]? = some (.cells cs t fr)) : partOf w b off n = cs.extract off (off + n) := by
  unfold partOf; rw [h]
attribute [go_sem] partOf_new partOf_old partOf_drew partOf_other Later.part

theorem rowFree_new (w : World) (b n : Nat) (cs : Array Value) (t : TypeId) (h : b = w.heap.size) : rowFree (w.alloc (.cells cs t)) b n = (cs.size == n) := by
  subst h; unfold rowFree; rw [heap_alloc_new]; simp
theorem rowFree_old (w : World) (b n : Nat) (o : Obj) (h : b < w.heap.size) : rowFree (w.alloc o) b n = rowFree w b n := by
  unfold rowFree; rw [heap_alloc_old _ _ h]
theorem rowFree_drew (w : World) (b n : Nat) : rowFree w.drew b n = rowFree w b n := rfl
theorem rowFree_below {B : Nat} {w w' : World} (hb : Below B w w') (b n : Nat) (h : b < B) : rowFree w' b n = rowFree w b n := by
  unfold rowFree; rw [hb.block _ h]
theorem Later.free {w : World} (x : Later w) (b n : Nat) (h : b < w.heap.size) : rowFree x.world b n = rowFree w b n := rowFree_below x.below b n h
theorem rowFree_row (w : World) (b n : Nat) (cs : Array Value) (t : TypeId) (h : w.heap[b]? = some (.cells cs t (0, 0))) : rowFree w b n = (cs.size == n) := by
  unfold rowFree; rw [h]; simp
theorem rowFree_setCell (w : World) (b n : Nat) (a : Addr) (v : Value) : rowFree (w.setCell a v) b n = rowFree w b n := by
  by_cases h : b = a.block
  · subst h
    unfold rowFree World.setCell
    simp only [Array.getElem?_modify, if_true]
    cases w.heap[a.block]? with
    | none => rfl
    | some o =>
      cases o <;> simp <;> (try cases a.spot) <;> simp
  · unfold rowFree; rw [heap_setCell_other _ _ _ _ h]
attribute [go_sem] rowFree_new rowFree_old rowFree_drew Later.free rowFree_setCell

theorem setRow_new (w : World) (b : Nat) (c c' : Array Value) (t : TypeId) (h : b = w.heap.size) : (w.alloc (.cells c t)).setRow b c' = w.alloc (.cells c' t) := by
  subst h
  simp only [World.setRow, World.alloc]
  congr 1
  apply Array.ext_getElem?
  intro i
  rw [Array.getElem?_modify]
  by_cases h : w.heap.size = i
  · subst h; simp
  · have h' : ¬ i = w.heap.size := fun e => h e.symm
    simp [h, h', Array.getElem?_push]
theorem setRow_old (w : World) (b : Nat) (o : Obj) (c' : Array Value) (h : b < w.heap.size) : (w.alloc o).setRow b c' = (w.setRow b c').alloc o := by
  simp only [World.setRow, World.alloc]
  congr 1
  apply Array.ext_getElem?
  intro i
  rw [Array.getElem?_modify]
  by_cases hb : b = i
  · subst hb
    rw [Array.getElem?_push, Array.getElem?_push]
    have e : b ≠ w.heap.size := by omega
    simp [e, Array.getElem?_modify]
  · rw [Array.getElem?_push, Array.getElem?_push]
    simp [hb, Array.getElem?_modify]
attribute [go_sem] setRow_new setRow_old setRow_size setRow_tape setRow_os setRow_output setRow_drawn

section
variable {P : Program}
theorem run_loadVar_part (w : World) (b off n ty : Nat) (d : TypeDesc) (hu : P.underlying ty = some d) (hd : (match d with | .struct _ | .array _ _ => true | _ => false) = true) (hi : (P.info? ty).map (·.size) = some n)
    (hs : (partOf w b off n).size = n) : (loadVar ty ⟨b, off, none⟩).run P w = .ok (.agg (partOf w b off n)) w := by
  rcases Nat.eq_zero_or_pos n with h0 | hn
  · subst h0
    have hl : (loadCells ⟨b, off, none⟩ 0).run P w = .ok #[] w := by simpa using run_loadCells_list (P := P) w ⟨b, off, none⟩ [] (by simp)
    have he : partOf w b off 0 = #[] := Array.eq_empty_of_size_eq_zero hs
    have hagg : (isAgg ty).run P w = .ok true w := by
      unfold isAgg
      rw [Sem.run_bind, run_underlying hu w]
      cases d <;> simp_all
    cases hq : P.info? ty with
    | none => simp [hq] at hi
    | some i =>
      have hz : i.size = 0 := by simpa [hq] using hi
      simp [loadVar, Sem.run_bind, hagg, sizeOf, typeInfo, hq, hz, hl, he]
  · have hl : (loadCells ⟨b, off, none⟩ (partOf w b off n).toList.length).run P w = .ok (partOf w b off n).toList.toArray w := by
      refine run_loadCells_list (P := P) w ⟨b, off, none⟩ _ (fun j v hv => ?_)
      rw [Addr.add_lit]
      rw [Array.getElem?_toList] at hv
      have hj : j < (partOf w b off n).size := (Array.getElem?_eq_some_iff.1 hv).1
      unfold partOf at hv hj
      unfold World.cell?
      cases hh : w.heap[b]? with
      | none => rw [hh] at hv; simp at hv
      | some o =>
        rw [hh] at hv hj
        cases o with
        | cells cs t fr =>
          simp only at hv hj ⊢
          rw [Array.getElem?_extract] at hv
          split at hv
          · simpa using hv
          · cases hv
        | _ => simp at hv
    have hagg : (isAgg ty).run P w = .ok true w := by
      unfold isAgg
      rw [Sem.run_bind, run_underlying hu w]
      cases d <;> simp_all
    rw [Array.length_toList, hs, Array.toArray_toList] at hl
    cases hq : P.info? ty with
    | none => simp [hq] at hi
    | some i =>
      have hz : i.size = n := by simpa [hq] using hi
      simp [loadVar, Sem.run_bind, hagg, sizeOf, typeInfo, hq, hz, hl]

theorem run_exec_load (ev : Operand → Value) (w : World) (dst : Option Tmp) (t : TypeId) (pos : String) (after : Array Edge) (g : Option (Nat × Bool)) (x : Operand) (ty n : Nat) (d : TypeDesc)
    (hu : P.underlying ty = some d) (hd : (match d with | .struct _ | .array _ _ => true | _ => false) = true) (hi : (P.info? ty).map (·.size) = some n) (hn : 0 < n)
    (hs : (ptrPart w n (ev x)).size = n) : (execOp ev ⟨dst, .load ty x, t, pos, after, g⟩).run P w = .ok (.value (.agg (ptrPart w n (ev x)))) w := by
  generalize hv : ev x = v at hs
  unfold ptrPart at hs ⊢
  split at hs
  · rename_i b off
    have := run_loadVar_part (P := P) w b off n ty d hu hd hi hs
    simp [execOp, hv, Instr.loadAt, Instr.sureAddr, this, Result.andThen]
  · simp at hs; omega

theorem run_exec_store (ev : Operand → Value) (w : World) (dst : Option Tmp) (t : TypeId) (pos : String) (after : Array Edge) (g : Option (Nat × Bool)) (x y : Operand) (ty n : Nat)
    (hi : (P.info? ty).map (·.size) = some n) (hx : ptrFree w n (ev x) = true) (hy : aggOk n (ev y) = true) :
    (execOp ev ⟨dst, .store ty x y, t, pos, after, g⟩).run P w = .ok .skip (w.setRow (ptrBlock (ev x)) (aggCells (ev y))) := by
  generalize hv : ev x = v at hx
  generalize hu : ev y = u at hy
  unfold ptrFree at hx
  unfold aggOk at hy
  split at hx
  · rename_i b
    split at hy
    · rename_i cs
      obtain ⟨hc, h1⟩ := Bool.and_eq_true_iff.1 hy
      have hc : cs.size = n := by simpa using hc
      unfold rowFree at hx
      split at hx
      · rename_i old t' fr hg
        obtain ⟨ho, hf⟩ := Bool.and_eq_true_iff.1 hx
        have ho : old.size = n := by simpa using ho
        obtain rfl : fr = (0, 0) := by simpa using hf
        have := run_storeVar_row (P := P) w b t' ty old cs hg (by rw [hi, hc]) (by omega) h1
        simp [execOp, hv, hu, Instr.storeAt, Instr.sureAddr, this, Result.andThen, ptrBlock, aggCells]
      · cases hx
    · cases hy
  · cases hx

/-- What a function hands back that lies in memory, beside a slot. -/
theorem results_part2 {fn : Func} {p q : Tmp} {ty : TypeId} (h : fn.results = #[.cell p ty, .tmp q]) (tmps : Array Value) (w : World) (b n : Nat) (d : TypeDesc) (v : Value)
    (hu : P.underlying ty = some d) (hd : (match d with | .struct _ | .array _ _ => true | _ => false) = true) (hi : (P.info? ty).map (·.size) = some n)
    (hp : tmps.getD p undef = .pointer (some ⟨b, 0, none⟩)) (hq : tmps.getD q undef = v) (cs : Array Value) (hc : partOf w b 0 n = cs) (hs : cs.size = n) :
    (results fn tmps).run P w = .ok (.tuple #[.agg cs, v]) w := by
  subst hc
  have hp' : tmps[p]?.getD undef = .pointer (some ⟨b, 0, none⟩) := by simpa using hp
  have hq' : tmps[q]?.getD undef = v := by simpa using hq
  simp [results, h, hp', hq', asAddr, run_loadVar_part w b 0 n ty d hu hd hi hs]
theorem results_part1 {fn : Func} {p : Tmp} {ty : TypeId} (h : fn.results = #[.cell p ty]) (tmps : Array Value) (w : World) (b n : Nat) (d : TypeDesc)
    (hu : P.underlying ty = some d) (hd : (match d with | .struct _ | .array _ _ => true | _ => false) = true) (hi : (P.info? ty).map (·.size) = some n)
    (hp : tmps.getD p undef = .pointer (some ⟨b, 0, none⟩)) (cs : Array Value) (hc : partOf w b 0 n = cs) (hs : cs.size = n) :
    (results fn tmps).run P w = .ok (.agg cs) w := by
  subst hc
  have hp' : tmps[p]?.getD undef = .pointer (some ⟨b, 0, none⟩) := by simpa using hp
  simp [results, h, hp', asAddr, run_loadVar_part w b 0 n ty d hu hd hi hs]
end

/-- A whole value, loaded. -/
def ldRun (P : Program) (ty : TypeId) (w : World) (v : Value) : Result Next := (execOp (fun _ => v) ⟨none, .load ty (.const v), 0, "", #[], none⟩).run P w
/-- .. and stored. -/
def stRun (P : Program) (ty : TypeId) (w : World) (v u : Value) : Result Next := (execOp (fun o => match o with | .tmp 0 => v | _ => u) ⟨none, .store ty (.tmp 0) (.tmp 1), 0, "", #[], none⟩).run P w
theorem exec_load (P : Program) (ev : Operand → Value) (w : World) (dst : Option Tmp) (t : TypeId) (pos : String) (after : Array Edge) (g : Option (Nat × Bool)) (x : Operand) (ty : TypeId) :
    (execOp ev ⟨dst, .load ty x, t, pos, after, g⟩).run P w = ldRun P ty w (ev x) := by simp only [ldRun, execOp]
theorem exec_store (P : Program) (ev : Operand → Value) (w : World) (dst : Option Tmp) (t : TypeId) (pos : String) (after : Array Edge) (g : Option (Nat × Bool)) (x y : Operand) (ty : TypeId) :
    (execOp ev ⟨dst, .store ty x y, t, pos, after, g⟩).run P w = stRun P ty w (ev x) (ev y) := by simp only [stRun, execOp]

/-- Values of one cell each. -/
def oneL : List Value → Bool
  | [] => true
  | v :: r => v.oneCell' && oneL r
theorem oneL_all : ∀ l : List Value, oneL l = true → l.all (·.oneCell') = true
  | [], _ => rfl
  | v :: r, h => by
    rw [oneL, Bool.and_eq_true] at h
    rw [List.all_cons, h.1, oneL_all r h.2]; rfl
theorem oneL_nil : oneL [] = true := rfl
theorem oneL_int (k : IntKind) (n : Int) (r : List Value) : oneL (.int k n :: r) = oneL r := by rw [oneL]; rfl
theorem oneL_bool (b : Bool) (r : List Value) : oneL (.bool b :: r) = oneL r := by rw [oneL]; rfl
theorem oneL_string (b : ByteArray) (r : List Value) : oneL (.string b :: r) = oneL r := by rw [oneL]; rfl
attribute [go_sem] oneL_nil oneL_int oneL_bool oneL_string

/-! ### The rows' own types -/
theorem exec_load_arr (ev : Operand → Value) (w : World) (dst : Option Tmp) (t : TypeId) (pos : String) (after : Array Edge) (g : Option (Nat × Bool)) (x : Operand) : (execOp ev ⟨dst, .load 24 x, t, pos, after, g⟩).run Tryz.prog w = ldRun Tryz.prog 24 w (ev x) := exec_load _ ev w dst t pos after g x _
theorem run_load_arr (w : World) (b off : Nat) (hs : (partOf w b off 16).size = 16) : ldRun Tryz.prog 24 w (.pointer (some ⟨b, off, none⟩)) = .ok (.value (.agg (partOf w b off 16))) w :=
  run_exec_load _ w none 0 "" #[] none _ _ 16 _ Tryz.underlying24 rfl (by kernel_rfl) (by decide) hs
theorem exec_store_arr (ev : Operand → Value) (w : World) (dst : Option Tmp) (t : TypeId) (pos : String) (after : Array Edge) (g : Option (Nat × Bool)) (x y : Operand) : (execOp ev ⟨dst, .store 24 x y, t, pos, after, g⟩).run Tryz.prog w = stRun Tryz.prog 24 w (ev x) (ev y) := exec_store _ ev w dst t pos after g x y _
theorem run_store_arr (w : World) (b : Nat) (cs : Array Value) (hx : rowFree w b 16 = true) (hs : cs.size = 16) (h1 : oneL cs.toList = true) : stRun Tryz.prog 24 w (.pointer (some ⟨b, 0, none⟩)) (.agg cs) = .ok .skip (w.setRow b cs) :=
  run_exec_store _ w none 0 "" #[] none _ _ _ 16 (by kernel_rfl) hx (by show aggOk _ (.agg cs) = true; rw [aggOk_agg, ← Array.all_toList, oneL_all _ h1, hs]; simp)
theorem exec_load_ad (ev : Operand → Value) (w : World) (dst : Option Tmp) (t : TypeId) (pos : String) (after : Array Edge) (g : Option (Nat × Bool)) (x : Operand) : (execOp ev ⟨dst, .load 26 x, t, pos, after, g⟩).run Tryz.prog w = ldRun Tryz.prog 26 w (ev x) := exec_load _ ev w dst t pos after g x _
theorem run_load_ad (w : World) (b off : Nat) (hs : (partOf w b off 17).size = 17) : ldRun Tryz.prog 26 w (.pointer (some ⟨b, off, none⟩)) = .ok (.value (.agg (partOf w b off 17))) w :=
  run_exec_load _ w none 0 "" #[] none _ _ 17 _ Tryz.underlying26 rfl (by kernel_rfl) (by decide) hs
theorem exec_store_ad (ev : Operand → Value) (w : World) (dst : Option Tmp) (t : TypeId) (pos : String) (after : Array Edge) (g : Option (Nat × Bool)) (x y : Operand) : (execOp ev ⟨dst, .store 26 x y, t, pos, after, g⟩).run Tryz.prog w = stRun Tryz.prog 26 w (ev x) (ev y) := exec_store _ ev w dst t pos after g x y _
theorem run_store_ad (w : World) (b : Nat) (cs : Array Value) (hx : rowFree w b 17 = true) (hs : cs.size = 17) (h1 : oneL cs.toList = true) : stRun Tryz.prog 26 w (.pointer (some ⟨b, 0, none⟩)) (.agg cs) = .ok .skip (w.setRow b cs) :=
  run_exec_store _ w none 0 "" #[] none _ _ _ 17 (by kernel_rfl) hx (by show aggOk _ (.agg cs) = true; rw [aggOk_agg, ← Array.all_toList, oneL_all _ h1, hs]; simp)
theorem exec_load_rad (ev : Operand → Value) (w : World) (dst : Option Tmp) (t : TypeId) (pos : String) (after : Array Edge) (g : Option (Nat × Bool)) (x : Operand) : (execOp ev ⟨dst, .load 41 x, t, pos, after, g⟩).run Tryz.prog w = ldRun Tryz.prog 41 w (ev x) := exec_load _ ev w dst t pos after g x _
theorem run_load_rad (w : World) (b off : Nat) (hs : (partOf w b off 17).size = 17) : ldRun Tryz.prog 41 w (.pointer (some ⟨b, off, none⟩)) = .ok (.value (.agg (partOf w b off 17))) w :=
  run_exec_load _ w none 0 "" #[] none _ _ 17 _ Tryz.underlying41 rfl (by kernel_rfl) (by decide) hs
theorem exec_store_rad (ev : Operand → Value) (w : World) (dst : Option Tmp) (t : TypeId) (pos : String) (after : Array Edge) (g : Option (Nat × Bool)) (x y : Operand) : (execOp ev ⟨dst, .store 41 x y, t, pos, after, g⟩).run Tryz.prog w = stRun Tryz.prog 41 w (ev x) (ev y) := exec_store _ ev w dst t pos after g x y _
theorem run_store_rad (w : World) (b : Nat) (cs : Array Value) (hx : rowFree w b 17 = true) (hs : cs.size = 17) (h1 : oneL cs.toList = true) : stRun Tryz.prog 41 w (.pointer (some ⟨b, 0, none⟩)) (.agg cs) = .ok .skip (w.setRow b cs) :=
  run_exec_store _ w none 0 "" #[] none _ _ _ 17 (by kernel_rfl) hx (by show aggOk _ (.agg cs) = true; rw [aggOk_agg, ← Array.all_toList, oneL_all _ h1, hs]; simp)
theorem exec_load_pf (ev : Operand → Value) (w : World) (dst : Option Tmp) (t : TypeId) (pos : String) (after : Array Edge) (g : Option (Nat × Bool)) (x : Operand) : (execOp ev ⟨dst, .load 33 x, t, pos, after, g⟩).run Tryz.prog w = ldRun Tryz.prog 33 w (ev x) := exec_load _ ev w dst t pos after g x _
theorem run_load_pf (w : World) (b off : Nat) (hs : (partOf w b off 18).size = 18) : ldRun Tryz.prog 33 w (.pointer (some ⟨b, off, none⟩)) = .ok (.value (.agg (partOf w b off 18))) w :=
  run_exec_load _ w none 0 "" #[] none _ _ 18 _ Tryz.underlying33 rfl (by kernel_rfl) (by decide) hs
theorem exec_store_pf (ev : Operand → Value) (w : World) (dst : Option Tmp) (t : TypeId) (pos : String) (after : Array Edge) (g : Option (Nat × Bool)) (x y : Operand) : (execOp ev ⟨dst, .store 33 x y, t, pos, after, g⟩).run Tryz.prog w = stRun Tryz.prog 33 w (ev x) (ev y) := exec_store _ ev w dst t pos after g x y _
theorem run_store_pf (w : World) (b : Nat) (cs : Array Value) (hx : rowFree w b 18 = true) (hs : cs.size = 18) (h1 : oneL cs.toList = true) : stRun Tryz.prog 33 w (.pointer (some ⟨b, 0, none⟩)) (.agg cs) = .ok .skip (w.setRow b cs) :=
  run_exec_store _ w none 0 "" #[] none _ _ _ 18 (by kernel_rfl) hx (by show aggOk _ (.agg cs) = true; rw [aggOk_agg, ← Array.all_toList, oneL_all _ h1, hs]; simp)
theorem exec_load_rpf (ev : Operand → Value) (w : World) (dst : Option Tmp) (t : TypeId) (pos : String) (after : Array Edge) (g : Option (Nat × Bool)) (x : Operand) : (execOp ev ⟨dst, .load 47 x, t, pos, after, g⟩).run Tryz.prog w = ldRun Tryz.prog 47 w (ev x) := exec_load _ ev w dst t pos after g x _
theorem run_load_rpf (w : World) (b off : Nat) (hs : (partOf w b off 18).size = 18) : ldRun Tryz.prog 47 w (.pointer (some ⟨b, off, none⟩)) = .ok (.value (.agg (partOf w b off 18))) w :=
  run_exec_load _ w none 0 "" #[] none _ _ 18 _ Tryz.underlying47 rfl (by kernel_rfl) (by decide) hs
theorem exec_store_rpf (ev : Operand → Value) (w : World) (dst : Option Tmp) (t : TypeId) (pos : String) (after : Array Edge) (g : Option (Nat × Bool)) (x y : Operand) : (execOp ev ⟨dst, .store 47 x y, t, pos, after, g⟩).run Tryz.prog w = stRun Tryz.prog 47 w (ev x) (ev y) := exec_store _ ev w dst t pos after g x y _
theorem run_store_rpf (w : World) (b : Nat) (cs : Array Value) (hx : rowFree w b 18 = true) (hs : cs.size = 18) (h1 : oneL cs.toList = true) : stRun Tryz.prog 47 w (.pointer (some ⟨b, 0, none⟩)) (.agg cs) = .ok .skip (w.setRow b cs) :=
  run_exec_store _ w none 0 "" #[] none _ _ _ 18 (by kernel_rfl) hx (by show aggOk _ (.agg cs) = true; rw [aggOk_agg, ← Array.all_toList, oneL_all _ h1, hs]; simp)
attribute [go_sem ↓] exec_load_arr exec_store_arr exec_load_ad exec_store_ad exec_load_rad exec_store_rad exec_load_pf exec_store_pf exec_load_rpf exec_store_rpf
attribute [go_sem] run_load_arr run_store_arr run_load_ad run_store_ad run_load_rad run_store_rad run_load_pf run_store_pf run_load_rpf run_store_rpf
end Go.Proofs.YtcadpcppnllhnaaGreatDoor
end

/- Addresses as values: their cells, their equality; size, Right. -/
section
set_option linter.unusedSimpArgs false
set_option linter.unusedVariables false
namespace Go.Proofs.YtcadpcppnllhnaaGreatDoor
open Go.RowKit

/-- An address's value: 17 cells. -/
def adV (six : Bool) (B : Nat → Int) : Value := .agg #[.bool six, .int .u8 (B 0), .int .u8 (B 1), .int .u8 (B 2), .int .u8 (B 3), .int .u8 (B 4), .int .u8 (B 5), .int .u8 (B 6), .int .u8 (B 7), .int .u8 (B 8), .int .u8 (B 9), .int .u8 (B 10), .int .u8 (B 11), .int .u8 (B 12), .int .u8 (B 13), .int .u8 (B 14), .int .u8 (B 15)]
/-- .. and a prefix's: 18. -/
def pfV (six : Bool) (B : Nat → Int) (n : Int) : Value := .agg #[.bool six, .int .u8 (B 0), .int .u8 (B 1), .int .u8 (B 2), .int .u8 (B 3), .int .u8 (B 4), .int .u8 (B 5), .int .u8 (B 6), .int .u8 (B 7), .int .u8 (B 8), .int .u8 (B 9), .int .u8 (B 10), .int .u8 (B 11), .int .u8 (B 12), .int .u8 (B 13), .int .u8 (B 14), .int .u8 (B 15), .int .i64 n]
/-- Bytes. -/
def U8 (B : Nat → Int) : Prop := ∀ i, 0 ≤ B i ∧ B i < 256
def sizeZ (six : Bool) : Int := if six then 16 else 4

theorem size_any (six : Bool) (B : Nat → Int) (w : World) : Calls Tryz.prog 35 #[adV six B] w (RetAt w (.int .i64 (sizeZ six))) := by
  unfold adV
  cases six
  all_goals
    go_enter Tryz.func35, Tryz.ntmps35
    go_wp2_with fail
    go_ret
    exact .mk rfl (Below.all (Below.refl _ _) _)
theorem rsize_any (six : Bool) (w : World) : Calls Tryz.prog 54 #[.bool six] w fun e w' => e = .returned (.int .i64 (sizeZ six)) ∧ w = w' := by
  cases six
  all_goals
    go_enter Tryz.func54, Tryz.ntmps54
    go_wp2_with fail
    go_ret
    exact ⟨rfl, rfl⟩

/-- Numbers, compared. -/
def eqL : List Int → List Int → Bool
  | [], [] => true
  | x :: l, y :: m => if x == y then eqL l m else false
  | _, _ => false
theorem eqL_iff : ∀ (l m : List Int), eqL l m = true ↔ l = m
  | [], [] => by simp [eqL]
  | x :: l, y :: m => by
    rw [eqL]
    by_cases h : x = y
    · subst h; simp [eqL_iff l m]
    · simp [h]
  | [], y :: m => by simp [eqL]
  | x :: l, [] => by simp [eqL]
/-- The sixteen numbers. -/
def b16 (B : Nat → Int) : List Int := [B 0, B 1, B 2, B 3, B 4, B 5, B 6, B 7, B 8, B 9, B 10, B 11, B 12, B 13, B 14, B 15]
theorem b16_get (B : Nat → Int) (i : Nat) (h : i < 16) : (b16 B)[i]? = some (B i) := by
  unfold b16
  rcases i with _ | _ | _ | _ | _ | _ | _ | _ | _ | _ | _ | _ | _ | _ | _ | _ | i
  all_goals first | rfl | omega
theorem b16_eq {B C : Nat → Int} : b16 B = b16 C ↔ ∀ i, i < 16 → B i = C i := by
  constructor
  · intro h i hi
    have := b16_get B i hi
    rw [h, b16_get C i hi] at this
    exact (Option.some.inj this).symm
  · intro h
    unfold b16
    simp [h]
set_option maxHeartbeats 4000000 in
theorem run_equalIn_16 (w : World) (d : Nat) (x0 x1 x2 x3 x4 x5 x6 x7 x8 x9 x10 x11 x12 x13 x14 x15 y0 y1 y2 y3 y4 y5 y6 y7 y8 y9 y10 y11 y12 y13 y14 y15 : Int) :
    (Op.equalIn (d + 2) 24 (.agg #[.int .u8 x0, .int .u8 x1, .int .u8 x2, .int .u8 x3, .int .u8 x4, .int .u8 x5, .int .u8 x6, .int .u8 x7, .int .u8 x8, .int .u8 x9, .int .u8 x10, .int .u8 x11, .int .u8 x12, .int .u8 x13, .int .u8 x14, .int .u8 x15]) (.agg #[.int .u8 y0, .int .u8 y1, .int .u8 y2, .int .u8 y3, .int .u8 y4, .int .u8 y5, .int .u8 y6, .int .u8 y7, .int .u8 y8, .int .u8 y9, .int .u8 y10, .int .u8 y11, .int .u8 y12, .int .u8 y13, .int .u8 y14, .int .u8 y15])).run Tryz.prog w = .ok (eqL [x0, x1, x2, x3, x4, x5, x6, x7, x8, x9, x10, x11, x12, x13, x14, x15] [y0, y1, y2, y3, y4, y5, y6, y7, y8, y9, y10, y11, y12, y13, y14, y15]) w := by
  have hr : List.range' 0 16 = [0,1,2,3,4,5,6,7,8,9,10,11,12,13,14,15] := by decide
  rw [Op.equalIn]
  simp only [Sem.run_bind, run_underlying Tryz.underlying24, Result.andThen_ok]
  simp [go_sem, Std.Legacy.Range.forIn_eq_forIn_range', Std.Legacy.Range.size, hr]
  simp only [eqL, beq_iff_eq]
  have hi : ∀ (c : Prop) [Decidable c] (a b : Bool), (Result.ok (if c then a else b) w : Result Bool) = if c then Result.ok a w else Result.ok b w := fun c _ a b => by split <;> rfl
  simp only [hi]
attribute [go_sem] run_equalIn_16

/-- Is an address right? -/
def rightB (six : Bool) (B : Nat → Int) : Bool := six || (List.range 12).all fun i => B (4 + i) == 0
theorem rightB_four {B : Nat → Int} : rightB false B = true ↔ ∀ i, 4 ≤ i → i < 16 → B i = 0 := by
  unfold rightB
  simp only [Bool.false_or, List.all_eq_true, List.mem_range, beq_iff_eq]
  constructor
  · intro h i h4 h16
    have := h (i - 4) (by omega)
    rwa [show 4 + (i - 4) = i by omega] at this
  · intro h i hi; exact h _ (by omega) (by omega)
theorem eqL_right (B : Nat → Int) : eqL (b16 B) (b16 fun i => if i < 4 then B i else 0) = rightB false B := by
  rw [Bool.eq_iff_iff, eqL_iff, b16_eq, rightB_four]
  constructor
  · intro h i h4 h16; have := h i h16; rw [if_neg (by omega)] at this; exact this
  · intro h i hi
    split
    · rfl
    · exact h i (by omega) hi

/-- The first bytes, as cells. -/
def bytesL (n : Nat) (B : Nat → Int) : List Value := (List.range n).map fun i => .int .u8 (B i)
theorem bytesL_get (n : Nat) (B : Nat → Int) (j : Nat) (u : Value) (h : (bytesL n B)[j]? = some u) : j < n ∧ u = .int .u8 (B j) := by
  unfold bytesL at h
  rw [List.getElem?_map] at h
  by_cases hj : j < n
  · rw [List.getElem?_range hj] at h
    exact ⟨hj, by simpa using h.symm⟩
  · rw [List.getElem?_eq_none (by simpa using hj)] at h; cases h
theorem bytesL_len (n : Nat) (B : Nat → Int) : (bytesL n B).length = n := by simp [bytesL]
theorem bytesL_one (n : Nat) (B : Nat → Int) : ∀ u ∈ bytesL n B, u.oneCell' = true := by
  intro u hu
  obtain ⟨i, -, rfl⟩ := List.mem_map.1 hu
  rfl
/-- The bytes of an address that lies in memory. -/
theorem ad_cell {w : World} {b : Nat} {s : Bool} {B : Nat → Int} (h : ∀ j, w.cell? ⟨b, j, none⟩ = (#[.bool s, .int .u8 (B 0), .int .u8 (B 1), .int .u8 (B 2), .int .u8 (B 3), .int .u8 (B 4), .int .u8 (B 5), .int .u8 (B 6), .int .u8 (B 7), .int .u8 (B 8), .int .u8 (B 9), .int .u8 (B 10), .int .u8 (B 11), .int .u8 (B 12), .int .u8 (B 13), .int .u8 (B 14), .int .u8 (B 15)] : Array Value)[j]?) (j : Nat) (hj : j < 16) : w.cell? ⟨b, 1 + j, none⟩ = some (.int .u8 (B j)) := by
  rw [h]
  rcases j with _ | _ | _ | _ | _ | _ | _ | _ | _ | _ | _ | _ | _ | _ | _ | _ | j
  all_goals first | rfl | omega


set_option maxHeartbeats 4000000 in
theorem right_four (B : Nat → Int) (w : World) : Calls Tryz.prog 28 #[adV false B] w (RetAt w (.bool (rightB false B))) := by
  have hsz : ∀ w, Calls Tryz.prog 35 #[adV false B] w (RetAt w (.int .i64 4)) := size_any false B
  unfold adV at hsz ⊢
  go_enter Tryz.func28, Tryz.ntmps28
  go_wp2_with fail
  refine wp_region_tail 5 (by kernel_rfl) (by kernel_rfl) ?_
  simp only [List.take_succ_cons, List.take_zero, List.drop_succ_cons, List.drop_zero]
  repeat go_big_quiet_step ((go_at_call 35; exact later_call (hsz _)))
  refine wpQuiet_nil ?_
  intro x
  have hA0 := (x.below.block _ (by simp; omega)).trans (heap_alloc2_old w (.cells #[.bool false, .int .u8 (B 0), .int .u8 (B 1), .int .u8 (B 2), .int .u8 (B 3), .int .u8 (B 4), .int .u8 (B 5), .int .u8 (B 6), .int .u8 (B 7), .int .u8 (B 8), .int .u8 (B 9), .int .u8 (B 10), .int .u8 (B 11), .int .u8 (B 12), .int .u8 (B 13), .int .u8 (B 14), .int .u8 (B 15)] 26) (.cells #[.int .u8 0, .int .u8 0, .int .u8 0, .int .u8 0, .int .u8 0, .int .u8 0, .int .u8 0, .int .u8 0, .int .u8 0, .int .u8 0, .int .u8 0, .int .u8 0, .int .u8 0, .int .u8 0, .int .u8 0, .int .u8 0] 24))
  have hP0 := (x.below.block _ (by simp)).trans (heap_alloc2_new w (.cells #[.bool false, .int .u8 (B 0), .int .u8 (B 1), .int .u8 (B 2), .int .u8 (B 3), .int .u8 (B 4), .int .u8 (B 5), .int .u8 (B 6), .int .u8 (B 7), .int .u8 (B 8), .int .u8 (B 9), .int .u8 (B 10), .int .u8 (B 11), .int .u8 (B 12), .int .u8 (B 13), .int .u8 (B 14), .int .u8 (B 15)] 26) (.cells (List.replicate 16 (Value.int .u8 0)).toArray 24))
  have hxb : Below w.heap.size w x.world := Below.lat (Below.all (Below.all (Below.refl _ _) _) _)
  have hxs : w.heap.size + 1 < x.world.heap.size := by have := x.below.size; simp at this; omega
  refine wpList_copy_splice rfl (.tmp 6) (.tmp 8) 29 29 rfl 5 Tryz.underlying29 (by kernel_rfl) (some ⟨w.heap.size + 1, 0, none⟩) (some ⟨w.heap.size, 1, none⟩) 4 16 16 16 rfl rfl (w.heap.size + 1) 0
    (List.replicate 16 (.int .u8 0)) 24 hP0 (bytesL 4 B) (bytesL_len _ _) (fun _ => ⟨rfl, _, rfl, fun j v hv => ?_⟩) (by rw [bytesL_len]; decide) (bytesL_one _ _) (w.heap.size + 1) x.world (Below.refl _ _) (Nat.le_refl _) ?_
  · obtain ⟨hj, rfl⟩ := bytesL_get _ _ _ _ hv
    rw [Addr.add_lit]
    exact ad_cell (fun j => cell_of_row _ _ j _ _ (0, 0) hA0) j (by omega)
  intro w' hg hb
  have hA1 := (hb.block _ (by simp)).trans hA0
  have hP1 : w'.heap[w.heap.size + 1]? = some (.cells #[.int .u8 (B 0), .int .u8 (B 1), .int .u8 (B 2), .int .u8 (B 3), .int .u8 0, .int .u8 0, .int .u8 0, .int .u8 0, .int .u8 0, .int .u8 0, .int .u8 0, .int .u8 0, .int .u8 0, .int .u8 0, .int .u8 0, .int .u8 0] 24 (0, 0)) := hg.out
  have hA : partOf w' w.heap.size 1 16 = #[.int .u8 (B 0), .int .u8 (B 1), .int .u8 (B 2), .int .u8 (B 3), .int .u8 (B 4), .int .u8 (B 5), .int .u8 (B 6), .int .u8 (B 7), .int .u8 (B 8), .int .u8 (B 9), .int .u8 (B 10), .int .u8 (B 11), .int .u8 (B 12), .int .u8 (B 13), .int .u8 (B 14), .int .u8 (B 15)] := by rw [partOf_row _ _ _ _ _ _ _ hA1]; simp
  have hP : partOf w' (w.heap.size + 1) 0 16 = #[.int .u8 (B 0), .int .u8 (B 1), .int .u8 (B 2), .int .u8 (B 3), .int .u8 0, .int .u8 0, .int .u8 0, .int .u8 0, .int .u8 0, .int .u8 0, .int .u8 0, .int .u8 0, .int .u8 0, .int .u8 0, .int .u8 0, .int .u8 0] := by rw [partOf_row _ _ _ _ _ _ _ hP1]; simp
  have hB : Hid (Below w.heap.size w w') := Lib.hid (hxb.trans (hb.mono (by omega)))
  clear hA0 hP0 hg hxb hxs hsz hb hA1 hP1
  go_wp2_with fail
  go_ret
  exact .mk (val_bool (eqL_right B)) hB.out

set_option maxHeartbeats 4000000 in
theorem right_six (B : Nat → Int) (w : World) : Calls Tryz.prog 28 #[adV true B] w (RetAt w (.bool (rightB true B))) := by
  have hsz : ∀ w, Calls Tryz.prog 35 #[adV true B] w (RetAt w (.int .i64 16)) := size_any true B
  unfold adV at hsz ⊢
  go_enter Tryz.func28, Tryz.ntmps28
  go_wp2_with fail
  refine wp_region_tail 5 (by kernel_rfl) (by kernel_rfl) ?_
  simp only [List.take_succ_cons, List.take_zero, List.drop_succ_cons, List.drop_zero]
  repeat go_big_quiet_step ((go_at_call 35; exact later_call (hsz _)))
  refine wpQuiet_nil ?_
  intro x
  have hA0 := (x.below.block _ (by simp; omega)).trans (heap_alloc2_old w (.cells #[.bool true, .int .u8 (B 0), .int .u8 (B 1), .int .u8 (B 2), .int .u8 (B 3), .int .u8 (B 4), .int .u8 (B 5), .int .u8 (B 6), .int .u8 (B 7), .int .u8 (B 8), .int .u8 (B 9), .int .u8 (B 10), .int .u8 (B 11), .int .u8 (B 12), .int .u8 (B 13), .int .u8 (B 14), .int .u8 (B 15)] 26) (.cells #[.int .u8 0, .int .u8 0, .int .u8 0, .int .u8 0, .int .u8 0, .int .u8 0, .int .u8 0, .int .u8 0, .int .u8 0, .int .u8 0, .int .u8 0, .int .u8 0, .int .u8 0, .int .u8 0, .int .u8 0, .int .u8 0] 24))
  have hP0 := (x.below.block _ (by simp)).trans (heap_alloc2_new w (.cells #[.bool true, .int .u8 (B 0), .int .u8 (B 1), .int .u8 (B 2), .int .u8 (B 3), .int .u8 (B 4), .int .u8 (B 5), .int .u8 (B 6), .int .u8 (B 7), .int .u8 (B 8), .int .u8 (B 9), .int .u8 (B 10), .int .u8 (B 11), .int .u8 (B 12), .int .u8 (B 13), .int .u8 (B 14), .int .u8 (B 15)] 26) (.cells (List.replicate 16 (Value.int .u8 0)).toArray 24))
  have hxb : Below w.heap.size w x.world := Below.lat (Below.all (Below.all (Below.refl _ _) _) _)
  have hxs : w.heap.size + 1 < x.world.heap.size := by have := x.below.size; simp at this; omega
  refine wpList_copy_splice rfl (.tmp 6) (.tmp 8) 29 29 rfl 5 Tryz.underlying29 (by kernel_rfl) (some ⟨w.heap.size + 1, 0, none⟩) (some ⟨w.heap.size, 1, none⟩) 16 16 16 16 rfl rfl (w.heap.size + 1) 0
    (List.replicate 16 (.int .u8 0)) 24 hP0 (bytesL 16 B) (bytesL_len _ _) (fun _ => ⟨rfl, _, rfl, fun j v hv => ?_⟩) (by rw [bytesL_len]; decide) (bytesL_one _ _) (w.heap.size + 1) x.world (Below.refl _ _) (Nat.le_refl _) ?_
  · obtain ⟨hj, rfl⟩ := bytesL_get _ _ _ _ hv
    rw [Addr.add_lit]
    exact ad_cell (fun j => cell_of_row _ _ j _ _ (0, 0) hA0) j (by omega)
  intro w' hg hb
  have hA1 := (hb.block _ (by simp)).trans hA0
  have hP1 : w'.heap[w.heap.size + 1]? = some (.cells #[.int .u8 (B 0), .int .u8 (B 1), .int .u8 (B 2), .int .u8 (B 3), .int .u8 (B 4), .int .u8 (B 5), .int .u8 (B 6), .int .u8 (B 7), .int .u8 (B 8), .int .u8 (B 9), .int .u8 (B 10), .int .u8 (B 11), .int .u8 (B 12), .int .u8 (B 13), .int .u8 (B 14), .int .u8 (B 15)] 24 (0, 0)) := hg.out
  have hA : partOf w' w.heap.size 1 16 = #[.int .u8 (B 0), .int .u8 (B 1), .int .u8 (B 2), .int .u8 (B 3), .int .u8 (B 4), .int .u8 (B 5), .int .u8 (B 6), .int .u8 (B 7), .int .u8 (B 8), .int .u8 (B 9), .int .u8 (B 10), .int .u8 (B 11), .int .u8 (B 12), .int .u8 (B 13), .int .u8 (B 14), .int .u8 (B 15)] := by rw [partOf_row _ _ _ _ _ _ _ hA1]; simp
  have hP : partOf w' (w.heap.size + 1) 0 16 = #[.int .u8 (B 0), .int .u8 (B 1), .int .u8 (B 2), .int .u8 (B 3), .int .u8 (B 4), .int .u8 (B 5), .int .u8 (B 6), .int .u8 (B 7), .int .u8 (B 8), .int .u8 (B 9), .int .u8 (B 10), .int .u8 (B 11), .int .u8 (B 12), .int .u8 (B 13), .int .u8 (B 14), .int .u8 (B 15)] := by rw [partOf_row _ _ _ _ _ _ _ hP1]; simp
  have hB : Hid (Below w.heap.size w w') := Lib.hid (hxb.trans (hb.mono (by omega)))
  clear hA0 hP0 hg hxb hxs hsz hb hA1 hP1
  go_wp2_with fail
  go_ret
  exact .mk (val_bool ((eqL_iff _ _).2 rfl)) hB.out

theorem right_any (six : Bool) (B : Nat → Int) (w : World) : Calls Tryz.prog 28 #[adV six B] w (RetAt w (.bool (rightB six B))) := by
  cases six
  · exact right_four B w
  · exact right_six B w
end Go.Proofs.YtcadpcppnllhnaaGreatDoor
end

/- The plain law of prefixes: what is kept of an address's bytes. -/
section
set_option linter.unusedSimpArgs false
set_option linter.unusedVariables false
namespace Go.Proofs.YtcadpcppnllhnaaGreatDoor

/-- The first k of a byte's eight binary digits. -/
def keepI (k : Nat) (b : Int) : Int := match k with
  | 0 => b / 256 * 256
  | 1 => b / 128 * 128
  | 2 => b / 64 * 64
  | 3 => b / 32 * 32
  | 4 => b / 16 * 16
  | 5 => b / 8 * 8
  | 6 => b / 4 * 4
  | 7 => b / 2 * 2
  | _ => b
theorem upto8 {k : Nat} (h : k ≤ 8) : k = 0 ∨ k = 1 ∨ k = 2 ∨ k = 3 ∨ k = 4 ∨ k = 5 ∨ k = 6 ∨ k = 7 ∨ k = 8 := by omega
theorem keepI_bd (k : Nat) (b : Int) (hk : k ≤ 8) (h0 : 0 ≤ b) (h1 : b < 256) : 0 ≤ keepI k b ∧ keepI k b < 256 := by
  rcases upto8 hk with rfl | rfl | rfl | rfl | rfl | rfl | rfl | rfl | rfl <;> simp only [keepI] <;> omega
theorem keepI_zero (k : Nat) (hk : k ≤ 8) : keepI k 0 = 0 := by
  rcases upto8 hk with rfl | rfl | rfl | rfl | rfl | rfl | rfl | rfl | rfl <;> rfl
theorem keepI_keep (j k : Nat) (b : Int) (hj : j ≤ 8) (hk : k ≤ 8) : keepI j (keepI k b) = keepI (min j k) b := by
  rcases upto8 hj with rfl | rfl | rfl | rfl | rfl | rfl | rfl | rfl | rfl
  all_goals
    rcases upto8 hk with rfl | rfl | rfl | rfl | rfl | rfl | rfl | rfl | rfl
    all_goals
      first
        | rw [Nat.min_eq_left (by decide)]
        | rw [Nat.min_eq_right (by decide)]
      simp only [keepI]
      try omega
/-- One digit more. -/
def bitI (r : Nat) (b : Int) : Int := match r with
  | 0 => b / 128 % 2 * 128
  | 1 => b / 64 % 2 * 64
  | 2 => b / 32 % 2 * 32
  | 3 => b / 16 % 2 * 16
  | 4 => b / 8 % 2 * 8
  | 5 => b / 4 % 2 * 4
  | 6 => b / 2 % 2 * 2
  | _ => b % 2
theorem keepI_step (r : Nat) (b : Int) (hr : r < 8) : keepI (r + 1) b = keepI r b + bitI r b := by
  rcases upto8 (Nat.le_of_lt hr) with rfl | rfl | rfl | rfl | rfl | rfl | rfl | rfl | rfl
  all_goals first
    | omega
    | (simp only [Nat.reduceAdd, keepI, bitI]; omega)
theorem keepI_none (b : Int) (h0 : 0 ≤ b) (h1 : b < 256) : keepI 0 b = 0 := by simp only [keepI]; omega

/-- What is kept of the bytes by n digits. -/
def keepAt (n i : Nat) : Nat := min (n - 8 * i) 8
theorem keepAt_le (n i : Nat) : keepAt n i ≤ 8 := Nat.min_le_right _ _
def cutB (n : Nat) (B : Nat → Int) (i : Nat) : Int := keepI (keepAt n i) (B i)
theorem cutB_u8 {n : Nat} {B : Nat → Int} (h : U8 B) : U8 (cutB n B) := fun i => keepI_bd _ _ (keepAt_le _ _) (h i).1 (h i).2
theorem cutB_cut (m n : Nat) (B : Nat → Int) (i : Nat) : cutB m (cutB n B) i = cutB (min m n) B i := by
  unfold cutB
  rw [keepI_keep _ _ _ (keepAt_le _ _) (keepAt_le _ _)]
  congr 1
  unfold keepAt
  omega
theorem cutB_step {n : Nat} {B : Nat → Int} (i : Nat) : cutB (n + 1) B i = if i = n / 8 then cutB n B i + bitI (n % 8) (B i) else cutB n B i := by
  unfold cutB
  by_cases h : i = n / 8
  · rw [if_pos h]
    have h1 : keepAt n i = n % 8 := by unfold keepAt; omega
    have h2 : keepAt (n + 1) i = n % 8 + 1 := by unfold keepAt; omega
    rw [h1, h2, keepI_step _ _ (Nat.mod_lt _ (by omega))]
  · rw [if_neg h]
    congr 1
    unfold keepAt
    omega
theorem cutB_zero {B : Nat → Int} (h : U8 B) (i : Nat) : cutB 0 B i = 0 := by
  unfold cutB
  rw [show keepAt 0 i = 0 by unfold keepAt; omega, keepI_none _ (h i).1 (h i).2]
theorem cutB_all {n i : Nat} {B : Nat → Int} (h : 8 * i + 8 ≤ n) : cutB n B i = B i := by
  unfold cutB
  rw [show keepAt n i = 8 by unfold keepAt; omega]; rfl
/-- How long a prefix may be. -/
def clampN (six : Bool) (n : Int) : Nat := if six then (max 0 (min n 128)).toNat else (max 0 (min n 32)).toNat
theorem clampN_le (six : Bool) (n : Int) : clampN six n ≤ 128 := by unfold clampN; split <;> omega
theorem clampN_idem (six : Bool) (n : Int) : clampN six (clampN six n : Int) = clampN six n := by unfold clampN; split <;> omega
theorem clampN_mono (six : Bool) {m n : Int} (h : m ≤ n) : clampN six m ≤ clampN six n := by unfold clampN; split <;> omega
theorem cutB_right {six : Bool} {B : Nat → Int} (n : Nat) (h : rightB six B = true) : rightB six (cutB n B) = true := by
  cases six
  · rw [rightB_four] at h ⊢
    intro i h4 h16
    unfold cutB
    rw [h i h4 h16, keepI_zero _ (keepAt_le _ _)]
  · rfl
/-- Is a prefix right? -/
def rightPB (six : Bool) (B : Nat → Int) (n : Int) : Bool := rightB six B && (eqL (b16 (cutB (clampN six n) B)) (b16 B) && (clampN six n : Int) == n)
theorem b16_congr {B C : Nat → Int} (h : ∀ i, B i = C i) : b16 B = b16 C := b16_eq.2 fun i _ => h i
theorem rightPB_cut {six : Bool} {B : Nat → Int} (n : Int) (h : rightB six B = true) : rightPB six (cutB (clampN six n) B) (clampN six n : Int) = true := by
  unfold rightPB
  rw [cutB_right _ h, clampN_idem, (eqL_iff _ _).2 (b16_congr fun i => by rw [cutB_cut, Nat.min_self])]
  simp
end Go.Proofs.YtcadpcppnllhnaaGreatDoor
end

/- Boxes: blocks that hold an address, or a prefix, whole. -/
section
set_option linter.unusedSimpArgs false
set_option linter.unusedVariables false
namespace Go.Proofs.YtcadpcppnllhnaaGreatDoor
open Go.RowKit

/-- Block b holds an address. -/
structure AdBox (w : World) (b : Nat) (t : TypeId) (six : Bool) (B : Nat → Int) : Prop where
  heap : w.heap[b]? = some (.cells #[.bool six, .int .u8 (B 0), .int .u8 (B 1), .int .u8 (B 2), .int .u8 (B 3), .int .u8 (B 4), .int .u8 (B 5), .int .u8 (B 6), .int .u8 (B 7), .int .u8 (B 8), .int .u8 (B 9), .int .u8 (B 10), .int .u8 (B 11), .int .u8 (B 12), .int .u8 (B 13), .int .u8 (B 14), .int .u8 (B 15)] t (0, 0))
theorem AdBox.lt {w : World} {b : Nat} {t : TypeId} {six : Bool} {B : Nat → Int} (h : AdBox w b t six B) : b < w.heap.size := (Array.getElem?_eq_some_iff.1 h.heap).1
theorem AdBox.part {w : World} {b : Nat} {t : TypeId} {six : Bool} {B : Nat → Int} (h : AdBox w b t six B) : partOf w b 0 17 = #[.bool six, .int .u8 (B 0), .int .u8 (B 1), .int .u8 (B 2), .int .u8 (B 3), .int .u8 (B 4), .int .u8 (B 5), .int .u8 (B 6), .int .u8 (B 7), .int .u8 (B 8), .int .u8 (B 9), .int .u8 (B 10), .int .u8 (B 11), .int .u8 (B 12), .int .u8 (B 13), .int .u8 (B 14), .int .u8 (B 15)] := by rw [partOf_row _ _ _ _ _ _ _ h.heap]; simp
theorem AdBox.arr {w : World} {b : Nat} {t : TypeId} {six : Bool} {B : Nat → Int} (h : AdBox w b t six B) : partOf w b 1 16 = #[.int .u8 (B 0), .int .u8 (B 1), .int .u8 (B 2), .int .u8 (B 3), .int .u8 (B 4), .int .u8 (B 5), .int .u8 (B 6), .int .u8 (B 7), .int .u8 (B 8), .int .u8 (B 9), .int .u8 (B 10), .int .u8 (B 11), .int .u8 (B 12), .int .u8 (B 13), .int .u8 (B 14), .int .u8 (B 15)] := by rw [partOf_row _ _ _ _ _ _ _ h.heap]; simp
theorem AdBox.six {w : World} {b : Nat} {t : TypeId} {six : Bool} {B : Nat → Int} (h : AdBox w b t six B) : w.cell? ⟨b, 0, none⟩ = some (.bool six) := by rw [cell_of_row _ _ _ _ _ _ h.heap]; rfl
theorem AdBox.cell {w : World} {b : Nat} {t : TypeId} {six : Bool} {B : Nat → Int} (h : AdBox w b t six B) (j : Nat) (hj : j < 16) : w.cell? ⟨b, 1 + j, none⟩ = some (.int .u8 (B j)) :=
  ad_cell (fun j => cell_of_row _ _ j _ _ (0, 0) h.heap) j hj
theorem AdBox.free {w : World} {b : Nat} {t : TypeId} {six : Bool} {B : Nat → Int} (h : AdBox w b t six B) (j : Nat) : w.frozen? ⟨b, j, none⟩ = false := frozen_of_row _ _ _ _ _ h.heap
theorem AdBox.row {w : World} {b : Nat} {t : TypeId} {six : Bool} {B : Nat → Int} (h : AdBox w b t six B) : rowFree w b 17 = true := by rw [rowFree_row _ _ _ _ _ h.heap]; rfl
theorem AdBox.keep {w w' : World} {b : Nat} {t : TypeId} {six : Bool} {B : Nat → Int} (h : AdBox w b t six B) (e : w'.heap[b]? = w.heap[b]?) : AdBox w' b t six B := ⟨e.trans h.heap⟩
theorem AdBox.below {w w' : World} {b : Nat} {t : TypeId} {six : Bool} {B : Nat → Int} (h : AdBox w b t six B) (hb : Below w.heap.size w w') : AdBox w' b t six B := h.keep (hb.block _ h.lt)
theorem AdBox.other {w : World} {b : Nat} {t : TypeId} {six : Bool} {B : Nat → Int} (h : AdBox w b t six B) (a : Addr) (v : Value) (hne : b ≠ a.block) : AdBox (w.setCell a v) b t six B := h.keep (heap_setCell_other _ _ _ _ hne)
theorem AdBox.made (w : World) (t : TypeId) (six : Bool) (B : Nat → Int) : AdBox (w.alloc (.cells #[.bool six, .int .u8 (B 0), .int .u8 (B 1), .int .u8 (B 2), .int .u8 (B 3), .int .u8 (B 4), .int .u8 (B 5), .int .u8 (B 6), .int .u8 (B 7), .int .u8 (B 8), .int .u8 (B 9), .int .u8 (B 10), .int .u8 (B 11), .int .u8 (B 12), .int .u8 (B 13), .int .u8 (B 14), .int .u8 (B 15)] t)) w.heap.size t six B := ⟨heap_alloc_new w _⟩
theorem AdBox.made0 (w : World) (t : TypeId) (six : Bool) : AdBox (w.alloc (.cells #[.bool six, .int .u8 0, .int .u8 0, .int .u8 0, .int .u8 0, .int .u8 0, .int .u8 0, .int .u8 0, .int .u8 0, .int .u8 0, .int .u8 0, .int .u8 0, .int .u8 0, .int .u8 0, .int .u8 0, .int .u8 0, .int .u8 0] t)) w.heap.size t six (fun _ => 0) := AdBox.made w t six fun _ => 0
theorem AdBox.congr {w : World} {b : Nat} {t : TypeId} {six : Bool} {B C : Nat → Int} (h : AdBox w b t six B) (e : ∀ i, i < 16 → B i = C i) : AdBox w b t six C := by
  refine ⟨h.heap.trans ?_⟩
  rw [e 0 (by omega), e 1 (by omega), e 2 (by omega), e 3 (by omega), e 4 (by omega), e 5 (by omega), e 6 (by omega), e 7 (by omega), e 8 (by omega), e 9 (by omega), e 10 (by omega), e 11 (by omega), e 12 (by omega), e 13 (by omega), e 14 (by omega), e 15 (by omega)]
theorem AdBox.set {w : World} {b : Nat} {t : TypeId} {six : Bool} {B : Nat → Int} (h : AdBox w b t six B) (j : Nat) (hj : j < 16) (v : Int) : AdBox (w.setCell ⟨b, 1 + j, none⟩ (.int .u8 v)) b t six (fun i => if i = j then v else B i) := by
  refine ⟨(heap_setCell_same _ _ _ _ _ _ h.heap).trans ?_⟩
  rcases j with _ | _ | _ | _ | _ | _ | _ | _ | _ | _ | _ | _ | _ | _ | _ | _ | j
  all_goals first | rfl | omega
theorem AdBox.alloc {w : World} {b : Nat} {t : TypeId} {six : Bool} {B : Nat → Int} (h : AdBox w b t six B) (o : Obj) : AdBox (w.alloc o) b t six B := h.below (Below.all (Below.refl _ _) _)
theorem ad_congr {six : Bool} {B C : Nat → Int} (e : ∀ i, i < 16 → B i = C i) : adV six B = adV six C := by
  unfold adV
  rw [e 0 (by omega), e 1 (by omega), e 2 (by omega), e 3 (by omega), e 4 (by omega), e 5 (by omega), e 6 (by omega), e 7 (by omega), e 8 (by omega), e 9 (by omega), e 10 (by omega), e 11 (by omega), e 12 (by omega), e 13 (by omega), e 14 (by omega), e 15 (by omega)]

/-- Block b holds a prefix. -/
structure PfBox (w : World) (b : Nat) (t : TypeId) (six : Bool) (B : Nat → Int) (n : Int) : Prop where
  heap : w.heap[b]? = some (.cells #[.bool six, .int .u8 (B 0), .int .u8 (B 1), .int .u8 (B 2), .int .u8 (B 3), .int .u8 (B 4), .int .u8 (B 5), .int .u8 (B 6), .int .u8 (B 7), .int .u8 (B 8), .int .u8 (B 9), .int .u8 (B 10), .int .u8 (B 11), .int .u8 (B 12), .int .u8 (B 13), .int .u8 (B 14), .int .u8 (B 15), .int .i64 n] t (0, 0))
theorem PfBox.lt {w : World} {b : Nat} {t : TypeId} {six : Bool} {B : Nat → Int} {n : Int} (h : PfBox w b t six B n) : b < w.heap.size := (Array.getElem?_eq_some_iff.1 h.heap).1
theorem PfBox.part {w : World} {b : Nat} {t : TypeId} {six : Bool} {B : Nat → Int} {n : Int} (h : PfBox w b t six B n) : partOf w b 0 18 = #[.bool six, .int .u8 (B 0), .int .u8 (B 1), .int .u8 (B 2), .int .u8 (B 3), .int .u8 (B 4), .int .u8 (B 5), .int .u8 (B 6), .int .u8 (B 7), .int .u8 (B 8), .int .u8 (B 9), .int .u8 (B 10), .int .u8 (B 11), .int .u8 (B 12), .int .u8 (B 13), .int .u8 (B 14), .int .u8 (B 15), .int .i64 n] := by rw [partOf_row _ _ _ _ _ _ _ h.heap]; simp
theorem PfBox.ad {w : World} {b : Nat} {t : TypeId} {six : Bool} {B : Nat → Int} {n : Int} (h : PfBox w b t six B n) : partOf w b 0 17 = #[.bool six, .int .u8 (B 0), .int .u8 (B 1), .int .u8 (B 2), .int .u8 (B 3), .int .u8 (B 4), .int .u8 (B 5), .int .u8 (B 6), .int .u8 (B 7), .int .u8 (B 8), .int .u8 (B 9), .int .u8 (B 10), .int .u8 (B 11), .int .u8 (B 12), .int .u8 (B 13), .int .u8 (B 14), .int .u8 (B 15)] := by rw [partOf_row _ _ _ _ _ _ _ h.heap]; simp
theorem PfBox.arr {w : World} {b : Nat} {t : TypeId} {six : Bool} {B : Nat → Int} {n : Int} (h : PfBox w b t six B n) : partOf w b 1 16 = #[.int .u8 (B 0), .int .u8 (B 1), .int .u8 (B 2), .int .u8 (B 3), .int .u8 (B 4), .int .u8 (B 5), .int .u8 (B 6), .int .u8 (B 7), .int .u8 (B 8), .int .u8 (B 9), .int .u8 (B 10), .int .u8 (B 11), .int .u8 (B 12), .int .u8 (B 13), .int .u8 (B 14), .int .u8 (B 15)] := by rw [partOf_row _ _ _ _ _ _ _ h.heap]; simp
theorem PfBox.len {w : World} {b : Nat} {t : TypeId} {six : Bool} {B : Nat → Int} {n : Int} (h : PfBox w b t six B n) : w.cell? ⟨b, 17, none⟩ = some (.int .i64 n) := by rw [cell_of_row _ _ _ _ _ _ h.heap]; rfl
theorem PfBox.six {w : World} {b : Nat} {t : TypeId} {six : Bool} {B : Nat → Int} {n : Int} (h : PfBox w b t six B n) : w.cell? ⟨b, 0, none⟩ = some (.bool six) := by rw [cell_of_row _ _ _ _ _ _ h.heap]; rfl
theorem PfBox.cell {w : World} {b : Nat} {t : TypeId} {six : Bool} {B : Nat → Int} {n : Int} (h : PfBox w b t six B n) (j : Nat) (hj : j < 16) : w.cell? ⟨b, 1 + j, none⟩ = some (.int .u8 (B j)) := by
  rw [cell_of_row _ _ _ _ _ _ h.heap]
  rcases j with _ | _ | _ | _ | _ | _ | _ | _ | _ | _ | _ | _ | _ | _ | _ | _ | j
  all_goals first | rfl | omega
theorem PfBox.free {w : World} {b : Nat} {t : TypeId} {six : Bool} {B : Nat → Int} {n : Int} (h : PfBox w b t six B n) (j : Nat) : w.frozen? ⟨b, j, none⟩ = false := frozen_of_row _ _ _ _ _ h.heap
theorem PfBox.row {w : World} {b : Nat} {t : TypeId} {six : Bool} {B : Nat → Int} {n : Int} (h : PfBox w b t six B n) : rowFree w b 18 = true := by rw [rowFree_row _ _ _ _ _ h.heap]; rfl
theorem PfBox.keep {w w' : World} {b : Nat} {t : TypeId} {six : Bool} {B : Nat → Int} {n : Int} (h : PfBox w b t six B n) (e : w'.heap[b]? = w.heap[b]?) : PfBox w' b t six B n := ⟨e.trans h.heap⟩
theorem PfBox.below {w w' : World} {b : Nat} {t : TypeId} {six : Bool} {B : Nat → Int} {n : Int} (h : PfBox w b t six B n) (hb : Below w.heap.size w w') : PfBox w' b t six B n := h.keep (hb.block _ h.lt)
theorem PfBox.other {w : World} {b : Nat} {t : TypeId} {six : Bool} {B : Nat → Int} {n : Int} (h : PfBox w b t six B n) (a : Addr) (v : Value) (hne : b ≠ a.block) : PfBox (w.setCell a v) b t six B n := h.keep (heap_setCell_other _ _ _ _ hne)
theorem PfBox.made (w : World) (t : TypeId) (six : Bool) (B : Nat → Int) (n : Int) : PfBox (w.alloc (.cells #[.bool six, .int .u8 (B 0), .int .u8 (B 1), .int .u8 (B 2), .int .u8 (B 3), .int .u8 (B 4), .int .u8 (B 5), .int .u8 (B 6), .int .u8 (B 7), .int .u8 (B 8), .int .u8 (B 9), .int .u8 (B 10), .int .u8 (B 11), .int .u8 (B 12), .int .u8 (B 13), .int .u8 (B 14), .int .u8 (B 15), .int .i64 n] t)) w.heap.size t six B n := ⟨heap_alloc_new w _⟩
theorem PfBox.alloc {w : World} {b : Nat} {t : TypeId} {six : Bool} {B : Nat → Int} {n : Int} (h : PfBox w b t six B n) (o : Obj) : PfBox (w.alloc o) b t six B n := h.below (Below.all (Below.refl _ _) _)
theorem PfBox.congr {w : World} {b : Nat} {t : TypeId} {six : Bool} {B C : Nat → Int} {n : Int} (h : PfBox w b t six B n) (e : ∀ i, i < 16 → B i = C i) : PfBox w b t six C n := by
  refine ⟨h.heap.trans ?_⟩
  rw [e 0 (by omega), e 1 (by omega), e 2 (by omega), e 3 (by omega), e 4 (by omega), e 5 (by omega), e 6 (by omega), e 7 (by omega), e 8 (by omega), e 9 (by omega), e 10 (by omega), e 11 (by omega), e 12 (by omega), e 13 (by omega), e 14 (by omega), e 15 (by omega)]
theorem PfBox.set {w : World} {b : Nat} {t : TypeId} {six : Bool} {B : Nat → Int} {n : Int} (h : PfBox w b t six B n) (j : Nat) (hj : j < 16) (v : Int) : PfBox (w.setCell ⟨b, 1 + j, none⟩ (.int .u8 v)) b t six (fun i => if i = j then v else B i) n := by
  refine ⟨(heap_setCell_same _ _ _ _ _ _ h.heap).trans ?_⟩
  rcases j with _ | _ | _ | _ | _ | _ | _ | _ | _ | _ | _ | _ | _ | _ | _ | _ | j
  all_goals first | rfl | omega
theorem pf_congr {six : Bool} {B C : Nat → Int} {n : Int} (e : ∀ i, i < 16 → B i = C i) : pfV six B n = pfV six C n := by
  unfold pfV
  rw [e 0 (by omega), e 1 (by omega), e 2 (by omega), e 3 (by omega), e 4 (by omega), e 5 (by omega), e 6 (by omega), e 7 (by omega), e 8 (by omega), e 9 (by omega), e 10 (by omega), e 11 (by omega), e 12 (by omega), e 13 (by omega), e 14 (by omega), e 15 (by omega)]

/-! What functions hand back: an address (a prefix) that lies in memory, and a slot. -/
section
variable {fn : Func} {p q : Tmp}
theorem results_ad2 (t : TypeId) (fs : Array Field) (hu : Tryz.prog.underlying t = some (.struct fs)) (hi : (Tryz.prog.info? t).map (·.size) = some 17)
    (h : fn.results = #[.cell p t, .tmp q]) (tmps : Array Value) (w : World) (b : Nat) (v : Value) {six : Bool} {B : Nat → Int}
    (hp : tmps.getD p undef = .pointer (some ⟨b, 0, none⟩)) (hq : tmps.getD q undef = v) (hc : partOf w b 0 17 = #[.bool six, .int .u8 (B 0), .int .u8 (B 1), .int .u8 (B 2), .int .u8 (B 3), .int .u8 (B 4), .int .u8 (B 5), .int .u8 (B 6), .int .u8 (B 7), .int .u8 (B 8), .int .u8 (B 9), .int .u8 (B 10), .int .u8 (B 11), .int .u8 (B 12), .int .u8 (B 13), .int .u8 (B 14), .int .u8 (B 15)]) : (results fn tmps).run Tryz.prog w = .ok (.tuple #[adV six B, v]) w :=
  results_part2 h tmps w b 17 _ v hu rfl hi hp hq _ hc rfl
theorem results_pf2 (t : TypeId) (fs : Array Field) (hu : Tryz.prog.underlying t = some (.struct fs)) (hi : (Tryz.prog.info? t).map (·.size) = some 18)
    (h : fn.results = #[.cell p t, .tmp q]) (tmps : Array Value) (w : World) (b : Nat) (v : Value) {six : Bool} {B : Nat → Int} {n : Int}
    (hp : tmps.getD p undef = .pointer (some ⟨b, 0, none⟩)) (hq : tmps.getD q undef = v) (hc : partOf w b 0 18 = #[.bool six, .int .u8 (B 0), .int .u8 (B 1), .int .u8 (B 2), .int .u8 (B 3), .int .u8 (B 4), .int .u8 (B 5), .int .u8 (B 6), .int .u8 (B 7), .int .u8 (B 8), .int .u8 (B 9), .int .u8 (B 10), .int .u8 (B 11), .int .u8 (B 12), .int .u8 (B 13), .int .u8 (B 14), .int .u8 (B 15), .int .i64 n]) : (results fn tmps).run Tryz.prog w = .ok (.tuple #[pfV six B n, v]) w :=
  results_part2 h tmps w b 18 _ v hu rfl hi hp hq _ hc rfl
end
end Go.Proofs.YtcadpcppnllhnaaGreatDoor
end

/- Walks over prefixes: Cut. -/
section
set_option linter.unusedSimpArgs false
set_option linter.unusedVariables false
namespace Go.Proofs.YtcadpcppnllhnaaGreatDoor
open Go.RowKit

theorem and_all : ∀ x : Fin 256, bits BinOp.and IntKind.u8 (x.1 : Int) 0 = keepI 0 (x.1 : Int) ∧ bits BinOp.and IntKind.u8 (x.1 : Int) 128 = keepI 1 (x.1 : Int) ∧ bits BinOp.and IntKind.u8 (x.1 : Int) 192 = keepI 2 (x.1 : Int) ∧
    bits BinOp.and IntKind.u8 (x.1 : Int) 224 = keepI 3 (x.1 : Int) ∧ bits BinOp.and IntKind.u8 (x.1 : Int) 240 = keepI 4 (x.1 : Int) ∧ bits BinOp.and IntKind.u8 (x.1 : Int) 248 = keepI 5 (x.1 : Int) ∧
    bits BinOp.and IntKind.u8 (x.1 : Int) 252 = keepI 6 (x.1 : Int) ∧ bits BinOp.and IntKind.u8 (x.1 : Int) 254 = keepI 7 (x.1 : Int) ∧ bits BinOp.and IntKind.u8 (x.1 : Int) 255 = keepI 8 (x.1 : Int) := by decide +kernel
theorem and_cut (m k : Nat) {B : Nat → Int} (hB : U8 B) : ((m : Int) - 8 * k ≤ 0 → bits BinOp.and IntKind.u8 (B k) 0 = cutB m B k) ∧ ((m : Int) - 8 * k = 1 → bits BinOp.and IntKind.u8 (B k) 128 = cutB m B k) ∧
    ((m : Int) - 8 * k = 2 → bits BinOp.and IntKind.u8 (B k) 192 = cutB m B k) ∧ ((m : Int) - 8 * k = 3 → bits BinOp.and IntKind.u8 (B k) 224 = cutB m B k) ∧ ((m : Int) - 8 * k = 4 → bits BinOp.and IntKind.u8 (B k) 240 = cutB m B k) ∧
    ((m : Int) - 8 * k = 5 → bits BinOp.and IntKind.u8 (B k) 248 = cutB m B k) ∧ ((m : Int) - 8 * k = 6 → bits BinOp.and IntKind.u8 (B k) 252 = cutB m B k) ∧ ((m : Int) - 8 * k = 7 → bits BinOp.and IntKind.u8 (B k) 254 = cutB m B k) ∧
    ((m : Int) - 8 * k = 8 → bits BinOp.and IntKind.u8 (B k) 255 = cutB m B k) ∧ (8 < (m : Int) - 8 * k → bits BinOp.and IntKind.u8 (B k) 255 = cutB m B k) := by
  have hb := hB k
  obtain ⟨x, hx⟩ : ∃ x : Fin 256, (x.1 : Int) = B k := ⟨⟨(B k).toNat, by omega⟩, by simp; omega⟩
  obtain ⟨h0, h1, h2, h3, h4, h5, h6, h7, h8⟩ := and_all x
  rw [hx] at h0 h1 h2 h3 h4 h5 h6 h7 h8
  unfold cutB
  refine ⟨fun h => ?_, fun h => ?_, fun h => ?_, fun h => ?_, fun h => ?_, fun h => ?_, fun h => ?_, fun h => ?_, fun h => ?_, fun h => ?_⟩
  · rw [h0, show keepAt m k = 0 by unfold keepAt; omega]
  · rw [h1, show keepAt m k = 1 by unfold keepAt; omega]
  · rw [h2, show keepAt m k = 2 by unfold keepAt; omega]
  · rw [h3, show keepAt m k = 3 by unfold keepAt; omega]
  · rw [h4, show keepAt m k = 4 by unfold keepAt; omega]
  · rw [h5, show keepAt m k = 5 by unfold keepAt; omega]
  · rw [h6, show keepAt m k = 6 by unfold keepAt; omega]
  · rw [h7, show keepAt m k = 7 by unfold keepAt; omega]
  · rw [h8, show keepAt m k = 8 by unfold keepAt; omega]
  · rw [h8, show keepAt m k = 8 by unfold keepAt; omega]
theorem ad_next {w : World} {b : Nat} {t : TypeId} {six : Bool} {m k : Nat} {B : Nat → Int} (h : AdBox w b t six (fun j => if j < k then cutB m B j else B j)) (hk : k < 16) {v : Int} (hv : v = cutB m B k) :
    AdBox (w.setCell ⟨b, 1 + k, none⟩ (.int .u8 v)).drew b t six (fun j => if j < k + 1 then cutB m B j else B j) :=
  ((h.set k hk v).below (Below.refl _ _).drew).congr fun i _ => by
    by_cases e : i = k
    · subst e; simp [hv]
    · by_cases h : i < k
      · simp only [if_neg e, if_pos h, if_pos (show i < k + 1 by omega)]
      · simp only [if_neg e, if_neg h, if_neg (show ¬ i < k + 1 by omega)]
theorem results_pf1 {fn : Func} {p : Tmp} (t : TypeId) (fs : Array Field) (hu : Tryz.prog.underlying t = some (.struct fs)) (hi : (Tryz.prog.info? t).map (·.size) = some 18)
    (h : fn.results = #[.cell p t]) (tmps : Array Value) (w : World) (b : Nat) {six : Bool} {B : Nat → Int} {n : Int}
    (hp : tmps.getD p undef = .pointer (some ⟨b, 0, none⟩)) (hc : partOf w b 0 18 = #[.bool six, .int .u8 (B 0), .int .u8 (B 1), .int .u8 (B 2), .int .u8 (B 3), .int .u8 (B 4), .int .u8 (B 5), .int .u8 (B 6), .int .u8 (B 7), .int .u8 (B 8), .int .u8 (B 9), .int .u8 (B 10), .int .u8 (B 11), .int .u8 (B 12), .int .u8 (B 13), .int .u8 (B 14), .int .u8 (B 15), .int .i64 n]) : (results fn tmps).run Tryz.prog w = .ok (pfV six B n) w :=
  results_part1 h tmps w b 18 _ hu rfl hi hp _ hc rfl
theorem info_pf : (Tryz.prog.info? 33).map (·.size) = some 18 := by kernel_rfl
theorem info_rpf : (Tryz.prog.info? 47).map (·.size) = some 18 := by kernel_rfl
theorem partOf_set2 {w : World} {b n : Nat} {cs cs' : Array Value} {t : TypeId} {fr : Nat × Nat} (h : w.heap[b]? = some (.cells cs t fr)) (hs : cs'.size = n := by rfl) : partOf (w.setRow b cs') b 0 n = cs' := by
  rw [partOf_row _ _ _ _ _ _ _ (setRow_heap _ _ _ _ _ _ h)]; subst hs; simp

set_option maxRecDepth 20000 in
set_option maxHeartbeats 8000000 in
theorem cut_right (six : Bool) (B : Nat → Int) (n : Int) (hB : U8 B) (hr : rightB six B = true) (hn0 : -9223372036854775808 ≤ n) (hn1 : n ≤ 9223372036854775807) (w : World) :
    Calls Tryz.prog 9 #[adV six B, .int .i64 n] w (RetAt w (pfV six (cutB (clampN six n) B) (clampN six n : Int))) := by
  have HR := Lib.hid (fun w => right_any six B w)
  have HS := Lib.hid (fun w => size_any six B w)
  have HB := Lib.hid hB
  have hC : (n ≤ 0 ∧ clampN six n = 0) ∨ (0 < n ∧ n ≤ 8 * sizeZ six ∧ n = clampN six n) ∨ (8 * sizeZ six < n ∧ 8 * sizeZ six = clampN six n) := by unfold clampN sizeZ; split <;> omega
  have hcl := clampN_le six n
  have hz0 : 4 ≤ sizeZ six := by unfold sizeZ; split <;> omega
  have hz1 : sizeZ six ≤ 16 := by unfold sizeZ; split <;> omega
  rw [hr] at HR
  clear hB hr
  generalize sizeZ six = z at *
  generalize clampN six n = m at *
  unfold adV at *
  go_enter Tryz.func9, Tryz.ntmps9
  go_wp2_with fail
  refine Calls.mono (HR.out _) ?_
  rintro e w1 ⟨rfl, hb1⟩
  have hX := (hb1.block w.heap.size (by simp; omega)).trans (heap_alloc2_old w (.cells #[.bool six, .int .u8 (B 0), .int .u8 (B 1), .int .u8 (B 2), .int .u8 (B 3), .int .u8 (B 4), .int .u8 (B 5), .int .u8 (B 6), .int .u8 (B 7), .int .u8 (B 8), .int .u8 (B 9), .int .u8 (B 10), .int .u8 (B 11), .int .u8 (B 12), .int .u8 (B 13), .int .u8 (B 14), .int .u8 (B 15)] 26) _)
  have HP : Hid (PfBox w1 (w.heap.size + 1) 33 false (fun _ => 0) 0) := Lib.hid ⟨(hb1.block _ (by simp)).trans (heap_alloc2_new w (.cells #[.bool six, .int .u8 (B 0), .int .u8 (B 1), .int .u8 (B 2), .int .u8 (B 3), .int .u8 (B 4), .int .u8 (B 5), .int .u8 (B 6), .int .u8 (B 7), .int .u8 (B 8), .int .u8 (B 9), .int .u8 (B 10), .int .u8 (B 11), .int .u8 (B 12), .int .u8 (B 13), .int .u8 (B 14), .int .u8 (B 15)] 26) (.cells #[.bool false, .int .u8 ((fun _ => 0) 0), .int .u8 ((fun _ => 0) 1), .int .u8 ((fun _ => 0) 2), .int .u8 ((fun _ => 0) 3), .int .u8 ((fun _ => 0) 4), .int .u8 ((fun _ => 0) 5), .int .u8 ((fun _ => 0) 6), .int .u8 ((fun _ => 0) 7), .int .u8 ((fun _ => 0) 8), .int .u8 ((fun _ => 0) 9), .int .u8 ((fun _ => 0) 10), .int .u8 ((fun _ => 0) 11), .int .u8 ((fun _ => 0) 12), .int .u8 ((fun _ => 0) 13), .int .u8 ((fun _ => 0) 14), .int .u8 ((fun _ => 0) 15), .int .i64 0] 33))⟩
  have hA := (AdBox.mk hX).part
  have HB1 := Lib.hid (Below.via (Below.all (Below.all (Below.refl w.heap.size w) _) _) hb1)
  have HX := Lib.hid (AdBox.mk hX)
  clear hX hb1
  go_wp2_with fail
  refine Calls.mono (HS.out _) ?_
  rintro e w2 ⟨rfl, hb2⟩
  have HX2 := Lib.hid (HX.out.below hb2)
  have HP2 := Lib.hid (HP.out.below hb2)
  have HB2 := Lib.hid (Below.via HB1.out hb2)
  clear hA hb2 HX HP HB1
  have hcase : (n ≤ 0 ∧ m = 0) ∨ (0 < n ∧ n ≤ 8 * z ∧ n = m) ∨ (8 * z < n ∧ 8 * z = m) := hC
  clear hC
  rcases hcase with ⟨h1, hm0⟩ | ⟨h1, h2, rfl⟩ | ⟨h1, h2⟩
  all_goals
    try have HM0 := Lib.hid hm0
    try clear hm0
    try have h8 : ¬ (8 * z < n) := by omega
    try have h8' : 0 < 8 * z := by omega
    go_wp2_with fail
    try rw [h2]
    go_loopw [17] (fun u17 wr => ∃ k : Nat, k ≤ 16 ∧ u17 = .int .i64 k ∧ Hid (AdBox wr w.heap.size 26 six (fun j => if j < k then cutB m B j else B j)) ∧ Hid (PfBox wr (w.heap.size + 1) 33 false (fun _ => 0) 0) ∧ Hid (Below w.heap.size w wr)) (fun u17 _ => (16 : Int) - intOf u17 |>.toNat)
    case atStart => exact ⟨0, by omega, rfl, Lib.hid (HX2.out.congr fun i _ => by simp), HP2, HB2⟩
    case round =>
      obtain ⟨k, hk, rfl, HX, HP, HB3⟩ := hrel
      by_cases hlt : k < 16
      · have hcx := HX.out.cell k hlt
        rw [if_neg (by omega)] at hcx
        have hfx := HX.out.free (1 + k)
        try have hm0 := HM0.out
        have hks : (m : Int) - 8 * k ≤ 0 ∨ (m : Int) - 8 * k = 1 ∨ (m : Int) - 8 * k = 2 ∨ (m : Int) - 8 * k = 3 ∨ (m : Int) - 8 * k = 4 ∨ (m : Int) - 8 * k = 5 ∨ (m : Int) - 8 * k = 6 ∨ (m : Int) - 8 * k = 7 ∨ (m : Int) - 8 * k = 8 ∨ 8 < (m : Int) - 8 * k := by omega
        rcases hks with h3 | h3 | h3 | h3 | h3 | h3 | h3 | h3 | h3 | h3
        all_goals first
          | (exfalso; omega)
          | skip
        all_goals
          try have h4 : ¬ (8 < (m : Int) - 8 * k) := by omega
          try have h5 : 0 < (m : Int) - 8 * k := by omega
          go_wp2_with fail
          try rw [h3]
          go_region
          go_wp2_with fail
          go_roundw
          case rel =>
            refine ⟨k + 1, by omega, by go_num, Lib.hid (ad_next HX.out hlt ?_), Lib.hid ((HP.out.other _ _ (by simp)).below (Below.refl _ _).drew), Lib.hid (HB3.out.setCell (Nat.le_refl _) _).drew⟩
            first
              | exact (and_cut m k HB.out).1 h3
              | exact (and_cut m k HB.out).2.1 h3
              | exact (and_cut m k HB.out).2.2.1 h3
              | exact (and_cut m k HB.out).2.2.2.1 h3
              | exact (and_cut m k HB.out).2.2.2.2.1 h3
              | exact (and_cut m k HB.out).2.2.2.2.2.1 h3
              | exact (and_cut m k HB.out).2.2.2.2.2.2.1 h3
              | exact (and_cut m k HB.out).2.2.2.2.2.2.2.1 h3
              | exact (and_cut m k HB.out).2.2.2.2.2.2.2.2.1 h3
              | exact (and_cut m k HB.out).2.2.2.2.2.2.2.2.2 h3
          case measure => simp [intOf]; omega
      · obtain rfl : k = 16 := by omega
        have HY := HX.out.congr (C := cutB m B) fun i hi => by rw [if_pos hi]
        have hpp := HY.part
        have hrr := HP.out.row
        have HPh := Lib.hid HP.out.heap
        clear HY
        go_wp2_with fail
        refine bodyPost_ret (v := pfV six (cutB m B) _) (results_pf1 _ _ Tryz.underlying33 info_pf rfl _ _ (w.heap.size + 1) rfl (partOf_set2 HPh.out)) rfl (.mk ?_ (below_setRow HB3.out (by omega) _))
        first
          | rfl
          | (rw [HM0.out]; rfl)
end Go.Proofs.YtcadpcppnllhnaaGreatDoor
end

/- Addresses and prefixes, compared. -/
section
set_option linter.unusedSimpArgs false
set_option linter.unusedVariables false
namespace Go.Proofs.YtcadpcppnllhnaaGreatDoor
open Go.RowKit

set_option maxHeartbeats 4000000 in
theorem run_equalIn_ad (w : World) (d : Nat) (s t : Bool) (x0 x1 x2 x3 x4 x5 x6 x7 x8 x9 x10 x11 x12 x13 x14 x15 y0 y1 y2 y3 y4 y5 y6 y7 y8 y9 y10 y11 y12 y13 y14 y15 : Int) :
    (Op.equalIn (d + 3) 26 (.agg #[.bool s, .int .u8 x0, .int .u8 x1, .int .u8 x2, .int .u8 x3, .int .u8 x4, .int .u8 x5, .int .u8 x6, .int .u8 x7, .int .u8 x8, .int .u8 x9, .int .u8 x10, .int .u8 x11, .int .u8 x12, .int .u8 x13, .int .u8 x14, .int .u8 x15]) (.agg #[.bool t, .int .u8 y0, .int .u8 y1, .int .u8 y2, .int .u8 y3, .int .u8 y4, .int .u8 y5, .int .u8 y6, .int .u8 y7, .int .u8 y8, .int .u8 y9, .int .u8 y10, .int .u8 y11, .int .u8 y12, .int .u8 y13, .int .u8 y14, .int .u8 y15])).run Tryz.prog w = .ok (s == t && eqL [x0, x1, x2, x3, x4, x5, x6, x7, x8, x9, x10, x11, x12, x13, x14, x15] [y0, y1, y2, y3, y4, y5, y6, y7, y8, y9, y10, y11, y12, y13, y14, y15]) w := by
  simp [go_sem]
  generalize eqL _ _ = e
  by_cases h : s = t
  · subst h; cases e <;> simp
  · simp [h]
set_option maxHeartbeats 4000000 in
theorem run_equalIn_rad (w : World) (d : Nat) (s t : Bool) (x0 x1 x2 x3 x4 x5 x6 x7 x8 x9 x10 x11 x12 x13 x14 x15 y0 y1 y2 y3 y4 y5 y6 y7 y8 y9 y10 y11 y12 y13 y14 y15 : Int) :
    (Op.equalIn (d + 3) 41 (.agg #[.bool s, .int .u8 x0, .int .u8 x1, .int .u8 x2, .int .u8 x3, .int .u8 x4, .int .u8 x5, .int .u8 x6, .int .u8 x7, .int .u8 x8, .int .u8 x9, .int .u8 x10, .int .u8 x11, .int .u8 x12, .int .u8 x13, .int .u8 x14, .int .u8 x15]) (.agg #[.bool t, .int .u8 y0, .int .u8 y1, .int .u8 y2, .int .u8 y3, .int .u8 y4, .int .u8 y5, .int .u8 y6, .int .u8 y7, .int .u8 y8, .int .u8 y9, .int .u8 y10, .int .u8 y11, .int .u8 y12, .int .u8 y13, .int .u8 y14, .int .u8 y15])).run Tryz.prog w = .ok (s == t && eqL [x0, x1, x2, x3, x4, x5, x6, x7, x8, x9, x10, x11, x12, x13, x14, x15] [y0, y1, y2, y3, y4, y5, y6, y7, y8, y9, y10, y11, y12, y13, y14, y15]) w := by
  simp [go_sem]
  generalize eqL _ _ = e
  by_cases h : s = t
  · subst h; cases e <;> simp
  · simp [h]
set_option maxHeartbeats 4000000 in
theorem run_equalIn_pf (w : World) (d : Nat) (s t : Bool) (x0 x1 x2 x3 x4 x5 x6 x7 x8 x9 x10 x11 x12 x13 x14 x15 y0 y1 y2 y3 y4 y5 y6 y7 y8 y9 y10 y11 y12 y13 y14 y15 n m : Int) :
    (Op.equalIn (d + 4) 33 (.agg #[.bool s, .int .u8 x0, .int .u8 x1, .int .u8 x2, .int .u8 x3, .int .u8 x4, .int .u8 x5, .int .u8 x6, .int .u8 x7, .int .u8 x8, .int .u8 x9, .int .u8 x10, .int .u8 x11, .int .u8 x12, .int .u8 x13, .int .u8 x14, .int .u8 x15, .int .i64 n]) (.agg #[.bool t, .int .u8 y0, .int .u8 y1, .int .u8 y2, .int .u8 y3, .int .u8 y4, .int .u8 y5, .int .u8 y6, .int .u8 y7, .int .u8 y8, .int .u8 y9, .int .u8 y10, .int .u8 y11, .int .u8 y12, .int .u8 y13, .int .u8 y14, .int .u8 y15, .int .i64 m])).run Tryz.prog w = .ok ((s == t && eqL [x0, x1, x2, x3, x4, x5, x6, x7, x8, x9, x10, x11, x12, x13, x14, x15] [y0, y1, y2, y3, y4, y5, y6, y7, y8, y9, y10, y11, y12, y13, y14, y15]) && n == m) w := by
  simp [go_sem]
  generalize eqL _ _ = e
  by_cases h : s = t
  · subst h; cases e <;> by_cases hn : n = m <;> simp [hn]
  · simp [h]
set_option maxHeartbeats 4000000 in
theorem run_equalIn_rpf (w : World) (d : Nat) (s t : Bool) (x0 x1 x2 x3 x4 x5 x6 x7 x8 x9 x10 x11 x12 x13 x14 x15 y0 y1 y2 y3 y4 y5 y6 y7 y8 y9 y10 y11 y12 y13 y14 y15 n m : Int) :
    (Op.equalIn (d + 4) 47 (.agg #[.bool s, .int .u8 x0, .int .u8 x1, .int .u8 x2, .int .u8 x3, .int .u8 x4, .int .u8 x5, .int .u8 x6, .int .u8 x7, .int .u8 x8, .int .u8 x9, .int .u8 x10, .int .u8 x11, .int .u8 x12, .int .u8 x13, .int .u8 x14, .int .u8 x15, .int .i64 n]) (.agg #[.bool t, .int .u8 y0, .int .u8 y1, .int .u8 y2, .int .u8 y3, .int .u8 y4, .int .u8 y5, .int .u8 y6, .int .u8 y7, .int .u8 y8, .int .u8 y9, .int .u8 y10, .int .u8 y11, .int .u8 y12, .int .u8 y13, .int .u8 y14, .int .u8 y15, .int .i64 m])).run Tryz.prog w = .ok ((s == t && eqL [x0, x1, x2, x3, x4, x5, x6, x7, x8, x9, x10, x11, x12, x13, x14, x15] [y0, y1, y2, y3, y4, y5, y6, y7, y8, y9, y10, y11, y12, y13, y14, y15]) && n == m) w := by
  simp [go_sem]
  generalize eqL _ _ = e
  by_cases h : s = t
  · subst h; cases e <;> by_cases hn : n = m <;> simp [hn]
  · simp [h]
theorem run_eqGuard_ad (w : World) (op : BinOp) (x y : Operand) (xs ys : Array Value) : (eqGuard op 26 x y (.agg xs) (.agg ys)).run Tryz.prog w = .ok () w := run_eqGuard_agg w op _ x y xs ys (by kernel_rfl)
theorem run_eqGuard_rad (w : World) (op : BinOp) (x y : Operand) (xs ys : Array Value) : (eqGuard op 41 x y (.agg xs) (.agg ys)).run Tryz.prog w = .ok () w := run_eqGuard_agg w op _ x y xs ys (by kernel_rfl)
theorem run_eqGuard_pf (w : World) (op : BinOp) (x y : Operand) (xs ys : Array Value) : (eqGuard op 33 x y (.agg xs) (.agg ys)).run Tryz.prog w = .ok () w := run_eqGuard_agg w op _ x y xs ys (by kernel_rfl)
theorem run_eqGuard_rpf (w : World) (op : BinOp) (x y : Operand) (xs ys : Array Value) : (eqGuard op 47 x y (.agg xs) (.agg ys)).run Tryz.prog w = .ok () w := run_eqGuard_agg w op _ x y xs ys (by kernel_rfl)
theorem run_eqGuard_arr (w : World) (op : BinOp) (x y : Operand) (xs ys : Array Value) : (eqGuard op 24 x y (.agg xs) (.agg ys)).run Tryz.prog w = .ok () w := run_eqGuard_agg w op _ x y xs ys (by kernel_rfl)
attribute [go_sem] run_eqGuard_ad run_eqGuard_rad run_eqGuard_pf run_eqGuard_rpf run_eqGuard_arr
attribute [go_sem 5000] run_equalIn_ad run_equalIn_rad run_equalIn_pf run_equalIn_rpf
end Go.Proofs.YtcadpcppnllhnaaGreatDoor
end

/- Walks over prefixes: Cut of what is not right; a prefix's Right. -/
section
set_option linter.unusedSimpArgs false
set_option linter.unusedVariables false
namespace Go.Proofs.YtcadpcppnllhnaaGreatDoor
open Go.RowKit

theorem ext_18_0 (a0 a1 a2 a3 a4 a5 a6 a7 a8 a9 a10 a11 a12 a13 a14 a15 a16 a17 : Value) : (#[a0, a1, a2, a3, a4, a5, a6, a7, a8, a9, a10, a11, a12, a13, a14, a15, a16, a17] : Array Value).extract 0 17 = #[a0, a1, a2, a3, a4, a5, a6, a7, a8, a9, a10, a11, a12, a13, a14, a15, a16] := by simp
theorem ext_18_1 (a0 a1 a2 a3 a4 a5 a6 a7 a8 a9 a10 a11 a12 a13 a14 a15 a16 a17 : Value) : (#[a0, a1, a2, a3, a4, a5, a6, a7, a8, a9, a10, a11, a12, a13, a14, a15, a16, a17] : Array Value).extract 1 17 = #[a1, a2, a3, a4, a5, a6, a7, a8, a9, a10, a11, a12, a13, a14, a15, a16] := by simp
theorem ext_17_1 (a0 a1 a2 a3 a4 a5 a6 a7 a8 a9 a10 a11 a12 a13 a14 a15 a16 : Value) : (#[a0, a1, a2, a3, a4, a5, a6, a7, a8, a9, a10, a11, a12, a13, a14, a15, a16] : Array Value).extract 1 17 = #[a1, a2, a3, a4, a5, a6, a7, a8, a9, a10, a11, a12, a13, a14, a15, a16] := by simp
attribute [go_sem] ext_18_0 ext_18_1 ext_17_1

set_option maxRecDepth 20000 in
set_option maxHeartbeats 8000000 in
theorem cut_wrong (six : Bool) (B : Nat → Int) (n : Int) (hr : rightB six B = false) (w : World) :
    Calls Tryz.prog 9 #[adV six B, .int .i64 n] w (RetAt w (pfV false (fun _ => 0) 0)) := by
  have HR := Lib.hid (fun w => right_any six B w)
  rw [hr] at HR
  clear hr
  unfold adV at *
  go_enter Tryz.func9, Tryz.ntmps9
  go_wp2_with fail
  refine Calls.mono (HR.out _) ?_
  rintro e w1 ⟨rfl, hb1⟩
  have HP : PfBox w1 (w.heap.size + 1) 33 false (fun _ => 0) 0 := ⟨(hb1.block _ (by simp)).trans (heap_alloc2_new w (.cells #[.bool six, .int .u8 (B 0), .int .u8 (B 1), .int .u8 (B 2), .int .u8 (B 3), .int .u8 (B 4), .int .u8 (B 5), .int .u8 (B 6), .int .u8 (B 7), .int .u8 (B 8), .int .u8 (B 9), .int .u8 (B 10), .int .u8 (B 11), .int .u8 (B 12), .int .u8 (B 13), .int .u8 (B 14), .int .u8 (B 15)] 26) (.cells #[.bool false, .int .u8 ((fun _ => 0) 0), .int .u8 ((fun _ => 0) 1), .int .u8 ((fun _ => 0) 2), .int .u8 ((fun _ => 0) 3), .int .u8 ((fun _ => 0) 4), .int .u8 ((fun _ => 0) 5), .int .u8 ((fun _ => 0) 6), .int .u8 ((fun _ => 0) 7), .int .u8 ((fun _ => 0) 8), .int .u8 ((fun _ => 0) 9), .int .u8 ((fun _ => 0) 10), .int .u8 ((fun _ => 0) 11), .int .u8 ((fun _ => 0) 12), .int .u8 ((fun _ => 0) 13), .int .u8 ((fun _ => 0) 14), .int .u8 ((fun _ => 0) 15), .int .i64 0] 33))⟩
  have hrr := HP.row
  have HPh := Lib.hid HP.heap
  have HB1 := Lib.hid (Below.via (Below.all (Below.all (Below.refl w.heap.size w) _) _) hb1)
  clear HP hb1
  go_wp2_with fail
  refine bodyPost_ret (v := pfV false (fun _ => 0) 0) (results_pf1 _ _ Tryz.underlying33 info_pf rfl _ _ (w.heap.size + 1) rfl (partOf_set2 HPh.out)) rfl (.mk rfl (below_setRow HB1.out (by omega) _))

/-- The prefix of an address. -/
def cutSix (six : Bool) (B : Nat → Int) : Bool := if rightB six B then six else false
def cutBy (six : Bool) (B : Nat → Int) (n : Int) : Nat → Int := if rightB six B then cutB (clampN six n) B else fun _ => 0
def cutLen (six : Bool) (B : Nat → Int) (n : Int) : Int := if rightB six B then (clampN six n : Int) else 0
theorem cut_any (six : Bool) (B : Nat → Int) (n : Int) (hB : U8 B) (hn0 : -9223372036854775808 ≤ n) (hn1 : n ≤ 9223372036854775807) (w : World) :
    Calls Tryz.prog 9 #[adV six B, .int .i64 n] w (RetAt w (pfV (cutSix six B) (cutBy six B n) (cutLen six B n))) := by
  unfold cutSix cutBy cutLen
  by_cases h : rightB six B = true
  · rw [if_pos h, if_pos h, if_pos h]; exact cut_right six B n hB h hn0 hn1 w
  · rw [if_neg h, if_neg h, if_neg h]; exact cut_wrong six B n (by simpa using h) w

set_option maxRecDepth 20000 in
set_option maxHeartbeats 8000000 in
theorem pright_yes (six : Bool) (B : Nat → Int) (n : Int) (hB : U8 B) (hr : rightB six B = true) (hn0 : -9223372036854775808 ≤ n) (hn1 : n ≤ 9223372036854775807) (w : World) :
    Calls Tryz.prog 23 #[pfV six B n] w (RetAt w (.bool (rightPB six B n))) := by
  have HR : ∀ w, Calls Tryz.prog 28 #[adV six B] w (RetAt w (.bool true)) := fun w => by rw [← hr]; exact right_any six B w
  have HC := cut_right six B n hB hr hn0 hn1
  have HE : Hid (rightPB six B n = (eqL (b16 (cutB (clampN six n) B)) (b16 B) && (clampN six n : Int) == n)) := Lib.hid (by unfold rightPB; rw [hr, Bool.true_and])
  clear hB hr
  generalize cutB (clampN six n) B = C at *
  generalize clampN six n = m at *
  unfold adV pfV at *
  go_enter Tryz.func23, Tryz.ntmps23
  go_wp2_with fail
  refine wp_region_later (by kernel_rfl) (by kernel_rfl) ?_
  repeat go_big_quiet_step (first | (go_at_call 28; exact later_call (HR _)) | (go_at_call 9; exact later_call (HC _)))
  refine wpQuiet_nil ?_
  intro x
  go_wp2_with fail
  go_ret
  exact .mk (val_bool HE.out.symm) (Below.lat (Below.all (Below.refl _ _) _))

set_option maxRecDepth 20000 in
set_option maxHeartbeats 8000000 in
theorem pright_no (six : Bool) (B : Nat → Int) (n : Int) (hr : rightB six B = false) (w : World) :
    Calls Tryz.prog 23 #[pfV six B n] w (RetAt w (.bool (rightPB six B n))) := by
  have HR : ∀ w, Calls Tryz.prog 28 #[adV six B] w (RetAt w (.bool false)) := fun w => by rw [← hr]; exact right_any six B w
  have HE : Hid (rightPB six B n = false) := Lib.hid (by unfold rightPB; rw [hr, Bool.false_and])
  clear hr
  unfold adV pfV at *
  go_enter Tryz.func23, Tryz.ntmps23
  go_wp2_with fail
  refine wp_region_later (by kernel_rfl) (by kernel_rfl) ?_
  repeat go_big_quiet_step ((go_at_call 28; exact later_call (HR _)))
  refine wpQuiet_nil ?_
  intro x
  go_wp2_with fail
  go_ret
  exact .mk (val_bool HE.out.symm) (Below.lat (Below.all (Below.refl _ _) _))
theorem pright_any (six : Bool) (B : Nat → Int) (n : Int) (hB : U8 B) (hn0 : -9223372036854775808 ≤ n) (hn1 : n ≤ 9223372036854775807) (w : World) :
    Calls Tryz.prog 23 #[pfV six B n] w (RetAt w (.bool (rightPB six B n))) := by
  by_cases h : rightB six B = true
  · exact pright_yes six B n hB h hn0 hn1 w
  · exact pright_no six B n (by simpa using h) w
end Go.Proofs.YtcadpcppnllhnaaGreatDoor
end
