/- Whole arrays and structs, loaded and stored at once: a rule at the whole operation. -/
import Derived.Test.YtcadpcppnllhnaaDoorLater
import Derived.Laws.Rows
import Derived.Laws.Tables
import Derived.ArgAppend
set_option linter.unusedSimpArgs false
set_option linter.unusedVariables false
namespace Go.Proofs.YtcadpcppnllhnaaDoor
open Go.RowKit

/-- The cells from 'off' on, n of them, of block b. -/
def partOf (w : World) (b off n : Nat) : Array Value := match w.heap[b]? with
  | some (.cells cs _ _) => cs.extract off (off + n)
  | _ => #[]
/-- Block b has just n cells, and all may be written. -/
def rowFree (w : World) (b n : Nat) : Bool := match w.heap[b]? with
  | some (.cells cs _ fr) => cs.size == n && fr == (0, 0)
  | _ => false
def ptrPart (w : World) (n : Nat) : Value → Array Value
  | .pointer (some ⟨b, off, none⟩) => partOf w b off n
  | _ => #[]
def ptrFree (w : World) (n : Nat) : Value → Bool
  | .pointer (some ⟨b, 0, none⟩) => rowFree w b n
  | _ => false
def ptrBlock : Value → Nat
  | .pointer (some ⟨b, _, _⟩) => b
  | _ => 0
def aggCells : Value → Array Value
  | .agg cs => cs
  | _ => #[]
def aggOk (n : Nat) : Value → Bool
  | .agg cs => cs.size == n && cs.all (·.oneCell')
  | _ => false
theorem ptrPart_ptr (w : World) (n b off : Nat) : ptrPart w n (.pointer (some ⟨b, off, none⟩)) = partOf w b off n := rfl
theorem ptrFree_ptr (w : World) (n b : Nat) : ptrFree w n (.pointer (some ⟨b, 0, none⟩)) = rowFree w b n := rfl
theorem ptrBlock_ptr (a : Addr) : ptrBlock (.pointer (some a)) = a.block := rfl
theorem aggCells_agg (cs : Array Value) : aggCells (.agg cs) = cs := rfl
theorem aggOk_agg (n : Nat) (cs : Array Value) : aggOk n (.agg cs) = (cs.size == n && cs.all (·.oneCell')) := rfl
attribute [go_sem] ptrPart_ptr ptrFree_ptr ptrBlock_ptr aggCells_agg aggOk_agg

/-! ### What a world's parts are -/
theorem partOf_new (w : World) (b off n : Nat) (cs : Array Value) (t : TypeId) (fr : Nat × Nat) (h : b = w.heap.size) : partOf (w.alloc (.cells cs t fr)) b off n = cs.extract off (off + n) := by
  subst h; unfold partOf; rw [heap_alloc_new]
theorem partOf_old (w : World) (b off n : Nat) (o : Obj) (h : b < w.heap.size) : partOf (w.alloc o) b off n = partOf w b off n := by
  unfold partOf; rw [heap_alloc_old _ _ h]
theorem partOf_drew (w : World) (b off n : Nat) : partOf w.drew b off n = partOf w b off n := rfl
theorem partOf_other (w : World) (b off n : Nat) (a : Addr) (v : Value) (h : b ≠ a.block) : partOf (w.setCell a v) b off n = partOf w b off n := by
  unfold partOf; rw [heap_setCell_other _ _ _ _ h]
theorem partOf_below {B : Nat} {w w' : World} (hb : Below B w w') (b off n : Nat) (h : b < B) : partOf w' b off n = partOf w b off n := by
  unfold partOf; rw [hb.block _ h]
theorem Later.part {w : World} (x : Later w) (b off n : Nat) (h : b < w.heap.size) : partOf x.world b off n = partOf w b off n := partOf_below x.below b off n h
theorem partOf_row (w : World) (b off n : Nat) (cs : Array Value) (t : TypeId) (fr : Nat × Nat) (h : w.heap[b]? = some (.cells cs t fr)) : partOf w b off n = cs.extract off (off + n) := by
  unfold partOf; rw [h]
attribute [go_sem] partOf_new partOf_old partOf_drew partOf_other Later.part

theorem rowFree_new (w : World) (b n : Nat) (cs : Array Value) (t : TypeId) (h : b = w.heap.size) : rowFree (w.alloc (.cells cs t)) b n = (cs.size == n) := by
  subst h; unfold rowFree; rw [heap_alloc_new]; simp
theorem rowFree_old (w : World) (b n : Nat) (o : Obj) (h : b < w.heap.size) : rowFree (w.alloc o) b n = rowFree w b n := by
  unfold rowFree; rw [heap_alloc_old _ _ h]
theorem rowFree_drew (w : World) (b n : Nat) : rowFree w.drew b n = rowFree w b n := rfl
theorem rowFree_below {B : Nat} {w w' : World} (hb : Below B w w') (b n : Nat) (h : b < B) : rowFree w' b n = rowFree w b n := by
  unfold rowFree; rw [hb.block _ h]
theorem Later.free {w : World} (x : Later w) (b n : Nat) (h : b < w.heap.size) : rowFree x.world b n = rowFree w b n := rowFree_below x.below b n h
theorem rowFree_row (w : World) (b n : Nat) (cs : Array Value) (t : TypeId) (h : w.heap[b]? = some (.cells cs t (0, 0))) : rowFree w b n = (cs.size == n) := by
  unfold rowFree; rw [h]; simp
theorem rowFree_setCell (w : World) (b n : Nat) (a : Addr) (v : Value) : rowFree (w.setCell a v) b n = rowFree w b n := by
  by_cases h : b = a.block
  · subst h
    unfold rowFree World.setCell
    simp only [Array.getElem?_modify, if_true]
    cases w.heap[a.block]? with
    | none => rfl
    | some o =>
      cases o <;> simp <;> (try cases a.spot) <;> simp
  · unfold rowFree; rw [heap_setCell_other _ _ _ _ h]
attribute [go_sem] rowFree_new rowFree_old rowFree_drew Later.free rowFree_setCell

theorem setRow_new (w : World) (b : Nat) (c c' : Array Value) (t : TypeId) (h : b = w.heap.size) : (w.alloc (.cells c t)).setRow b c' = w.alloc (.cells c' t) := by
  subst h
  simp only [World.setRow, World.alloc]
  congr 1
  apply Array.ext_getElem?
  intro i
  rw [Array.getElem?_modify]
  by_cases h : w.heap.size = i
  · subst h; simp
  · have h' : ¬ i = w.heap.size := fun e => h e.symm
    simp [h, h', Array.getElem?_push]
theorem setRow_old (w : World) (b : Nat) (o : Obj) (c' : Array Value) (h : b < w.heap.size) : (w.alloc o).setRow b c' = (w.setRow b c').alloc o := by
  simp only [World.setRow, World.alloc]
  congr 1
  apply Array.ext_getElem?
  intro i
  rw [Array.getElem?_modify]
  by_cases hb : b = i
  · subst hb
    rw [Array.getElem?_push, Array.getElem?_push]
    have e : b ≠ w.heap.size := by omega
    simp [e, Array.getElem?_modify]
  · rw [Array.getElem?_push, Array.getElem?_push]
    simp [hb, Array.getElem?_modify]
attribute [go_sem] setRow_new setRow_old setRow_size setRow_tape setRow_os setRow_output setRow_drawn

section
variable {P : Program}
theorem run_loadVar_part (w : World) (b off n ty : Nat) (d : TypeDesc) (hu : P.underlying ty = some d) (hd : (match d with | .struct _ | .array _ _ => true | _ => false) = true) (hi : (P.info? ty).map (·.size) = some n)
    (hs : (partOf w b off n).size = n) : (loadVar ty ⟨b, off, none⟩).run P w = .ok (.agg (partOf w b off n)) w := by
  rcases Nat.eq_zero_or_pos n with h0 | hn
  · subst h0
    have hl : (loadCells ⟨b, off, none⟩ 0).run P w = .ok #[] w := by simpa using run_loadCells_list (P := P) w ⟨b, off, none⟩ [] (by simp)
    have he : partOf w b off 0 = #[] := Array.eq_empty_of_size_eq_zero hs
    have hagg : (isAgg ty).run P w = .ok true w := by
      unfold isAgg
      rw [Sem.run_bind, run_underlying hu w]
      cases d <;> simp_all
    cases hq : P.info? ty with
    | none => simp [hq] at hi
    | some i =>
      have hz : i.size = 0 := by simpa [hq] using hi
      simp [loadVar, Sem.run_bind, hagg, sizeOf, typeInfo, hq, hz, hl, he]
  · have hl : (loadCells ⟨b, off, none⟩ (partOf w b off n).toList.length).run P w = .ok (partOf w b off n).toList.toArray w := by
      refine run_loadCells_list (P := P) w ⟨b, off, none⟩ _ (fun j v hv => ?_)
      rw [Addr.add_lit]
      rw [Array.getElem?_toList] at hv
      have hj : j < (partOf w b off n).size := (Array.getElem?_eq_some_iff.1 hv).1
      unfold partOf at hv hj
      unfold World.cell?
      cases hh : w.heap[b]? with
      | none => rw [hh] at hv; simp at hv
      | some o =>
        rw [hh] at hv hj
        cases o with
        | cells cs t fr =>
          simp only at hv hj ⊢
          rw [Array.getElem?_extract] at hv
          split at hv
          · simpa using hv
          · cases hv
        | _ => simp at hv
    have hagg : (isAgg ty).run P w = .ok true w := by
      unfold isAgg
      rw [Sem.run_bind, run_underlying hu w]
      cases d <;> simp_all
    rw [Array.length_toList, hs, Array.toArray_toList] at hl
    cases hq : P.info? ty with
    | none => simp [hq] at hi
    | some i =>
      have hz : i.size = n := by simpa [hq] using hi
      simp [loadVar, Sem.run_bind, hagg, sizeOf, typeInfo, hq, hz, hl]

theorem run_exec_load (ev : Operand → Value) (w : World) (dst : Option Tmp) (t : TypeId) (pos : String) (after : Array Edge) (g : Option (Nat × Bool)) (x : Operand) (ty n : Nat) (d : TypeDesc)
    (hu : P.underlying ty = some d) (hd : (match d with | .struct _ | .array _ _ => true | _ => false) = true) (hi : (P.info? ty).map (·.size) = some n) (hn : 0 < n)
    (hs : (ptrPart w n (ev x)).size = n) : (execOp ev ⟨dst, .load ty x, t, pos, after, g⟩).run P w = .ok (.value (.agg (ptrPart w n (ev x)))) w := by
  generalize hv : ev x = v at hs
  unfold ptrPart at hs ⊢
  split at hs
  · rename_i b off
    have := run_loadVar_part (P := P) w b off n ty d hu hd hi hs
    simp [execOp, hv, Instr.loadAt, Instr.sureAddr, this, Result.andThen]
  · simp at hs; omega

theorem run_exec_store (ev : Operand → Value) (w : World) (dst : Option Tmp) (t : TypeId) (pos : String) (after : Array Edge) (g : Option (Nat × Bool)) (x y : Operand) (ty n : Nat)
    (hi : (P.info? ty).map (·.size) = some n) (hx : ptrFree w n (ev x) = true) (hy : aggOk n (ev y) = true) :
    (execOp ev ⟨dst, .store ty x y, t, pos, after, g⟩).run P w = .ok .skip (w.setRow (ptrBlock (ev x)) (aggCells (ev y))) := by
  generalize hv : ev x = v at hx
  generalize hu : ev y = u at hy
  unfold ptrFree at hx
  unfold aggOk at hy
  split at hx
  · rename_i b
    split at hy
    · rename_i cs
      obtain ⟨hc, h1⟩ := Bool.and_eq_true_iff.1 hy
      have hc : cs.size = n := by simpa using hc
      unfold rowFree at hx
      split at hx
      · rename_i old t' fr hg
        obtain ⟨ho, hf⟩ := Bool.and_eq_true_iff.1 hx
        have ho : old.size = n := by simpa using ho
        obtain rfl : fr = (0, 0) := by simpa using hf
        have := run_storeVar_row (P := P) w b t' ty old cs hg (by rw [hi, hc]) (by omega) h1
        simp [execOp, hv, hu, Instr.storeAt, Instr.sureAddr, this, Result.andThen, ptrBlock, aggCells]
      · cases hx
    · cases hy
  · cases hx

/-- What a function hands back that lies in memory, beside a slot. -/
theorem results_part2 {fn : Func} {p q : Tmp} {ty : TypeId} (h : fn.results = #[.cell p ty, .tmp q]) (tmps : Array Value) (w : World) (b n : Nat) (d : TypeDesc) (v : Value)
    (hu : P.underlying ty = some d) (hd : (match d with | .struct _ | .array _ _ => true | _ => false) = true) (hi : (P.info? ty).map (·.size) = some n)
    (hp : tmps.getD p undef = .pointer (some ⟨b, 0, none⟩)) (hq : tmps.getD q undef = v) (cs : Array Value) (hc : partOf w b 0 n = cs) (hs : cs.size = n) :
    (results fn tmps).run P w = .ok (.tuple #[.agg cs, v]) w := by
  subst hc
  have hp' : tmps[p]?.getD undef = .pointer (some ⟨b, 0, none⟩) := by simpa using hp
  have hq' : tmps[q]?.getD undef = v := by simpa using hq
  simp [results, h, hp', hq', asAddr, run_loadVar_part w b 0 n ty d hu hd hi hs]
theorem results_part1 {fn : Func} {p : Tmp} {ty : TypeId} (h : fn.results = #[.cell p ty]) (tmps : Array Value) (w : World) (b n : Nat) (d : TypeDesc)
    (hu : P.underlying ty = some d) (hd : (match d with | .struct _ | .array _ _ => true | _ => false) = true) (hi : (P.info? ty).map (·.size) = some n)
    (hp : tmps.getD p undef = .pointer (some ⟨b, 0, none⟩)) (cs : Array Value) (hc : partOf w b 0 n = cs) (hs : cs.size = n) :
    (results fn tmps).run P w = .ok (.agg cs) w := by
  subst hc
  have hp' : tmps[p]?.getD undef = .pointer (some ⟨b, 0, none⟩) := by simpa using hp
  simp [results, h, hp', asAddr, run_loadVar_part w b 0 n ty d hu hd hi hs]
end

/-- A whole value, loaded. -/
def ldRun (P : Program) (ty : TypeId) (w : World) (v : Value) : Result Next := (execOp (fun _ => v) ⟨none, .load ty (.const v), 0, "", #[], none⟩).run P w
/-- .. and stored. -/
def stRun (P : Program) (ty : TypeId) (w : World) (v u : Value) : Result Next := (execOp (fun o => match o with | .tmp 0 => v | _ => u) ⟨none, .store ty (.tmp 0) (.tmp 1), 0, "", #[], none⟩).run P w
theorem exec_load (P : Program) (ev : Operand → Value) (w : World) (dst : Option Tmp) (t : TypeId) (pos : String) (after : Array Edge) (g : Option (Nat × Bool)) (x : Operand) (ty : TypeId) :
    (execOp ev ⟨dst, .load ty x, t, pos, after, g⟩).run P w = ldRun P ty w (ev x) := by simp only [ldRun, execOp]
theorem exec_store (P : Program) (ev : Operand → Value) (w : World) (dst : Option Tmp) (t : TypeId) (pos : String) (after : Array Edge) (g : Option (Nat × Bool)) (x y : Operand) (ty : TypeId) :
    (execOp ev ⟨dst, .store ty x y, t, pos, after, g⟩).run P w = stRun P ty w (ev x) (ev y) := by simp only [stRun, execOp]

/-- Values of one cell each. -/
def oneL : List Value → Bool
  | [] => true
  | v :: r => v.oneCell' && oneL r
theorem oneL_all : ∀ l : List Value, oneL l = true → l.all (·.oneCell') = true
  | [], _ => rfl
  | v :: r, h => by
    rw [oneL, Bool.and_eq_true] at h
    rw [List.all_cons, h.1, oneL_all r h.2]; rfl
theorem oneL_nil : oneL [] = true := rfl
theorem oneL_int (k : IntKind) (n : Int) (r : List Value) : oneL (.int k n :: r) = oneL r := by rw [oneL]; rfl
theorem oneL_bool (b : Bool) (r : List Value) : oneL (.bool b :: r) = oneL r := by rw [oneL]; rfl
theorem oneL_string (b : ByteArray) (r : List Value) : oneL (.string b :: r) = oneL r := by rw [oneL]; rfl
attribute [go_sem] oneL_nil oneL_int oneL_bool oneL_string

/-! ### The rows' own types -/
theorem exec_load_arr (ev : Operand → Value) (w : World) (dst : Option Tmp) (t : TypeId) (pos : String) (after : Array Edge) (g : Option (Nat × Bool)) (x : Operand) : (execOp ev ⟨dst, .load 23 x, t, pos, after, g⟩).run Tryd.prog w = ldRun Tryd.prog 23 w (ev x) := exec_load _ ev w dst t pos after g x _
theorem run_load_arr (w : World) (b off : Nat) (hs : (partOf w b off 16).size = 16) : ldRun Tryd.prog 23 w (.pointer (some ⟨b, off, none⟩)) = .ok (.value (.agg (partOf w b off 16))) w :=
  run_exec_load _ w none 0 "" #[] none _ _ 16 _ Tryd.underlying23 rfl (by kernel_rfl) (by decide) hs
theorem exec_store_arr (ev : Operand → Value) (w : World) (dst : Option Tmp) (t : TypeId) (pos : String) (after : Array Edge) (g : Option (Nat × Bool)) (x y : Operand) : (execOp ev ⟨dst, .store 23 x y, t, pos, after, g⟩).run Tryd.prog w = stRun Tryd.prog 23 w (ev x) (ev y) := exec_store _ ev w dst t pos after g x y _
theorem run_store_arr (w : World) (b : Nat) (cs : Array Value) (hx : rowFree w b 16 = true) (hs : cs.size = 16) (h1 : oneL cs.toList = true) : stRun Tryd.prog 23 w (.pointer (some ⟨b, 0, none⟩)) (.agg cs) = .ok .skip (w.setRow b cs) :=
  run_exec_store _ w none 0 "" #[] none _ _ _ 16 (by kernel_rfl) hx (by show aggOk _ (.agg cs) = true; rw [aggOk_agg, ← Array.all_toList, oneL_all _ h1, hs]; simp)
theorem exec_load_ad (ev : Operand → Value) (w : World) (dst : Option Tmp) (t : TypeId) (pos : String) (after : Array Edge) (g : Option (Nat × Bool)) (x : Operand) : (execOp ev ⟨dst, .load 25 x, t, pos, after, g⟩).run Tryd.prog w = ldRun Tryd.prog 25 w (ev x) := exec_load _ ev w dst t pos after g x _
theorem run_load_ad (w : World) (b off : Nat) (hs : (partOf w b off 17).size = 17) : ldRun Tryd.prog 25 w (.pointer (some ⟨b, off, none⟩)) = .ok (.value (.agg (partOf w b off 17))) w :=
  run_exec_load _ w none 0 "" #[] none _ _ 17 _ Tryd.underlying25 rfl (by kernel_rfl) (by decide) hs
theorem exec_store_ad (ev : Operand → Value) (w : World) (dst : Option Tmp) (t : TypeId) (pos : String) (after : Array Edge) (g : Option (Nat × Bool)) (x y : Operand) : (execOp ev ⟨dst, .store 25 x y, t, pos, after, g⟩).run Tryd.prog w = stRun Tryd.prog 25 w (ev x) (ev y) := exec_store _ ev w dst t pos after g x y _
theorem run_store_ad (w : World) (b : Nat) (cs : Array Value) (hx : rowFree w b 17 = true) (hs : cs.size = 17) (h1 : oneL cs.toList = true) : stRun Tryd.prog 25 w (.pointer (some ⟨b, 0, none⟩)) (.agg cs) = .ok .skip (w.setRow b cs) :=
  run_exec_store _ w none 0 "" #[] none _ _ _ 17 (by kernel_rfl) hx (by show aggOk _ (.agg cs) = true; rw [aggOk_agg, ← Array.all_toList, oneL_all _ h1, hs]; simp)
theorem exec_load_rad (ev : Operand → Value) (w : World) (dst : Option Tmp) (t : TypeId) (pos : String) (after : Array Edge) (g : Option (Nat × Bool)) (x : Operand) : (execOp ev ⟨dst, .load 29 x, t, pos, after, g⟩).run Tryd.prog w = ldRun Tryd.prog 29 w (ev x) := exec_load _ ev w dst t pos after g x _
theorem run_load_rad (w : World) (b off : Nat) (hs : (partOf w b off 17).size = 17) : ldRun Tryd.prog 29 w (.pointer (some ⟨b, off, none⟩)) = .ok (.value (.agg (partOf w b off 17))) w :=
  run_exec_load _ w none 0 "" #[] none _ _ 17 _ Tryd.underlying29 rfl (by kernel_rfl) (by decide) hs
theorem exec_store_rad (ev : Operand → Value) (w : World) (dst : Option Tmp) (t : TypeId) (pos : String) (after : Array Edge) (g : Option (Nat × Bool)) (x y : Operand) : (execOp ev ⟨dst, .store 29 x y, t, pos, after, g⟩).run Tryd.prog w = stRun Tryd.prog 29 w (ev x) (ev y) := exec_store _ ev w dst t pos after g x y _
theorem run_store_rad (w : World) (b : Nat) (cs : Array Value) (hx : rowFree w b 17 = true) (hs : cs.size = 17) (h1 : oneL cs.toList = true) : stRun Tryd.prog 29 w (.pointer (some ⟨b, 0, none⟩)) (.agg cs) = .ok .skip (w.setRow b cs) :=
  run_exec_store _ w none 0 "" #[] none _ _ _ 17 (by kernel_rfl) hx (by show aggOk _ (.agg cs) = true; rw [aggOk_agg, ← Array.all_toList, oneL_all _ h1, hs]; simp)
theorem exec_load_pf (ev : Operand → Value) (w : World) (dst : Option Tmp) (t : TypeId) (pos : String) (after : Array Edge) (g : Option (Nat × Bool)) (x : Operand) : (execOp ev ⟨dst, .load 33 x, t, pos, after, g⟩).run Tryd.prog w = ldRun Tryd.prog 33 w (ev x) := exec_load _ ev w dst t pos after g x _
theorem run_load_pf (w : World) (b off : Nat) (hs : (partOf w b off 18).size = 18) : ldRun Tryd.prog 33 w (.pointer (some ⟨b, off, none⟩)) = .ok (.value (.agg (partOf w b off 18))) w :=
  run_exec_load _ w none 0 "" #[] none _ _ 18 _ Tryd.underlying33 rfl (by kernel_rfl) (by decide) hs
theorem exec_store_pf (ev : Operand → Value) (w : World) (dst : Option Tmp) (t : TypeId) (pos : String) (after : Array Edge) (g : Option (Nat × Bool)) (x y : Operand) : (execOp ev ⟨dst, .store 33 x y, t, pos, after, g⟩).run Tryd.prog w = stRun Tryd.prog 33 w (ev x) (ev y) := exec_store _ ev w dst t pos after g x y _
theorem run_store_pf (w : World) (b : Nat) (cs : Array Value) (hx : rowFree w b 18 = true) (hs : cs.size = 18) (h1 : oneL cs.toList = true) : stRun Tryd.prog 33 w (.pointer (some ⟨b, 0, none⟩)) (.agg cs) = .ok .skip (w.setRow b cs) :=
  run_exec_store _ w none 0 "" #[] none _ _ _ 18 (by kernel_rfl) hx (by show aggOk _ (.agg cs) = true; rw [aggOk_agg, ← Array.all_toList, oneL_all _ h1, hs]; simp)
theorem exec_load_rpf (ev : Operand → Value) (w : World) (dst : Option Tmp) (t : TypeId) (pos : String) (after : Array Edge) (g : Option (Nat × Bool)) (x : Operand) : (execOp ev ⟨dst, .load 37 x, t, pos, after, g⟩).run Tryd.prog w = ldRun Tryd.prog 37 w (ev x) := exec_load _ ev w dst t pos after g x _
theorem run_load_rpf (w : World) (b off : Nat) (hs : (partOf w b off 18).size = 18) : ldRun Tryd.prog 37 w (.pointer (some ⟨b, off, none⟩)) = .ok (.value (.agg (partOf w b off 18))) w :=
  run_exec_load _ w none 0 "" #[] none _ _ 18 _ Tryd.underlying37 rfl (by kernel_rfl) (by decide) hs
theorem exec_store_rpf (ev : Operand → Value) (w : World) (dst : Option Tmp) (t : TypeId) (pos : String) (after : Array Edge) (g : Option (Nat × Bool)) (x y : Operand) : (execOp ev ⟨dst, .store 37 x y, t, pos, after, g⟩).run Tryd.prog w = stRun Tryd.prog 37 w (ev x) (ev y) := exec_store _ ev w dst t pos after g x y _
theorem run_store_rpf (w : World) (b : Nat) (cs : Array Value) (hx : rowFree w b 18 = true) (hs : cs.size = 18) (h1 : oneL cs.toList = true) : stRun Tryd.prog 37 w (.pointer (some ⟨b, 0, none⟩)) (.agg cs) = .ok .skip (w.setRow b cs) :=
  run_exec_store _ w none 0 "" #[] none _ _ _ 18 (by kernel_rfl) hx (by show aggOk _ (.agg cs) = true; rw [aggOk_agg, ← Array.all_toList, oneL_all _ h1, hs]; simp)
attribute [go_sem ↓] exec_load_arr exec_store_arr exec_load_ad exec_store_ad exec_load_rad exec_store_rad exec_load_pf exec_store_pf exec_load_rpf exec_store_rpf
attribute [go_sem] run_load_arr run_store_arr run_load_ad run_store_ad run_load_rad run_store_rad run_load_pf run_store_pf run_load_rpf run_store_rpf
end Go.Proofs.YtcadpcppnllhnaaDoor
