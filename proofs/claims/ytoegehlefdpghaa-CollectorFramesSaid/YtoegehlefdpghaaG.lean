/- Walk over the numbers of a datagram. -/
import Derived.Test.YtoegehlefdpghaaF
set_option linter.unusedSimpArgs false
set_option linter.unusedVariables false
namespace Go.Proofs.Ytoegehlefdpghaa
open Go.RowKit

theorem numAt_one (l : List Int) (h : 0 < l.length) : numAt l 0 1 = l.getD 0 0 := by
  have := numAt_snoc l 0 0 (by omega)
  simpa [numAt, numOf] using this

theorem ix0 (a b c : Int) (w : World) : (Instr.index 74 (.agg #[.int .i64 a, .int .i64 b, .int .i64 c]) (.int .i64 0)).run Try.prog w = .ok (.int .i64 a) w := by kernel_rfl
theorem ix1 (a b c : Int) (w : World) : (Instr.index 74 (.agg #[.int .i64 a, .int .i64 b, .int .i64 c]) (.int .i64 1)).run Try.prog w = .ok (.int .i64 b) w := by kernel_rfl
theorem ix2 (a b c : Int) (w : World) : (Instr.index 74 (.agg #[.int .i64 a, .int .i64 b, .int .i64 c]) (.int .i64 2)).run Try.prog w = .ok (.int .i64 c) w := by kernel_rfl

/-- How the walk over the numbers stands. -/
structure NumsSt (W w : World) (p : Nat) (l : List Int) (i : Nat) (s0 s1 s2 x y z : Int) : Prop where
  rd : Rd w (W.heap.size + 2) p l i
  lo : W.heap.size + 2 ≤ p
  b0 : w.cell? ⟨W.heap.size, 0, none⟩ = some (.int .i64 s0)
  b1 : w.cell? ⟨W.heap.size, 1, none⟩ = some (.int .i64 s1)
  b2 : w.cell? ⟨W.heap.size, 2, none⟩ = some (.int .i64 s2)
  c0 : w.cell? ⟨W.heap.size + 1, 0, none⟩ = some (.int .u64 x)
  c1 : w.cell? ⟨W.heap.size + 1, 1, none⟩ = some (.int .u64 y)
  c2 : w.cell? ⟨W.heap.size + 1, 2, none⟩ = some (.int .u64 z)
  fz : ∀ j, w.frozen? ⟨W.heap.size + 1, j, none⟩ = false
  out : Below W.heap.size W w

theorem NumsSt.go {W w w' : World} {p : Nat} {l : List Int} {i i' : Nat} {s0 s1 s2 x y z : Int} (h : NumsSt W w p l i s0 s1 s2 x y z) (hr : Rd w' (W.heap.size + 2) p l i') (hb : Below p w w') : NumsSt W w' p l i' s0 s1 s2 x y z := by
  have hlo := h.lo
  have e : ∀ b o, b < p → w'.cell? ⟨b, o, none⟩ = w.cell? ⟨b, o, none⟩ := fun b o hlt => hb.cell (p := ⟨b, o, none⟩) hlt
  exact ⟨hr, h.lo, (e _ _ (by omega)).trans h.b0, (e _ _ (by omega)).trans h.b1, (e _ _ (by omega)).trans h.b2, (e _ _ (by omega)).trans h.c0, (e _ _ (by omega)).trans h.c1, (e _ _ (by omega)).trans h.c2,
    fun j => (hb.frozen (p := ⟨_, j, none⟩) (by show W.heap.size + 1 < p; omega)).trans (h.fz j), h.out.trans (hb.mono (by omega))⟩
theorem NumsSt.start {W w1 : World} {p : Nat} {l : List Int} (s0 s1 s2 : Int)
    (hp : ((W.alloc (.cells #[.int .i64 s0, .int .i64 s1, .int .i64 s2] 74)).alloc (.cells #[.int .u64 0, .int .u64 0, .int .u64 0] 71)).heap.size ≤ p)
    (hr : Rd w1 ((W.alloc (.cells #[.int .i64 s0, .int .i64 s1, .int .i64 s2] 74)).alloc (.cells #[.int .u64 0, .int .u64 0, .int .u64 0] 71)).heap.size p l 0)
    (hb : Below ((W.alloc (.cells #[.int .i64 s0, .int .i64 s1, .int .i64 s2] 74)).alloc (.cells #[.int .u64 0, .int .u64 0, .int .u64 0] 71)).heap.size ((W.alloc (.cells #[.int .i64 s0, .int .i64 s1, .int .i64 s2] 74)).alloc (.cells #[.int .u64 0, .int .u64 0, .int .u64 0] 71)) w1) :
    NumsSt W w1 p l 0 s0 s1 s2 0 0 0 := by
  have hsz : ((W.alloc (.cells #[.int .i64 s0, .int .i64 s1, .int .i64 s2] 74)).alloc (.cells #[.int .u64 0, .int .u64 0, .int .u64 0] 71)).heap.size = W.heap.size + 2 := by simp
  rw [hsz] at hp hr
  have hlt : W.heap.size + 1 < ((W.alloc (.cells #[.int .i64 s0, .int .i64 s1, .int .i64 s2] 74)).alloc (.cells #[.int .u64 0, .int .u64 0, .int .u64 0] 71)).heap.size := by rw [hsz]; omega
  have hlt0 : W.heap.size < ((W.alloc (.cells #[.int .i64 s0, .int .i64 s1, .int .i64 s2] 74)).alloc (.cells #[.int .u64 0, .int .u64 0, .int .u64 0] 71)).heap.size := by rw [hsz]; omega
  refine ⟨hr, hp, (hb.cell (p := ⟨_, _, none⟩) hlt0).trans (by go_cell), (hb.cell (p := ⟨_, _, none⟩) hlt0).trans (by go_cell), (hb.cell (p := ⟨_, _, none⟩) hlt0).trans (by go_cell), (hb.cell (p := ⟨_, _, none⟩) hlt).trans (by go_cell), (hb.cell (p := ⟨_, _, none⟩) hlt).trans (by go_cell), (hb.cell (p := ⟨_, _, none⟩) hlt).trans (by go_cell),
    fun j => (hb.frozen (p := ⟨_, _, none⟩) hlt).trans (by go_cell), ?_⟩
  exact (((Below.refl _ _).alloc (Nat.le_refl _) _).alloc (by simp) _).trans (hb.mono (by rw [hsz]; omega))
theorem NumsSt.set {W w : World} {p : Nat} {l : List Int} {i : Nat} {s0 s1 s2 x y z x' y' z' : Int} (h : NumsSt W w p l i s0 s1 s2 x y z) (k : Nat) (v : Int)
    (hx : x' = if k = 0 then v else x) (hy : y' = if k = 1 then v else y) (hz : z' = if k = 2 then v else z) : NumsSt W (w.setCell ⟨W.heap.size + 1, k, none⟩ (.int .u64 v)) p l i s0 s1 s2 x' y' z' := by
  have hlo := h.lo
  have e : ∀ o, (w.setCell ⟨W.heap.size + 1, k, none⟩ (.int .u64 v)).cell? ⟨W.heap.size, o, none⟩ = w.cell? ⟨W.heap.size, o, none⟩ := fun o => World.cell?_setCell_other _ _ _ _ (by simp)
  have f : ∀ j u, w.cell? ⟨W.heap.size + 1, j, none⟩ = some (.int .u64 u) → (w.setCell ⟨W.heap.size + 1, k, none⟩ (.int .u64 v)).cell? ⟨W.heap.size + 1, j, none⟩ = some (.int .u64 (if k = j then v else u)) := fun j u hj => by
    by_cases hkj : k = j
    · subst hkj; rw [if_pos rfl]; exact World.cell?_setCell_same _ _ _ hj
    · rw [if_neg hkj, World.cell?_setCell_other _ _ _ _ (by simp only [ne_eq, Addr.mk.injEq, not_and]; omega)]; exact hj
  subst hx hy hz
  exact ⟨h.rd.other (by simp only; omega) (by omega) _, h.lo, (e _).trans h.b0, (e _).trans h.b1, (e _).trans h.b2, f _ _ h.c0, f _ _ h.c1, f _ _ h.c2, fun j => by rw [World.frozen?_setCell]; exact h.fz j, h.out.setCell (by simp only; omega) _⟩

def NumsNo (w : World) : Ending → World → Prop := fun e w' => ∃ a b c : Int, e = .returned (.tuple #[.agg #[.int .u64 a, .int .u64 b, .int .u64 c], .bool false]) ∧ Below w.heap.size w w'

set_option maxHeartbeats 4000000 in
theorem numbers_ok (oa : Option Addr) (n cap : Nat) (l : List Int) (kind : Int) (a b c : Nat) (w : World) (hr : Reads w oa n cap l) (hn : n ≤ 1000000) (ha : 1 ≤ a ∧ a ≤ 8) (hb : 1 ≤ b ∧ b ≤ 8) (hc : 1 ≤ c ∧ c ≤ 8)
    (hlen : 1 + a + b + c ≤ n) (hk : l.getD 0 0 = kind) :
    Calls Try.prog 29 #[.slice oa n cap, .int .u64 kind, .agg #[.int .i64 (a : Int), .int .i64 (b : Int), .int .i64 (c : Int)]] w
      (RetAt w (.tuple #[.agg #[.int .u64 (numAt l 1 a), .int .u64 (numAt l (1 + a) b), .int .u64 (numAt l (1 + a + b) c)], .bool true])) := by
  have HR := Lib.hid hr
  have HL := hr.len
  have HLEN := Lib.hid HL
  have i0 := ix0 a b c
  have i1 := ix1 a b c
  have i2 := ix2 a b c
  have hk1 : numAt l 0 1 = kind := by rw [numAt_one l (by omega), hk]
  clear hk hr HL
  go_enter Try.func29, Try.ntmps29
  go_wp2_with fail
  refine Calls.mono (read_any oa n cap l _ ((HR.out.alloc _).alloc _) hn) ?_
  rintro e w1 ⟨p, rfl, hp, hrd, hb1⟩
  have ST := Lib.hid (NumsSt.start (a : Int) (b : Int) (c : Int) hp hrd hb1)
  clear hp hrd hb1
  go_wp2_with fail
  refine Calls.mono (next_ok _ p l (0) 1 _ ST.out.rd (by omega) (by omega) (by have := HLEN.out; omega) (by have := HLEN.out; omega)) ?_
  rintro e w2 ⟨rfl, hr2, hbb2⟩
  have st2 := ST.out.go hr2 hbb2
  clear hr2 hbb2 ST
  rw [hk1]
  have HK := Lib.hid hk1
  clear hk1
  have x0 := st2.b0
  have x1 := st2.b1
  have x2 := st2.b2
  have y0 := st2.c0
  have y1 := st2.c1
  have y2 := st2.c2
  have yf := st2.fz
  have lo := st2.lo
  have lp := st2.rd.lt
  have hlo : w.heap.size < w2.heap.size := by omega
  have hlo1 : w.heap.size + 1 < w2.heap.size := by omega
  have ST := Lib.hid st2
  clear st2 lo lp
  go_wp2_with fail
  clear x0 x1 x2 y0 y1 y2 yf hlo hlo1
  refine wp_loop_rounds 4 ?_
  rw [rounds_succ]
  go_wp2_with fail
  refine Calls.mono (next_ok _ p l (0 + 1) a _ ST.out.rd (by omega) (by omega) (by have := HLEN.out; omega) (by have := HLEN.out; omega)) ?_
  rintro e w3 ⟨rfl, hr3, hbb3⟩
  have st3 := ST.out.go hr3 hbb3
  clear hr3 hbb3 ST
  have y0 := st3.c0
  have y1 := st3.c1
  have y2 := st3.c2
  have yf := st3.fz
  have lo := st3.lo
  have lp := st3.rd.lt
  have hlo : w.heap.size < w3.heap.size := by omega
  have hlo1 : w.heap.size + 1 < w3.heap.size := by omega
  have ST := Lib.hid st3
  clear st3 lo lp
  go_wp2_with fail
  have ST2 := Lib.hid (ST.out.set 0 (numAt l (0 + 1) a) (x' := numAt l (0 + 1) a) (y' := 0) (z' := 0) rfl rfl rfl)
  clear ST
  have ST := ST2
  clear ST2
  rw [rounds_succ]
  go_wp2_with fail
  refine Calls.mono (next_ok _ p l (0 + 1 + a) b _ ST.out.rd (by omega) (by omega) (by have := HLEN.out; omega) (by have := HLEN.out; omega)) ?_
  rintro e w4 ⟨rfl, hr4, hbb4⟩
  have st4 := ST.out.go hr4 hbb4
  clear hr4 hbb4 ST
  try clear y0 y1 y2 yf hlo hlo1
  have y0 := st4.c0
  have y1 := st4.c1
  have y2 := st4.c2
  have yf := st4.fz
  have lo := st4.lo
  have lp := st4.rd.lt
  have hlo : w.heap.size < w4.heap.size := by omega
  have hlo1 : w.heap.size + 1 < w4.heap.size := by omega
  have ST := Lib.hid st4
  clear st4 lo lp
  go_wp2_with fail
  have ST2 := Lib.hid (ST.out.set 1 (numAt l (0 + 1 + a) b) (x' := numAt l (0 + 1) a) (y' := numAt l (0 + 1 + a) b) (z' := 0) rfl rfl rfl)
  clear ST
  have ST := ST2
  clear ST2
  rw [rounds_succ]
  go_wp2_with fail
  refine Calls.mono (next_ok _ p l (0 + 1 + a + b) c _ ST.out.rd (by omega) (by omega) (by have := HLEN.out; omega) (by have := HLEN.out; omega)) ?_
  rintro e w5 ⟨rfl, hr5, hbb5⟩
  have st5 := ST.out.go hr5 hbb5
  clear hr5 hbb5 ST
  try clear y0 y1 y2 yf hlo hlo1
  have y0 := st5.c0
  have y1 := st5.c1
  have y2 := st5.c2
  have yf := st5.fz
  have lo := st5.lo
  have lp := st5.rd.lt
  have hlo : w.heap.size < w5.heap.size := by omega
  have hlo1 : w.heap.size + 1 < w5.heap.size := by omega
  have ST := Lib.hid st5
  clear st5 lo lp
  go_wp2_with fail
  have ST2 := Lib.hid (ST.out.set 2 (numAt l (0 + 1 + a + b) c) (x' := numAt l (0 + 1) a) (y' := numAt l (0 + 1 + a) b) (z' := numAt l (0 + 1 + a + b) c) rfl rfl rfl)
  clear ST
  have ST := ST2
  clear ST2
  rw [rounds_succ]
  go_wp2_with fail
  refine bodyPost_ret (v := .tuple #[.agg #[.int .u64 (numAt l (1) a), .int .u64 (numAt l (1 + a) b), .int .u64 (numAt l (1 + a + b) c)], .bool true]) (by simp [results, Try.results29, go_sem, y0, y1, y2]) rfl ⟨rfl, ?_⟩
  exact ((ST.out.out.setCell (by simp) _).setCell (by simp) _).setCell (by simp) _

set_option maxHeartbeats 4000000 in
theorem numbers_empty (oa : Option Addr) (n cap : Nat) (l : List Int) (kind : Int) (a b c : Nat) (w : World) (hr : Reads w oa n cap l) (hn : n ≤ 1000000) (ha : 1 ≤ a ∧ a ≤ 8) (hb : 1 ≤ b ∧ b ≤ 8) (hc : 1 ≤ c ∧ c ≤ 8) (h0 : n = 0) :
    Calls Try.prog 29 #[.slice oa n cap, .int .u64 kind, .agg #[.int .i64 (a : Int), .int .i64 (b : Int), .int .i64 (c : Int)]] w (NumsNo w) := by
  have HR := Lib.hid hr
  have HL := hr.len
  have HLEN := Lib.hid HL
  have i0 := ix0 a b c
  have i1 := ix1 a b c
  have i2 := ix2 a b c
  clear hr HL
  have H0 := Lib.hid h0
  clear h0
  go_enter Try.func29, Try.ntmps29
  go_wp2_with fail
  refine Calls.mono (read_any oa n cap l _ ((HR.out.alloc _).alloc _) hn) ?_
  rintro e w1 ⟨p, rfl, hp, hrd, hb1⟩
  have ST := Lib.hid (NumsSt.start (a : Int) (b : Int) (c : Int) hp hrd hb1)
  clear hp hrd hb1
  go_wp2_with fail
  refine Calls.mono (next_short _ p l (0) 1 _ ST.out.rd (by omega) (by omega) (by have := HLEN.out; have := H0.out; omega) (by have := HLEN.out; have := H0.out; omega) (by have := HLEN.out; have := H0.out; omega)) ?_
  rintro e w2 ⟨rfl, hr2, hbb2⟩
  have st2 := ST.out.go hr2 hbb2
  clear hr2 hbb2 ST
  have y0 := st2.c0
  have y1 := st2.c1
  have y2 := st2.c2
  have yf := st2.fz
  have lo := st2.lo
  have lp := st2.rd.lt
  have hlo : w.heap.size < w2.heap.size := by omega
  have hlo1 : w.heap.size + 1 < w2.heap.size := by omega
  have ST := Lib.hid st2
  clear st2 lo lp
  go_wp2_with fail
  refine bodyPost_ret (v := .tuple #[.agg #[.int .u64 (0), .int .u64 (0), .int .u64 (0)], .bool false]) (by simp [results, Try.results29, go_sem, y0, y1, y2]) rfl ⟨_, _, _, rfl, ?_⟩
  exact (ST.out.out.setCell (by simp) _).setCell (by simp) _ |>.setCell (by simp) _

set_option maxHeartbeats 4000000 in
theorem numbers_kind (oa : Option Addr) (n cap : Nat) (l : List Int) (kind : Int) (a b c : Nat) (w : World) (hr : Reads w oa n cap l) (hn : n ≤ 1000000) (ha : 1 ≤ a ∧ a ≤ 8) (hb : 1 ≤ b ∧ b ≤ 8) (hc : 1 ≤ c ∧ c ≤ 8) (h0 : 1 ≤ n) (hk : l.getD 0 0 ≠ kind) :
    Calls Try.prog 29 #[.slice oa n cap, .int .u64 kind, .agg #[.int .i64 (a : Int), .int .i64 (b : Int), .int .i64 (c : Int)]] w (NumsNo w) := by
  have HR := Lib.hid hr
  have HL := hr.len
  have HLEN := Lib.hid HL
  have i0 := ix0 a b c
  have i1 := ix1 a b c
  have i2 := ix2 a b c
  have hk1 : (numAt l 0 1 == kind) = false := by rw [numAt_one l (by omega)]; simpa using hk
  have hk2 : (numAt l 0 1 != kind) = true := by rw [numAt_one l (by omega)]; simpa using hk
  clear hk hr HL
  go_enter Try.func29, Try.ntmps29
  go_wp2_with fail
  refine Calls.mono (read_any oa n cap l _ ((HR.out.alloc _).alloc _) hn) ?_
  rintro e w1 ⟨p, rfl, hp, hrd, hb1⟩
  have ST := Lib.hid (NumsSt.start (a : Int) (b : Int) (c : Int) hp hrd hb1)
  clear hp hrd hb1
  go_wp2_with fail
  refine Calls.mono (next_ok _ p l (0) 1 _ ST.out.rd (by omega) (by omega) (by have := HLEN.out; omega) (by have := HLEN.out; omega)) ?_
  rintro e w2 ⟨rfl, hr2, hbb2⟩
  have st2 := ST.out.go hr2 hbb2
  clear hr2 hbb2 ST
  have y0 := st2.c0
  have y1 := st2.c1
  have y2 := st2.c2
  have yf := st2.fz
  have lo := st2.lo
  have lp := st2.rd.lt
  have hlo : w.heap.size < w2.heap.size := by omega
  have hlo1 : w.heap.size + 1 < w2.heap.size := by omega
  have ST := Lib.hid st2
  clear st2 lo lp
  go_wp2_with fail
  refine bodyPost_ret (v := .tuple #[.agg #[.int .u64 (0), .int .u64 (0), .int .u64 (0)], .bool false]) (by simp [results, Try.results29, go_sem, y0, y1, y2]) rfl ⟨_, _, _, rfl, ?_⟩
  exact ((ST.out.out.setCell (by simp) _).setCell (by simp) _).setCell (by simp) _

set_option maxHeartbeats 4000000 in
theorem numbers_short0 (oa : Option Addr) (n cap : Nat) (l : List Int) (kind : Int) (a b c : Nat) (w : World) (hr : Reads w oa n cap l) (hn : n ≤ 1000000) (ha : 1 ≤ a ∧ a ≤ 8) (hb : 1 ≤ b ∧ b ≤ 8) (hc : 1 ≤ c ∧ c ≤ 8) (hlo : 1 ≤ n) (hhi : n < 1 + a) (hk : l.getD 0 0 = kind) :
    Calls Try.prog 29 #[.slice oa n cap, .int .u64 kind, .agg #[.int .i64 (a : Int), .int .i64 (b : Int), .int .i64 (c : Int)]] w (NumsNo w) := by
  have HR := Lib.hid hr
  have HL := hr.len
  have HLEN := Lib.hid HL
  have i0 := ix0 a b c
  have i1 := ix1 a b c
  have i2 := ix2 a b c
  have hk1 : numAt l 0 1 = kind := by rw [numAt_one l (by omega), hk]
  clear hk hr HL
  go_enter Try.func29, Try.ntmps29
  go_wp2_with fail
  refine Calls.mono (read_any oa n cap l _ ((HR.out.alloc _).alloc _) hn) ?_
  rintro e w1 ⟨p, rfl, hp, hrd, hb1⟩
  have ST := Lib.hid (NumsSt.start (a : Int) (b : Int) (c : Int) hp hrd hb1)
  clear hp hrd hb1
  go_wp2_with fail
  refine Calls.mono (next_ok _ p l (0) 1 _ ST.out.rd (by omega) (by omega) (by have := HLEN.out; omega) (by have := HLEN.out; omega)) ?_
  rintro e w2 ⟨rfl, hr2, hbb2⟩
  have st2 := ST.out.go hr2 hbb2
  clear hr2 hbb2 ST
  rw [hk1]
  have HK := Lib.hid hk1
  clear hk1
  have x0 := st2.b0
  have x1 := st2.b1
  have x2 := st2.b2
  have y0 := st2.c0
  have y1 := st2.c1
  have y2 := st2.c2
  have yf := st2.fz
  have lo := st2.lo
  have lp := st2.rd.lt
  have hlo : w.heap.size < w2.heap.size := by omega
  have hlo1 : w.heap.size + 1 < w2.heap.size := by omega
  have ST := Lib.hid st2
  clear st2 lo lp
  go_wp2_with fail
  clear x0 x1 x2 y0 y1 y2 yf hlo hlo1
  refine wp_loop_rounds 4 ?_
  rw [rounds_succ]
  go_wp2_with fail
  refine Calls.mono (next_short _ p l (0 + 1) a _ ST.out.rd (by omega) (by omega) (by have := HLEN.out; omega) (by have := HLEN.out; omega) (by have := HLEN.out; omega)) ?_
  rintro e w3 ⟨rfl, hr3, hbb3⟩
  have st3 := ST.out.go hr3 hbb3
  clear hr3 hbb3 ST
  have y0 := st3.c0
  have y1 := st3.c1
  have y2 := st3.c2
  have yf := st3.fz
  have lo := st3.lo
  have lp := st3.rd.lt
  have hlo : w.heap.size < w3.heap.size := by omega
  have hlo1 : w.heap.size + 1 < w3.heap.size := by omega
  have ST := Lib.hid st3
  clear st3 lo lp
  go_wp2_with fail
  refine bodyPost_ret (v := .tuple #[.agg #[.int .u64 (0), .int .u64 (0), .int .u64 (0)], .bool false]) (by simp [results, Try.results29, go_sem, y0, y1, y2]) rfl ⟨_, _, _, rfl, ?_⟩
  exact ((ST.out.out.setCell (by simp) _).setCell (by simp) _).setCell (by simp) _

set_option maxHeartbeats 4000000 in
theorem numbers_short1 (oa : Option Addr) (n cap : Nat) (l : List Int) (kind : Int) (a b c : Nat) (w : World) (hr : Reads w oa n cap l) (hn : n ≤ 1000000) (ha : 1 ≤ a ∧ a ≤ 8) (hb : 1 ≤ b ∧ b ≤ 8) (hc : 1 ≤ c ∧ c ≤ 8) (hlo : 1 + a ≤ n) (hhi : n < 1 + a + b) (hk : l.getD 0 0 = kind) :
    Calls Try.prog 29 #[.slice oa n cap, .int .u64 kind, .agg #[.int .i64 (a : Int), .int .i64 (b : Int), .int .i64 (c : Int)]] w (NumsNo w) := by
  have HR := Lib.hid hr
  have HL := hr.len
  have HLEN := Lib.hid HL
  have i0 := ix0 a b c
  have i1 := ix1 a b c
  have i2 := ix2 a b c
  have hk1 : numAt l 0 1 = kind := by rw [numAt_one l (by omega), hk]
  clear hk hr HL
  go_enter Try.func29, Try.ntmps29
  go_wp2_with fail
  refine Calls.mono (read_any oa n cap l _ ((HR.out.alloc _).alloc _) hn) ?_
  rintro e w1 ⟨p, rfl, hp, hrd, hb1⟩
  have ST := Lib.hid (NumsSt.start (a : Int) (b : Int) (c : Int) hp hrd hb1)
  clear hp hrd hb1
  go_wp2_with fail
  refine Calls.mono (next_ok _ p l (0) 1 _ ST.out.rd (by omega) (by omega) (by have := HLEN.out; omega) (by have := HLEN.out; omega)) ?_
  rintro e w2 ⟨rfl, hr2, hbb2⟩
  have st2 := ST.out.go hr2 hbb2
  clear hr2 hbb2 ST
  rw [hk1]
  have HK := Lib.hid hk1
  clear hk1
  have x0 := st2.b0
  have x1 := st2.b1
  have x2 := st2.b2
  have y0 := st2.c0
  have y1 := st2.c1
  have y2 := st2.c2
  have yf := st2.fz
  have lo := st2.lo
  have lp := st2.rd.lt
  have hlo : w.heap.size < w2.heap.size := by omega
  have hlo1 : w.heap.size + 1 < w2.heap.size := by omega
  have ST := Lib.hid st2
  clear st2 lo lp
  go_wp2_with fail
  clear x0 x1 x2 y0 y1 y2 yf hlo hlo1
  refine wp_loop_rounds 4 ?_
  rw [rounds_succ]
  go_wp2_with fail
  refine Calls.mono (next_ok _ p l (0 + 1) a _ ST.out.rd (by omega) (by omega) (by have := HLEN.out; omega) (by have := HLEN.out; omega)) ?_
  rintro e w3 ⟨rfl, hr3, hbb3⟩
  have st3 := ST.out.go hr3 hbb3
  clear hr3 hbb3 ST
  have y0 := st3.c0
  have y1 := st3.c1
  have y2 := st3.c2
  have yf := st3.fz
  have lo := st3.lo
  have lp := st3.rd.lt
  have hlo : w.heap.size < w3.heap.size := by omega
  have hlo1 : w.heap.size + 1 < w3.heap.size := by omega
  have ST := Lib.hid st3
  clear st3 lo lp
  go_wp2_with fail
  have ST2 := Lib.hid (ST.out.set 0 (numAt l (0 + 1) a) (x' := numAt l (0 + 1) a) (y' := 0) (z' := 0) rfl rfl rfl)
  clear ST
  have ST := ST2
  clear ST2
  rw [rounds_succ]
  go_wp2_with fail
  refine Calls.mono (next_short _ p l (0 + 1 + a) b _ ST.out.rd (by omega) (by omega) (by have := HLEN.out; omega) (by have := HLEN.out; omega) (by have := HLEN.out; omega)) ?_
  rintro e w4 ⟨rfl, hr4, hbb4⟩
  have st4 := ST.out.go hr4 hbb4
  clear hr4 hbb4 ST
  try clear y0 y1 y2 yf hlo hlo1
  have y0 := st4.c0
  have y1 := st4.c1
  have y2 := st4.c2
  have yf := st4.fz
  have lo := st4.lo
  have lp := st4.rd.lt
  have hlo : w.heap.size < w4.heap.size := by omega
  have hlo1 : w.heap.size + 1 < w4.heap.size := by omega
  have ST := Lib.hid st4
  clear st4 lo lp
  go_wp2_with fail
  refine bodyPost_ret (v := .tuple #[.agg #[.int .u64 (numAt l (1) a), .int .u64 (0), .int .u64 (0)], .bool false]) (by simp [results, Try.results29, go_sem, y0, y1, y2]) rfl ⟨_, _, _, rfl, ?_⟩
  exact ((ST.out.out.setCell (by simp) _).setCell (by simp) _).setCell (by simp) _

set_option maxHeartbeats 4000000 in
theorem numbers_short2 (oa : Option Addr) (n cap : Nat) (l : List Int) (kind : Int) (a b c : Nat) (w : World) (hr : Reads w oa n cap l) (hn : n ≤ 1000000) (ha : 1 ≤ a ∧ a ≤ 8) (hb : 1 ≤ b ∧ b ≤ 8) (hc : 1 ≤ c ∧ c ≤ 8) (hlo : 1 + a + b ≤ n) (hhi : n < 1 + a + b + c) (hk : l.getD 0 0 = kind) :
    Calls Try.prog 29 #[.slice oa n cap, .int .u64 kind, .agg #[.int .i64 (a : Int), .int .i64 (b : Int), .int .i64 (c : Int)]] w (NumsNo w) := by
  have HR := Lib.hid hr
  have HL := hr.len
  have HLEN := Lib.hid HL
  have i0 := ix0 a b c
  have i1 := ix1 a b c
  have i2 := ix2 a b c
  have hk1 : numAt l 0 1 = kind := by rw [numAt_one l (by omega), hk]
  clear hk hr HL
  go_enter Try.func29, Try.ntmps29
  go_wp2_with fail
  refine Calls.mono (read_any oa n cap l _ ((HR.out.alloc _).alloc _) hn) ?_
  rintro e w1 ⟨p, rfl, hp, hrd, hb1⟩
  have ST := Lib.hid (NumsSt.start (a : Int) (b : Int) (c : Int) hp hrd hb1)
  clear hp hrd hb1
  go_wp2_with fail
  refine Calls.mono (next_ok _ p l (0) 1 _ ST.out.rd (by omega) (by omega) (by have := HLEN.out; omega) (by have := HLEN.out; omega)) ?_
  rintro e w2 ⟨rfl, hr2, hbb2⟩
  have st2 := ST.out.go hr2 hbb2
  clear hr2 hbb2 ST
  rw [hk1]
  have HK := Lib.hid hk1
  clear hk1
  have x0 := st2.b0
  have x1 := st2.b1
  have x2 := st2.b2
  have y0 := st2.c0
  have y1 := st2.c1
  have y2 := st2.c2
  have yf := st2.fz
  have lo := st2.lo
  have lp := st2.rd.lt
  have hlo : w.heap.size < w2.heap.size := by omega
  have hlo1 : w.heap.size + 1 < w2.heap.size := by omega
  have ST := Lib.hid st2
  clear st2 lo lp
  go_wp2_with fail
  clear x0 x1 x2 y0 y1 y2 yf hlo hlo1
  refine wp_loop_rounds 4 ?_
  rw [rounds_succ]
  go_wp2_with fail
  refine Calls.mono (next_ok _ p l (0 + 1) a _ ST.out.rd (by omega) (by omega) (by have := HLEN.out; omega) (by have := HLEN.out; omega)) ?_
  rintro e w3 ⟨rfl, hr3, hbb3⟩
  have st3 := ST.out.go hr3 hbb3
  clear hr3 hbb3 ST
  have y0 := st3.c0
  have y1 := st3.c1
  have y2 := st3.c2
  have yf := st3.fz
  have lo := st3.lo
  have lp := st3.rd.lt
  have hlo : w.heap.size < w3.heap.size := by omega
  have hlo1 : w.heap.size + 1 < w3.heap.size := by omega
  have ST := Lib.hid st3
  clear st3 lo lp
  go_wp2_with fail
  have ST2 := Lib.hid (ST.out.set 0 (numAt l (0 + 1) a) (x' := numAt l (0 + 1) a) (y' := 0) (z' := 0) rfl rfl rfl)
  clear ST
  have ST := ST2
  clear ST2
  rw [rounds_succ]
  go_wp2_with fail
  refine Calls.mono (next_ok _ p l (0 + 1 + a) b _ ST.out.rd (by omega) (by omega) (by have := HLEN.out; omega) (by have := HLEN.out; omega)) ?_
  rintro e w4 ⟨rfl, hr4, hbb4⟩
  have st4 := ST.out.go hr4 hbb4
  clear hr4 hbb4 ST
  try clear y0 y1 y2 yf hlo hlo1
  have y0 := st4.c0
  have y1 := st4.c1
  have y2 := st4.c2
  have yf := st4.fz
  have lo := st4.lo
  have lp := st4.rd.lt
  have hlo : w.heap.size < w4.heap.size := by omega
  have hlo1 : w.heap.size + 1 < w4.heap.size := by omega
  have ST := Lib.hid st4
  clear st4 lo lp
  go_wp2_with fail
  have ST2 := Lib.hid (ST.out.set 1 (numAt l (0 + 1 + a) b) (x' := numAt l (0 + 1) a) (y' := numAt l (0 + 1 + a) b) (z' := 0) rfl rfl rfl)
  clear ST
  have ST := ST2
  clear ST2
  rw [rounds_succ]
  go_wp2_with fail
  refine Calls.mono (next_short _ p l (0 + 1 + a + b) c _ ST.out.rd (by omega) (by omega) (by have := HLEN.out; omega) (by have := HLEN.out; omega) (by have := HLEN.out; omega)) ?_
  rintro e w5 ⟨rfl, hr5, hbb5⟩
  have st5 := ST.out.go hr5 hbb5
  clear hr5 hbb5 ST
  try clear y0 y1 y2 yf hlo hlo1
  have y0 := st5.c0
  have y1 := st5.c1
  have y2 := st5.c2
  have yf := st5.fz
  have lo := st5.lo
  have lp := st5.rd.lt
  have hlo : w.heap.size < w5.heap.size := by omega
  have hlo1 : w.heap.size + 1 < w5.heap.size := by omega
  have ST := Lib.hid st5
  clear st5 lo lp
  go_wp2_with fail
  refine bodyPost_ret (v := .tuple #[.agg #[.int .u64 (numAt l (1) a), .int .u64 (numAt l (1 + a) b), .int .u64 (0)], .bool false]) (by simp [results, Try.results29, go_sem, y0, y1, y2]) rfl ⟨_, _, _, rfl, ?_⟩
  exact ((ST.out.out.setCell (by simp) _).setCell (by simp) _).setCell (by simp) _

theorem numbers_no (oa : Option Addr) (n cap : Nat) (l : List Int) (kind : Int) (a b c : Nat) (w : World) (hr : Reads w oa n cap l) (hn : n ≤ 1000000) (ha : 1 ≤ a ∧ a ≤ 8) (hb : 1 ≤ b ∧ b ≤ 8) (hc : 1 ≤ c ∧ c ≤ 8) (h : ¬ (1 + a + b + c ≤ n ∧ l.getD 0 0 = kind)) :
    Calls Try.prog 29 #[.slice oa n cap, .int .u64 kind, .agg #[.int .i64 (a : Int), .int .i64 (b : Int), .int .i64 (c : Int)]] w (NumsNo w) := by
  by_cases h0 : n = 0
  · exact numbers_empty oa n cap l kind a b c w hr hn ha hb hc h0
  by_cases hk : l.getD 0 0 = kind
  · by_cases h1 : n < 1 + a
    · exact numbers_short0 oa n cap l kind a b c w hr hn ha hb hc (by omega) h1 hk
    by_cases h2 : n < 1 + a + b
    · exact numbers_short1 oa n cap l kind a b c w hr hn ha hb hc (by omega) h2 hk
    exact numbers_short2 oa n cap l kind a b c w hr hn ha hb hc (by omega) (by omega) hk
  · exact numbers_kind oa n cap l kind a b c w hr hn ha hb hc (by omega) hk
end Go.Proofs.Ytoegehlefdpghaa
