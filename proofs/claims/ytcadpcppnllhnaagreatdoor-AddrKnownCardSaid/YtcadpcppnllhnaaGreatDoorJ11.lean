/- A region that draws its order, with some allocations that wait for nothing: the rule of XFresh for any number of them; and for three. -/
import Derived.Test.YtcadpcppnllhnaaGreatDoorJ10
import Derived.Test.YtcadpcppnllhnaaGreatDoorJ9
import Derived.Test.YtcadpcppnllhnaaGreatDoorJ8
import Derived.Test.YtcadpcppnllhnaaGreatDoorJ7

section
set_option linter.unusedSimpArgs false
set_option linter.unusedVariables false
namespace Go.Proofs.YtcadpcppnllhnaaGreatDoor
open Go.RowKit

section
variable {P : Program} {ops : Array Oper} {md : Region.Mode}

/-- Whatever order the allocations come in, they alone are ready; then all else comes in its order. -/
def permB (md : Region.Mode) (ops : Array Oper) (n : Nat) : Nat → List Nat → Array Bool → Bool
  | 0, _, listed => Region.seqB md ops (ops.size - n) n listed
  | k + 1, is, listed => decide (Region.ready md ops listed = is) && (List.range is.length).all fun j => permB md ops n k (is.eraseIdx j) (listed.setIfInBounds (is.getD j 0) true)

def putG (d : Nat → Tmp) (γ : Nat → Nat) (a : Act) (i : Nat) : Act := a.put (some (d i)) (ptrTo (γ i))
theorem foldl_congrG (d : Nat → Tmp) (γ γ' : Nat → Nat) : ∀ (l : List Nat) (a : Act), (∀ i ∈ l, γ i = γ' i) → l.foldl (putG d γ) a = l.foldl (putG d γ') a
  | [], _, _ => rfl
  | i :: l, a, h => by
    rw [List.foldl_cons, List.foldl_cons, show putG d γ a i = putG d γ' a i by unfold putG; rw [h i (by simp)]]
    exact foldl_congrG d γ γ' l _ fun j hj => h j (by simp [hj])
theorem putG_comm (d : Nat → Tmp) (γ : Nat → Nat) (a : Act) (i j : Nat) (h : d i ≠ d j) : putG d γ (putG d γ a i) j = putG d γ (putG d γ a j) i := by
  unfold putG
  first
    | rw [Act.put_comm _ _ _ (fun e he h2 => h (Option.some.inj (he.trans h2.symm)))]
    | rw [Act.put_comm _ _ _ (fun e he h2 => h (Option.some.inj (h2.trans he.symm)))]
    | rw [Act.put_comm _ _ _ (fun e he h2 => h.symm (Option.some.inj (he.trans h2.symm)))]
theorem foldl_perm (d : Nat → Tmp) (γ : Nat → Nat) {l l' : List Nat} (h : l.Perm l') (hd : ∀ i ∈ l, ∀ j ∈ l, i ≠ j → d i ≠ d j) (a : Act) : l.foldl (putG d γ) a = l'.foldl (putG d γ) a :=
  h.foldl_eq' (fun i hi j hj z => by
    by_cases e : i = j
    · rw [e]
    · exact putG_comm d γ z i j (hd i hi j hj e)) a

theorem erase_perm (l : List Nat) (j : Nat) (h : j < l.length) : ([l[j]] ++ l.eraseIdx j).Perm l := by
  rw [List.eraseIdx_eq_take_drop_succ]
  have e : l.take j ++ l[j] :: l.drop (j + 1) = l := by rw [← List.drop_eq_getElem_cons h, List.take_append_drop]
  exact (List.perm_middle (a := l[j]) (l₁ := l.take j) (l₂ := l.drop (j + 1))).symm.trans (List.Perm.of_eq e)

theorem wpFresh_perm {w : World} {n : Nat} {al : Nat → Option Obj} {L : Array Bool → Act → List (Nat × Obj) → Prop} (is : List Nat) (d : Nat → Tmp) (b : Nat → Obj) (aF : Act)
    (hal : ∀ i ∈ is, i < n ∧ al i = some (b i) ∧ ∃ o, ops[i]? = some o ∧ o.dst = some (d i) ∧ Makes P ops o (b i))
    (hd : ∀ i ∈ is, ∀ j ∈ is, i ≠ j → d i ≠ d j)
    (hL : ∀ (listed : Array Bool) (a : Act) (gs : List (Nat × Obj)), Region.seqB md ops (ops.size - n) n listed = true →
      (∃ γ : Nat → Nat, a = is.foldl (putG d γ) aF ∧ (∀ i ∈ is, w.heap.size ≤ γ i ∧ (γ i, b i) ∈ gs) ∧ (∀ i ∈ is, ∀ j ∈ is, i ≠ j → γ i ≠ γ j)) → L listed a gs) :
    ∀ (k : Nat) (ps dn : List Nat) (listed : Array Bool) (gs : List (Nat × Obj)) (γ : Nat → Nat), ps.length = k → (dn ++ ps).Perm is → is.Nodup → permB md ops n k ps listed = true →
      (∀ i ∈ dn, w.heap.size ≤ γ i ∧ (γ i, b i) ∈ gs) → (∀ i ∈ dn, ∀ j ∈ dn, i ≠ j → γ i ≠ γ j) →
      wpFresh P md ops w n al L k listed (dn.foldl (putG d γ) aF) gs
  | 0, ps, dn, listed, gs, γ, hk, hp, hnd, hB, hg, hne => by
    obtain rfl := List.length_eq_zero_iff.1 hk
    rw [List.append_nil] at hp
    refine hL _ _ _ hB ⟨γ, foldl_perm d γ hp (fun i hi j hj => hd i (hp.subset hi) j (hp.subset hj)) aF, fun i hi => hg i (hp.symm.subset hi), fun i hi j hj => hne i (hp.symm.subset hi) j (hp.symm.subset hj)⟩
  | k + 1, ps, dn, listed, gs, γ, hk, hp, hnd, hB, hg, hne => by
    simp only [permB, Bool.and_eq_true, decide_eq_true_eq, List.all_eq_true, List.mem_range] at hB
    obtain ⟨hr, hB⟩ := hB
    refine ⟨(by rw [hr]; intro e; rw [e] at hk; simp at hk), fun i hi => ?_⟩
    rw [hr] at hi
    obtain ⟨j, hj, rfl⟩ := List.mem_iff_getElem.1 hi
    have hmem : ps[j] ∈ is := hp.subset (by simp)
    obtain ⟨hn, ha, o, ho, hod, hm⟩ := hal _ hmem
    refine ⟨hn, fun oi hoi => ⟨fun h => (by rw [ha] at h; cases h), fun ob hob => ?_⟩⟩
    obtain rfl : o = oi := Option.some.inj (ho.symm.trans hoi)
    obtain rfl : b ps[j] = ob := Option.some.inj (ha.symm.trans hob)
    refine ⟨hm, fun g hgs hlt => ?_⟩
    have hnd2 : (dn ++ ps).Nodup := hp.symm.nodup hnd
    have hnot : ps[j] ∉ dn := fun h => by
      have := (List.nodup_append.1 hnd2).2.2 _ h _ (List.getElem_mem hj)
      exact this rfl
    let γ' : Nat → Nat := fun i => if i = ps[j] then g else γ i
    have e1 : γ' ps[j] = g := by simp [γ']
    have e2 : ∀ i ∈ dn, γ' i = γ i := fun i hi => by
      simp only [γ']
      rw [if_neg]
      intro e
      exact hnot (e ▸ hi)
    have hfold : (dn.foldl (putG d γ) aF).put o.dst (ptrTo g) = (dn ++ [ps[j]]).foldl (putG d γ') aF := by
      rw [List.foldl_append, List.foldl_cons, List.foldl_nil, foldl_congrG d γ' γ dn aF e2]
      unfold putG
      rw [e1, hod]
    rw [hfold]
    have hB' := hB j hj
    rw [List.getD_eq_getElem?_getD, List.getElem?_eq_getElem hj, Option.getD_some] at hB'
    have hperm : ((dn ++ [ps[j]]) ++ ps.eraseIdx j).Perm is := by
      refine List.Perm.trans ?_ hp
      rw [List.append_assoc]
      exact List.Perm.append_left dn (erase_perm ps j hj)
    refine wpFresh_perm is d b aF hal hd hL k (ps.eraseIdx j) (dn ++ [ps[j]]) _ _ γ' (by rw [List.length_eraseIdx_of_lt hj]; omega) hperm hnd hB' ?_ ?_
    · intro i hi
      rcases List.mem_append.1 hi with h | h
      · rw [e2 i h]
        exact ⟨(hg i h).1, List.mem_cons_of_mem _ (hg i h).2⟩
      · obtain rfl := List.mem_singleton.1 h
        rw [e1]
        exact ⟨hgs, by simp⟩
    · intro i hi i' hi' hne'
      rcases List.mem_append.1 hi with h | h <;> rcases List.mem_append.1 hi' with h' | h'
      · rw [e2 i h, e2 i' h']; exact hne i h i' h' hne'
      · obtain rfl := List.mem_singleton.1 h'
        rw [e1, e2 i h]
        have := hlt _ (hg i h).2
        simp only at this
        omega
      · obtain rfl := List.mem_singleton.1 h
        rw [e1, e2 i' h']
        have := hlt _ (hg i' h').2
        simp only at this
        omega
      · obtain rfl := List.mem_singleton.1 h
        obtain rfl := List.mem_singleton.1 h'
        exact absurd rfl hne'

def freshNB (ops : Array Oper) (m k : Nat) : Bool :=
  Region.noSelect ops && (decide (m + k < ops.size) && (Region.sinkB .any ops (m + k) && (Region.chainB .any ops (m + k) && (lexFree .any ops m 0 (Array.replicate ops.size false) &&
    permB .any ops (m + k) k (List.range' m k) (listedTo m 0 (Array.replicate ops.size false))))))

theorem wp_region_freshN {id : Nat} {Q : Exit → Act → World → Prop} {a : Act} {w : World} {l : List Oper} (m k : Nat) (d : Nat → Tmp) (b : Nat → Obj) (aF : Act) (hm : P.follows .mixedOrders = true) (hB : freshNB l.toArray m k = true)
    (ho : ∀ i ∈ List.range' m k, ∃ o, l[i]? = some o ∧ o.dst = some (d i) ∧ Makes P l.toArray o (b i))
    (hne : ∀ i ∈ List.range' m k, ∀ j ∈ List.range' m k, i ≠ j → d i ≠ d j) (hd : dstsB a.tmps.size (l.take m) = true)
    (H : ∀ w1, Below w.heap.size w w1 → wpQuiet P l.toArray (LaterC w1) (fun a' => a' = aF) (l.take m) a)
    (K : ∀ (γ : Nat → Nat) w', Below w.heap.size w w' → (∀ i ∈ List.range' m k, w.heap.size ≤ γ i) → (∀ i ∈ List.range' m k, ∀ j ∈ List.range' m k, i ≠ j → γ i ≠ γ j) → (∀ i ∈ List.range' m k, w'.heap[γ i]? = some (b i)) →
      wpList P l.toArray Q (l.drop (m + k)) ((List.range' m k).foldl (putG d γ) aF) w') : (Code.region id l.toArray true).wp P Q a w := by
  simp only [freshNB, Bool.and_eq_true, decide_eq_true_eq] at hB
  obtain ⟨hsel, hn, hs, hc, hlex, hperm⟩ := hB
  have hn' : m + k < l.length := by simpa using hn
  have htl : (l.take m).length = m := by simp; omega
  have hdl : (l.drop (m + k)).length = l.toArray.size - (m + k) := by simp
  have inv0 : HeadInv .any l.toArray (m + k) (Array.replicate l.toArray.size false) :=
    ⟨by simp, fun j oj _ hl => (by rw [getD_replicate_false] at hl; cases hl), fun t _ ht => getD_in (by simpa using ht) (getD_replicate_false _ _)⟩
  let al : Nat → Option Obj := fun i => if m ≤ i then some (b i) else none
  let LL : Array Bool → Act → List (Nat × Obj) → Prop := fun listed a' gs => Region.seqB .any l.toArray (l.toArray.size - (m + k)) (m + k) listed = true ∧
    ∀ w', Below w.heap.size w w' → Live w' gs → wpList P l.toArray Q (l.drop (m + k)) a' w'
  have base : ∀ a', a' = aF → wpFresh P .any l.toArray w (m + k) al LL k (listedTo (l.take m).length 0 (Array.replicate l.toArray.size false)) a' [] := by
    rintro a' rfl
    rw [htl]
    refine wpFresh_perm (md := .any) (List.range' m k) d b a' (fun i hi => ?_) hne ?_ k (List.range' m k) [] _ [] (fun _ => 0) (by simp) (by simp) List.nodup_range' hperm (fun i hi => by cases hi) (fun i hi => by cases hi)
    · obtain ⟨o, h1, h2, h3⟩ := ho i hi
      have hb : m ≤ i ∧ i < m + k := by
        obtain ⟨x, hx, rfl⟩ := List.mem_range'.1 hi
        omega
      exact ⟨hb.2, by simp only [al]; rw [if_pos hb.1], o, by simpa using h1, h2, h3⟩
    · rintro listed a2 gs hseq ⟨γ, rfl, hg, hg2⟩
      exact ⟨hseq, fun w' hw hl => K γ w' hw (fun i hi => (hg i hi).1) hg2 fun i hi => hl _ (hg i hi).2⟩
  have HF := wpFresh_lex (md := .any) (m := m) (r := k) (al := al) (L := LL) hsel hs hc hn (by omega) (fun i hi => by simp only [al]; rw [if_neg (by omega)]) (fun listed a' gs hL => seqB_ready hL.1)
    (l.take m) 0 _ a (fun j hj => by
      have hj' : j < m := by rw [htl] at hj; exact hj
      simp [hj']) (by simpa using htl) inv0 (by rw [htl]; exact hlex) base (fam_of (l.take m) a hd H)
  refine wp_region_any hm ?_
  have := wpAny_of_fresh (Q' := Q) (g := l.toArray.size - (m + k)) (fun listed a' gs w' hw' hl hL => by
    have := wpAny_of_seq (md := .any) (Q' := Q) (l.drop (m + k)) (m + k) listed a' w' (fun j => by simp [List.getElem?_drop]) (by rw [hdl]; exact hL.1) (hL.2 w' hw' hl)
    rwa [hdl] at this) _ _ _ [] _ (Below.refl w.heap.size w).drew (fun p hp => by cases hp) HF
  rw [htl, show m + k + (l.toArray.size - (m + k)) = l.toArray.size by omega] at this
  exact this

/-- For three. -/
theorem wp_region_fresh3 {id : Nat} {Q : Exit → Act → World → Prop} {a : Act} {w : World} {l : List Oper} (m : Nat) (b1 b2 b3 : Obj) {o1 o2 o3 : Oper} {d1 d2 d3 : Tmp} (hm : P.follows .mixedOrders = true) (hB : freshNB l.toArray m 3 = true)
    (h1 : l[m]? = some o1) (h2 : l[m + 1]? = some o2) (h3 : l[m + 2]? = some o3) (e1 : o1.dst = some d1) (e2 : o2.dst = some d2) (e3 : o3.dst = some d3) (n12 : d1 ≠ d2) (n13 : d1 ≠ d3) (n23 : d2 ≠ d3) (hd : dstsB a.tmps.size (l.take m) = true)
    (M1 : Makes P l.toArray o1 b1) (M2 : Makes P l.toArray o2 b2) (M3 : Makes P l.toArray o3 b3)
    (h : ∃ aF : Act, (∀ w1, Below w.heap.size w w1 → wpQuiet P l.toArray (fun w' => ∃ x : Later w1, w' = x.world) (fun a' => a' = aF) (l.take m) a) ∧
      (∀ g1 g2 g3 w', Below w.heap.size w w' → w.heap.size ≤ g1 → w.heap.size ≤ g2 → w.heap.size ≤ g3 → g1 ≠ g2 → g1 ≠ g3 → g2 ≠ g3 → w'.heap[g1]? = some b1 → w'.heap[g2]? = some b2 → w'.heap[g3]? = some b3 →
        wpList P l.toArray Q (l.drop (m + 3)) (((aF.put (some d1) (ptrTo g1)).put (some d2) (ptrTo g2)).put (some d3) (ptrTo g3)) w')) : (Code.region id l.toArray true).wp P Q a w := by
  obtain ⟨aF, H, K⟩ := h
  let d : Nat → Tmp := fun i => if i = m then d1 else if i = m + 1 then d2 else d3
  let b : Nat → Obj := fun i => if i = m then b1 else if i = m + 1 then b2 else b3
  have r3 : List.range' m 3 = [m, m + 1, m + 2] := rfl
  have dm : d m = d1 := by simp [d]
  have dm1 : d (m + 1) = d2 := by simp [d]
  have dm2 : d (m + 2) = d3 := by simp [d]
  have bm : b m = b1 := by simp [b]
  have bm1 : b (m + 1) = b2 := by simp [b]
  have bm2 : b (m + 2) = b3 := by simp [b]
  refine wp_region_freshN m 3 d b aF hm hB ?_ ?_ hd H ?_
  · intro i hi
    rw [r3] at hi
    simp only [List.mem_cons, List.not_mem_nil, or_false] at hi
    rcases hi with rfl | rfl | rfl
    · exact ⟨o1, h1, by rw [dm]; exact e1, by rw [bm]; exact M1⟩
    · exact ⟨o2, h2, by rw [dm1]; exact e2, by rw [bm1]; exact M2⟩
    · exact ⟨o3, h3, by rw [dm2]; exact e3, by rw [bm2]; exact M3⟩
  · intro i hi j hj hij
    rw [r3] at hi hj
    simp only [List.mem_cons, List.not_mem_nil, or_false] at hi hj
    rcases hi with rfl | rfl | rfl <;> rcases hj with rfl | rfl | rfl <;> first | exact absurd rfl hij | (simp only [dm, dm1, dm2]; first | assumption | (apply Ne.symm; assumption))
  · intro γ w' hw hg hn hh
    rw [r3] at hg hn hh ⊢
    have := K (γ m) (γ (m + 1)) (γ (m + 2)) w' hw (hg _ (by simp)) (hg _ (by simp)) (hg _ (by simp)) (hn _ (by simp) _ (by simp) (by omega)) (hn _ (by simp) _ (by simp) (by omega)) (hn _ (by simp) _ (by simp) (by omega))
      (by rw [← bm]; exact hh _ (by simp)) (by rw [← bm1]; exact hh _ (by simp)) (by rw [← bm2]; exact hh _ (by simp))
    simpa only [List.foldl_cons, List.foldl_nil, putG, dm, dm1, dm2] using this
end
end Go.Proofs.YtcadpcppnllhnaaGreatDoor
end

/- Walk of the law AddrPrefixes: whatever the address, the number and the prefixes, it returns true. -/
section
set_option linter.unusedSimpArgs false
set_option linter.unusedVariables false
namespace Go.Proofs.YtcadpcppnllhnaaGreatDoor
open Go.RowKit

theorem eqL_same2 (l : List Int) : eqL l l = true := (eqL_iff l l).2 rfl
set_option maxRecDepth 100000 in
set_option maxHeartbeats 80000000 in
theorem prefixes_any (s : Bool) (B : Nat → Int) (n : Int) (s2 : Bool) (B2 : Nat → Int) (n2 : Int) (s3 : Bool) (B3 : Nat → Int) (n3 : Int) (hB : U8 B) (hB2 : U8 B2) (hB3 : U8 B3)
    (hn0 : -9223372036854775808 ≤ n) (hn1 : n ≤ 9223372036854775807) (hp0 : -9223372036854775808 ≤ n2) (hp1 : n2 ≤ 9223372036854775807) (hq0 : -9223372036854775808 ≤ n3) (hq1 : n3 ≤ 9223372036854775807) (w : World) (henv : Env w) :
    Calls Tryz.prog 8 #[adV s B, .int .i64 n, pfV s2 B2 n2, pfV s3 B3 n3] w (RetAt w (.bool true)) := by
  have HE := Lib.hid henv
  have HB := Lib.hid (show Below w.heap.size w (((w.alloc (.cells #[.bool s, .int .u8 (B 0), .int .u8 (B 1), .int .u8 (B 2), .int .u8 (B 3), .int .u8 (B 4), .int .u8 (B 5), .int .u8 (B 6), .int .u8 (B 7), .int .u8 (B 8), .int .u8 (B 9), .int .u8 (B 10), .int .u8 (B 11), .int .u8 (B 12), .int .u8 (B 13), .int .u8 (B 14), .int .u8 (B 15)] 26)).alloc (.cells #[.bool s2, .int .u8 (B2 0), .int .u8 (B2 1), .int .u8 (B2 2), .int .u8 (B2 3), .int .u8 (B2 4), .int .u8 (B2 5), .int .u8 (B2 6), .int .u8 (B2 7), .int .u8 (B2 8), .int .u8 (B2 9), .int .u8 (B2 10), .int .u8 (B2 11), .int .u8 (B2 12), .int .u8 (B2 13), .int .u8 (B2 14), .int .u8 (B2 15), .int .i64 n2] 33)).alloc (.cells #[.bool s3, .int .u8 (B3 0), .int .u8 (B3 1), .int .u8 (B3 2), .int .u8 (B3 3), .int .u8 (B3 4), .int .u8 (B3 5), .int .u8 (B3 6), .int .u8 (B3 7), .int .u8 (B3 8), .int .u8 (B3 9), .int .u8 (B3 10), .int .u8 (B3 11), .int .u8 (B3 12), .int .u8 (B3 13), .int .u8 (B3 14), .int .u8 (B3 15), .int .i64 n3] 33)) from Below.all (Below.all (Below.all (Below.refl _ _) _) _) _)
  have HCX : Hid ((((w.alloc (.cells #[.bool s, .int .u8 (B 0), .int .u8 (B 1), .int .u8 (B 2), .int .u8 (B 3), .int .u8 (B 4), .int .u8 (B 5), .int .u8 (B 6), .int .u8 (B 7), .int .u8 (B 8), .int .u8 (B 9), .int .u8 (B 10), .int .u8 (B 11), .int .u8 (B 12), .int .u8 (B 13), .int .u8 (B 14), .int .u8 (B 15)] 26)).alloc (.cells #[.bool s2, .int .u8 (B2 0), .int .u8 (B2 1), .int .u8 (B2 2), .int .u8 (B2 3), .int .u8 (B2 4), .int .u8 (B2 5), .int .u8 (B2 6), .int .u8 (B2 7), .int .u8 (B2 8), .int .u8 (B2 9), .int .u8 (B2 10), .int .u8 (B2 11), .int .u8 (B2 12), .int .u8 (B2 13), .int .u8 (B2 14), .int .u8 (B2 15), .int .i64 n2] 33)).alloc (.cells #[.bool s3, .int .u8 (B3 0), .int .u8 (B3 1), .int .u8 (B3 2), .int .u8 (B3 3), .int .u8 (B3 4), .int .u8 (B3 5), .int .u8 (B3 6), .int .u8 (B3 7), .int .u8 (B3 8), .int .u8 (B3 9), .int .u8 (B3 10), .int .u8 (B3 11), .int .u8 (B3 12), .int .u8 (B3 13), .int .u8 (B3 14), .int .u8 (B3 15), .int .i64 n3] 33)).heap[w.heap.size]? = some (.cells #[.bool s, .int .u8 (B 0), .int .u8 (B 1), .int .u8 (B 2), .int .u8 (B 3), .int .u8 (B 4), .int .u8 (B 5), .int .u8 (B 6), .int .u8 (B 7), .int .u8 (B 8), .int .u8 (B 9), .int .u8 (B 10), .int .u8 (B 11), .int .u8 (B 12), .int .u8 (B 13), .int .u8 (B 14), .int .u8 (B 15)] 26 (0, 0))) := Lib.hid (cell_up (Below.all (Below.refl _ _) (.cells #[.bool s3, .int .u8 (B3 0), .int .u8 (B3 1), .int .u8 (B3 2), .int .u8 (B3 3), .int .u8 (B3 4), .int .u8 (B3 5), .int .u8 (B3 6), .int .u8 (B3 7), .int .u8 (B3 8), .int .u8 (B3 9), .int .u8 (B3 10), .int .u8 (B3 11), .int .u8 (B3 12), .int .u8 (B3 13), .int .u8 (B3 14), .int .u8 (B3 15), .int .i64 n3] 33)) (heap_alloc2_old w (.cells #[.bool s, .int .u8 (B 0), .int .u8 (B 1), .int .u8 (B 2), .int .u8 (B 3), .int .u8 (B 4), .int .u8 (B 5), .int .u8 (B 6), .int .u8 (B 7), .int .u8 (B 8), .int .u8 (B 9), .int .u8 (B 10), .int .u8 (B 11), .int .u8 (B 12), .int .u8 (B 13), .int .u8 (B 14), .int .u8 (B 15)] 26) (.cells #[.bool s2, .int .u8 (B2 0), .int .u8 (B2 1), .int .u8 (B2 2), .int .u8 (B2 3), .int .u8 (B2 4), .int .u8 (B2 5), .int .u8 (B2 6), .int .u8 (B2 7), .int .u8 (B2 8), .int .u8 (B2 9), .int .u8 (B2 10), .int .u8 (B2 11), .int .u8 (B2 12), .int .u8 (B2 13), .int .u8 (B2 14), .int .u8 (B2 15), .int .i64 n2] 33)))
  have HCP : Hid ((((w.alloc (.cells #[.bool s, .int .u8 (B 0), .int .u8 (B 1), .int .u8 (B 2), .int .u8 (B 3), .int .u8 (B 4), .int .u8 (B 5), .int .u8 (B 6), .int .u8 (B 7), .int .u8 (B 8), .int .u8 (B 9), .int .u8 (B 10), .int .u8 (B 11), .int .u8 (B 12), .int .u8 (B 13), .int .u8 (B 14), .int .u8 (B 15)] 26)).alloc (.cells #[.bool s2, .int .u8 (B2 0), .int .u8 (B2 1), .int .u8 (B2 2), .int .u8 (B2 3), .int .u8 (B2 4), .int .u8 (B2 5), .int .u8 (B2 6), .int .u8 (B2 7), .int .u8 (B2 8), .int .u8 (B2 9), .int .u8 (B2 10), .int .u8 (B2 11), .int .u8 (B2 12), .int .u8 (B2 13), .int .u8 (B2 14), .int .u8 (B2 15), .int .i64 n2] 33)).alloc (.cells #[.bool s3, .int .u8 (B3 0), .int .u8 (B3 1), .int .u8 (B3 2), .int .u8 (B3 3), .int .u8 (B3 4), .int .u8 (B3 5), .int .u8 (B3 6), .int .u8 (B3 7), .int .u8 (B3 8), .int .u8 (B3 9), .int .u8 (B3 10), .int .u8 (B3 11), .int .u8 (B3 12), .int .u8 (B3 13), .int .u8 (B3 14), .int .u8 (B3 15), .int .i64 n3] 33)).heap[w.heap.size + 1]? = some (.cells #[.bool s2, .int .u8 (B2 0), .int .u8 (B2 1), .int .u8 (B2 2), .int .u8 (B2 3), .int .u8 (B2 4), .int .u8 (B2 5), .int .u8 (B2 6), .int .u8 (B2 7), .int .u8 (B2 8), .int .u8 (B2 9), .int .u8 (B2 10), .int .u8 (B2 11), .int .u8 (B2 12), .int .u8 (B2 13), .int .u8 (B2 14), .int .u8 (B2 15), .int .i64 n2] 33 (0, 0))) := Lib.hid (cell_up (Below.all (Below.refl _ _) (.cells #[.bool s3, .int .u8 (B3 0), .int .u8 (B3 1), .int .u8 (B3 2), .int .u8 (B3 3), .int .u8 (B3 4), .int .u8 (B3 5), .int .u8 (B3 6), .int .u8 (B3 7), .int .u8 (B3 8), .int .u8 (B3 9), .int .u8 (B3 10), .int .u8 (B3 11), .int .u8 (B3 12), .int .u8 (B3 13), .int .u8 (B3 14), .int .u8 (B3 15), .int .i64 n3] 33)) (heap_alloc2_new w (.cells #[.bool s, .int .u8 (B 0), .int .u8 (B 1), .int .u8 (B 2), .int .u8 (B 3), .int .u8 (B 4), .int .u8 (B 5), .int .u8 (B 6), .int .u8 (B 7), .int .u8 (B 8), .int .u8 (B 9), .int .u8 (B 10), .int .u8 (B 11), .int .u8 (B 12), .int .u8 (B 13), .int .u8 (B 14), .int .u8 (B 15)] 26) (.cells #[.bool s2, .int .u8 (B2 0), .int .u8 (B2 1), .int .u8 (B2 2), .int .u8 (B2 3), .int .u8 (B2 4), .int .u8 (B2 5), .int .u8 (B2 6), .int .u8 (B2 7), .int .u8 (B2 8), .int .u8 (B2 9), .int .u8 (B2 10), .int .u8 (B2 11), .int .u8 (B2 12), .int .u8 (B2 13), .int .u8 (B2 14), .int .u8 (B2 15), .int .i64 n2] 33)))
  have HCQ : Hid ((((w.alloc (.cells #[.bool s, .int .u8 (B 0), .int .u8 (B 1), .int .u8 (B 2), .int .u8 (B 3), .int .u8 (B 4), .int .u8 (B 5), .int .u8 (B 6), .int .u8 (B 7), .int .u8 (B 8), .int .u8 (B 9), .int .u8 (B 10), .int .u8 (B 11), .int .u8 (B 12), .int .u8 (B 13), .int .u8 (B 14), .int .u8 (B 15)] 26)).alloc (.cells #[.bool s2, .int .u8 (B2 0), .int .u8 (B2 1), .int .u8 (B2 2), .int .u8 (B2 3), .int .u8 (B2 4), .int .u8 (B2 5), .int .u8 (B2 6), .int .u8 (B2 7), .int .u8 (B2 8), .int .u8 (B2 9), .int .u8 (B2 10), .int .u8 (B2 11), .int .u8 (B2 12), .int .u8 (B2 13), .int .u8 (B2 14), .int .u8 (B2 15), .int .i64 n2] 33)).alloc (.cells #[.bool s3, .int .u8 (B3 0), .int .u8 (B3 1), .int .u8 (B3 2), .int .u8 (B3 3), .int .u8 (B3 4), .int .u8 (B3 5), .int .u8 (B3 6), .int .u8 (B3 7), .int .u8 (B3 8), .int .u8 (B3 9), .int .u8 (B3 10), .int .u8 (B3 11), .int .u8 (B3 12), .int .u8 (B3 13), .int .u8 (B3 14), .int .u8 (B3 15), .int .i64 n3] 33)).heap[w.heap.size + 1 + 1]? = some (.cells #[.bool s3, .int .u8 (B3 0), .int .u8 (B3 1), .int .u8 (B3 2), .int .u8 (B3 3), .int .u8 (B3 4), .int .u8 (B3 5), .int .u8 (B3 6), .int .u8 (B3 7), .int .u8 (B3 8), .int .u8 (B3 9), .int .u8 (B3 10), .int .u8 (B3 11), .int .u8 (B3 12), .int .u8 (B3 13), .int .u8 (B3 14), .int .u8 (B3 15), .int .i64 n3] 33 (0, 0))) := Lib.hid (by
    have h := heap_alloc_new ((w.alloc (.cells #[.bool s, .int .u8 (B 0), .int .u8 (B 1), .int .u8 (B 2), .int .u8 (B 3), .int .u8 (B 4), .int .u8 (B 5), .int .u8 (B 6), .int .u8 (B 7), .int .u8 (B 8), .int .u8 (B 9), .int .u8 (B 10), .int .u8 (B 11), .int .u8 (B 12), .int .u8 (B 13), .int .u8 (B 14), .int .u8 (B 15)] 26)).alloc (.cells #[.bool s2, .int .u8 (B2 0), .int .u8 (B2 1), .int .u8 (B2 2), .int .u8 (B2 3), .int .u8 (B2 4), .int .u8 (B2 5), .int .u8 (B2 6), .int .u8 (B2 7), .int .u8 (B2 8), .int .u8 (B2 9), .int .u8 (B2 10), .int .u8 (B2 11), .int .u8 (B2 12), .int .u8 (B2 13), .int .u8 (B2 14), .int .u8 (B2 15), .int .i64 n2] 33)) (.cells #[.bool s3, .int .u8 (B3 0), .int .u8 (B3 1), .int .u8 (B3 2), .int .u8 (B3 3), .int .u8 (B3 4), .int .u8 (B3 5), .int .u8 (B3 6), .int .u8 (B3 7), .int .u8 (B3 8), .int .u8 (B3 9), .int .u8 (B3 10), .int .u8 (B3 11), .int .u8 (B3 12), .int .u8 (B3 13), .int .u8 (B3 14), .int .u8 (B3 15), .int .i64 n3] 33)
    rwa [show ((w.alloc (.cells #[.bool s, .int .u8 (B 0), .int .u8 (B 1), .int .u8 (B 2), .int .u8 (B 3), .int .u8 (B 4), .int .u8 (B 5), .int .u8 (B 6), .int .u8 (B 7), .int .u8 (B 8), .int .u8 (B 9), .int .u8 (B 10), .int .u8 (B 11), .int .u8 (B 12), .int .u8 (B 13), .int .u8 (B 14), .int .u8 (B 15)] 26)).alloc (.cells #[.bool s2, .int .u8 (B2 0), .int .u8 (B2 1), .int .u8 (B2 2), .int .u8 (B2 3), .int .u8 (B2 4), .int .u8 (B2 5), .int .u8 (B2 6), .int .u8 (B2 7), .int .u8 (B2 8), .int .u8 (B2 9), .int .u8 (B2 10), .int .u8 (B2 11), .int .u8 (B2 12), .int .u8 (B2 13), .int .u8 (B2 14), .int .u8 (B2 15), .int .i64 n2] 33)).heap.size = w.heap.size + 1 + 1 by simp only [World.size_alloc]] at h)
  have HDX : Hid (∀ w, Calls Tryz.prog 17 #[adV s B] w (RetAt w (adV s B))) := Lib.hid fun w => docsaddr_any s B w
  have HDP : Hid (∀ w, Calls Tryz.prog 18 #[pfV s2 B2 n2] w (RetAt w (pfV s2 B2 n2))) := Lib.hid fun w => docspf_any s2 B2 n2 w
  have HDQ : Hid (∀ w, Calls Tryz.prog 18 #[pfV s3 B3 n3] w (RetAt w (pfV s3 B3 n3))) := Lib.hid fun w => docspf_any s3 B3 n3 w
  have HCU : Hid (∀ w, Calls Tryz.prog 9 #[adV s B, .int .i64 n] w (RetAt w (pfV (cutSix s B) (cutBy s B n) (cutLen s B n)))) := Lib.hid fun w => cut_any s B n hB hn0 hn1 w
  have HDC : Hid (∀ w, Calls Tryz.prog 18 #[pfV (cutSix s B) (cutBy s B n) (cutLen s B n)] w (RetAt w (pfV (cutSix s B) (cutBy s B n) (cutLen s B n)))) := Lib.hid fun w => docspf_any _ _ _ w
  have HRC : Hid (∀ w, Calls Tryz.prog 36 #[adV s B, .int .i64 n] w (RetAt w (pfV (cutSix s B) (cutBy s B n) (cutLen s B n)))) := Lib.hid fun w => rcut_any s B n hB hn0 hn1 w
  have HPR : Hid (∀ w, Calls Tryz.prog 23 #[pfV s2 B2 n2] w (RetAt w (.bool (rightPB s2 B2 n2)))) := Lib.hid fun w => pright_any s2 B2 n2 hB2 hp0 hp1 w
  have HRR : Hid (∀ w, Calls Tryz.prog 37 #[pfV s2 B2 n2] w (RetAt w (.bool (rightPB s2 B2 n2)))) := Lib.hid fun w => rpright_any s2 B2 n2 hB2 hp0 hp1 w
  have HHA : Hid (∀ w, Calls Tryz.prog 24 #[pfV s2 B2 n2, adV s B] w (RetAt w (.bool (hasV s2 B2 n2 s B)))) := Lib.hid fun w => has_any s2 B2 n2 s B hB2 hB hp0 hp1 w
  have HRH : Hid (∀ w, Calls Tryz.prog 38 #[pfV s2 B2 n2, adV s B] w (RetAt w (.bool (hasV s2 B2 n2 s B)))) := Lib.hid fun w => rhas_any s2 B2 n2 s B hB2 hB hp0 hp1 w
  have HWI : Hid (∀ w, Calls Tryz.prog 25 #[pfV s2 B2 n2, pfV s3 B3 n3] w (RetAt w (.bool (withinV s2 B2 n2 s3 B3 n3)))) := Lib.hid fun w => within_any s2 B2 n2 s3 B3 n3 hB2 hB3 hp0 hp1 hq0 hq1 w
  have HRW : Hid (∀ w, Calls Tryz.prog 39 #[pfV s2 B2 n2, pfV s3 B3 n3] w (RetAt w (.bool (withinV s2 B2 n2 s3 B3 n3)))) := Lib.hid fun w => rwithin_any s2 B2 n2 s3 B3 n3 hB2 hB3 hp0 hp1 hq0 hq1 w
  have HTX : Hid (∀ w, Env w → Calls Tryz.prog 22 #[pfV s2 B2 n2] w (RetAt w (.string ⟨(pfText s2 B2 n2).toArray⟩))) := Lib.hid fun w h => ptext_any s2 B2 n2 hB2 hp0 hp1 w h
  have HRT : Hid (∀ w, Calls Tryz.prog 40 #[pfV s2 B2 n2] w (RetAt w (.string ⟨(pfText s2 B2 n2).toArray⟩))) := Lib.hid fun w => rptext_any s2 B2 n2 hB2 hp0 hp1 w
  generalize cutSix s B = cs at *
  generalize cutBy s B n = cB at *
  generalize cutLen s B n = cn at *
  generalize rightPB s2 B2 n2 = rp at *
  generalize hasV s2 B2 n2 s B = hv at *
  generalize withinV s2 B2 n2 s3 B3 n3 = wv at *
  generalize pfText s2 B2 n2 = T at *
  have k1 : (cs == cs) = true := by simp
  have k2 := eqL_same2 [cB 0, cB 1, cB 2, cB 3, cB 4, cB 5, cB 6, cB 7, cB 8, cB 9, cB 10, cB 11, cB 12, cB 13, cB 14, cB 15]
  have k3 : (cn == cn) = true := by simp
  have k4 : (rp == rp) = true := by simp
  have k5 : (hv == hv) = true := by simp
  have k6 : (wv == wv) = true := by simp
  have k7 : (T == T) = true := by simp
  clear hB hB2 hB3 hn0 hn1 hp0 hp1 hq0 hq1 henv
  unfold adV pfV at *
  go_enter Tryz.func8, Tryz.ntmps8
  go_wp2_with fail
  generalize (((w.alloc (.cells #[.bool s, .int .u8 (B 0), .int .u8 (B 1), .int .u8 (B 2), .int .u8 (B 3), .int .u8 (B 4), .int .u8 (B 5), .int .u8 (B 6), .int .u8 (B 7), .int .u8 (B 8), .int .u8 (B 9), .int .u8 (B 10), .int .u8 (B 11), .int .u8 (B 12), .int .u8 (B 13), .int .u8 (B 14), .int .u8 (B 15)] 26)).alloc (.cells #[.bool s2, .int .u8 (B2 0), .int .u8 (B2 1), .int .u8 (B2 2), .int .u8 (B2 3), .int .u8 (B2 4), .int .u8 (B2 5), .int .u8 (B2 6), .int .u8 (B2 7), .int .u8 (B2 8), .int .u8 (B2 9), .int .u8 (B2 10), .int .u8 (B2 11), .int .u8 (B2 12), .int .u8 (B2 13), .int .u8 (B2 14), .int .u8 (B2 15), .int .i64 n2] 33)).alloc (.cells #[.bool s3, .int .u8 (B3 0), .int .u8 (B3 1), .int .u8 (B3 2), .int .u8 (B3 3), .int .u8 (B3 4), .int .u8 (B3 5), .int .u8 (B3 6), .int .u8 (B3 7), .int .u8 (B3 8), .int .u8 (B3 9), .int .u8 (B3 10), .int .u8 (B3 11), .int .u8 (B3 12), .int .u8 (B3 13), .int .u8 (B3 14), .int .u8 (B3 15), .int .i64 n3] 33)) = w1 at *
  refine wp_region_fresh3 6 (.cells #[.bool false, .int .u8 ((fun _ => 0) 0), .int .u8 ((fun _ => 0) 1), .int .u8 ((fun _ => 0) 2), .int .u8 ((fun _ => 0) 3), .int .u8 ((fun _ => 0) 4), .int .u8 ((fun _ => 0) 5), .int .u8 ((fun _ => 0) 6), .int .u8 ((fun _ => 0) 7), .int .u8 ((fun _ => 0) 8), .int .u8 ((fun _ => 0) 9), .int .u8 ((fun _ => 0) 10), .int .u8 ((fun _ => 0) 11), .int .u8 ((fun _ => 0) 12), .int .u8 ((fun _ => 0) 13), .int .u8 ((fun _ => 0) 14), .int .u8 ((fun _ => 0) 15)] 41) (.cells #[.bool false, .int .u8 ((fun _ => 0) 0), .int .u8 ((fun _ => 0) 1), .int .u8 ((fun _ => 0) 2), .int .u8 ((fun _ => 0) 3), .int .u8 ((fun _ => 0) 4), .int .u8 ((fun _ => 0) 5), .int .u8 ((fun _ => 0) 6), .int .u8 ((fun _ => 0) 7), .int .u8 ((fun _ => 0) 8), .int .u8 ((fun _ => 0) 9), .int .u8 ((fun _ => 0) 10), .int .u8 ((fun _ => 0) 11), .int .u8 ((fun _ => 0) 12), .int .u8 ((fun _ => 0) 13), .int .u8 ((fun _ => 0) 14), .int .u8 ((fun _ => 0) 15), .int .i64 0] 47) (.cells #[.bool false, .int .u8 ((fun _ => 0) 0), .int .u8 ((fun _ => 0) 1), .int .u8 ((fun _ => 0) 2), .int .u8 ((fun _ => 0) 3), .int .u8 ((fun _ => 0) 4), .int .u8 ((fun _ => 0) 5), .int .u8 ((fun _ => 0) 6), .int .u8 ((fun _ => 0) 7), .int .u8 ((fun _ => 0) 8), .int .u8 ((fun _ => 0) 9), .int .u8 ((fun _ => 0) 10), .int .u8 ((fun _ => 0) 11), .int .u8 ((fun _ => 0) 12), .int .u8 ((fun _ => 0) 13), .int .u8 ((fun _ => 0) 14), .int .u8 ((fun _ => 0) 15), .int .i64 0] 47) (by kernel_rfl) (by kernel_rfl) rfl rfl rfl rfl rfl rfl (by decide) (by decide) (by decide) (by kernel_rfl) ⟨fun _ => rfl, fun _ _ => by kernel_rfl⟩ ⟨fun _ => rfl, fun _ _ => by kernel_rfl⟩ ⟨fun _ => rfl, fun _ _ => by kernel_rfl⟩ ?_
  apply Exists.intro
  refine ⟨fun wx hbx => ?_, ?_⟩
  · skip
    have HCX := Lib.hid (cell_up hbx HCX.out)
    have HCP := Lib.hid (cell_up hbx HCP.out)
    have HCQ := Lib.hid (cell_up hbx HCQ.out)
    have hpX : partOf wx w.heap.size 0 17 = #[.bool s, .int .u8 (B 0), .int .u8 (B 1), .int .u8 (B 2), .int .u8 (B 3), .int .u8 (B 4), .int .u8 (B 5), .int .u8 (B 6), .int .u8 (B 7), .int .u8 (B 8), .int .u8 (B 9), .int .u8 (B 10), .int .u8 (B 11), .int .u8 (B 12), .int .u8 (B 13), .int .u8 (B 14), .int .u8 (B 15)] := by rw [partOf_row _ _ _ _ _ _ _ HCX.out]; simp
    have hqX := (Array.getElem?_eq_some_iff.1 HCX.out).1
    have hpP : partOf wx (w.heap.size + 1) 0 18 = #[.bool s2, .int .u8 (B2 0), .int .u8 (B2 1), .int .u8 (B2 2), .int .u8 (B2 3), .int .u8 (B2 4), .int .u8 (B2 5), .int .u8 (B2 6), .int .u8 (B2 7), .int .u8 (B2 8), .int .u8 (B2 9), .int .u8 (B2 10), .int .u8 (B2 11), .int .u8 (B2 12), .int .u8 (B2 13), .int .u8 (B2 14), .int .u8 (B2 15), .int .i64 n2] := by rw [partOf_row _ _ _ _ _ _ _ HCP.out]; simp
    have hqP := (Array.getElem?_eq_some_iff.1 HCP.out).1
    have hpQ : partOf wx (w.heap.size + 1 + 1) 0 18 = #[.bool s3, .int .u8 (B3 0), .int .u8 (B3 1), .int .u8 (B3 2), .int .u8 (B3 3), .int .u8 (B3 4), .int .u8 (B3 5), .int .u8 (B3 6), .int .u8 (B3 7), .int .u8 (B3 8), .int .u8 (B3 9), .int .u8 (B3 10), .int .u8 (B3 11), .int .u8 (B3 12), .int .u8 (B3 13), .int .u8 (B3 14), .int .u8 (B3 15), .int .i64 n3] := by rw [partOf_row _ _ _ _ _ _ _ HCQ.out]; simp
    have hqQ := (Array.getElem?_eq_some_iff.1 HCQ.out).1
    simp only [List.take_succ_cons, List.take_zero]
    repeat go_big_quiet_step (fail)
    go_big_quiet_step ((go_at_call 17; exact later_call (HDX.out _)))
    repeat go_big_quiet_step (fail)
    go_big_quiet_step ((go_at_call 18; exact later_call (HDP.out _)))
    repeat go_big_quiet_step (fail)
    go_big_quiet_step ((go_at_call 18; exact later_call (HDQ.out _)))
    repeat go_big_quiet_step (fail)
    exact wpQuiet_nil rfl
  intro gx gp gq wn hbn hgx hgp hgq hxp hxq hpq hcx0 hcp0 hcq0
  simp only [List.drop_succ_cons, List.drop_zero]
  have qX := (Array.getElem?_eq_some_iff.1 HCX.out).1
  have qP := (Array.getElem?_eq_some_iff.1 HCP.out).1
  have qQ := (Array.getElem?_eq_some_iff.1 HCQ.out).1
  have HBn : Hid (Below w.heap.size w wn) := Lib.hid (Below.via (HB.out) hbn)
  have hcX := cell_up hbn HCX.out
  have hcP := cell_up hbn HCP.out
  have hcQ := cell_up hbn HCQ.out
  have hsz := (HB.out).size
  have hfX : rowFree wn gx 17 = true := by rw [rowFree_row _ _ _ _ _ hcx0]; rfl
  have hcp1 := (setRow_other wn gx gp #[.bool s, .int .u8 (B 0), .int .u8 (B 1), .int .u8 (B 2), .int .u8 (B 3), .int .u8 (B 4), .int .u8 (B 5), .int .u8 (B 6), .int .u8 (B 7), .int .u8 (B 8), .int .u8 (B 9), .int .u8 (B 10), .int .u8 (B 11), .int .u8 (B 12), .int .u8 (B 13), .int .u8 (B 14), .int .u8 (B 15)] (Ne.symm hxp)).trans hcp0
  have hcq1 := (setRow_other wn gx gq #[.bool s, .int .u8 (B 0), .int .u8 (B 1), .int .u8 (B 2), .int .u8 (B 3), .int .u8 (B 4), .int .u8 (B 5), .int .u8 (B 6), .int .u8 (B 7), .int .u8 (B 8), .int .u8 (B 9), .int .u8 (B 10), .int .u8 (B 11), .int .u8 (B 12), .int .u8 (B 13), .int .u8 (B 14), .int .u8 (B 15)] (Ne.symm hxq)).trans hcq0
  have hfP : rowFree (wn.setRow gx #[.bool s, .int .u8 (B 0), .int .u8 (B 1), .int .u8 (B 2), .int .u8 (B 3), .int .u8 (B 4), .int .u8 (B 5), .int .u8 (B 6), .int .u8 (B 7), .int .u8 (B 8), .int .u8 (B 9), .int .u8 (B 10), .int .u8 (B 11), .int .u8 (B 12), .int .u8 (B 13), .int .u8 (B 14), .int .u8 (B 15)]) gp 18 = true := by rw [rowFree_row _ _ _ _ _ hcp1]; rfl
  have hcq2 := (setRow_other (wn.setRow gx #[.bool s, .int .u8 (B 0), .int .u8 (B 1), .int .u8 (B 2), .int .u8 (B 3), .int .u8 (B 4), .int .u8 (B 5), .int .u8 (B 6), .int .u8 (B 7), .int .u8 (B 8), .int .u8 (B 9), .int .u8 (B 10), .int .u8 (B 11), .int .u8 (B 12), .int .u8 (B 13), .int .u8 (B 14), .int .u8 (B 15)]) gp gq #[.bool s2, .int .u8 (B2 0), .int .u8 (B2 1), .int .u8 (B2 2), .int .u8 (B2 3), .int .u8 (B2 4), .int .u8 (B2 5), .int .u8 (B2 6), .int .u8 (B2 7), .int .u8 (B2 8), .int .u8 (B2 9), .int .u8 (B2 10), .int .u8 (B2 11), .int .u8 (B2 12), .int .u8 (B2 13), .int .u8 (B2 14), .int .u8 (B2 15), .int .i64 n2] (Ne.symm hpq)).trans hcq1
  have hfQ : rowFree ((wn.setRow gx #[.bool s, .int .u8 (B 0), .int .u8 (B 1), .int .u8 (B 2), .int .u8 (B 3), .int .u8 (B 4), .int .u8 (B 5), .int .u8 (B 6), .int .u8 (B 7), .int .u8 (B 8), .int .u8 (B 9), .int .u8 (B 10), .int .u8 (B 11), .int .u8 (B 12), .int .u8 (B 13), .int .u8 (B 14), .int .u8 (B 15)]).setRow gp #[.bool s2, .int .u8 (B2 0), .int .u8 (B2 1), .int .u8 (B2 2), .int .u8 (B2 3), .int .u8 (B2 4), .int .u8 (B2 5), .int .u8 (B2 6), .int .u8 (B2 7), .int .u8 (B2 8), .int .u8 (B2 9), .int .u8 (B2 10), .int .u8 (B2 11), .int .u8 (B2 12), .int .u8 (B2 13), .int .u8 (B2 14), .int .u8 (B2 15), .int .i64 n2]) gq 18 = true := by rw [rowFree_row _ _ _ _ _ hcq2]; rfl
  have HCx : Hid ((((wn.setRow gx #[.bool s, .int .u8 (B 0), .int .u8 (B 1), .int .u8 (B 2), .int .u8 (B 3), .int .u8 (B 4), .int .u8 (B 5), .int .u8 (B 6), .int .u8 (B 7), .int .u8 (B 8), .int .u8 (B 9), .int .u8 (B 10), .int .u8 (B 11), .int .u8 (B 12), .int .u8 (B 13), .int .u8 (B 14), .int .u8 (B 15)]).setRow gp #[.bool s2, .int .u8 (B2 0), .int .u8 (B2 1), .int .u8 (B2 2), .int .u8 (B2 3), .int .u8 (B2 4), .int .u8 (B2 5), .int .u8 (B2 6), .int .u8 (B2 7), .int .u8 (B2 8), .int .u8 (B2 9), .int .u8 (B2 10), .int .u8 (B2 11), .int .u8 (B2 12), .int .u8 (B2 13), .int .u8 (B2 14), .int .u8 (B2 15), .int .i64 n2]).setRow gq #[.bool s3, .int .u8 (B3 0), .int .u8 (B3 1), .int .u8 (B3 2), .int .u8 (B3 3), .int .u8 (B3 4), .int .u8 (B3 5), .int .u8 (B3 6), .int .u8 (B3 7), .int .u8 (B3 8), .int .u8 (B3 9), .int .u8 (B3 10), .int .u8 (B3 11), .int .u8 (B3 12), .int .u8 (B3 13), .int .u8 (B3 14), .int .u8 (B3 15), .int .i64 n3]).heap[gx]? = some (.cells #[.bool s, .int .u8 (B 0), .int .u8 (B 1), .int .u8 (B 2), .int .u8 (B 3), .int .u8 (B 4), .int .u8 (B 5), .int .u8 (B 6), .int .u8 (B 7), .int .u8 (B 8), .int .u8 (B 9), .int .u8 (B 10), .int .u8 (B 11), .int .u8 (B 12), .int .u8 (B 13), .int .u8 (B 14), .int .u8 (B 15)] 41 (0, 0))) := Lib.hid ((setRow_other _ gq gx _ hxq).trans ((setRow_other _ gp gx _ hxp).trans (setRow_heap _ _ _ _ _ _ hcx0)))
  have HCp : Hid ((((wn.setRow gx #[.bool s, .int .u8 (B 0), .int .u8 (B 1), .int .u8 (B 2), .int .u8 (B 3), .int .u8 (B 4), .int .u8 (B 5), .int .u8 (B 6), .int .u8 (B 7), .int .u8 (B 8), .int .u8 (B 9), .int .u8 (B 10), .int .u8 (B 11), .int .u8 (B 12), .int .u8 (B 13), .int .u8 (B 14), .int .u8 (B 15)]).setRow gp #[.bool s2, .int .u8 (B2 0), .int .u8 (B2 1), .int .u8 (B2 2), .int .u8 (B2 3), .int .u8 (B2 4), .int .u8 (B2 5), .int .u8 (B2 6), .int .u8 (B2 7), .int .u8 (B2 8), .int .u8 (B2 9), .int .u8 (B2 10), .int .u8 (B2 11), .int .u8 (B2 12), .int .u8 (B2 13), .int .u8 (B2 14), .int .u8 (B2 15), .int .i64 n2]).setRow gq #[.bool s3, .int .u8 (B3 0), .int .u8 (B3 1), .int .u8 (B3 2), .int .u8 (B3 3), .int .u8 (B3 4), .int .u8 (B3 5), .int .u8 (B3 6), .int .u8 (B3 7), .int .u8 (B3 8), .int .u8 (B3 9), .int .u8 (B3 10), .int .u8 (B3 11), .int .u8 (B3 12), .int .u8 (B3 13), .int .u8 (B3 14), .int .u8 (B3 15), .int .i64 n3]).heap[gp]? = some (.cells #[.bool s2, .int .u8 (B2 0), .int .u8 (B2 1), .int .u8 (B2 2), .int .u8 (B2 3), .int .u8 (B2 4), .int .u8 (B2 5), .int .u8 (B2 6), .int .u8 (B2 7), .int .u8 (B2 8), .int .u8 (B2 9), .int .u8 (B2 10), .int .u8 (B2 11), .int .u8 (B2 12), .int .u8 (B2 13), .int .u8 (B2 14), .int .u8 (B2 15), .int .i64 n2] 47 (0, 0))) := Lib.hid ((setRow_other _ gq gp _ hpq).trans (setRow_heap _ _ _ _ _ _ hcp1))
  have HCq : Hid ((((wn.setRow gx #[.bool s, .int .u8 (B 0), .int .u8 (B 1), .int .u8 (B 2), .int .u8 (B 3), .int .u8 (B 4), .int .u8 (B 5), .int .u8 (B 6), .int .u8 (B 7), .int .u8 (B 8), .int .u8 (B 9), .int .u8 (B 10), .int .u8 (B 11), .int .u8 (B 12), .int .u8 (B 13), .int .u8 (B 14), .int .u8 (B 15)]).setRow gp #[.bool s2, .int .u8 (B2 0), .int .u8 (B2 1), .int .u8 (B2 2), .int .u8 (B2 3), .int .u8 (B2 4), .int .u8 (B2 5), .int .u8 (B2 6), .int .u8 (B2 7), .int .u8 (B2 8), .int .u8 (B2 9), .int .u8 (B2 10), .int .u8 (B2 11), .int .u8 (B2 12), .int .u8 (B2 13), .int .u8 (B2 14), .int .u8 (B2 15), .int .i64 n2]).setRow gq #[.bool s3, .int .u8 (B3 0), .int .u8 (B3 1), .int .u8 (B3 2), .int .u8 (B3 3), .int .u8 (B3 4), .int .u8 (B3 5), .int .u8 (B3 6), .int .u8 (B3 7), .int .u8 (B3 8), .int .u8 (B3 9), .int .u8 (B3 10), .int .u8 (B3 11), .int .u8 (B3 12), .int .u8 (B3 13), .int .u8 (B3 14), .int .u8 (B3 15), .int .i64 n3]).heap[gq]? = some (.cells #[.bool s3, .int .u8 (B3 0), .int .u8 (B3 1), .int .u8 (B3 2), .int .u8 (B3 3), .int .u8 (B3 4), .int .u8 (B3 5), .int .u8 (B3 6), .int .u8 (B3 7), .int .u8 (B3 8), .int .u8 (B3 9), .int .u8 (B3 10), .int .u8 (B3 11), .int .u8 (B3 12), .int .u8 (B3 13), .int .u8 (B3 14), .int .u8 (B3 15), .int .i64 n3] 47 (0, 0))) := Lib.hid (setRow_heap _ _ _ _ _ _ hcq2)
  have HKX : Hid ((((wn.setRow gx #[.bool s, .int .u8 (B 0), .int .u8 (B 1), .int .u8 (B 2), .int .u8 (B 3), .int .u8 (B 4), .int .u8 (B 5), .int .u8 (B 6), .int .u8 (B 7), .int .u8 (B 8), .int .u8 (B 9), .int .u8 (B 10), .int .u8 (B 11), .int .u8 (B 12), .int .u8 (B 13), .int .u8 (B 14), .int .u8 (B 15)]).setRow gp #[.bool s2, .int .u8 (B2 0), .int .u8 (B2 1), .int .u8 (B2 2), .int .u8 (B2 3), .int .u8 (B2 4), .int .u8 (B2 5), .int .u8 (B2 6), .int .u8 (B2 7), .int .u8 (B2 8), .int .u8 (B2 9), .int .u8 (B2 10), .int .u8 (B2 11), .int .u8 (B2 12), .int .u8 (B2 13), .int .u8 (B2 14), .int .u8 (B2 15), .int .i64 n2]).setRow gq #[.bool s3, .int .u8 (B3 0), .int .u8 (B3 1), .int .u8 (B3 2), .int .u8 (B3 3), .int .u8 (B3 4), .int .u8 (B3 5), .int .u8 (B3 6), .int .u8 (B3 7), .int .u8 (B3 8), .int .u8 (B3 9), .int .u8 (B3 10), .int .u8 (B3 11), .int .u8 (B3 12), .int .u8 (B3 13), .int .u8 (B3 14), .int .u8 (B3 15), .int .i64 n3]).heap[w.heap.size]? = some (.cells #[.bool s, .int .u8 (B 0), .int .u8 (B 1), .int .u8 (B 2), .int .u8 (B 3), .int .u8 (B 4), .int .u8 (B 5), .int .u8 (B 6), .int .u8 (B 7), .int .u8 (B 8), .int .u8 (B 9), .int .u8 (B 10), .int .u8 (B 11), .int .u8 (B 12), .int .u8 (B 13), .int .u8 (B 14), .int .u8 (B 15)] 26 (0, 0))) := Lib.hid ((setRow_other _ gq _ _ (by omega)).trans ((setRow_other _ gp _ _ (by omega)).trans ((setRow_other _ gx _ _ (by omega)).trans hcX)))
  have HKP : Hid ((((wn.setRow gx #[.bool s, .int .u8 (B 0), .int .u8 (B 1), .int .u8 (B 2), .int .u8 (B 3), .int .u8 (B 4), .int .u8 (B 5), .int .u8 (B 6), .int .u8 (B 7), .int .u8 (B 8), .int .u8 (B 9), .int .u8 (B 10), .int .u8 (B 11), .int .u8 (B 12), .int .u8 (B 13), .int .u8 (B 14), .int .u8 (B 15)]).setRow gp #[.bool s2, .int .u8 (B2 0), .int .u8 (B2 1), .int .u8 (B2 2), .int .u8 (B2 3), .int .u8 (B2 4), .int .u8 (B2 5), .int .u8 (B2 6), .int .u8 (B2 7), .int .u8 (B2 8), .int .u8 (B2 9), .int .u8 (B2 10), .int .u8 (B2 11), .int .u8 (B2 12), .int .u8 (B2 13), .int .u8 (B2 14), .int .u8 (B2 15), .int .i64 n2]).setRow gq #[.bool s3, .int .u8 (B3 0), .int .u8 (B3 1), .int .u8 (B3 2), .int .u8 (B3 3), .int .u8 (B3 4), .int .u8 (B3 5), .int .u8 (B3 6), .int .u8 (B3 7), .int .u8 (B3 8), .int .u8 (B3 9), .int .u8 (B3 10), .int .u8 (B3 11), .int .u8 (B3 12), .int .u8 (B3 13), .int .u8 (B3 14), .int .u8 (B3 15), .int .i64 n3]).heap[w.heap.size + 1]? = some (.cells #[.bool s2, .int .u8 (B2 0), .int .u8 (B2 1), .int .u8 (B2 2), .int .u8 (B2 3), .int .u8 (B2 4), .int .u8 (B2 5), .int .u8 (B2 6), .int .u8 (B2 7), .int .u8 (B2 8), .int .u8 (B2 9), .int .u8 (B2 10), .int .u8 (B2 11), .int .u8 (B2 12), .int .u8 (B2 13), .int .u8 (B2 14), .int .u8 (B2 15), .int .i64 n2] 33 (0, 0))) := Lib.hid ((setRow_other _ gq _ _ (by omega)).trans ((setRow_other _ gp _ _ (by omega)).trans ((setRow_other _ gx _ _ (by omega)).trans hcP)))
  have HKQ : Hid ((((wn.setRow gx #[.bool s, .int .u8 (B 0), .int .u8 (B 1), .int .u8 (B 2), .int .u8 (B 3), .int .u8 (B 4), .int .u8 (B 5), .int .u8 (B 6), .int .u8 (B 7), .int .u8 (B 8), .int .u8 (B 9), .int .u8 (B 10), .int .u8 (B 11), .int .u8 (B 12), .int .u8 (B 13), .int .u8 (B 14), .int .u8 (B 15)]).setRow gp #[.bool s2, .int .u8 (B2 0), .int .u8 (B2 1), .int .u8 (B2 2), .int .u8 (B2 3), .int .u8 (B2 4), .int .u8 (B2 5), .int .u8 (B2 6), .int .u8 (B2 7), .int .u8 (B2 8), .int .u8 (B2 9), .int .u8 (B2 10), .int .u8 (B2 11), .int .u8 (B2 12), .int .u8 (B2 13), .int .u8 (B2 14), .int .u8 (B2 15), .int .i64 n2]).setRow gq #[.bool s3, .int .u8 (B3 0), .int .u8 (B3 1), .int .u8 (B3 2), .int .u8 (B3 3), .int .u8 (B3 4), .int .u8 (B3 5), .int .u8 (B3 6), .int .u8 (B3 7), .int .u8 (B3 8), .int .u8 (B3 9), .int .u8 (B3 10), .int .u8 (B3 11), .int .u8 (B3 12), .int .u8 (B3 13), .int .u8 (B3 14), .int .u8 (B3 15), .int .i64 n3]).heap[w.heap.size + 1 + 1]? = some (.cells #[.bool s3, .int .u8 (B3 0), .int .u8 (B3 1), .int .u8 (B3 2), .int .u8 (B3 3), .int .u8 (B3 4), .int .u8 (B3 5), .int .u8 (B3 6), .int .u8 (B3 7), .int .u8 (B3 8), .int .u8 (B3 9), .int .u8 (B3 10), .int .u8 (B3 11), .int .u8 (B3 12), .int .u8 (B3 13), .int .u8 (B3 14), .int .u8 (B3 15), .int .i64 n3] 33 (0, 0))) := Lib.hid ((setRow_other _ gq _ _ (by omega)).trans ((setRow_other _ gp _ _ (by omega)).trans ((setRow_other _ gx _ _ (by omega)).trans hcQ)))
  have HB7 : Hid (Below w.heap.size w (((wn.setRow gx #[.bool s, .int .u8 (B 0), .int .u8 (B 1), .int .u8 (B 2), .int .u8 (B 3), .int .u8 (B 4), .int .u8 (B 5), .int .u8 (B 6), .int .u8 (B 7), .int .u8 (B 8), .int .u8 (B 9), .int .u8 (B 10), .int .u8 (B 11), .int .u8 (B 12), .int .u8 (B 13), .int .u8 (B 14), .int .u8 (B 15)]).setRow gp #[.bool s2, .int .u8 (B2 0), .int .u8 (B2 1), .int .u8 (B2 2), .int .u8 (B2 3), .int .u8 (B2 4), .int .u8 (B2 5), .int .u8 (B2 6), .int .u8 (B2 7), .int .u8 (B2 8), .int .u8 (B2 9), .int .u8 (B2 10), .int .u8 (B2 11), .int .u8 (B2 12), .int .u8 (B2 13), .int .u8 (B2 14), .int .u8 (B2 15), .int .i64 n2]).setRow gq #[.bool s3, .int .u8 (B3 0), .int .u8 (B3 1), .int .u8 (B3 2), .int .u8 (B3 3), .int .u8 (B3 4), .int .u8 (B3 5), .int .u8 (B3 6), .int .u8 (B3 7), .int .u8 (B3 8), .int .u8 (B3 9), .int .u8 (B3 10), .int .u8 (B3 11), .int .u8 (B3 12), .int .u8 (B3 13), .int .u8 (B3 14), .int .u8 (B3 15), .int .i64 n3])) := Lib.hid (below_setRow (below_setRow (below_setRow HBn.out (by omega) _) (by omega) _) (by omega) _)
  clear hcX hcP hcQ hcx0 hcp0 hcq0 hcp1 hcq1 hcq2 HBn hbn
  clear HCX HCP HCQ
  have HCX := HKX
  have HCP := HKP
  have HCQ := HKQ
  clear HKX HKP HKQ
  simp only [Act.put, ptrTo, List.setIfInBounds_toArray, List.set_cons_succ, List.set_cons_zero]
  go_wp2_with fail
  generalize hWm : ((wn.setRow gx #[.bool s, .int .u8 (B 0), .int .u8 (B 1), .int .u8 (B 2), .int .u8 (B 3), .int .u8 (B 4), .int .u8 (B 5), .int .u8 (B 6), .int .u8 (B 7), .int .u8 (B 8), .int .u8 (B 9), .int .u8 (B 10), .int .u8 (B 11), .int .u8 (B 12), .int .u8 (B 13), .int .u8 (B 14), .int .u8 (B 15)]).setRow gp #[.bool s2, .int .u8 (B2 0), .int .u8 (B2 1), .int .u8 (B2 2), .int .u8 (B2 3), .int .u8 (B2 4), .int .u8 (B2 5), .int .u8 (B2 6), .int .u8 (B2 7), .int .u8 (B2 8), .int .u8 (B2 9), .int .u8 (B2 10), .int .u8 (B2 11), .int .u8 (B2 12), .int .u8 (B2 13), .int .u8 (B2 14), .int .u8 (B2 15), .int .i64 n2]).setRow gq #[.bool s3, .int .u8 (B3 0), .int .u8 (B3 1), .int .u8 (B3 2), .int .u8 (B3 3), .int .u8 (B3 4), .int .u8 (B3 5), .int .u8 (B3 6), .int .u8 (B3 7), .int .u8 (B3 8), .int .u8 (B3 9), .int .u8 (B3 10), .int .u8 (B3 11), .int .u8 (B3 12), .int .u8 (B3 13), .int .u8 (B3 14), .int .u8 (B3 15), .int .i64 n3] = wm at *
  clear hWm
  clear hfX hfP hfQ qX qP qQ hsz hgx hgp hgq hxp hxq hpq HDX HDP HDQ
  have hpX : partOf wm w.heap.size 0 17 = #[.bool s, .int .u8 (B 0), .int .u8 (B 1), .int .u8 (B 2), .int .u8 (B 3), .int .u8 (B 4), .int .u8 (B 5), .int .u8 (B 6), .int .u8 (B 7), .int .u8 (B 8), .int .u8 (B 9), .int .u8 (B 10), .int .u8 (B 11), .int .u8 (B 12), .int .u8 (B 13), .int .u8 (B 14), .int .u8 (B 15)] := by rw [partOf_row _ _ _ _ _ _ _ HCX.out]; simp
  have hqX := (Array.getElem?_eq_some_iff.1 HCX.out).1
  have hpP : partOf wm (w.heap.size + 1) 0 18 = #[.bool s2, .int .u8 (B2 0), .int .u8 (B2 1), .int .u8 (B2 2), .int .u8 (B2 3), .int .u8 (B2 4), .int .u8 (B2 5), .int .u8 (B2 6), .int .u8 (B2 7), .int .u8 (B2 8), .int .u8 (B2 9), .int .u8 (B2 10), .int .u8 (B2 11), .int .u8 (B2 12), .int .u8 (B2 13), .int .u8 (B2 14), .int .u8 (B2 15), .int .i64 n2] := by rw [partOf_row _ _ _ _ _ _ _ HCP.out]; simp
  have hqP := (Array.getElem?_eq_some_iff.1 HCP.out).1
  have hpQ : partOf wm (w.heap.size + 1 + 1) 0 18 = #[.bool s3, .int .u8 (B3 0), .int .u8 (B3 1), .int .u8 (B3 2), .int .u8 (B3 3), .int .u8 (B3 4), .int .u8 (B3 5), .int .u8 (B3 6), .int .u8 (B3 7), .int .u8 (B3 8), .int .u8 (B3 9), .int .u8 (B3 10), .int .u8 (B3 11), .int .u8 (B3 12), .int .u8 (B3 13), .int .u8 (B3 14), .int .u8 (B3 15), .int .i64 n3] := by rw [partOf_row _ _ _ _ _ _ _ HCQ.out]; simp
  have hqQ := (Array.getElem?_eq_some_iff.1 HCQ.out).1
  have hpx : partOf wm gx 0 17 = #[.bool s, .int .u8 (B 0), .int .u8 (B 1), .int .u8 (B 2), .int .u8 (B 3), .int .u8 (B 4), .int .u8 (B 5), .int .u8 (B 6), .int .u8 (B 7), .int .u8 (B 8), .int .u8 (B 9), .int .u8 (B 10), .int .u8 (B 11), .int .u8 (B 12), .int .u8 (B 13), .int .u8 (B 14), .int .u8 (B 15)] := by rw [partOf_row _ _ _ _ _ _ _ HCx.out]; simp
  have hqx := (Array.getElem?_eq_some_iff.1 HCx.out).1
  have hpp : partOf wm gp 0 18 = #[.bool s2, .int .u8 (B2 0), .int .u8 (B2 1), .int .u8 (B2 2), .int .u8 (B2 3), .int .u8 (B2 4), .int .u8 (B2 5), .int .u8 (B2 6), .int .u8 (B2 7), .int .u8 (B2 8), .int .u8 (B2 9), .int .u8 (B2 10), .int .u8 (B2 11), .int .u8 (B2 12), .int .u8 (B2 13), .int .u8 (B2 14), .int .u8 (B2 15), .int .i64 n2] := by rw [partOf_row _ _ _ _ _ _ _ HCp.out]; simp
  have hqp := (Array.getElem?_eq_some_iff.1 HCp.out).1
  have hpq : partOf wm gq 0 18 = #[.bool s3, .int .u8 (B3 0), .int .u8 (B3 1), .int .u8 (B3 2), .int .u8 (B3 3), .int .u8 (B3 4), .int .u8 (B3 5), .int .u8 (B3 6), .int .u8 (B3 7), .int .u8 (B3 8), .int .u8 (B3 9), .int .u8 (B3 10), .int .u8 (B3 11), .int .u8 (B3 12), .int .u8 (B3 13), .int .u8 (B3 14), .int .u8 (B3 15), .int .i64 n3] := by rw [partOf_row _ _ _ _ _ _ _ HCq.out]; simp
  have hqq := (Array.getElem?_eq_some_iff.1 HCq.out).1
  have HL0 := Lib.hid (fun (x : Later wm) => HCU.out x.world)
  have HL1 := Lib.hid (fun (x : Later wm) => HDC.out x.world)
  have HL2 := Lib.hid (fun (x : Later wm) => HRC.out x.world)
  have HL3 := Lib.hid (fun (x : Later wm) => HPR.out x.world)
  have HL4 := Lib.hid (fun (x : Later wm) => HRR.out x.world)
  have HL5 := Lib.hid (fun (x : Later wm) => HHA.out x.world)
  have HL6 := Lib.hid (fun (x : Later wm) => HRH.out x.world)
  have HL7 := Lib.hid (fun (x : Later wm) => HWI.out x.world)
  have HL8 := Lib.hid (fun (x : Later wm) => HRW.out x.world)
  have HL9 := Lib.hid (fun (x : Later wm) => HTX.out x.world (Env.later (HE.out.below HB7.out) x))
  have HL10 := Lib.hid (fun (x : Later wm) => HRT.out x.world)
  have HL11 := Lib.hid (fun (x : Later wm) => works_any x.world (Env.later (HE.out.below HB7.out) x))
  refine wp_region_later (by kernel_rfl) (by kernel_rfl) ?_
  repeat go_big_quiet_step (fail)
  go_big_quiet_step ((go_at_call 9; exact later_call (HL0.out _)))
  repeat go_big_quiet_step (fail)
  go_big_quiet_step ((go_at_call 18; exact later_call (HL1.out _)))
  repeat go_big_quiet_step (fail)
  go_big_quiet_step ((go_at_call 36; exact later_call (HL2.out _)))
  repeat go_big_quiet_step (fail)
  go_big_quiet_step ((go_at_call 23; exact later_call (HL3.out _)))
  repeat go_big_quiet_step (fail)
  go_big_quiet_step ((go_at_call 37; exact later_call (HL4.out _)))
  repeat go_big_quiet_step (fail)
  go_big_quiet_step ((go_at_call 24; exact later_call (HL5.out _)))
  repeat go_big_quiet_step (fail)
  go_big_quiet_step ((go_at_call 38; exact later_call (HL6.out _)))
  repeat go_big_quiet_step (fail)
  go_big_quiet_step ((go_at_call 25; exact later_call (HL7.out _)))
  repeat go_big_quiet_step (fail)
  go_big_quiet_step ((go_at_call 39; exact later_call (HL8.out _)))
  repeat go_big_quiet_step (fail)
  go_big_quiet_step ((go_at_call 22; exact later_call (HL9.out _)))
  repeat go_big_quiet_step (fail)
  go_big_quiet_step ((go_at_call 40; exact later_call (HL10.out _)))
  repeat go_big_quiet_step (fail)
  go_big_quiet_step ((go_at_call 12; exact later_call (HL11.out _)))
  repeat go_big_quiet_step (fail)
  refine wpQuiet_nil ?_
  intro x
  have hb := x.below
  generalize x.world = w1 at *
  have HB1 : Hid (Below w.heap.size w w1) := Lib.hid (Below.via (HB7.out) hb)
  have HCX := Lib.hid (cell_up hb HCX.out)
  have HCP := Lib.hid (cell_up hb HCP.out)
  have HCQ := Lib.hid (cell_up hb HCQ.out)
  have HCx := Lib.hid (cell_up hb HCx.out)
  have HCp := Lib.hid (cell_up hb HCp.out)
  have HCq := Lib.hid (cell_up hb HCq.out)
  clear hb HL0 HL1 HL2 HL3 HL4 HL5 HL6 HL7 HL8 HL9 HL10 HL11 x
  clear hpX hqX hpP hqP hpQ hqQ hpx hqx hpp hqp hpq hqq
  go_wp2_with fail
  go_ret
  exact .mk rfl HB1.out
end Go.Proofs.YtcadpcppnllhnaaGreatDoor
end

/- The walk over the law AddrReads. -/
section
set_option linter.unusedSimpArgs false
set_option linter.unusedVariables false
namespace Go.Proofs.YtcadpcppnllhnaaGreatDoor
open Go.RowKit

theorem parseV_form (o : Option (Bool × (Nat → Int))) : ∃ (six : Bool) (B : Nat → Int) (e : Int), parseV o = .tuple #[adV six B, .int .i64 e] := by
  cases o with
  | none => exact ⟨false, _, 40, rfl⟩
  | some p => exact ⟨p.1, p.2, 0, rfl⟩
theorem ppV_form (o : Option (Bool × (Nat → Int) × Nat)) : ∃ (six : Bool) (B : Nat → Int) (n e : Int), ppV o = .tuple #[pfV six B n, .int .i64 e] := by
  cases o with
  | none => exact ⟨false, _, 0, 40, rfl⟩
  | some p => exact ⟨p.1, p.2.1, (p.2.2 : Int), 0, rfl⟩
theorem eqL_self (l : List Int) : eqL l l = true := (eqL_iff l l).2 rfl

set_option maxRecDepth 20000 in
set_option maxHeartbeats 16000000 in
theorem reads_any (s : ByteArray) (w : World) (henv : Env w) : Calls Tryz.prog 4 #[.string s] w (RetAt w (.bool true)) := by
  have HE := Lib.hid henv
  clear henv
  by_cases hs : s.size ≤ 100
  · obtain ⟨six, B, e, hv⟩ := parseV_form (parseL s.data.toList)
    obtain ⟨six2, B2, n2, e2, hv2⟩ := ppV_form (ppL s.data.toList)
    have H1 := Lib.hid (fun w h => parse_any s w (by omega) h)
    have H2 := Lib.hid (fun w => rparse_any s w (by omega))
    have H3 := Lib.hid (fun w h => pparse_any s w (by omega) h)
    have H4 := Lib.hid (fun w => rpparse_any s w (by omega))
    rw [hv] at H1 H2
    rw [hv2] at H3 H4
    have he1 := eqL_self [B 0, B 1, B 2, B 3, B 4, B 5, B 6, B 7, B 8, B 9, B 10, B 11, B 12, B 13, B 14, B 15]
    have he2 := eqL_self [B2 0, B2 1, B2 2, B2 3, B2 4, B2 5, B2 6, B2 7, B2 8, B2 9, B2 10, B2 11, B2 12, B2 13, B2 14, B2 15]
    have HD1 := Lib.hid (fun w => docsaddr_any six B w)
    have HD2 := Lib.hid (fun w => docspf_any six2 B2 n2 w)
    have hs2 : ¬ ((s.size : Int) > 100) := by omega
    clear hv hv2 hs
    unfold adV pfV at *
    go_enter Tryz.func4, Tryz.ntmps4
    go_wp2_with fail
    refine Calls.mono (H1.out _ (HE.out)) ?_
    rintro e' w1 ⟨rfl, hb⟩
    have HB1 : Hid (Below w.heap.size w (w1.alloc (.cells #[.bool six, .int .u8 (B 0), .int .u8 (B 1), .int .u8 (B 2), .int .u8 (B 3), .int .u8 (B 4), .int .u8 (B 5), .int .u8 (B 6), .int .u8 (B 7), .int .u8 (B 8), .int .u8 (B 9), .int .u8 (B 10), .int .u8 (B 11), .int .u8 (B 12), .int .u8 (B 13), .int .u8 (B 14), .int .u8 (B 15)] 26))) := Lib.hid (Below.all (Below.via (Below.refl _ _) hb) _)
    have hz1 : w1.heap.size < (w1.alloc (.cells #[.bool six, .int .u8 (B 0), .int .u8 (B 1), .int .u8 (B 2), .int .u8 (B 3), .int .u8 (B 4), .int .u8 (B 5), .int .u8 (B 6), .int .u8 (B 7), .int .u8 (B 8), .int .u8 (B 9), .int .u8 (B 10), .int .u8 (B 11), .int .u8 (B 12), .int .u8 (B 13), .int .u8 (B 14), .int .u8 (B 15)] 26)).heap.size := by simp
    have HC1 : Hid ((w1.alloc (.cells #[.bool six, .int .u8 (B 0), .int .u8 (B 1), .int .u8 (B 2), .int .u8 (B 3), .int .u8 (B 4), .int .u8 (B 5), .int .u8 (B 6), .int .u8 (B 7), .int .u8 (B 8), .int .u8 (B 9), .int .u8 (B 10), .int .u8 (B 11), .int .u8 (B 12), .int .u8 (B 13), .int .u8 (B 14), .int .u8 (B 15)] 26)).heap[w1.heap.size]? = some (.cells #[.bool six, .int .u8 (B 0), .int .u8 (B 1), .int .u8 (B 2), .int .u8 (B 3), .int .u8 (B 4), .int .u8 (B 5), .int .u8 (B 6), .int .u8 (B 7), .int .u8 (B 8), .int .u8 (B 9), .int .u8 (B 10), .int .u8 (B 11), .int .u8 (B 12), .int .u8 (B 13), .int .u8 (B 14), .int .u8 (B 15)] 26 (0, 0))) := Lib.hid (heap_alloc_new w1 _)
    clear hb H1
    go_wp2_with fail
    generalize w1.alloc (.cells #[.bool six, .int .u8 (B 0), .int .u8 (B 1), .int .u8 (B 2), .int .u8 (B 3), .int .u8 (B 4), .int .u8 (B 5), .int .u8 (B 6), .int .u8 (B 7), .int .u8 (B 8), .int .u8 (B 9), .int .u8 (B 10), .int .u8 (B 11), .int .u8 (B 12), .int .u8 (B 13), .int .u8 (B 14), .int .u8 (B 15)] 26) = v1 at *
    refine Calls.mono (H2.out _) ?_
    rintro e' w2 ⟨rfl, hb⟩
    have HB2 : Hid (Below w.heap.size w (w2.alloc (.cells #[.bool six, .int .u8 (B 0), .int .u8 (B 1), .int .u8 (B 2), .int .u8 (B 3), .int .u8 (B 4), .int .u8 (B 5), .int .u8 (B 6), .int .u8 (B 7), .int .u8 (B 8), .int .u8 (B 9), .int .u8 (B 10), .int .u8 (B 11), .int .u8 (B 12), .int .u8 (B 13), .int .u8 (B 14), .int .u8 (B 15)] 41))) := Lib.hid (Below.all (Below.via (HB1.out) hb) _)
    have hz2 : w2.heap.size < (w2.alloc (.cells #[.bool six, .int .u8 (B 0), .int .u8 (B 1), .int .u8 (B 2), .int .u8 (B 3), .int .u8 (B 4), .int .u8 (B 5), .int .u8 (B 6), .int .u8 (B 7), .int .u8 (B 8), .int .u8 (B 9), .int .u8 (B 10), .int .u8 (B 11), .int .u8 (B 12), .int .u8 (B 13), .int .u8 (B 14), .int .u8 (B 15)] 41)).heap.size := by simp
    have HC1 := Lib.hid (cell_up (Below.all hb (.cells #[.bool six, .int .u8 (B 0), .int .u8 (B 1), .int .u8 (B 2), .int .u8 (B 3), .int .u8 (B 4), .int .u8 (B 5), .int .u8 (B 6), .int .u8 (B 7), .int .u8 (B 8), .int .u8 (B 9), .int .u8 (B 10), .int .u8 (B 11), .int .u8 (B 12), .int .u8 (B 13), .int .u8 (B 14), .int .u8 (B 15)] 41)) HC1.out)
    have HC2 : Hid ((w2.alloc (.cells #[.bool six, .int .u8 (B 0), .int .u8 (B 1), .int .u8 (B 2), .int .u8 (B 3), .int .u8 (B 4), .int .u8 (B 5), .int .u8 (B 6), .int .u8 (B 7), .int .u8 (B 8), .int .u8 (B 9), .int .u8 (B 10), .int .u8 (B 11), .int .u8 (B 12), .int .u8 (B 13), .int .u8 (B 14), .int .u8 (B 15)] 41)).heap[w2.heap.size]? = some (.cells #[.bool six, .int .u8 (B 0), .int .u8 (B 1), .int .u8 (B 2), .int .u8 (B 3), .int .u8 (B 4), .int .u8 (B 5), .int .u8 (B 6), .int .u8 (B 7), .int .u8 (B 8), .int .u8 (B 9), .int .u8 (B 10), .int .u8 (B 11), .int .u8 (B 12), .int .u8 (B 13), .int .u8 (B 14), .int .u8 (B 15)] 41 (0, 0))) := Lib.hid (heap_alloc_new w2 _)
    clear hb H2
    go_wp2_with fail
    generalize w2.alloc (.cells #[.bool six, .int .u8 (B 0), .int .u8 (B 1), .int .u8 (B 2), .int .u8 (B 3), .int .u8 (B 4), .int .u8 (B 5), .int .u8 (B 6), .int .u8 (B 7), .int .u8 (B 8), .int .u8 (B 9), .int .u8 (B 10), .int .u8 (B 11), .int .u8 (B 12), .int .u8 (B 13), .int .u8 (B 14), .int .u8 (B 15)] 41) = v2 at *
    refine Calls.mono (H3.out _ (HE.out.below HB2.out)) ?_
    rintro e' w3 ⟨rfl, hb⟩
    have HB3 : Hid (Below w.heap.size w (w3.alloc (.cells #[.bool six2, .int .u8 (B2 0), .int .u8 (B2 1), .int .u8 (B2 2), .int .u8 (B2 3), .int .u8 (B2 4), .int .u8 (B2 5), .int .u8 (B2 6), .int .u8 (B2 7), .int .u8 (B2 8), .int .u8 (B2 9), .int .u8 (B2 10), .int .u8 (B2 11), .int .u8 (B2 12), .int .u8 (B2 13), .int .u8 (B2 14), .int .u8 (B2 15), .int .i64 n2] 33))) := Lib.hid (Below.all (Below.via (HB2.out) hb) _)
    have hz3 : w3.heap.size < (w3.alloc (.cells #[.bool six2, .int .u8 (B2 0), .int .u8 (B2 1), .int .u8 (B2 2), .int .u8 (B2 3), .int .u8 (B2 4), .int .u8 (B2 5), .int .u8 (B2 6), .int .u8 (B2 7), .int .u8 (B2 8), .int .u8 (B2 9), .int .u8 (B2 10), .int .u8 (B2 11), .int .u8 (B2 12), .int .u8 (B2 13), .int .u8 (B2 14), .int .u8 (B2 15), .int .i64 n2] 33)).heap.size := by simp
    have HC1 := Lib.hid (cell_up (Below.all hb (.cells #[.bool six2, .int .u8 (B2 0), .int .u8 (B2 1), .int .u8 (B2 2), .int .u8 (B2 3), .int .u8 (B2 4), .int .u8 (B2 5), .int .u8 (B2 6), .int .u8 (B2 7), .int .u8 (B2 8), .int .u8 (B2 9), .int .u8 (B2 10), .int .u8 (B2 11), .int .u8 (B2 12), .int .u8 (B2 13), .int .u8 (B2 14), .int .u8 (B2 15), .int .i64 n2] 33)) HC1.out)
    have HC2 := Lib.hid (cell_up (Below.all hb (.cells #[.bool six2, .int .u8 (B2 0), .int .u8 (B2 1), .int .u8 (B2 2), .int .u8 (B2 3), .int .u8 (B2 4), .int .u8 (B2 5), .int .u8 (B2 6), .int .u8 (B2 7), .int .u8 (B2 8), .int .u8 (B2 9), .int .u8 (B2 10), .int .u8 (B2 11), .int .u8 (B2 12), .int .u8 (B2 13), .int .u8 (B2 14), .int .u8 (B2 15), .int .i64 n2] 33)) HC2.out)
    have HC3 : Hid ((w3.alloc (.cells #[.bool six2, .int .u8 (B2 0), .int .u8 (B2 1), .int .u8 (B2 2), .int .u8 (B2 3), .int .u8 (B2 4), .int .u8 (B2 5), .int .u8 (B2 6), .int .u8 (B2 7), .int .u8 (B2 8), .int .u8 (B2 9), .int .u8 (B2 10), .int .u8 (B2 11), .int .u8 (B2 12), .int .u8 (B2 13), .int .u8 (B2 14), .int .u8 (B2 15), .int .i64 n2] 33)).heap[w3.heap.size]? = some (.cells #[.bool six2, .int .u8 (B2 0), .int .u8 (B2 1), .int .u8 (B2 2), .int .u8 (B2 3), .int .u8 (B2 4), .int .u8 (B2 5), .int .u8 (B2 6), .int .u8 (B2 7), .int .u8 (B2 8), .int .u8 (B2 9), .int .u8 (B2 10), .int .u8 (B2 11), .int .u8 (B2 12), .int .u8 (B2 13), .int .u8 (B2 14), .int .u8 (B2 15), .int .i64 n2] 33 (0, 0))) := Lib.hid (heap_alloc_new w3 _)
    clear hb H3
    go_wp2_with fail
    generalize w3.alloc (.cells #[.bool six2, .int .u8 (B2 0), .int .u8 (B2 1), .int .u8 (B2 2), .int .u8 (B2 3), .int .u8 (B2 4), .int .u8 (B2 5), .int .u8 (B2 6), .int .u8 (B2 7), .int .u8 (B2 8), .int .u8 (B2 9), .int .u8 (B2 10), .int .u8 (B2 11), .int .u8 (B2 12), .int .u8 (B2 13), .int .u8 (B2 14), .int .u8 (B2 15), .int .i64 n2] 33) = v3 at *
    refine Calls.mono (H4.out _) ?_
    rintro e' w4 ⟨rfl, hb⟩
    have HB4 : Hid (Below w.heap.size w (w4.alloc (.cells #[.bool six2, .int .u8 (B2 0), .int .u8 (B2 1), .int .u8 (B2 2), .int .u8 (B2 3), .int .u8 (B2 4), .int .u8 (B2 5), .int .u8 (B2 6), .int .u8 (B2 7), .int .u8 (B2 8), .int .u8 (B2 9), .int .u8 (B2 10), .int .u8 (B2 11), .int .u8 (B2 12), .int .u8 (B2 13), .int .u8 (B2 14), .int .u8 (B2 15), .int .i64 n2] 47))) := Lib.hid (Below.all (Below.via (HB3.out) hb) _)
    have hz4 : w4.heap.size < (w4.alloc (.cells #[.bool six2, .int .u8 (B2 0), .int .u8 (B2 1), .int .u8 (B2 2), .int .u8 (B2 3), .int .u8 (B2 4), .int .u8 (B2 5), .int .u8 (B2 6), .int .u8 (B2 7), .int .u8 (B2 8), .int .u8 (B2 9), .int .u8 (B2 10), .int .u8 (B2 11), .int .u8 (B2 12), .int .u8 (B2 13), .int .u8 (B2 14), .int .u8 (B2 15), .int .i64 n2] 47)).heap.size := by simp
    have HC1 := Lib.hid (cell_up (Below.all hb (.cells #[.bool six2, .int .u8 (B2 0), .int .u8 (B2 1), .int .u8 (B2 2), .int .u8 (B2 3), .int .u8 (B2 4), .int .u8 (B2 5), .int .u8 (B2 6), .int .u8 (B2 7), .int .u8 (B2 8), .int .u8 (B2 9), .int .u8 (B2 10), .int .u8 (B2 11), .int .u8 (B2 12), .int .u8 (B2 13), .int .u8 (B2 14), .int .u8 (B2 15), .int .i64 n2] 47)) HC1.out)
    have HC2 := Lib.hid (cell_up (Below.all hb (.cells #[.bool six2, .int .u8 (B2 0), .int .u8 (B2 1), .int .u8 (B2 2), .int .u8 (B2 3), .int .u8 (B2 4), .int .u8 (B2 5), .int .u8 (B2 6), .int .u8 (B2 7), .int .u8 (B2 8), .int .u8 (B2 9), .int .u8 (B2 10), .int .u8 (B2 11), .int .u8 (B2 12), .int .u8 (B2 13), .int .u8 (B2 14), .int .u8 (B2 15), .int .i64 n2] 47)) HC2.out)
    have HC3 := Lib.hid (cell_up (Below.all hb (.cells #[.bool six2, .int .u8 (B2 0), .int .u8 (B2 1), .int .u8 (B2 2), .int .u8 (B2 3), .int .u8 (B2 4), .int .u8 (B2 5), .int .u8 (B2 6), .int .u8 (B2 7), .int .u8 (B2 8), .int .u8 (B2 9), .int .u8 (B2 10), .int .u8 (B2 11), .int .u8 (B2 12), .int .u8 (B2 13), .int .u8 (B2 14), .int .u8 (B2 15), .int .i64 n2] 47)) HC3.out)
    have HC4 : Hid ((w4.alloc (.cells #[.bool six2, .int .u8 (B2 0), .int .u8 (B2 1), .int .u8 (B2 2), .int .u8 (B2 3), .int .u8 (B2 4), .int .u8 (B2 5), .int .u8 (B2 6), .int .u8 (B2 7), .int .u8 (B2 8), .int .u8 (B2 9), .int .u8 (B2 10), .int .u8 (B2 11), .int .u8 (B2 12), .int .u8 (B2 13), .int .u8 (B2 14), .int .u8 (B2 15), .int .i64 n2] 47)).heap[w4.heap.size]? = some (.cells #[.bool six2, .int .u8 (B2 0), .int .u8 (B2 1), .int .u8 (B2 2), .int .u8 (B2 3), .int .u8 (B2 4), .int .u8 (B2 5), .int .u8 (B2 6), .int .u8 (B2 7), .int .u8 (B2 8), .int .u8 (B2 9), .int .u8 (B2 10), .int .u8 (B2 11), .int .u8 (B2 12), .int .u8 (B2 13), .int .u8 (B2 14), .int .u8 (B2 15), .int .i64 n2] 47 (0, 0))) := Lib.hid (heap_alloc_new w4 _)
    clear hb H4
    go_wp2_with fail
    generalize w4.alloc (.cells #[.bool six2, .int .u8 (B2 0), .int .u8 (B2 1), .int .u8 (B2 2), .int .u8 (B2 3), .int .u8 (B2 4), .int .u8 (B2 5), .int .u8 (B2 6), .int .u8 (B2 7), .int .u8 (B2 8), .int .u8 (B2 9), .int .u8 (B2 10), .int .u8 (B2 11), .int .u8 (B2 12), .int .u8 (B2 13), .int .u8 (B2 14), .int .u8 (B2 15), .int .i64 n2] 47) = v4 at *
    have hp1 : partOf v4 w1.heap.size 0 17 = #[.bool six, .int .u8 (B 0), .int .u8 (B 1), .int .u8 (B 2), .int .u8 (B 3), .int .u8 (B 4), .int .u8 (B 5), .int .u8 (B 6), .int .u8 (B 7), .int .u8 (B 8), .int .u8 (B 9), .int .u8 (B 10), .int .u8 (B 11), .int .u8 (B 12), .int .u8 (B 13), .int .u8 (B 14), .int .u8 (B 15)] := by rw [partOf_row _ _ _ _ _ _ _ HC1.out]; simp
    have hq1 := (Array.getElem?_eq_some_iff.1 HC1.out).1
    have hp2 : partOf v4 w2.heap.size 0 17 = #[.bool six, .int .u8 (B 0), .int .u8 (B 1), .int .u8 (B 2), .int .u8 (B 3), .int .u8 (B 4), .int .u8 (B 5), .int .u8 (B 6), .int .u8 (B 7), .int .u8 (B 8), .int .u8 (B 9), .int .u8 (B 10), .int .u8 (B 11), .int .u8 (B 12), .int .u8 (B 13), .int .u8 (B 14), .int .u8 (B 15)] := by rw [partOf_row _ _ _ _ _ _ _ HC2.out]; simp
    have hq2 := (Array.getElem?_eq_some_iff.1 HC2.out).1
    have hp3 : partOf v4 w3.heap.size 0 18 = #[.bool six2, .int .u8 (B2 0), .int .u8 (B2 1), .int .u8 (B2 2), .int .u8 (B2 3), .int .u8 (B2 4), .int .u8 (B2 5), .int .u8 (B2 6), .int .u8 (B2 7), .int .u8 (B2 8), .int .u8 (B2 9), .int .u8 (B2 10), .int .u8 (B2 11), .int .u8 (B2 12), .int .u8 (B2 13), .int .u8 (B2 14), .int .u8 (B2 15), .int .i64 n2] := by rw [partOf_row _ _ _ _ _ _ _ HC3.out]; simp
    have hq3 := (Array.getElem?_eq_some_iff.1 HC3.out).1
    have hp4 : partOf v4 w4.heap.size 0 18 = #[.bool six2, .int .u8 (B2 0), .int .u8 (B2 1), .int .u8 (B2 2), .int .u8 (B2 3), .int .u8 (B2 4), .int .u8 (B2 5), .int .u8 (B2 6), .int .u8 (B2 7), .int .u8 (B2 8), .int .u8 (B2 9), .int .u8 (B2 10), .int .u8 (B2 11), .int .u8 (B2 12), .int .u8 (B2 13), .int .u8 (B2 14), .int .u8 (B2 15), .int .i64 n2] := by rw [partOf_row _ _ _ _ _ _ _ HC4.out]; simp
    have hq4 := (Array.getElem?_eq_some_iff.1 HC4.out).1
    clear hz1 hz2 hz3 hz4
    have HWO := Lib.hid (fun (x : Later v4) => works_any x.world ((HE.out.below HB4.out).later x))
    refine wp_region_later (by kernel_rfl) (by kernel_rfl) ?_
    repeat go_big_quiet_step (first | (go_at_call 17; exact later_call (HD1.out _)) | (go_at_call 18; exact later_call (HD2.out _)) | (go_at_call 12; exact later_call (HWO.out _)))
    refine wpQuiet_nil ?_
    intro x
    go_wp2_with fail
    go_ret
    exact .mk rfl (HB4.out.trans (x.below.mono HB4.out.size))
  · have hs2 : (s.size : Int) > 100 := by omega
    go_enter Tryz.func4, Tryz.ntmps4
    go_wp2_with fail
    refine Calls.later (works_any _ HE.out) ?_
    intro x
    go_wp2_with fail
    go_ret
    exact .mk rfl (Below.lat (Below.refl _ _))
end Go.Proofs.YtcadpcppnllhnaaGreatDoor
end

/- The plain law of addresses: what is told is read as it was; the order; prefixes of addresses that are right. -/
section
set_option linter.unusedSimpArgs false
set_option linter.unusedVariables false
namespace Go.Proofs.YtcadpcppnllhnaaGreatDoor
open Go.Lib

theorem fourB_range (b : Nat → Nat) (i : Nat) : fourB ((List.range 4).map b) i = if i < 4 then (b i : Int) else 0 := by
  unfold fourB
  rw [List.getD_eq_getElem?_getD]
  by_cases h : i < 4
  · rw [if_pos h, List.getElem?_map, List.getElem?_range h]; rfl
  · rw [if_neg h, List.getElem?_eq_none (by simp; omega)]; rfl
theorem sixB_range (g : Nat → Nat) (i : Nat) (h : i < 16) : sixB ((List.range 8).map g) i = if i % 2 = 0 then ((g (i / 2) / 256 : Nat) : Int) else ((g (i / 2) % 256 : Nat) : Int) := by
  unfold sixB
  have : ((List.range 8).map g).getD (i / 2) 0 = g (i / 2) := by
    rw [List.getD_eq_getElem?_getD, List.getElem?_map, List.getElem?_range (by omega)]; rfl
  rw [this]
/-- What is told is read as it was. -/
theorem back_text {s : Bool} {B : Nat → Int} (hB : U8 B) (hr : rightB s B = true) : ∃ B' : Nat → Int, parseL (adText s B) = some (s, B') ∧ ∀ i, i < 16 → B' i = B i := by
  unfold adText
  rw [if_pos hr, parseL_of]
  cases s
  · rw [if_neg (by simp), text4_back _ (fun i => by have := hB i; omega)]
    refine ⟨_, rfl, fun i hi => ?_⟩
    rw [fourB_range]
    by_cases h : i < 4
    · rw [if_pos h]; have := hB i; omega
    · rw [if_neg h, rightB_four.1 hr i (by omega) hi]
  · rw [if_pos rfl]
    have h6 := text6_back (grpN B) (fun i => grpN_lt hB i)
    rw [four_six _ h6, h6]
    refine ⟨_, rfl, fun i hi => ?_⟩
    rw [sixB_range _ _ hi]
    have hg : grpN B (i / 2) = (B (2 * (i / 2)) * 256 + B (2 * (i / 2) + 1)).toNat := rfl
    have h1 := hB (2 * (i / 2))
    have h2 := hB (2 * (i / 2) + 1)
    rw [hg]
    by_cases he : i % 2 = 0
    · rw [if_pos he]
      have : B i = B (2 * (i / 2)) := by rw [show 2 * (i / 2) = i by omega]
      rw [this]; omega
    · rw [if_neg he]
      have : B i = B (2 * (i / 2) + 1) := by rw [show 2 * (i / 2) + 1 = i by omega]
      rw [this]; omega
theorem back_value {s : Bool} {B : Nat → Int} (hB : U8 B) (hr : rightB s B = true) : parseV (parseL (adText s B)) = .tuple #[adV s B, .int .i64 0] := by
  obtain ⟨B', h, e⟩ := back_text hB hr
  rw [h]
  show Value.tuple #[adV s B', .int .i64 0] = _
  rw [ad_congr e]
theorem zg_congr {g g' : Nat → Nat} (h : ∀ k, k < 8 → g k = g' k) : zg g = zg g' := by
  unfold zg
  rw [h 0 (by omega), h 1 (by omega), h 2 (by omega), h 3 (by omega), h 4 (by omega), h 5 (by omega), h 6 (by omega), h 7 (by omega)]
theorem text6_congr {g g' : Nat → Nat} (h : ∀ k, k < 8 → g k = g' k) : text6 g = text6 g' := by
  have e : (List.range 8).map (fun i => digB 16 (g i)) = (List.range 8).map fun i => digB 16 (g' i) := List.map_congr_left fun i hi => by rw [h i (List.mem_range.1 hi)]
  rw [text6_of, text6_of, zg_congr h, e]
theorem text4_congr {b b' : Nat → Nat} (h : ∀ k, k < 4 → b k = b' k) : text4 b = text4 b' := by
  unfold text4
  rw [List.map_congr_left fun i hi => by rw [h i (List.mem_range.1 hi)]]
theorem rightB_congr {s : Bool} {B A : Nat → Int} (h : ∀ i, i < 16 → B i = A i) : rightB s B = rightB s A := by
  cases s
  · rw [Bool.eq_iff_iff, rightB_four, rightB_four]
    exact ⟨fun h' i h1 h2 => (h i h2) ▸ h' i h1 h2, fun h' i h1 h2 => (h i h2).trans (h' i h1 h2)⟩
  · rfl
theorem adText_congr {s : Bool} {B A : Nat → Int} (h : ∀ i, i < 16 → B i = A i) : adText s B = adText s A := by
  unfold adText
  rw [rightB_congr h, text6_congr (g := grpN B) (g' := grpN A) (fun k hk => by unfold grpN grpI; rw [h (2 * k) (by omega), h (2 * k + 1) (by omega)]), text4_congr (b := fun i => (B i).toNat) (b' := fun i => (A i).toNat) (fun k hk => by show (B k).toNat = (A k).toNat; rw [h k (by omega)])]
/-- Are two addresses the same? -/
def adEq (s : Bool) (B : Nat → Int) (t : Bool) (A : Nat → Int) : Bool := s == t && eqL (b16 B) (b16 A)
theorem adEq_iff {s t : Bool} {B A : Nat → Int} : adEq s B t A = true ↔ s = t ∧ ∀ i, i < 16 → B i = A i := by
  unfold adEq
  rw [Bool.and_eq_true, eqL_iff, b16_eq]
  simp
/-- Two addresses that are right have the same text just if they are the same. -/
theorem text_iff {s t : Bool} {B A : Nat → Int} (hB : U8 B) (hA : U8 A) (h1 : rightB s B = true) (h2 : rightB t A = true) : (adText s B == adText t A) = adEq s B t A := by
  rw [Bool.eq_iff_iff, beq_iff_eq, adEq_iff]
  constructor
  · intro h
    obtain ⟨B', hb, eb⟩ := back_text hB h1
    obtain ⟨A', ha, ea⟩ := back_text hA h2
    rw [h, ha] at hb
    obtain ⟨rfl, rfl⟩ : t = s ∧ A' = B' := by simpa using hb
    exact ⟨rfl, fun i hi => (eb i hi).symm.trans (ea i hi)⟩
  · rintro ⟨rfl, h⟩
    exact adText_congr h
theorem cmpI_zero : ∀ (xs ys : List Int), xs.length = ys.length → (cmpI xs ys = 0 ↔ xs = ys)
  | [], [], _ => by simp [cmpI]
  | [], _ :: _, h => by simp at h
  | _ :: _, [], h => by simp at h
  | x :: xs, y :: ys, h => by
    have ih := cmpI_zero xs ys (by simpa using h)
    rw [cmpI]
    by_cases h1 : x < y
    · rw [if_pos h1]
      constructor
      · intro h; omega
      · intro h; simp only [List.cons.injEq] at h; omega
    · by_cases h2 : y < x
      · rw [if_neg h1, if_pos h2]
        constructor
        · intro h; omega
        · intro h; simp only [List.cons.injEq] at h; omega
      · rw [if_neg h1, if_neg h2, ih]
        have : x = y := by omega
        simp [this]
/-- They are alike in order just if they are the same. -/
theorem cmp_iff (s : Bool) (B : Nat → Int) (t : Bool) (A : Nat → Int) : (adCmp s B t A == 0) = adEq s B t A := by
  rw [Bool.eq_iff_iff, beq_iff_eq, adEq_iff, ← b16_eq]
  unfold adCmp
  by_cases h : s = t
  · rw [if_pos h, cmpI_zero (b16 B) (b16 A) rfl]
    simp [h]
  · rw [if_neg h]
    constructor
    · intro h'
      split at h' <;> omega
    · rintro ⟨h', -⟩; exact absurd h' h
theorem cmpI_neg : ∀ (xs ys : List Int), cmpI ys xs = - cmpI xs ys
  | [], [] => rfl
  | [], _ :: _ => rfl
  | _ :: _, [] => rfl
  | x :: xs, y :: ys => by
    have ih := cmpI_neg xs ys
    rw [cmpI, cmpI]
    by_cases h1 : x < y
    · rw [if_pos h1, if_neg (by omega), if_pos h1]; rfl
    · by_cases h2 : y < x
      · rw [if_pos h2, if_neg h1, if_pos h2]
      · rw [if_neg h1, if_neg h2, if_neg h2, if_neg h1, ih]
theorem adCmp_neg (s : Bool) (B : Nat → Int) (t : Bool) (A : Nat → Int) : adCmp t A s B = - adCmp s B t A := by
  unfold adCmp
  by_cases h : s = t
  · subst h
    rw [if_pos rfl, if_pos rfl, cmpI_neg]
  · rw [if_neg h, if_neg (fun e => h e.symm)]
    cases s <;> cases t <;> first | rfl | exact absurd rfl h
theorem cmpI_bd : ∀ (xs ys : List Int), -1 ≤ cmpI xs ys ∧ cmpI xs ys ≤ 1
  | [], [] => by simp [cmpI]
  | [], _ :: _ => by simp [cmpI]
  | _ :: _, [] => by simp [cmpI]
  | x :: xs, y :: ys => by
    have ih := cmpI_bd xs ys
    rw [cmpI]
    split
    · omega
    · split <;> omega
theorem adCmp_bd (s : Bool) (B : Nat → Int) (t : Bool) (A : Nat → Int) : -1 ≤ adCmp s B t A ∧ adCmp s B t A ≤ 1 := by
  unfold adCmp
  have := cmpI_bd (b16 B) (b16 A)
  split
  · exact this
  · split <;> omega

/-! ### Prefixes -/
theorem pfEq_self (s : Bool) (B : Nat → Int) (n : Int) : pfEq s B n s B n = true := by
  unfold pfEq
  rw [(eqL_iff _ _).2 rfl]; simp
theorem pfEq_congr {s : Bool} {B A : Nat → Int} {n : Int} (h : ∀ i, B i = A i) : pfEq s B n s A n = true := by
  unfold pfEq
  rw [(eqL_iff _ _).2 (b16_congr h)]; simp
theorem pfEq_six {s t : Bool} {B A : Nat → Int} {n m : Int} (h : s ≠ t) : pfEq s B n t A m = false := by
  unfold pfEq
  have : (s == t) = false := by simpa using h
  rw [this]; rfl
theorem has_self {s : Bool} {B : Nat → Int} (m : Int) (hr : rightB s B = true) : hasV s (cutB (clampN s m) B) (clampN s m : Int) s B = true := by
  unfold hasV
  rw [rightPB_cut m hr, hr, clampN_idem]
  exact pfEq_self _ _ _
theorem within_self {s : Bool} {B : Nat → Int} (m : Int) (hr : rightB s B = true) : withinV s (cutB (clampN s m) B) (clampN s m : Int) s (cutB (clampN s m) B) (clampN s m : Int) = true := by
  unfold withinV hasV
  rw [rightPB_cut m hr, cutB_right _ hr, clampN_idem, decide_eq_true (Int.le_refl _)]
  exact pfEq_congr fun i => by rw [cutB_cut, Nat.min_self]
theorem within_is {s : Bool} {B : Nat → Int} (m : Int) (hr : rightB s B = true) (t : Bool) (Q : Nat → Int) (qn : Int) :
    withinV s (cutB (clampN s m) B) (clampN s m : Int) t Q qn = (decide (qn ≤ (clampN s m : Int)) && hasV t Q qn s (cutB (clampN s m) B)) := by
  unfold withinV
  rw [rightPB_cut m hr]; rfl
theorem within_less {s : Bool} {B : Nat → Int} {m n : Int} (hr : rightB s B = true) (h : n ≤ m) :
    withinV s (cutB (clampN s m) B) (clampN s m : Int) s (cutB (clampN s n) B) (clampN s n : Int) = true := by
  have hmn := clampN_mono s h
  unfold withinV hasV
  rw [rightPB_cut m hr, rightPB_cut n hr, cutB_right _ hr, clampN_idem, decide_eq_true (by omega)]
  exact pfEq_congr fun i => by rw [cutB_cut, Nat.min_eq_left hmn]
theorem has_is {s t : Bool} {B A : Nat → Int} (n : Int) (h1 : rightB s B = true) (h2 : rightB t A = true) :
    hasV t (cutB (clampN t n) A) (clampN t n : Int) s B = (s == t && pfEq s (cutB (clampN s n) B) (clampN s n : Int) t (cutB (clampN t n) A) (clampN t n : Int)) := by
  unfold hasV
  rw [rightPB_cut n h2, h1]
  by_cases h : s = t
  · subst h
    rw [clampN_idem]; simp
  · rw [pfEq_six h, pfEq_six h]; simp
theorem cut_again {s : Bool} {B : Nat → Int} (m : Int) : pfEq s (cutB (clampN s m) (cutB (clampN s m) B)) (clampN s m : Int) s (cutB (clampN s m) B) (clampN s m : Int) = true :=
  pfEq_congr fun i => by rw [cutB_cut, Nat.min_self]

/-! ### A prefix's text -/
theorem joinL_mem (x c : UInt8) : ∀ L : List (List UInt8), x ∈ joinL c L → x = c ∨ ∃ p ∈ L, x ∈ p
  | [], h => by simp [joinL] at h
  | [p], h => .inr ⟨p, by simp, by simpa [joinL] using h⟩
  | p :: q :: l, h => by
    rw [joinL_cons2] at h
    rcases List.mem_append.1 h with h | h
    · exact .inr ⟨p, by simp, h⟩
    · rcases List.mem_cons.1 h with h | h
      · exact .inl h
      · rcases joinL_mem x c (q :: l) h with h | ⟨r, hr, hx⟩
        · exact .inl h
        · exact .inr ⟨r, by simp at hr ⊢; exact .inr hr, hx⟩
theorem digB_slash (u : Nat) : (47 : UInt8) ∉ digB 16 u := fun h => by
  obtain ⟨d, hd, e⟩ := digB_signs 16 (by omega) (by omega) u u (Nat.le_refl _) _ h
  exact (toNat_hexc d hd).2.2.2 e.symm
theorem dec_slash (u : Nat) : (47 : UInt8) ∉ decDigits u := fun h => by
  obtain ⟨d, hd, e⟩ := decDigits_signs u _ h
  exact (toNat_hexc d hd).2.2.2 e.symm
theorem adText_slash (s : Bool) (B : Nat → Int) : (47 : UInt8) ∉ adText s B := by
  intro h
  unfold adText at h
  split at h
  · split at h
    · rw [text6_of] at h
      have hm : ∀ p ∈ (List.range 8).map fun i => digB 16 (grpN B i), (47 : UInt8) ∉ p := fun p hp => by
        obtain ⟨i, -, rfl⟩ := List.mem_map.1 hp
        exact digB_slash _
      split at h
      · rcases joinL_mem _ _ _ h with h | ⟨p, hp, hx⟩
        · exact absurd h (by decide)
        · exact hm p hp hx
      · rcases List.mem_append.1 h with h | h
        · rcases List.mem_append.1 h with h | h
          · rcases joinL_mem _ _ _ h with h | ⟨p, hp, hx⟩
            · exact absurd h (by decide)
            · exact hm p (List.mem_of_mem_take hp) hx
          · simp at h
        · rcases joinL_mem _ _ _ h with h | ⟨p, hp, hx⟩
          · exact absurd h (by decide)
          · exact hm p (List.mem_of_mem_drop hp) hx
    · rcases joinL_mem _ _ _ h with h | ⟨p, hp, hx⟩
      · exact absurd h (by decide)
      · obtain ⟨i, -, rfl⟩ := List.mem_map.1 hp
        exact dec_slash _ hx
  · simp at h
theorem index_one_app (c : UInt8) : ∀ (p r : List UInt8), c ∉ p → index (p ++ c :: r) [c] = (p.length : Int)
  | [], r, _ => by rw [List.nil_append, index_one_cons]; simp
  | x :: p, r, h => by
    have hx : x ≠ c := fun e => h (by simp [e])
    have hp : c ∉ p := fun e => h (by simp [e])
    rw [List.cons_append, index_one_cons, if_neg hx, index_one_app c p r hp, if_neg (by omega)]
    simp
theorem rightPB_congr {s : Bool} {B A : Nat → Int} {n : Int} (hB : ∀ i, i < 16 → B i = A i) : rightPB s B n = rightPB s A n := by
  unfold rightPB
  have e1 : b16 B = b16 A := b16_eq.2 hB
  have e2 : b16 (cutB (clampN s n) B) = b16 (cutB (clampN s n) A) := b16_eq.2 fun i hi => by unfold cutB; rw [hB i hi]
  rw [rightB_congr hB, e1, e2]
/-- A prefix is read as it was told. -/
theorem back_prefix {s : Bool} {B : Nat → Int} (m : Int) (hB : U8 B) (hr : rightB s B = true) :
    ppV (ppL (pfText s (cutB (clampN s m) B) (clampN s m : Int))) = .tuple #[pfV s (cutB (clampN s m) B) (clampN s m : Int), .int .i64 0] := by
  have hp := rightPB_cut (B := B) m hr
  have hle := clampN_le s m
  generalize hP : cutB (clampN s m) B = P at *
  have hU : U8 P := by rw [← hP]; exact cutB_u8 hB
  have hrP : rightB s P = true := by rw [← hP]; exact cutB_right _ hr
  generalize clampN s m = k at *
  unfold pfText
  rw [if_pos hp, Int.toNat_natCast]
  have hcut : cut (adText s P ++ [47] ++ decDigits k) [47] = (adText s P, decDigits k, true) := by
    rw [cut_one, List.append_assoc, List.singleton_append, index_one_app 47 _ _ (adText_slash s P), if_neg (by omega), Int.toNat_natCast]
    simp
  obtain ⟨P', hpp, e⟩ := back_text hU hrP
  have hd : decL 129 (decDigits k) = some k := decL_some.2 ⟨by omega, rfl⟩
  have hR : rightPB s P' (k : Int) = true := by rw [rightPB_congr e]; exact hp
  unfold ppL
  rw [hcut]
  simp only
  rw [hpp, hd]
  show ppV (if rightPB s P' (k : Int) = true then some (s, P', k) else none) = _
  rw [if_pos hR]
  show Value.tuple #[pfV s P' (k : Int), .int .i64 0] = _
  rw [pf_congr e]
theorem dec3 : ∀ b : Fin 256, (Lib.decDigits b).length ≤ 3 := by decide +kernel
theorem adText_max (s : Bool) (B : Nat → Int) (hB : U8 B) : (adText s B).length ≤ 100 := by
  unfold adText
  split
  · split
    · have hp : ∀ p ∈ (List.range 8).map fun i => digB 16 (grpN B i), p.length ≤ 4 := fun p hp => by
        obtain ⟨i, -, rfl⟩ := List.mem_map.1 hp
        exact digB16_len _ (grpN_lt hB i)
      rw [text6_of]
      split
      · exact Nat.le_trans (joinL_len 58 4 _ hp) (by simp)
      · have h1 := joinL_len 58 4 (((List.range 8).map fun i => digB 16 (grpN B i)).take (noughtsZ (zg (grpN B))).1) (fun p h => hp p (List.mem_of_mem_take h))
        have h2 := joinL_len 58 4 (((List.range 8).map fun i => digB 16 (grpN B i)).drop (noughtsZ (zg (grpN B))).2) (fun p h => hp p (List.mem_of_mem_drop h))
        rw [List.length_take, List.length_map, List.length_range] at h1
        rw [List.length_drop, List.length_map, List.length_range] at h2
        simp only [List.length_append, List.length_cons, List.length_nil]
        have h3 : min (noughtsZ (zg (grpN B))).1 8 * (4 + 1) ≤ 40 := by have := Nat.min_le_right (noughtsZ (zg (grpN B))).1 8; omega
        have h4 : (8 - (noughtsZ (zg (grpN B))).2) * (4 + 1) ≤ 40 := by omega
        omega
    · refine Nat.le_trans (joinL_len 46 3 _ fun p hp => ?_) (by simp)
      obtain ⟨i, -, rfl⟩ := List.mem_map.1 hp
      have := hB i
      exact dec3 ⟨(B i).toNat, by omega⟩
  · simp
theorem pfText_max (s : Bool) (B : Nat → Int) (n : Nat) (hB : U8 B) (hn : n ≤ 128) : (pfText s B (n : Int)).length ≤ 200 := by
  unfold pfText
  have := adText_max s B hB
  have h3 := dec3 ⟨n, by omega⟩
  split
  · simp only [List.length_append, List.length_cons, List.length_nil, Int.toNat_natCast]
    simp only at h3
    omega
  · simp


/-! ### What the law AddrBack asks of prefixes, call by call -/
section
open Go.RowKit

structure BackF (s : Bool) (B : Nat → Int) (t : Bool) (A : Nat → Int) (m n : Int) (P : Nat → Int) (pn : Int) (Q : Nat → Int) (qn : Int) (S : Nat → Int) (sn : Int) (T : List UInt8) (h : Bool) : Prop where
  f1 : ∀ w, Calls Tryz.prog 9 #[adV s B, .int .i64 m] w (RetAt w (pfV s P pn))
  f2 : ∀ w, Calls Tryz.prog 9 #[adV t A, .int .i64 n] w (RetAt w (pfV t Q qn))
  f3 : ∀ w, Env w → Calls Tryz.prog 22 #[pfV s P pn] w (RetAt w (.string ⟨T.toArray⟩))
  f4 : ∀ w, Env w → Calls Tryz.prog 15 #[.string ⟨T.toArray⟩] w (RetAt w (.tuple #[pfV s P pn, .int .i64 0]))
  f5 : ∀ w, Calls Tryz.prog 23 #[pfV s P pn] w (RetAt w (.bool true))
  f6 : ∀ w, Calls Tryz.prog 24 #[pfV s P pn, adV s B] w (RetAt w (.bool true))
  f7 : ∀ w, Calls Tryz.prog 25 #[pfV s P pn, pfV s P pn] w (RetAt w (.bool true))
  f8 : ∀ w, Calls Tryz.prog 25 #[pfV s P pn, pfV t Q qn] w (RetAt w (.bool (decide (qn ≤ pn) && h)))
  f9 : ∀ w, Calls Tryz.prog 24 #[pfV t Q qn, adV s P] w (RetAt w (.bool h))
  f10 : ∀ w, Calls Tryz.prog 9 #[adV s B, .int .i64 n] w (RetAt w (pfV s S sn))
  f11 : n ≤ m → ∀ w, Calls Tryz.prog 25 #[pfV s P pn, pfV s S sn] w (RetAt w (.bool true))
  f12 : ∀ w, Calls Tryz.prog 24 #[pfV t Q qn, adV s B] w (RetAt w (.bool (s == t && pfEq s S sn t Q qn)))
  f13 : ∀ w, Calls Tryz.prog 9 #[adV s P, .int .i64 m] w (RetAt w (pfV s P pn))

theorem cut_is (s : Bool) (B : Nat → Int) (n : Int) (hB : U8 B) (hr : rightB s B = true) (hn0 : -9223372036854775808 ≤ n) (hn1 : n ≤ 9223372036854775807) (w : World) :
    Calls Tryz.prog 9 #[adV s B, .int .i64 n] w (RetAt w (pfV s (cutB (clampN s n) B) (clampN s n : Int))) := by
  have := cut_any s B n hB hn0 hn1 w
  unfold cutSix cutBy cutLen at this
  rwa [if_pos hr, if_pos hr, if_pos hr] at this

set_option maxHeartbeats 1000000 in
theorem back_facts (s : Bool) (B : Nat → Int) (t : Bool) (A : Nat → Int) (m n : Int) (hB : U8 B) (hA : U8 A) (h1 : rightB s B = true) (h2 : rightB t A = true) (hm0 : -9223372036854775808 ≤ m) (hm1 : m ≤ 9223372036854775807) (hn0 : -9223372036854775808 ≤ n) (hn1 : n ≤ 9223372036854775807) :
    BackF s B t A m n (cutB (clampN s m) B) (clampN s m : Int) (cutB (clampN t n) A) (clampN t n : Int) (cutB (clampN s n) B) (clampN s n : Int) (pfText s (cutB (clampN s m) B) (clampN s m : Int)) (hasV t (cutB (clampN t n) A) (clampN t n : Int) s (cutB (clampN s m) B)) := by
  have hP : U8 (cutB (clampN s m) B) := cutB_u8 hB
  have hQ : U8 (cutB (clampN t n) A) := cutB_u8 hA
  have hS : U8 (cutB (clampN s n) B) := cutB_u8 hB
  have cp := clampN_le s m
  have cq := clampN_le t n
  have cs := clampN_le s n
  refine ⟨fun w => cut_is s B m hB h1 hm0 hm1 w, fun w => cut_is t A n hA h2 hn0 hn1 w, fun w he => ptext_any s _ _ hP (by omega) (by omega) w he, fun w he => ?_, fun w => ?_, fun w => ?_, fun w => ?_, fun w => ?_, fun w => ?_,
    fun w => cut_is s B n hB h1 hn0 hn1 w, fun hle w => ?_, fun w => ?_, fun w => ?_⟩
  · have hT : (⟨(pfText s (cutB (clampN s m) B) (clampN s m : Int)).toArray⟩ : ByteArray).size ≤ 1000 := by
      have := pfText_max s (cutB (clampN s m) B) (clampN s m) hP cp
      show (pfText s (cutB (clampN s m) B) (clampN s m : Int)).toArray.size ≤ 1000
      rw [List.size_toArray]; omega
    have := pparse_any ⟨(pfText s (cutB (clampN s m) B) (clampN s m : Int)).toArray⟩ w hT he
    rwa [show ppL (⟨(pfText s (cutB (clampN s m) B) (clampN s m : Int)).toArray⟩ : ByteArray).data.toList = ppL (pfText s (cutB (clampN s m) B) (clampN s m : Int)) from rfl, back_prefix m hB h1] at this
  · have := pright_any s (cutB (clampN s m) B) (clampN s m : Int) hP (by omega) (by omega) w
    rwa [rightPB_cut m h1] at this
  · have := has_any s (cutB (clampN s m) B) (clampN s m : Int) s B hP hB (by omega) (by omega) w
    rwa [has_self m h1] at this
  · have := within_any s (cutB (clampN s m) B) (clampN s m : Int) s (cutB (clampN s m) B) (clampN s m : Int) hP hP (by omega) (by omega) (by omega) (by omega) w
    rwa [within_self m h1] at this
  · have := within_any s (cutB (clampN s m) B) (clampN s m : Int) t (cutB (clampN t n) A) (clampN t n : Int) hP hQ (by omega) (by omega) (by omega) (by omega) w
    rwa [within_is m h1] at this
  · exact has_any t (cutB (clampN t n) A) (clampN t n : Int) s (cutB (clampN s m) B) hQ hP (by omega) (by omega) w
  · have := within_any s (cutB (clampN s m) B) (clampN s m : Int) s (cutB (clampN s n) B) (clampN s n : Int) hP hS (by omega) (by omega) (by omega) (by omega) w
    rwa [within_less h1 hle] at this
  · have := has_any t (cutB (clampN t n) A) (clampN t n : Int) s B hQ hB (by omega) (by omega) w
    rwa [has_is n h1 h2] at this
  · have := cut_is s (cutB (clampN s m) B) m hP (cutB_right _ h1) hm0 hm1 w
    rwa [pf_congr (B := cutB (clampN s m) (cutB (clampN s m) B)) (fun i _ => by rw [cutB_cut, Nat.min_self])] at this
end
end Go.Proofs.YtcadpcppnllhnaaGreatDoor
end
