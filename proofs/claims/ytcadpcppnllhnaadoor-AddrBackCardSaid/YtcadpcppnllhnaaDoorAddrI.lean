/- Walks over texts: row's closure, where all is well. -/
import Derived.Test.YtcadpcppnllhnaaDoorAddrH
set_option linter.unusedSimpArgs false
set_option linter.unusedVariables false
namespace Go.Proofs.YtcadpcppnllhnaaDoor
open Go.RowKit

set_option maxHeartbeats 8000000 in
theorem closure_yes (p : ByteArray) (hp : p.size ≤ 1000) (w W : World) (hi : Nat) (op : Option Addr) (nP capp : Nat) (P : List (List UInt8)) (oa : Option Addr) (n cap : Nat) (G : List Nat) (HE : Hid (Env W))
    (hn : n ≤ 1000) (h : Hid (RowSt w W hi op nP capp P oa n cap G true)) (m : Nat) (hx : numberL 16 65536 p.data.toList = some m) (h4 : p.size ≤ 4) :
    Calls Tryd.prog 64 #[.string p, .pointer (some ⟨w.heap.size + 1, 0, none⟩), .pointer (some ⟨w.heap.size, 0, none⟩)] W
      (fun e w' => ∃ oa' cap' u, e = .returned (.tuple #[]) ∧ RowSt w w' hi op nP capp P oa' (n + 1) cap' (G ++ [u]) true ∧ u = m) := by
  go_enter Tryd.func64, Tryd.ntmps64
  go_wp2_with fail
  refine Calls.mono (ParseUint_any p hp W HE.out) ?_
  rintro e w1 ⟨u, er, rfl, hu0, hu1, hcase, hb⟩
  obtain ⟨rfl, rfl⟩ : u = (m : Int) ∧ er = .nilIface := by
    rcases hcase with ⟨m', h1, h3, h2⟩ | ⟨h1, -⟩
    · rw [hx] at h1; cases h1; exact ⟨h3, h2⟩
    · rw [hx] at h1; cases h1
  have hdg : ∀ c ∈ p.data.toList, digitN c < 16 := by
    unfold numberL at hx
    split at hx
    · cases hx
    · exact numL_digits 16 65536 _ _ _ hx
  have HI := Lib.hid (idx_none p hdg p.size 0)
  clear hcase hx hdg
  have H1 := Lib.hid (h.out.go hb)
  have hl := H1.out.list
  have ho := H1.out.okc
  have hlF := H1.out.listF
  have hoF := H1.out.okF
  clear hb HE h
  go_wp2_with fail
  refine Calls.mono (Tryd.strings_IndexFunc_grows 67 #[] (enters_of Tryd.func67 (by kernel_rfl) rfl) (fun x => !digR x) p w1 (undigit_grows w1)) ?_
  rintro e w2 ⟨rfl, hb2⟩
  rw [show Lib.idxFunc (fun x => !digR x) true p = -1 from HI.out]
  have H3 := Lib.hid (H1.out.go hb2)
  clear H1
  clear hl ho hlF hoF hb2
  have H1 := H3
  have hl := H1.out.list
  have ho := H1.out.okc
  have hlF := H1.out.listF
  have hoF := H1.out.okF
  clear H3
  go_wp2_with (at_builtin; refine Stopped.of ?_)
  refine Stopped.mk ?_
  have H2 := Lib.hid (H1.out.put true)
  refine wpList_append_owns _ rfl _ _ 87 rfl 79 (.int .u64 0) 1 8 hi Tryd.underlying87 info_u64 rfl (by decide) oa n cap _ rfl (H2.out.row.alloc _) ⟨w2.heap.size, 0, none⟩ 1 1 [.int .u64 m] rfl rfl ?_ ?_ (by decide) ?_ ?_ ?_ ?_
  · have h := news_new (w2.setCell ⟨w.heap.size + 1, 0, none⟩ (.bool true)) #[.int .u64 m] 79
    simpa using h
  · simp [Value.oneCell']
  · unfold maxLen; omega
  · omega
  · have := H2.out.hiW; simp only [World.size_alloc]; omega
  intro oa' cap' w' ho' hg2 hd
  have HG := Lib.hid ((H2.out.go ((Below.refl _ _).alloc (Nat.le_refl _) _)).grown hg2 (G' := G ++ [m]) (by rw [List.map_append]; exact ho'))
  obtain ⟨vl, hvl⟩ := HG.out.list
  have hvF := HG.out.listF
  clear hg2 hd ho' H1 H2 hl ho hlF hoF
  go_wp2_with fail
  go_end0
  exact ⟨oa', cap', m, rfl, HG.out.put, rfl⟩
end Go.Proofs.YtcadpcppnllhnaaDoor
