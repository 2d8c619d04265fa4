/- What the law's walk over the frames wants. -/
import Derived.Test.YtoegehlefdpghaaA
import Derived.Test.YtoegehlefdpghaaB
import Derived.Test.YtoegehlefdpghaaJ
import Derived.Test.YtoegehlefdpghaaN
import Derived.Test.YtoegehlefdpghaaMem
set_option linter.unusedSimpArgs false
set_option linter.unusedVariables false
namespace Go.Proofs.Ytoegehlefdpghaa
open Go.RowKit

set_option maxHeartbeats 400000 in
theorem refverdict_any (e n p me nx : Int) (ob : Option Addr) (nb cb : Nat) (w : World) :
    Calls Try.prog 19 #[.agg #[.int .u32 e, .int .u64 n, .int .u32 p, .slice ob nb cb], .agg #[.int .u32 me, .int .u64 nx]] w (RetAt w (.int .i64 (verdictN e n p me nx))) := by
  go_enter Try.func19, Try.ntmps19
  go_wp2
  all_goals go_ret
  all_goals refine .mk (val_int ?_) (by go_grown)
  all_goals (simp only [verdictN, isOld, isNext, isBoot, decide_eq_true_eq]; repeat' split)
  all_goals first | rfl | omega | (simp only [beq_iff_eq, beq_eq_false_iff_ne, ne_eq] at *; omega)


/-- What is put of an entry, and the error. -/
def Case (xe xn xp : Int) (lx ld : List Int) (fx : Int) : Prop := (mayB xe xn xp = true ∧ ld = dataOf xe xn xp lx ∧ fx = 0) ∨ (mayB xe xn xp = false ∧ ld = [] ∧ fx = 290)
theorem Case.of (xe xn xp : Int) (lx : List Int) : ∃ ld fx, Case xe xn xp lx ld fx := by
  by_cases h : mayB xe xn xp = true
  · exact ⟨_, _, .inl ⟨h, rfl, rfl⟩⟩
  · exact ⟨_, _, .inr ⟨by simpa using h, rfl, rfl⟩⟩
theorem Case.len {xe xn xp : Int} {lx ld : List Int} {fx : Int} (h : Case xe xn xp lx ld fx) (hl : lx.length ≤ 400) : ld.length ≤ 417 := by
  rcases h with ⟨-, rfl, -⟩ | ⟨-, rfl, -⟩
  · rw [dataOf_len]; omega
  · simp
theorem Case.byte {xe xn xp : Int} {lx ld : List Int} {fx : Int} (h : Case xe xn xp lx ld fx) (hl : ∀ v ∈ lx, 0 ≤ v ∧ v < 256) : ∀ v ∈ ld, 0 ≤ v ∧ v < 256 := by
  rcases h with ⟨-, rfl, -⟩ | ⟨-, rfl, -⟩
  · exact dataOf_byte _ _ _ _ hl
  · intro v hv; cases hv
theorem put_case {xe xn xp : Int} {lx ld : List Int} {fx : Int} (h : Case xe xn xp lx ld fx) (A : Option Addr) (m c : Nat) (w : World) (hr : Reads w A m c lx) (hl : m ≤ 400) (he : 0 ≤ xe ∧ xe < 4294967296) (hn : 0 ≤ xn ∧ xn < 18446744073709551616) (hp : 0 ≤ xp ∧ xp < 4294967296) :
    Calls Try.prog 9 #[.agg #[.int .u32 xe, .int .u64 xn, .int .u32 xp, .slice A m c]] w (NewPair w ld fx) := by
  have := putdata_any xe xn xp A m c lx w hr hl he hn hp
  rcases h with ⟨h0, rfl, rfl⟩ | ⟨h0, rfl, rfl⟩
  · rwa [if_pos h0, if_pos h0] at this
  · have h1 : ¬ mayB xe xn xp = true := by rw [h0]; decide
    rwa [if_neg h1, if_neg h1] at this
theorem refput_case {xe xn xp : Int} {lx ld : List Int} {fx : Int} (h : Case xe xn xp lx ld fx) (A : Option Addr) (m c : Nat) (w : World) (hr : Reads w A m c lx) (hl : m ≤ 400) (he : 0 ≤ xe ∧ xe < 4294967296) (hn : 0 ≤ xn ∧ xn < 18446744073709551616) (hp : 0 ≤ xp ∧ xp < 4294967296) :
    Calls Try.prog 6 #[.agg #[.int .u32 xe, .int .u64 xn, .int .u32 xp, .slice A m c]] w (NewPair w ld fx) := by
  have := refputdata_any xe xn xp A m c lx w hr hl he hn hp
  rcases h with ⟨h0, rfl, rfl⟩ | ⟨h0, rfl, rfl⟩
  · rwa [if_pos h0, if_pos h0] at this
  · have h1 : ¬ mayB xe xn xp = true := by rw [h0]; decide
    rwa [if_neg h1, if_neg h1] at this
theorem back_yes (xe xn xp : Int) (lx : List Int) (hm : mayB xe xn xp = true) (A : Option Addr) (c : Nat) (w : World) (hr : Reads w A (dataOf xe xn xp lx).length c (dataOf xe xn xp lx)) (hl : lx.length ≤ 400) (he : 0 ≤ xe ∧ xe < 4294967296) (hn : 0 ≤ xn ∧ xn < 18446744073709551616) (hp : 0 ≤ xp ∧ xp < 4294967296) :
    Calls Try.prog 10 #[.slice A (dataOf xe xn xp lx).length c] w (NewParse w xe xn xp lx 0) := by
  have := parsedata_any A _ c _ w hr (by rw [dataOf_len]; omega)
  have ok := okB_dataOf xe xn xp lx he hn hp hm
  simp only [entE, entN, entP, entB, entX, if_pos ok] at this
  rwa [dataOf_e _ _ _ _ he, dataOf_n _ _ _ _ hn, dataOf_p _ _ _ _ hp, dataOf_rest] at this
theorem back_no (A : Option Addr) (c : Nat) (w : World) (hr : Reads w A 0 c []) : Calls Try.prog 10 #[.slice A 0 c] w (NewParse w 0 0 0 [] 290) := by
  have := parsedata_any A 0 c [] w hr (by omega)
  have ok : ¬ okB [] = true := by decide
  simpa only [entE, entN, entP, entB, entX, if_neg ok] using this
theorem back_ack (d e n : Int) (A : Option Addr) (c : Nat) (w : World) (hr : Reads w A (ackOf d e n).length c (ackOf d e n)) (hd : 0 ≤ d ∧ d < 4294967296) (he : 0 ≤ e ∧ e < 4294967296) (hn : 0 ≤ n ∧ n < 18446744073709551616) :
    Calls Try.prog 11 #[.slice A (ackOf d e n).length c] w (RetAt w (.tuple #[.agg #[.int .u32 d, .int .u32 e, .int .u64 n], .int .i64 0])) := by
  have := parseack_any A _ c _ w hr (by rw [ackOf_len]; omega)
  rwa [ackOf_d _ _ _ hd, ackOf_e _ _ _ he, ackOf_n _ _ _ hn, ackOf_x] at this
end Go.Proofs.Ytoegehlefdpghaa
