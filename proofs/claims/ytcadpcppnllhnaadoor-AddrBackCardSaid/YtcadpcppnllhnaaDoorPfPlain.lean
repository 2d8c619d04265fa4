/- The plain law of prefixes: what is kept of an address's bytes. -/
import Derived.Test.YtcadpcppnllhnaaDoorAddrV
set_option linter.unusedSimpArgs false
set_option linter.unusedVariables false
namespace Go.Proofs.YtcadpcppnllhnaaDoor

/-- The first k of a byte's eight binary digits. -/
def keepI (k : Nat) (b : Int) : Int := match k with
  | 0 => b / 256 * 256
  | 1 => b / 128 * 128
  | 2 => b / 64 * 64
  | 3 => b / 32 * 32
  | 4 => b / 16 * 16
  | 5 => b / 8 * 8
  | 6 => b / 4 * 4
  | 7 => b / 2 * 2
  | _ => b
theorem upto8 {k : Nat} (h : k ≤ 8) : k = 0 ∨ k = 1 ∨ k = 2 ∨ k = 3 ∨ k = 4 ∨ k = 5 ∨ k = 6 ∨ k = 7 ∨ k = 8 := by omega
theorem keepI_bd (k : Nat) (b : Int) (hk : k ≤ 8) (h0 : 0 ≤ b) (h1 : b < 256) : 0 ≤ keepI k b ∧ keepI k b < 256 := by
  rcases upto8 hk with rfl | rfl | rfl | rfl | rfl | rfl | rfl | rfl | rfl <;> simp only [keepI] <;> omega
theorem keepI_zero (k : Nat) (hk : k ≤ 8) : keepI k 0 = 0 := by
  rcases upto8 hk with rfl | rfl | rfl | rfl | rfl | rfl | rfl | rfl | rfl <;> rfl
theorem keepI_keep (j k : Nat) (b : Int) (hj : j ≤ 8) (hk : k ≤ 8) : keepI j (keepI k b) = keepI (min j k) b := by
  rcases upto8 hj with rfl | rfl | rfl | rfl | rfl | rfl | rfl | rfl | rfl
  all_goals
    rcases upto8 hk with rfl | rfl | rfl | rfl | rfl | rfl | rfl | rfl | rfl
    all_goals
      first
        | rw [Nat.min_eq_left (by decide)]
        | rw [Nat.min_eq_right (by decide)]
      simp only [keepI]
      try omega
/-- One digit more. -/
def bitI (r : Nat) (b : Int) : Int := match r with
  | 0 => b / 128 % 2 * 128
  | 1 => b / 64 % 2 * 64
  | 2 => b / 32 % 2 * 32
  | 3 => b / 16 % 2 * 16
  | 4 => b / 8 % 2 * 8
  | 5 => b / 4 % 2 * 4
  | 6 => b / 2 % 2 * 2
  | _ => b % 2
theorem keepI_step (r : Nat) (b : Int) (hr : r < 8) : keepI (r + 1) b = keepI r b + bitI r b := by
  rcases upto8 (Nat.le_of_lt hr) with rfl | rfl | rfl | rfl | rfl | rfl | rfl | rfl | rfl
  all_goals first
    | omega
    | (simp only [Nat.reduceAdd, keepI, bitI]; omega)
theorem keepI_none (b : Int) (h0 : 0 ≤ b) (h1 : b < 256) : keepI 0 b = 0 := by simp only [keepI]; omega

/-- What is kept of the bytes by n digits. -/
def keepAt (n i : Nat) : Nat := min (n - 8 * i) 8
theorem keepAt_le (n i : Nat) : keepAt n i ≤ 8 := Nat.min_le_right _ _
def cutB (n : Nat) (B : Nat → Int) (i : Nat) : Int := keepI (keepAt n i) (B i)
theorem cutB_u8 {n : Nat} {B : Nat → Int} (h : U8 B) : U8 (cutB n B) := fun i => keepI_bd _ _ (keepAt_le _ _) (h i).1 (h i).2
theorem cutB_cut (m n : Nat) (B : Nat → Int) (i : Nat) : cutB m (cutB n B) i = cutB (min m n) B i := by
  unfold cutB
  rw [keepI_keep _ _ _ (keepAt_le _ _) (keepAt_le _ _)]
  congr 1
  unfold keepAt
  omega
theorem cutB_step {n : Nat} {B : Nat → Int} (i : Nat) : cutB (n + 1) B i = if i = n / 8 then cutB n B i + bitI (n % 8) (B i) else cutB n B i := by
  unfold cutB
  by_cases h : i = n / 8
  · rw [if_pos h]
    have h1 : keepAt n i = n % 8 := by unfold keepAt; omega
    have h2 : keepAt (n + 1) i = n % 8 + 1 := by unfold keepAt; omega
    rw [h1, h2, keepI_step _ _ (Nat.mod_lt _ (by omega))]
  · rw [if_neg h]
    congr 1
    unfold keepAt
    omega
theorem cutB_zero {B : Nat → Int} (h : U8 B) (i : Nat) : cutB 0 B i = 0 := by
  unfold cutB
  rw [show keepAt 0 i = 0 by unfold keepAt; omega, keepI_none _ (h i).1 (h i).2]
theorem cutB_all {n i : Nat} {B : Nat → Int} (h : 8 * i + 8 ≤ n) : cutB n B i = B i := by
  unfold cutB
  rw [show keepAt n i = 8 by unfold keepAt; omega]; rfl
/-- How long a prefix may be. -/
def clampN (six : Bool) (n : Int) : Nat := if six then (max 0 (min n 128)).toNat else (max 0 (min n 32)).toNat
theorem clampN_le (six : Bool) (n : Int) : clampN six n ≤ 128 := by unfold clampN; split <;> omega
theorem clampN_idem (six : Bool) (n : Int) : clampN six (clampN six n : Int) = clampN six n := by unfold clampN; split <;> omega
theorem clampN_mono (six : Bool) {m n : Int} (h : m ≤ n) : clampN six m ≤ clampN six n := by unfold clampN; split <;> omega
theorem cutB_right {six : Bool} {B : Nat → Int} (n : Nat) (h : rightB six B = true) : rightB six (cutB n B) = true := by
  cases six
  · rw [rightB_four] at h ⊢
    intro i h4 h16
    unfold cutB
    rw [h i h4 h16, keepI_zero _ (keepAt_le _ _)]
  · rfl
/-- Is a prefix right? -/
def rightPB (six : Bool) (B : Nat → Int) (n : Int) : Bool := rightB six B && (eqL (b16 (cutB (clampN six n) B)) (b16 B) && (clampN six n : Int) == n)
theorem b16_congr {B C : Nat → Int} (h : ∀ i, B i = C i) : b16 B = b16 C := b16_eq.2 fun i _ => h i
theorem rightPB_cut {six : Bool} {B : Nat → Int} (n : Int) (h : rightB six B = true) : rightPB six (cutB (clampN six n) B) (clampN six n : Int) = true := by
  unfold rightPB
  rw [cutB_right _ h, clampN_idem, (eqL_iff _ _).2 (b16_congr fun i => by rw [cutB_cut, Nat.min_self])]
  simp
end Go.Proofs.YtcadpcppnllhnaaDoor
