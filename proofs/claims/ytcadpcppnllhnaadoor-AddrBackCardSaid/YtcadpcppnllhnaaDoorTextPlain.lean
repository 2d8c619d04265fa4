/- The plain law of an address's text: both programs' ways to shorten a row of noughts tell the same. -/
import Derived.Test.YtcadpcppnllhnaaDoorAddrPlain
namespace Go.Proofs.YtcadpcppnllhnaaDoor
open Go.Lib

/-! ### The longest row of noughts, the program's way -/
def nrow (z : Nat → Bool) (i : Nat) : Nat → Nat → Nat × Nat → Nat × Nat
  | 0, _, ft => ft
  | f + 1, n, ft => if z n then nrow z i f (n + 1) (if 2 ≤ n + 1 - i ∧ ft.2 - ft.1 < n + 1 - i then (i, n + 1) else ft) else ft
def nrows (z : Nat → Bool) : Nat → Nat → Nat × Nat → Nat × Nat
  | 0, _, ft => ft
  | f + 1, i, ft => nrows z f (i + 1) (nrow z i (8 - i) i ft)
def noughtsZ (z : Nat → Bool) : Nat × Nat := nrows z 8 0 (0, 0)
/-! ### .. and the document's -/
def runZ (z : Nat → Bool) : Nat → Nat → Nat
  | 0, _ => 0
  | f + 1, i => if z i then runZ z f (i + 1) + 1 else 0
def bestGo (z : Nat → Bool) : Nat → Nat → Nat → Nat
  | 0, _, b => b
  | f + 1, i, b => bestGo z f (i + 1) (if 2 ≤ runZ z (8 - i) i ∧ (b = 8 ∨ runZ z (8 - b) b < runZ z (8 - i) i) then i else b)
def bestZ (z : Nat → Bool) : Nat := bestGo z 8 0 8
/-- A text's parts: a colon, or a group. -/
abbrev Tok := Option Nat
def txtGo (z : Nat → Bool) (best : Nat) : Nat → Nat → List Tok → List Tok
  | 0, _, T => T
  | f + 1, i, T => if 8 ≤ i then T else if i = best then txtGo z best f (i + runZ z (8 - best) best) (T ++ [none, none])
    else txtGo z best f (i + 1) (T ++ (if T = [] ∨ T.getLast? = some none then [] else [none]) ++ [some i])
def refTok (z : Nat → Bool) : List Tok := txtGo z (bestZ z) 9 0 []
def joinT : List Nat → List Tok
  | [] => []
  | [i] => [some i]
  | i :: l => some i :: none :: joinT l
def progTok (z : Nat → Bool) : List Tok :=
  if (noughtsZ z).1 = (noughtsZ z).2 then joinT (List.range 8) else joinT ((List.range 8).take (noughtsZ z).1) ++ [none, none] ++ joinT ((List.range 8).drop (noughtsZ z).2)

/-- Eight bits, as a function. -/
def zof (l : List Bool) (i : Nat) : Bool := l.getD i false
set_option maxRecDepth 1000000 in
theorem tok_eq8 : ∀ a b c d e f g h : Bool, progTok (zof [a, b, c, d, e, f, g, h]) = refTok (zof [a, b, c, d, e, f, g, h]) := by decide
set_option maxRecDepth 1000000 in
theorem noughts_bd8 : ∀ a b c d e f g h : Bool, (noughtsZ (zof [a, b, c, d, e, f, g, h])).1 ≤ (noughtsZ (zof [a, b, c, d, e, f, g, h])).2 ∧ (noughtsZ (zof [a, b, c, d, e, f, g, h])).2 ≤ 8 := by decide

/-! ### The text -/
def flatT (G : Nat → List UInt8) : List Tok → List UInt8
  | [] => []
  | none :: l => 58 :: flatT G l
  | some i :: l => G i ++ flatT G l
theorem flatT_append (G : Nat → List UInt8) : ∀ a b : List Tok, flatT G (a ++ b) = flatT G a ++ flatT G b
  | [], b => rfl
  | none :: a, b => by rw [List.cons_append, flatT, flatT, flatT_append G a b]; rfl
  | some i :: a, b => by rw [List.cons_append, flatT, flatT, flatT_append G a b, List.append_assoc]
/-- Texts, with a byte between. -/
def joinL (c : UInt8) : List (List UInt8) → List UInt8
  | [] => []
  | [p] => p
  | p :: l => p ++ c :: joinL c l
theorem joinL_cons2 (c : UInt8) (p q : List UInt8) (l : List (List UInt8)) : joinL c (p :: q :: l) = p ++ c :: joinL c (q :: l) := rfl
theorem flat_join (G : Nat → List UInt8) : ∀ l : List Nat, flatT G (joinT l) = joinL 58 (l.map G)
  | [] => rfl
  | [i] => by simp [joinT, flatT, joinL]
  | i :: j :: l => by
    have := flat_join G (j :: l)
    rw [joinT]
    · simp only [flatT, List.map_cons, joinL_cons2]
      rw [this]; rfl
    · simp
/-- Cut again, it's what was joined. -/
theorem cutsL_none (c : UInt8) : ∀ p : List UInt8, c ∉ p → cutsL c p = [p]
  | [], _ => rfl
  | x :: r, h => by
    simp only [List.mem_cons, not_or] at h
    rw [cutsL, if_neg (fun e => h.1 e.symm), cutsL_none c r h.2]
theorem cutsL_app (c : UInt8) : ∀ (p r : List UInt8), c ∉ p → cutsL c (p ++ c :: r) = p :: cutsL c r
  | [], r, _ => by rw [List.nil_append, cutsL, if_pos rfl]
  | x :: p, r, h => by
    simp only [List.mem_cons, not_or] at h
    rw [List.cons_append, cutsL, if_neg (fun e => h.1 e.symm), cutsL_app c p r h.2]
theorem cutsL_join (c : UInt8) : ∀ l : List (List UInt8), l ≠ [] → (∀ p ∈ l, c ∉ p) → cutsL c (joinL c l) = l
  | [], h, _ => absurd rfl h
  | [p], _, h => by rw [joinL]; exact cutsL_none c p (h p (by simp))
  | p :: q :: l, _, h => by
    rw [joinL_cons2, cutsL_app c p _ (h p (by simp)), cutsL_join c (q :: l) (by simp) (fun p' hp => h p' (by simp [hp]))]
end Go.Proofs.YtcadpcppnllhnaaDoor
