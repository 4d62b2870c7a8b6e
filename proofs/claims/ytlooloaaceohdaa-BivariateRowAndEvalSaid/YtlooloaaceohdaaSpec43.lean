/-
A part of this claim's proof (Spec43): lemmas that the text of the law stands on.
-/
import Derived.Test.YtlooloaaceohdaaMat
set_option linter.unusedVariables false
set_option linter.unusedSimpArgs false
namespace Go.Proofs.Ytlooloaaceohdaa
open Go.RowKit
/-! ### the symmetric matrix of a first row and the rest -/
def set2 (M : Nat → List Int) (i j : Nat) (x : Int) : Nat → List Int := fun r => if r = i then (M i).set j x else M r
def newIn (n i : Nat) (rest : List Int) : Nat → Nat → Nat × (Nat → List Int) → Nat × (Nat → List Int)
  | 0, _, s => s
  | d + 1, j, s => newIn n i rest d (j + 1) (s.1 + 1, set2 (set2 s.2 i j (rest.getD s.1 0)) j i (rest.getD s.1 0))
def newOut (n : Nat) (first rest : List Int) : Nat → Nat → Nat × (Nat → List Int) → Nat × (Nat → List Int)
  | 0, _, s => s
  | d + 1, i, s => newOut n first rest d (i + 1) (if i = 0 then (s.1, set2 (set2 s.2 0 i (first.getD i 0)) i 0 (first.getD i 0)) else newIn n i rest (n - i) i (s.1, set2 (set2 s.2 0 i (first.getD i 0)) i 0 (first.getD i 0)))
def newM (first rest : List Int) : Nat → List Int := (newOut first.length first rest first.length 0 (0, fun _ => List.replicate first.length 0)).2
def newI (first rest : List Int) : Option (List (List Int) × Int) :=
  if first.length ≤ 100 then
    (if first.length = 0 ∨ rest.length ≠ (first.length - 1) * first.length / 2 then some ([], 1) else some ((List.range first.length).map (newM first rest), 0))
  else none
/-! ### a coalition, extended -/
def extStep (t : Int) (bad : List Int) (s : Int × List Int) (k : Nat) : Int × List Int :=
  if ((k : Nat) : Int) ∈ bad then (s.1, s.2 ++ [((k : Nat) : Int)]) else if s.1 < t then (s.1 + 1, s.2 ++ [((k : Nat) : Int)]) else s
def extI (n t : Int) (bad : List Int) : Option (List Int) :=
  if bad.all (fun k => decide (0 ≤ k) && decide (k ≤ 13)) = true ∧ 0 ≤ n ∧ n ≤ 13 ∧ bad.length ≤ 100 then some ((List.range' 1 n.toNat).foldl (extStep t bad) ((bad.length : Nat), [])).2 else none
/-! ### a copy -/
def cloneI (l : List Int) : Option (List Int) := if l.length ≤ 1000000 then some l else none
end Go.Proofs.Ytlooloaaceohdaa
