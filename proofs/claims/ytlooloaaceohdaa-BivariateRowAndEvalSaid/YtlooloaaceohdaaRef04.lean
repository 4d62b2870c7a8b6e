/-
A part of this claim's proof (Ref04): lemmas that the text of the law stands on.
-/
import Derived.Test.YtlooloaaceohdaaPolyGo
set_option linter.unusedVariables false
set_option linter.unusedSimpArgs false
namespace Go.Proofs.Ytlooloaaceohdaa
open Go.RowKit
def utrim : List Nat → List Nat
  | [] => []
  | a :: l => match utrim l with
    | [] => if a = 0 then [] else [a]
    | b :: m => a :: b :: m
theorem utrim_take (xs : List Nat) : ∀ k, k ≤ xs.length → (∀ j, k ≤ j → xs.getD j 0 = 0) → (k = 0 ∨ xs.getD (k - 1) 0 ≠ 0) → utrim xs = xs.take k := by
  induction xs with
  | nil => intro k hk _ _; simp [utrim]
  | cons a l ih =>
    intro k hk hz hl
    cases k with
    | zero =>
      have h1 := ih 0 (Nat.zero_le _) (fun j _ => by have := hz (j + 1) (Nat.zero_le _); simpa using this) (.inl rfl)
      have h2 := hz 0 (Nat.le_refl _)
      simp at h2
      unfold utrim; rw [h1]; simp [h2]
    | succ k =>
      have hz' : ∀ j, k ≤ j → l.getD j 0 = 0 := fun j hj => by have := hz (j + 1) (by omega); simpa using this
      have hk' : k ≤ l.length := by simpa using hk
      cases k with
      | zero =>
        have h1 := ih 0 (Nat.zero_le _) hz' (.inl rfl)
        have h2 : a ≠ 0 := by rcases hl with h | h; · omega
                              · simpa using h
        unfold utrim; rw [h1]; simp [h2]
      | succ k =>
        have h1 := ih (k + 1) hk' hz' (.inr (by rcases hl with h | h; · omega
                                                · simpa using h))
        unfold utrim; rw [h1]
        cases l with
        | nil => simp at hk'
        | cons b l => simp
theorem utrim_map {n : Nat} [NeZero n] (f : List (Fin n)) : utrim (f.map (·.val)) = (ptrim f).map (·.val) := by
  induction f with
  | nil => rfl
  | cons a l ih =>
    rw [List.map_cons]
    unfold utrim ptrim
    rw [ih]
    cases h : ptrim l with
    | nil =>
      by_cases ha : a = 0
      · subst ha; simp [zero_val]
      · have : a.val ≠ 0 := fun e => ha (Fin.ext (by rw [zero_val]; exact e))
        simp [ha, this]
    | cons b t => simp
theorem utrim_length_le (xs : List Nat) : (utrim xs).length ≤ xs.length := by
  induction xs with
  | nil => simp [utrim]
  | cons a l ih =>
    unfold utrim
    split
    · split <;> simp
    · rename_i b t h; rw [h] at ih; simp at ih ⊢; omega
end Go.Proofs.Ytlooloaaceohdaa
