/-
A part of this claim's proof (New10): lemmas that the text of the law stands on.
-/
import Derived.Test.YtlooloaaceohdaaSpec43
set_option linter.unusedVariables false
set_option linter.unusedSimpArgs false
namespace Go.Proofs.Ytlooloaaceohdaa
open Go.RowKit Go.Proofs.YtlooloaaceohdaaW.PrintWords
/-! ### the numbers of entries -/
def tri : Nat → Nat
  | 0 => 0
  | d + 1 => tri d + (d + 1)
theorem tri_two (d : Nat) : 2 * tri d = d * (d + 1) := by
  induction d with
  | zero => rfl
  | succ d ih => rw [tri, Nat.mul_add, ih]; grind
theorem tri_half (d : Nat) : d * (d + 1) / 2 = tri d := by rw [← tri_two]; omega
theorem tri_le (d : Nat) (h : d ≤ 100) : tri d ≤ 5050 := by
  have h1 := tri_two d
  have h2 : d * (d + 1) ≤ 100 * 101 := Nat.mul_le_mul h (by omega)
  omega
theorem tri_pred (n i : Nat) (h : i < n) : tri (n - i) = tri (n - (i + 1)) + (n - i) := by
  rw [show n - i = (n - (i + 1)) + 1 by omega, tri]
theorem Ext.drew' (w : World) : Ext w w.drew := Ext.drew w
theorem Mt.congr {w : World} {B g n k : Nat} {b : Nat → Nat} {M M' : Nat → List Int} (h : Mt w B g n k b M) (he : ∀ i, i < k → M i = M' i) : Mt w B g n k b M' :=
  ⟨h.outer, fun i hi => by rw [← he i hi]; exact h.row i hi, h.apart, h.sep⟩
theorem half_wrap (n q : Nat) (hn1 : 1 ≤ n) (hn2 : n ≤ 100) (hq : q = tri (n - 1)) : wrap64 ((wrap64 (((n : Int) - 1) * (n : Int))).tdiv 2) = (q : Int) := by
  have h1 := tri_two (n - 1)
  have h2 := tri_le (n - 1) (by omega)
  have h3 : ((n : Int) - 1) * (n : Int) = ((2 * q : Nat) : Int) := by
    rw [hq, h1, show n - 1 + 1 = n by omega, Int.natCast_mul, show ((n - 1 : Nat) : Int) = (n : Int) - 1 by omega]
  rw [h3]
  rw [← hq] at h2
  have h4 : wrap64 ((2 * q : Nat) : Int) = ((2 * q : Nat) : Int) := by unfold wrap64; omega
  rw [h4]
  have h5 : (((2 * q : Nat) : Int)).tdiv 2 = (q : Int) := by
    rw [Int.tdiv_eq_ediv_of_nonneg (by omega)]; omega
  rw [h5]; unfold wrap64; omega
theorem newOut_step (n : Nat) (first rest : List Int) (i : Nat) (h : i < n) (s : Nat × (Nat → List Int)) :
    newOut n first rest (n - i) i s = newOut n first rest (n - (i + 1)) (i + 1) (if i = 0 then (s.1, set2 (set2 s.2 0 i (first.getD i 0)) i 0 (first.getD i 0)) else newIn n i rest (n - i) i (s.1, set2 (set2 s.2 0 i (first.getD i 0)) i 0 (first.getD i 0))) := by
  rw [show n - i = (n - (i + 1)) + 1 by omega, newOut]
  simp only [show n - (i + 1) + 1 = n - i by omega]
theorem newIn_step (n i : Nat) (rest : List Int) (j : Nat) (h : j < n) (s : Nat × (Nat → List Int)) :
    newIn n i rest (n - j) j s = newIn n i rest (n - (j + 1)) (j + 1) (s.1 + 1, set2 (set2 s.2 i j (rest.getD s.1 0)) j i (rest.getD s.1 0)) := by
  rw [show n - j = (n - (j + 1)) + 1 by omega, newIn]
theorem Mt.set2 {w : World} {B g n : Nat} {b : Nat → Nat} {M : Nat → List Int} (h : Mt w B g n n b M) {i j : Nat} (hi : i < n) (hj : j < n) (x : Int) :
    Mt (w.setCell ⟨b i, j, none⟩ (.int .u64 x)) B g n n b (Go.Proofs.Ytlooloaaceohdaa.set2 M i j x) := h.set hi hj x
end Go.Proofs.Ytlooloaaceohdaa
