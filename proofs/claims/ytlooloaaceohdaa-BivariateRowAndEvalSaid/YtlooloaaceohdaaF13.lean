-- Functions of the Go program as Lean functions, with proofs that the Go code comes to them. Written by the kit's print.py, which a program of this claim's session (wip/pr.py) called over inputs of its own; that program then changed some of the lines.
import Derived.Test.YtlooloaaceohdaaSpec
import Derived.Test.YtlooloaaceohdaaNew10b
import Derived.Test.YtlooloaaceohdaaG1
namespace Go.Proofs.Ytlooloaaceohdaa.F
open Go.RowKit Go.Proofs.YtlooloaaceohdaaW.PrintWords Go.Proofs.YtlooloaaceohdaaW.PrintLast Go.Proofs.YtlooloaaceohdaaW.PrintMore
attribute [local go_sem] max2_int min2_int max_two min_two max_three min_three max_four min_four   -- for this text's walks alone
set_option linter.unusedVariables false
set_option linter.unusedSimpArgs false

/-! ### interpolate_Polynomial: function 47 -/
def interpolate_Polynomial.f (a0 : Int) (l1 : List (S64)) : Option (List Int × Int) := polyI a0 (l1.map fun s => (s.f0, s.f1))
theorem interpolate_Polynomial.calls (a0 : Int) (A1 : Option Addr) (c1 : Nat) (l1 : List (S64)) (r1 : List Int) (r2 : Int) (w : World) (hr1 : Kd.C k64 w A1 l1.length l1) (hc1 : l1.length ≤ c1) (h : interpolate_Polynomial.f a0 l1 = some (r1, r2)) :
    Calls Try.prog 47 #[.int .u64 a0, .slice A1 l1.length c1] w fun e w' => ∃ v0_ : Value, e = .returned (.tuple #[v0_, .int .i64 r2]) ∧ Kd.R (Kd.int .u64) 22 w' w.heap.size (fun _ => True) v0_ r1 ∧ Below w.heap.size w w' := by
  have hl : (l1.map fun s : S64 => (s.f0, s.f1)).length = l1.length := List.length_map _
  have := polyI_calls a0 A1 c1 (l1.map fun s : S64 => (s.f0, s.f1)) r1 r2 w (fun i hi => by
    rw [hl] at hi
    obtain ⟨ad, q1, q2, q3⟩ := at_T64 hr1 i (by omega) (by omega)
    have hg : rd_T64 l1 i = l1[i] := by simp [rd_T64, hi]
    rw [hg] at q2 q3
    refine ⟨ad, q1, ?_, ?_⟩
    · simpa using q2
    · simpa using q3) (by rw [hl]; exact hc1) h
  rw [hl] at this
  exact this

end Go.Proofs.Ytlooloaaceohdaa.F
