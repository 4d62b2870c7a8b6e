import Derived.Test.YtcagegpgalambaaPure05
import Derived.Test.YtcagegpgalambaaF8
set_option linter.unusedVariables false
set_option linter.unusedSimpArgs false
namespace Go.Proofs.Ytcagegpgalambaa.Pure
open Go.RowKit Go.Proofs.Ytcagegpgalambaa Go.Proofs.Ytcagegpgalambaa.F Go.Proofs.YtcagegpgalambaaW.PrintWords Go.Proofs.YtcagegpgalambaaW.PrintLast
variable {m : Nat}
/-! ### the value of a polynomial, by Horner's rule -/
theorem peval_ev (hs : Sup (m + 1)) (f : List (Fin (m + 1))) (x : Fin (m + 1)) (hl : f.length ≤ 1000000000) : Ev (fun k => poly_Eval.f k ((m + 1 : Nat) : Int) (oF f) ((x.val : Nat) : Int)) (((ev f x).val : Nat) : Int) := by
  have key : ∀ i, i ≤ f.length → ∀ e : Int, e = (i : Int) - 1 → Ev (fun k => poly_Eval.l0 k ((m + 1 : Nat) : Int) (oF f) ((x.val : Nat) : Int) (((ev (f.drop i) x).val : Nat) : Int) e) (((ev f x).val : Nat) : Int) := by
    intro i
    induction i with
    | zero =>
      intro _ e he
      refine Ev.step (f := fun _ => some (((ev f x).val : Nat) : Int)) (fun k => ?_) (Ev.now _)
      simp only [poly_Eval.l0]
      rw [if_neg (by omega), List.drop_zero]
    | succ i ih =>
      intro hi e he
      have hlt : i < f.length := by omega
      have h := ih (by omega) ((i : Int) - 1) rfl
      rw [List.drop_eq_getElem_cons hlt, ev_cons] at h
      rw [show e = (i : Int) by omega]
      refine Ev.step (fun k => ?_) h
      simp only [poly_Eval.l0]
      unfold field_Mul.f field_Add.f
      rw [if_pos (by omega), fMul_eq hs]; simp only [Option.bind_some]
      rw [if_pos (by omega), if_pos (by rw [len_oF]; omega), rd_oF hlt, fAdd_eq hs]; simp only [Option.bind_some]
      rw [show ev (f.drop (i + 1)) x * x + f[i] = f[i] + x * ev (f.drop (i + 1)) x by grind, show wrap64 ((i : Int) - 1) = (i : Int) - 1 by unfold wrap64; omega]
  have h := key f.length (Nat.le_refl _) ((f.length : Int) - 1) rfl
  rw [List.drop_length] at h
  refine Ev.congr (fun k => ?_) h
  unfold poly_Eval.f
  rw [len_oF, show wrap64 ((f.length : Int) - 1) = (f.length : Int) - 1 by unfold wrap64; omega, ev_nil, zero_val]; rfl
end Go.Proofs.Ytcagegpgalambaa.Pure
