/-
A part of this claim's proof (PureC): lemmas that the text of the law stands on.
-/
import Derived.Test.YtiokpaknhbfenaaPureB
import Derived.Test.YtiokpaknhbfenaaG2
import Derived.Test.YtiokpaknhbfenaaG1
set_option linter.unusedVariables false
set_option linter.unusedSimpArgs false
namespace Go.Proofs.Ytiokpaknhbfenaa.Pure
open Go.RowKit Go.Proofs.Ytiokpaknhbfenaa Go.Proofs.Ytiokpaknhbfenaa.F Go.Proofs.YtiokpaknhbfenaaW.PrintWords Go.Proofs.YtiokpaknhbfenaaW.PrintLast
variable {m : Nat}
theorem below_ev (p : Int) (l : List Int) (hl : l.length ≤ 1000000000) : Ev (fun k => privityref05_Below.f k p l) (l.all fun x => decide (x < p)) := by
  have key : ∀ d i, i + d = l.length → Ev (fun k => privityref05_Below.l0 k p l (i : Int)) ((l.drop i).all fun x => decide (x < p)) := by
    intro d
    induction d with
    | zero =>
      intro i hi
      rw [List.drop_of_length_le (by omega)]
      exact Ev.step (f := fun _ => some true) (fun k => by simp only [privityref05_Below.l0]; rw [if_neg (by omega)]) (Ev.now _)
    | succ d ih =>
      intro i hi
      have hlt : i < l.length := by omega
      rw [List.drop_eq_getElem_cons hlt, List.all_cons]
      by_cases h : l[i] < p
      · rw [decide_eq_true h, Bool.true_and]
        refine Ev.step (f := fun k => privityref05_Below.l0 k p l ((i + 1 : Nat) : Int)) (fun k => ?_) (ih (i + 1) (by omega))
        simp only [privityref05_Below.l0]
        rw [if_pos (by omega), if_pos (by omega), rd_at hlt, if_neg (by omega), wrapS i (by omega)]
      · rw [decide_eq_false h, Bool.false_and]
        refine Ev.step (f := fun _ => some false) (fun k => ?_) (Ev.now _)
        simp only [privityref05_Below.l0]
        rw [if_pos (by omega), if_pos (by omega), rd_at hlt, if_pos (by omega)]
  exact key l.length 0 (by omega)
theorem same_ev (l : List Int) (hl : l.length ≤ 1000000000) : Ev (fun k => privityref05_Same.f k l l) true := by
  have key : ∀ d i, i + d = l.length → Ev (fun k => privityref05_Same.l0 k l l (i : Int)) true := by
    intro d
    induction d with
    | zero =>
      intro i hi
      exact Ev.step (f := fun _ => some true) (fun k => by simp only [privityref05_Same.l0]; rw [if_neg (by omega)]) (Ev.now _)
    | succ d ih =>
      intro i hi
      refine Ev.step (f := fun k => privityref05_Same.l0 k l l ((i + 1 : Nat) : Int)) (fun k => ?_) (ih (i + 1) (by omega))
      simp only [privityref05_Same.l0]
      rw [if_pos (by omega), if_pos (by omega), if_pos (by omega), if_pos trivial, wrapS i (by omega)]
  refine Ev.congr (fun k => ?_) (key l.length 0 (by omega))
  unfold privityref05_Same.f
  rw [if_pos rfl]; rfl
theorem peval_ev (hs : Sup (m + 1)) (f : List (Fin (m + 1))) (x : Fin (m + 1)) (hl : f.length ≤ 1000000000) : Ev (fun k => poly_Eval.f k ((m + 1 : Nat) : Int) (oF f) ((x.val : Nat) : Int)) (((ev f x).val : Nat) : Int) := by
  have key : ∀ i, i ≤ f.length → ∀ e : Int, e = (i : Int) - 1 → Ev (fun k => poly_Eval.l0 k ((m + 1 : Nat) : Int) (oF f) ((x.val : Nat) : Int) (((ev (f.drop i) x).val : Nat) : Int) e) (((ev f x).val : Nat) : Int) := by
    intro i
    induction i with
    | zero =>
      intro _ e he
      refine Ev.step (f := fun _ => some (((ev f x).val : Nat) : Int)) (fun k => ?_) (Ev.now _)
      simp only [poly_Eval.l0]
      rw [if_neg (by omega), List.drop_zero]
    | succ i ih =>
      intro hi e he
      have hlt : i < f.length := by omega
      have h := ih (by omega) ((i : Int) - 1) rfl
      rw [List.drop_eq_getElem_cons hlt, ev_cons] at h
      rw [show e = (i : Int) by omega]
      refine Ev.step (fun k => ?_) h
      simp only [poly_Eval.l0]
      unfold field_Mul.f field_Add.f
      rw [if_pos (by omega), fMul_eq hs]; simp only [Option.bind_some]
      rw [if_pos (by omega), if_pos (by rw [len_oF]; omega), rd_oF hlt, fAdd_eq hs]; simp only [Option.bind_some]
      rw [show ev (f.drop (i + 1)) x * x + f[i] = f[i] + x * ev (f.drop (i + 1)) x by grind, show wrap64 ((i : Int) - 1) = (i : Int) - 1 by unfold wrap64; omega]
  have h := key f.length (Nat.le_refl _) ((f.length : Int) - 1) rfl
  rw [List.drop_length] at h
  refine Ev.congr (fun k => ?_) h
  unfold poly_Eval.f
  rw [len_oF, show wrap64 ((f.length : Int) - 1) = (f.length : Int) - 1 by unfold wrap64; omega, ev_nil, zero_val]; rfl
theorem all_inr {p : Int} {l : List Int} (hw : ∀ x ∈ l, (Lit.int .u64 x).wf = true) (hb : (l.all fun x => decide (x < p)) = true) : l.all (inr p) = true := by
  rw [List.all_eq_true] at hb ⊢
  intro x hx
  have h1 := wf_u64 (hw x hx)
  have h2 := of_decide_eq_true (hb x hx)
  simp only [inr, Bool.and_eq_true, decide_eq_true_eq]
  exact ⟨h1, h2⟩
theorem wrap_small (x : Int) (h0 : 0 ≤ x) (h1 : x ≤ 9223372036854775807) : IntKind.u64.wrap x = x := by
  simp [IntKind.wrap, IntKind.bits, IntKind.signed]; omega
end Go.Proofs.Ytiokpaknhbfenaa.Pure
