/-
A part of this claim's proof (Pure10r): lemmas that the text of the law stands on.
-/
import Derived.Test.YtlooloaaceohdaaPure10b
import Derived.Test.YtlooloaaceohdaaF17
import Derived.Test.YtlooloaaceohdaaF19
import Derived.Test.YtlooloaaceohdaaF19
set_option linter.unusedVariables false
set_option linter.unusedSimpArgs false
namespace Go.Proofs.Ytlooloaaceohdaa.Pure
open Go.RowKit Go.Proofs.Ytlooloaaceohdaa Go.Proofs.Ytlooloaaceohdaa.F Go.Proofs.YtlooloaaceohdaaW.PrintWords Go.Proofs.YtlooloaaceohdaaW.PrintLast
variable {m : Nat}
/-! ### rows of a matrix at a point -/
theorem value_ev (hs : Sup (m + 1)) (f : List (Fin (m + 1))) (x : Fin (m + 1)) (hl : f.length ≤ 1000000000) : Ev (fun k => privityref10_Value.f k ((m + 1 : Nat) : Int) (oF f) ((x.val : Nat) : Int)) (((ev f x).val : Nat) : Int) := by
  have key : ∀ i, i ≤ f.length → ∀ e : Int, e = (i : Int) - 1 → Ev (fun k => privityref10_Value.l0 k ((m + 1 : Nat) : Int) (oF f) ((x.val : Nat) : Int) (((ev (f.drop i) x).val : Nat) : Int) e) (((ev f x).val : Nat) : Int) := by
    intro i
    induction i with
    | zero =>
      intro _ e he
      refine Ev.step (f := fun _ => some (((ev f x).val : Nat) : Int)) (fun k => ?_) (Ev.now _)
      simp only [privityref10_Value.l0]
      rw [if_neg (by omega), List.drop_zero]
    | succ i ih =>
      intro hi e he
      have hlt : i < f.length := by omega
      have h := ih (by omega) ((i : Int) - 1) rfl
      rw [List.drop_eq_getElem_cons hlt, ev_cons] at h
      rw [show e = (i : Int) by omega]
      refine Ev.step (fun k => ?_) h
      simp only [privityref10_Value.l0]
      unfold privityref01_Mul.f privityref01_Add.f
      rw [if_pos (by omega), fMul_eq hs]; simp only [Option.bind_some]
      rw [if_pos (by omega), if_pos (by rw [len_oF]; omega), rd_oF hlt, fAdd_eq hs]; simp only [Option.bind_some]
      rw [show ev (f.drop (i + 1)) x * x + f[i] = f[i] + x * ev (f.drop (i + 1)) x by grind, show wrap64 ((i : Int) - 1) = (i : Int) - 1 by unfold wrap64; omega]
  have h := key f.length (Nat.le_refl _) ((f.length : Int) - 1) rfl
  rw [List.drop_length] at h
  refine Ev.congr (fun k => ?_) h
  unfold privityref10_Value.f
  rw [len_oF, show wrap64 ((f.length : Int) - 1) = (f.length : Int) - 1 by unfold wrap64; omega, ev_nil, zero_val]; rfl
theorem row_ev (hs : Sup (m + 1)) (M : List (List (Fin (m + 1)))) (x : Fin (m + 1)) (hl : M.length ≤ 1000) (hr : ∀ r ∈ M, r.length = M.length) :
    Ev (fun k => privityref10_Row.f k ((m + 1 : Nat) : Int) (M.map oF) ((x.val : Nat) : Int)) (oF (rowAt M x)) := by
  have hml : (M.map oF).length = M.length := by simp
  have inner : ∀ j, j < M.length → ∀ X r, Ev (fun k => privityref10_Row.l0 k ((m + 1 : Nat) : Int) (M.map oF) ((x.val : Nat) : Int) (X ++ [(((ev (M.map fun r => co r j) x).val : Nat) : Int)]) ((j + 1 : Nat) : Int)) r → X.length ≤ 1000 →
      ∀ d i, i + d = M.length → Ev (fun k => privityref10_Row.l1 k ((m + 1 : Nat) : Int) (M.map oF) ((x.val : Nat) : Int) X (j : Int) (oF ((M.take i).map fun r => co r j)) (i : Int)) r := by
    intro j hj X r hr0 hX d
    induction d with
    | zero =>
      intro i hi
      have hv := value_ev hs (M.map fun r => co r j) x (by simp; omega)
      refine Ev.step (f := fun k => (privityref10_Value.f k ((m + 1 : Nat) : Int) (oF (M.map fun r => co r j)) ((x.val : Nat) : Int)).bind fun t => privityref10_Row.l0 k ((m + 1 : Nat) : Int) (M.map oF) ((x.val : Nat) : Int) (X ++ [t]) ((j + 1 : Nat) : Int)) (fun k => ?_) (Ev.bind hv hr0)
      simp only [privityref10_Row.l1]
      rw [if_neg (by omega), List.take_of_length_le (by omega)]
      simp only [if_pos (show X.length < 17592186044416 by omega), wrapS j (by omega)]
    | succ d ih =>
      intro i hi
      have hlt : i < M.length := by omega
      have hrl := hr M[i] (List.getElem_mem hlt)
      have hjr : j < M[i].length := by omega
      refine Ev.step (fun k => ?_) (ih (i + 1) (by omega))
      simp only [privityref10_Row.l1]
      rw [rdL_map hlt, if_pos (by omega), if_pos (by omega), if_pos (by omega), if_pos (by rw [len_oF]; omega), if_pos (by rw [len_oF]; simp; omega), rd_oF hjr, wrapS i (by omega), List.take_succ_eq_append_getElem hlt, List.map_append, oF_append, ← co_getElem hjr]; rfl
  have outer : ∀ d j, j + d = M.length → Ev (fun k => privityref10_Row.l0 k ((m + 1 : Nat) : Int) (M.map oF) ((x.val : Nat) : Int) (oF ((List.range j).map fun j => ev (M.map fun r => co r j) x)) (j : Int)) (oF (rowAt M x)) := by
    intro d
    induction d with
    | zero =>
      intro j hj
      refine Ev.step (f := fun _ => some (oF (rowAt M x))) (fun k => ?_) (Ev.now _)
      simp only [privityref10_Row.l0]
      rw [if_neg (by omega), show j = M.length by omega]; rfl
    | succ d ih =>
      intro j hj
      have hlt : j < M.length := by omega
      have h := ih (j + 1) (by omega)
      rw [List.range_succ, List.map_append, oF_append] at h
      refine Ev.step (fun k => ?_) (inner j hlt _ _ h (by rw [len_oF]; simp; omega) M.length 0 (by omega))
      simp only [privityref10_Row.l0]
      rw [if_pos (by omega)]; rfl
  exact outer M.length 0 (by omega)
theorem tmod_fin {x : Int} (h : 0 ≤ x) : ∃ y : Fin (m + 1), Int.tmod x ((m + 1 : Nat) : Int) = ((y.val : Nat) : Int) := by
  refine inr_fin ?_
  rw [Int.tmod_eq_emod_of_nonneg h]
  simp only [inr, Bool.and_eq_true, decide_eq_true_eq]
  exact ⟨Int.emod_nonneg _ (by omega), Int.emod_lt_of_pos _ (by omega)⟩
set_option maxRecDepth 10000 in
theorem awake10r_ev : Ev (fun k => privitylaw10_awake.f k) true := Ev.of (fun k => privitylaw10_awake.mono k) (k := 60) (by decide +kernel)
def okU (l : List Int) : Prop := l.length ≤ maxLen ∧ ∀ x ∈ l, (Lit.int .u64 x).wf = true
def okUU (l : List (List Int)) : Prop := l.length ≤ maxLen ∧ ∀ r ∈ l, okU r
theorem okUU_pos {l : List (List Int)} (h : okUU l) : ∀ r ∈ l, ∀ x ∈ r, 0 ≤ x := fun r hr x hx => wf_u64 ((h.2 r hr).2 x hx)
theorem law_facts (p : Int) (M : List (List Int)) (x y : Int) (hM : okUU M) (hx : (Lit.int .u64 x).wf = true) (hy : (Lit.int .u64 y).wf = true)
    (h : okp p = true ∧ M.length ≤ 6 ∧ (∀ r ∈ M, ∀ x ∈ r, x < p) ∧ 0 < M.length ∧ ∀ r ∈ M, r.length = M.length) :
    ∃ (X : List Int) (v : Int), 0 < p ∧ Ev (fun k => bivariate_Row.f k p M (Int.tmod x p)) X ∧ Ev (fun k => privityref10_Row.f k p M (Int.tmod x p)) X ∧ Ev (fun k => privityref06_SameList.f k X X) true ∧
      Ev (fun k => bivariate_Eval.f k p M (Int.tmod x p) (Int.tmod y p)) v ∧ Ev (fun k => privityref10_Eval.f k p M (Int.tmod x p) (Int.tmod y p)) v ∧ Ev (fun k => poly_Eval.f k p X (Int.tmod y p)) v := by
  obtain ⟨g1, g2, g3, g4, g5⟩ := h
  obtain ⟨m, rfl, hs⟩ := okp_sup g1
  obtain ⟨Q, rfl⟩ := all_oFF (m := m) (fun r hr x hx => ⟨okUU_pos hM r hr x hx, g3 r hr x hx⟩)
  have hr : ∀ r ∈ Q, r.length = Q.length := fun r hr => by
    have := g5 (oF r) (List.mem_map_of_mem hr)
    simpa [len_oF] using this
  have hl : Q.length ≤ 1000 := by simp at g2; omega
  obtain ⟨a, ha⟩ := tmod_fin (m := m) (wf_u64 hx)
  obtain ⟨c, hc⟩ := tmod_fin (m := m) (wf_u64 hy)
  rw [ha, hc]
  have hw := sl_ev (oF (rowAt Q a)) (oF (rowAt Q a)) (by rw [len_oF]; simp [rowAt]; omega)
  rw [decide_eq_true rfl] at hw
  have hv := value_ev hs (rowAt Q a) c (by simp [rowAt]; omega)
  have hE : Ev (fun k => privityref10_Eval.f k ((m + 1 : Nat) : Int) (Q.map oF) ((a.val : Nat) : Int) ((c.val : Nat) : Int)) (((ev (rowAt Q a) c).val : Nat) : Int) := by
    unfold privityref10_Eval.f
    exact Ev.bind (row_ev hs Q a hl hr) (Ev.bind hv (Ev.now _))
  exact ⟨_, _, by omega, browAt_ev hs Q a hl hr, row_ev hs Q a hl hr, hw, beval_ev hs Q a c hl hr, hE, peval_ev hs (rowAt Q a) c (by simp [rowAt]; omega)⟩
end Go.Proofs.Ytlooloaaceohdaa.Pure
