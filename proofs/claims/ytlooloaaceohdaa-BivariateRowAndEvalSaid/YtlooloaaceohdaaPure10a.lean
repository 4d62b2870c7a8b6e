/-
A part of this claim's proof (Pure10a): lemmas that the text of the law stands on.
-/
import Derived.Test.YtlooloaaceohdaaPureB
import Derived.Test.YtlooloaaceohdaaG1
set_option linter.unusedVariables false
set_option linter.unusedSimpArgs false
namespace Go.Proofs.Ytlooloaaceohdaa.Pure
open Go.RowKit Go.Proofs.Ytlooloaaceohdaa Go.Proofs.Ytlooloaaceohdaa.F Go.Proofs.YtlooloaaceohdaaW.PrintWords Go.Proofs.YtlooloaaceohdaaW.PrintLast
/-! ### what the checks tell -/
theorem rdL_at {M : List (List Int)} {i : Nat} (h : i < M.length) : rd_L2 M (i : Int) = M[i] := by simp [rd_L2, h]
theorem below6_ev (p : Int) (l : List Int) : ∃ b, Ev (fun k => privityref06_Below.f k p l 6) b ∧ (b = true → (∀ x ∈ l, x < p) ∧ l.length ≤ 6) := by
  have key : ∀ d i, i + d = 7 → i ≤ l.length → (∀ x ∈ l.take i, x < p) → ∃ b, Ev (fun k => privityref06_Below.l0 k p l 6 (i : Int)) b ∧ (b = true → (∀ x ∈ l, x < p) ∧ l.length ≤ 6) := by
    intro d
    induction d with
    | zero =>
      intro i hi hl h
      refine ⟨decide ((l.length : Int) ≤ 6), Ev.step (f := fun k => privityref06_Below.j1 k p l 6 (i : Int) false) (fun k => ?_) (Ev.step (f := fun _ => some (decide ((l.length : Int) ≤ 6))) (fun k => ?_) (Ev.now _)), fun hb => ?_⟩
      · simp only [privityref06_Below.l0]
        by_cases hlt : (i : Int) < (l.length : Int)
        · rw [if_pos hlt, decide_eq_false (by omega)]
        · rw [if_neg hlt]
      · simp only [privityref06_Below.j1]; rw [if_neg (by simp)]
      · have := of_decide_eq_true hb; omega
    | succ d ih =>
      intro i hi hl h
      by_cases hlt : i < l.length
      · have hstep : ∀ k, privityref06_Below.l0 (k + 1) p l 6 (i : Int) = privityref06_Below.j1 k p l 6 (i : Int) true := fun k => by
          simp only [privityref06_Below.l0]
          rw [if_pos (by omega), decide_eq_true (by omega)]
        by_cases hx : l[i] < p
        · obtain ⟨b, h1, h2⟩ := ih (i + 1) (by omega) (by omega) (fun x hx' => by
            rw [List.take_succ_eq_append_getElem hlt, List.mem_append, List.mem_singleton] at hx'
            rcases hx' with h3 | rfl
            · exact h x h3
            · exact hx)
          refine ⟨b, Ev.step hstep (Ev.step (fun k => ?_) h1), h2⟩
          simp only [privityref06_Below.j1]
          rw [if_pos trivial, if_pos (by omega), if_pos (by omega), rd_at hlt, if_neg (by omega), wrapS i (by omega)]
        · refine ⟨false, Ev.step hstep (Ev.step (f := fun _ => some false) (fun k => ?_) (Ev.now _)), fun hb => by cases hb⟩
          simp only [privityref06_Below.j1]
          rw [if_pos trivial, if_pos (by omega), if_pos (by omega), rd_at hlt, if_pos (by omega)]
      · refine ⟨decide ((l.length : Int) ≤ 6), Ev.step (f := fun k => privityref06_Below.j1 k p l 6 (i : Int) false) (fun k => ?_) (Ev.step (f := fun _ => some (decide ((l.length : Int) ≤ 6))) (fun k => ?_) (Ev.now _)), fun hb => ?_⟩
        · simp only [privityref06_Below.l0]; rw [if_neg (by omega)]
        · simp only [privityref06_Below.j1]; rw [if_neg (by simp)]
        · have := of_decide_eq_true hb
          rw [List.take_of_length_le (by omega)] at h
          exact ⟨h, by omega⟩
  exact key 7 0 (by omega) (by omega) (by simp)
theorem fair6_ev (p : Int) (M : List (List Int)) : ∃ b, Ev (fun k => privityref06_Fair.f k p M 6) b ∧ (b = true → okp p = true ∧ M.length ≤ 6 ∧ ∀ r ∈ M, (∀ x ∈ r, x < p) ∧ r.length ≤ 6) := by
  have hj : Ev (fun k => privityref06_Fair.j0 k p M 6 true) false := Ev.step (f := fun _ => some false) (fun k => by simp only [privityref06_Fair.j0]; rw [if_pos trivial]) (Ev.now _)
  by_cases hok : okp p = true
  case neg =>
    rw [Bool.not_eq_true] at hok
    refine ⟨false, ?_, fun hb => by cases hb⟩
    unfold privityref06_Fair.f
    refine Ev.bind (supported_ev p) ?_
    rw [hok]; exact hj
  by_cases hl : M.length ≤ 6
  case neg =>
    refine ⟨false, ?_, fun hb => by cases hb⟩
    unfold privityref06_Fair.f
    refine Ev.bind (supported_ev p) ?_
    rw [hok]
    simp only [if_true]
    rw [decide_eq_true (show (M.length : Int) > 6 by omega)]; exact hj
  have key : ∀ d i, i + d = M.length → (∀ r ∈ M.take i, (∀ x ∈ r, x < p) ∧ r.length ≤ 6) → ∃ b, Ev (fun k => privityref06_Fair.l0 k p M 6 (i : Int)) b ∧ (b = true → ∀ r ∈ M, (∀ x ∈ r, x < p) ∧ r.length ≤ 6) := by
    intro d
    induction d with
    | zero =>
      intro i hi h
      rw [List.take_of_length_le (by omega)] at h
      refine ⟨true, Ev.step (f := fun _ => some true) (fun k => ?_) (Ev.now _), fun _ => h⟩
      simp only [privityref06_Fair.l0]; rw [if_neg (by omega)]
    | succ d ih =>
      intro i hi h
      have hlt : i < M.length := by omega
      obtain ⟨b, h1, h2⟩ := below6_ev p M[i]
      cases b with
      | false =>
        refine ⟨false, Ev.step (f := fun k => (privityref06_Below.f k p M[i] 6).bind fun t => if t = true then privityref06_Fair.l0 k p M 6 ((i + 1 : Nat) : Int) else some false) (fun k => ?_) (Ev.bind h1 (Ev.now _)), fun hb => by cases hb⟩
        simp only [privityref06_Fair.l0]
        rw [if_pos (by omega), if_pos (by omega), rdL_at hlt, wrapS i (by omega)]
      | true =>
        obtain ⟨b2, h3, h4⟩ := ih (i + 1) (by omega) (fun r hr => by
          rw [List.take_succ_eq_append_getElem hlt, List.mem_append, List.mem_singleton] at hr
          rcases hr with h5 | rfl
          · exact h r h5
          · exact h2 rfl)
        refine ⟨b2, Ev.step (f := fun k => (privityref06_Below.f k p M[i] 6).bind fun t => if t = true then privityref06_Fair.l0 k p M 6 ((i + 1 : Nat) : Int) else some false) (fun k => ?_) (Ev.bind h1 ?_), h4⟩
        · simp only [privityref06_Fair.l0]
          rw [if_pos (by omega), if_pos (by omega), rdL_at hlt, wrapS i (by omega)]
        · simp only [if_true]; exact h3
  obtain ⟨b, h1, h2⟩ := key M.length 0 (by omega) (by simp)
  refine ⟨b, ?_, fun hb => ⟨hok, hl, h2 hb⟩⟩
  unfold privityref06_Fair.f
  refine Ev.bind (supported_ev p) ?_
  rw [hok]
  simp only [if_true]
  rw [decide_eq_false (show ¬ (M.length : Int) > 6 by omega)]
  refine Ev.step (fun k => ?_) h1
  simp only [privityref06_Fair.j0]
  rw [if_neg (by simp)]; rfl
theorem square_ev (M : List (List Int)) (hl : M.length ≤ 1000) : ∃ b, Ev (fun k => privityref10_Square.f k M) b ∧ (b = true → 0 < M.length ∧ ∀ r ∈ M, r.length = M.length) := by
  have key : ∀ d i, i + d = M.length → (∀ r ∈ M.take i, r.length = M.length) → ∃ b, Ev (fun k => privityref10_Square.l0 k M (i : Int)) b ∧ (b = true → 0 < M.length ∧ ∀ r ∈ M, r.length = M.length) := by
    intro d
    induction d with
    | zero =>
      intro i hi h
      rw [List.take_of_length_le (by omega)] at h
      refine ⟨decide ((M.length : Int) > 0), Ev.step (f := fun _ => some (decide ((M.length : Int) > 0))) (fun k => ?_) (Ev.now _), fun hb => ⟨by have := of_decide_eq_true hb; omega, h⟩⟩
      simp only [privityref10_Square.l0]; rw [if_neg (by omega)]
    | succ d ih =>
      intro i hi h
      have hlt : i < M.length := by omega
      by_cases hr : M[i].length = M.length
      · obtain ⟨b, h1, h2⟩ := ih (i + 1) (by omega) (fun r hr' => by
          rw [List.take_succ_eq_append_getElem hlt, List.mem_append, List.mem_singleton] at hr'
          rcases hr' with h5 | rfl
          · exact h r h5
          · exact hr)
        refine ⟨b, Ev.step (fun k => ?_) h1, h2⟩
        simp only [privityref10_Square.l0]
        rw [if_pos (by omega), if_pos (by omega), rdL_at hlt, if_pos (by omega), wrapS i (by omega)]
      · refine ⟨false, Ev.step (f := fun _ => some false) (fun k => ?_) (Ev.now _), fun hb => by cases hb⟩
        simp only [privityref10_Square.l0]
        rw [if_pos (by omega), if_pos (by omega), rdL_at hlt, if_neg (by omega)]
  exact key M.length 0 (by omega) (by simp)
theorem fair10_ev (p : Int) (M : List (List Int)) : ∃ b, Ev (fun k => privityref10_Fair.f k p M 6) b ∧ (b = true → okp p = true ∧ M.length ≤ 6 ∧ (∀ r ∈ M, ∀ x ∈ r, x < p) ∧ 0 < M.length ∧ ∀ r ∈ M, r.length = M.length) := by
  obtain ⟨b, h1, h2⟩ := fair6_ev p M
  cases b with
  | false =>
    refine ⟨false, ?_, fun hb => by cases hb⟩
    unfold privityref10_Fair.f
    exact Ev.bind h1 (Ev.now _)
  | true =>
    obtain ⟨g1, g2, g3⟩ := h2 rfl
    obtain ⟨c, h3, h4⟩ := square_ev M (by omega)
    refine ⟨c, ?_, fun hb => ⟨g1, g2, fun r hr => (g3 r hr).1, (h4 hb).1, (h4 hb).2⟩⟩
    unfold privityref10_Fair.f
    refine Ev.bind h1 ?_
    simp only [if_true]
    exact Ev.bind h3 (Ev.now _)
/-- Entry (i, j). -/
def ent (M : List (List Int)) (i j : Nat) : Int := (M.getD i []).getD j 0
end Go.Proofs.Ytlooloaaceohdaa.Pure
