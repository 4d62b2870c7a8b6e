-- Several texts in one, each in a section of its own.
import Derived.Test.YtgjcmcokkbdflaaPureB
import Derived.Test.YtgjcmcokkbdflaaG2
import Derived.Test.YtgjcmcokkbdflaaG1
import Derived.Test.YtgjcmcokkbdflaaF23
import Derived.Test.YtgjcmcokkbdflaaF22
import Derived.Test.YtgjcmcokkbdflaaF20
import Derived.Test.YtgjcmcokkbdflaaF13
section
/-
A part of this claim's proof (Pure10a): lemmas that the text of the law stands on.
-/
set_option linter.unusedVariables false
set_option linter.unusedSimpArgs false
namespace Go.Proofs.Ytgjcmcokkbdflaa.Pure
open Go.RowKit Go.Proofs.Ytgjcmcokkbdflaa Go.Proofs.Ytgjcmcokkbdflaa.F Go.Proofs.YtgjcmcokkbdflaaW.PrintWords Go.Proofs.YtgjcmcokkbdflaaW.PrintLast
/-! ### what the checks tell -/
theorem rdL_at {M : List (List Int)} {i : Nat} (h : i < M.length) : rd_L1 M (i : Int) = M[i] := by simp [rd_L1, h]
theorem below6_ev (p : Int) (l : List Int) : ∃ b, Ev (fun k => privityref06_Below.f k p l 6) b ∧ (b = true → (∀ x ∈ l, x < p) ∧ l.length ≤ 6) := by
 have key : ∀ d i, i + d = 7 → i ≤ l.length → (∀ x ∈ l.take i, x < p) → ∃ b, Ev (fun k => privityref06_Below.l0 k p l 6 (i : Int)) b ∧ (b = true → (∀ x ∈ l, x < p) ∧ l.length ≤ 6) := by
  intro d
  induction d with
  | zero =>
   intro i hi hl h
   refine ⟨decide ((l.length : Int) ≤ 6), Ev.step (f := fun k => privityref06_Below.j1 k p l 6 (i : Int) false) (fun k => ?_) (Ev.step (f := fun _ => some (decide ((l.length : Int) ≤ 6))) (fun k => ?_) (Ev.now _)), fun hb => ?_⟩
   ·simp only [privityref06_Below.l0]
    by_cases hlt : (i : Int) < (l.length : Int)
    ·rw [if_pos hlt, decide_eq_false (by omega)]
    ·rw [if_neg hlt]
   ·simp only [privityref06_Below.j1]; rw [if_neg (by simp)]
   ·have := of_decide_eq_true hb; omega
  | succ d ih =>
   intro i hi hl h
   by_cases hlt : i < l.length
   ·have hstep : ∀ k, privityref06_Below.l0 (k + 1) p l 6 (i : Int) = privityref06_Below.j1 k p l 6 (i : Int) true := fun k => by
     simp only [privityref06_Below.l0]
     rw [if_pos (by omega), decide_eq_true (by omega)]
    by_cases hx : l[i] < p
    ·obtain ⟨b, h1, h2⟩ := ih (i + 1) (by omega) (by omega) (fun x hx' => by
      rw [List.take_succ_eq_append_getElem hlt, List.mem_append, List.mem_singleton] at hx'
      rcases hx' with h3 | rfl
      ·exact h x h3
      ·exact hx)
     refine ⟨b, Ev.step hstep (Ev.step (fun k => ?_) h1), h2⟩
     simp only [privityref06_Below.j1]
     rw [if_pos trivial, if_pos (by omega), if_pos (by omega), rd_at hlt, if_neg (by omega), wrapS i (by omega)]
    ·refine ⟨false, Ev.step hstep (Ev.step (f := fun _ => some false) (fun k => ?_) (Ev.now _)), fun hb => by cases hb⟩
     simp only [privityref06_Below.j1]
     rw [if_pos trivial, if_pos (by omega), if_pos (by omega), rd_at hlt, if_pos (by omega)]
   ·refine ⟨decide ((l.length : Int) ≤ 6), Ev.step (f := fun k => privityref06_Below.j1 k p l 6 (i : Int) false) (fun k => ?_) (Ev.step (f := fun _ => some (decide ((l.length : Int) ≤ 6))) (fun k => ?_) (Ev.now _)), fun hb => ?_⟩
    ·simp only [privityref06_Below.l0]; rw [if_neg (by omega)]
    ·simp only [privityref06_Below.j1]; rw [if_neg (by simp)]
    ·have := of_decide_eq_true hb
     rw [List.take_of_length_le (by omega)] at h
     exact ⟨h, by omega⟩
 exact key 7 0 (by omega) (by omega) (by simp)
theorem fair6_ev (p : Int) (M : List (List Int)) : ∃ b, Ev (fun k => privityref06_Fair.f k p M 6) b ∧ (b = true → okp p = true ∧ M.length ≤ 6 ∧ ∀ r ∈ M, (∀ x ∈ r, x < p) ∧ r.length ≤ 6) := by
 have hj : Ev (fun k => privityref06_Fair.j0 k p M 6 true) false := Ev.step (f := fun _ => some false) (fun k => by simp only [privityref06_Fair.j0]; rw [if_pos trivial]) (Ev.now _)
 by_cases hok : okp p = true
 case neg =>
  rw [Bool.not_eq_true] at hok
  refine ⟨false, ?_, fun hb => by cases hb⟩
  unfold privityref06_Fair.f
  refine Ev.bind (supported_ev p) ?_
  rw [hok]; exact hj
 by_cases hl : M.length ≤ 6
 case neg =>
  refine ⟨false, ?_, fun hb => by cases hb⟩
  unfold privityref06_Fair.f
  refine Ev.bind (supported_ev p) ?_
  rw [hok]
  simp only [if_true]
  rw [decide_eq_true (show (M.length : Int) > 6 by omega)]; exact hj
 have key : ∀ d i, i + d = M.length → (∀ r ∈ M.take i, (∀ x ∈ r, x < p) ∧ r.length ≤ 6) → ∃ b, Ev (fun k => privityref06_Fair.l0 k p M 6 (i : Int)) b ∧ (b = true → ∀ r ∈ M, (∀ x ∈ r, x < p) ∧ r.length ≤ 6) := by
  intro d
  induction d with
  | zero =>
   intro i hi h
   rw [List.take_of_length_le (by omega)] at h
   refine ⟨true, Ev.step (f := fun _ => some true) (fun k => ?_) (Ev.now _), fun _ => h⟩
   simp only [privityref06_Fair.l0]; rw [if_neg (by omega)]
  | succ d ih =>
   intro i hi h
   have hlt : i < M.length := by omega
   obtain ⟨b, h1, h2⟩ := below6_ev p M[i]
   cases b with
   | false =>
    refine ⟨false, Ev.step (f := fun k => (privityref06_Below.f k p M[i] 6).bind fun t => if t = true then privityref06_Fair.l0 k p M 6 ((i + 1 : Nat) : Int) else some false) (fun k => ?_) (Ev.bind h1 (Ev.now _)), fun hb => by cases hb⟩
    simp only [privityref06_Fair.l0]
    rw [if_pos (by omega), if_pos (by omega), rdL_at hlt, wrapS i (by omega)]
   | true =>
    obtain ⟨b2, h3, h4⟩ := ih (i + 1) (by omega) (fun r hr => by
     rw [List.take_succ_eq_append_getElem hlt, List.mem_append, List.mem_singleton] at hr
     rcases hr with h5 | rfl
     ·exact h r h5
     ·exact h2 rfl)
    refine ⟨b2, Ev.step (f := fun k => (privityref06_Below.f k p M[i] 6).bind fun t => if t = true then privityref06_Fair.l0 k p M 6 ((i + 1 : Nat) : Int) else some false) (fun k => ?_) (Ev.bind h1 ?_), h4⟩
    ·simp only [privityref06_Fair.l0]
     rw [if_pos (by omega), if_pos (by omega), rdL_at hlt, wrapS i (by omega)]
    ·simp only [if_true]; exact h3
 obtain ⟨b, h1, h2⟩ := key M.length 0 (by omega) (by simp)
 refine ⟨b, ?_, fun hb => ⟨hok, hl, h2 hb⟩⟩
 unfold privityref06_Fair.f
 refine Ev.bind (supported_ev p) ?_
 rw [hok]
 simp only [if_true]
 rw [decide_eq_false (show ¬ (M.length : Int) > 6 by omega)]
 refine Ev.step (fun k => ?_) h1
 simp only [privityref06_Fair.j0]
 rw [if_neg (by simp)]; rfl
theorem square_ev (M : List (List Int)) (hl : M.length ≤ 1000) : ∃ b, Ev (fun k => privityref10_Square.f k M) b ∧ (b = true → 0 < M.length ∧ ∀ r ∈ M, r.length = M.length) := by
 have key : ∀ d i, i + d = M.length → (∀ r ∈ M.take i, r.length = M.length) → ∃ b, Ev (fun k => privityref10_Square.l0 k M (i : Int)) b ∧ (b = true → 0 < M.length ∧ ∀ r ∈ M, r.length = M.length) := by
  intro d
  induction d with
  | zero =>
   intro i hi h
   rw [List.take_of_length_le (by omega)] at h
   refine ⟨decide ((M.length : Int) > 0), Ev.step (f := fun _ => some (decide ((M.length : Int) > 0))) (fun k => ?_) (Ev.now _), fun hb => ⟨by have := of_decide_eq_true hb; omega, h⟩⟩
   simp only [privityref10_Square.l0]; rw [if_neg (by omega)]
  | succ d ih =>
   intro i hi h
   have hlt : i < M.length := by omega
   by_cases hr : M[i].length = M.length
   ·obtain ⟨b, h1, h2⟩ := ih (i + 1) (by omega) (fun r hr' => by
     rw [List.take_succ_eq_append_getElem hlt, List.mem_append, List.mem_singleton] at hr'
     rcases hr' with h5 | rfl
     ·exact h r h5
     ·exact hr)
    refine ⟨b, Ev.step (fun k => ?_) h1, h2⟩
    simp only [privityref10_Square.l0]
    rw [if_pos (by omega), if_pos (by omega), rdL_at hlt, if_pos (by omega), wrapS i (by omega)]
   ·refine ⟨false, Ev.step (f := fun _ => some false) (fun k => ?_) (Ev.now _), fun hb => by cases hb⟩
    simp only [privityref10_Square.l0]
    rw [if_pos (by omega), if_pos (by omega), rdL_at hlt, if_neg (by omega)]
 exact key M.length 0 (by omega) (by simp)
theorem fair10_ev (p : Int) (M : List (List Int)) : ∃ b, Ev (fun k => privityref10_Fair.f k p M 6) b ∧ (b = true → okp p = true ∧ M.length ≤ 6 ∧ (∀ r ∈ M, ∀ x ∈ r, x < p) ∧ 0 < M.length ∧ ∀ r ∈ M, r.length = M.length) := by
 obtain ⟨b, h1, h2⟩ := fair6_ev p M
 cases b with
 | false =>
  refine ⟨false, ?_, fun hb => by cases hb⟩
  unfold privityref10_Fair.f
  exact Ev.bind h1 (Ev.now _)
 | true =>
  obtain ⟨g1, g2, g3⟩ := h2 rfl
  obtain ⟨c, h3, h4⟩ := square_ev M (by omega)
  refine ⟨c, ?_, fun hb => ⟨g1, g2, fun r hr => (g3 r hr).1, (h4 hb).1, (h4 hb).2⟩⟩
  unfold privityref10_Fair.f
  refine Ev.bind h1 ?_
  simp only [if_true]
  exact Ev.bind h3 (Ev.now _)
/-- Entry (i, j). -/
def ent (M : List (List Int)) (i j : Nat) : Int := (M.getD i []).getD j 0
theorem rsym_ev (M : List (List Int)) (hl : M.length ≤ 1000) (hs : ∀ r ∈ M, r.length = M.length) (h0 : 0 < M.length) : ∃ b, Ev (fun k => privityref10_IsSymmetric.f k M) b ∧ (b = true → ∀ i j, j < i → i < M.length → ent M i j = ent M j i) := by
 have hsq : Ev (fun k => privityref10_Square.f k M) true := by
  have key : ∀ d i, i + d = M.length → Ev (fun k => privityref10_Square.l0 k M (i : Int)) true := by
   intro d
   induction d with
   | zero =>
    intro i hi
    refine Ev.step (f := fun _ => some true) (fun k => ?_) (Ev.now _)
    simp only [privityref10_Square.l0]; rw [if_neg (by omega), decide_eq_true (by omega)]
   | succ d ih =>
    intro i hi
    have hlt : i < M.length := by omega
    refine Ev.step (fun k => ?_) (ih (i + 1) (by omega))
    simp only [privityref10_Square.l0]
    rw [if_pos (by omega), if_pos (by omega), rdL_at hlt, if_pos (by rw [hs _ (List.getElem_mem hlt)]), wrapS i (by omega)]
  exact key M.length 0 (by omega)
 have inner : ∀ i, i < M.length → (∃ b, Ev (fun k => privityref10_IsSymmetric.l0 k M ((i + 1 : Nat) : Int)) b ∧ (b = true → ∀ i' j, i + 1 ≤ i' → j < i' → i' < M.length → ent M i' j = ent M j i')) →
   ∀ d j, j + d = i → ∃ b, Ev (fun k => privityref10_IsSymmetric.l1 k M (i : Int) (j : Int)) b ∧ (b = true → (∀ j', j ≤ j' → j' < i → ent M i j' = ent M j' i) ∧ ∀ i' j, i + 1 ≤ i' → j < i' → i' < M.length → ent M i' j = ent M j i') := by
  intro i hi hnext d
  induction d with
  | zero =>
   intro j hj
   obtain ⟨b, h1, h2⟩ := hnext
   refine ⟨b, Ev.step (fun k => ?_) h1, fun hb => ⟨fun j' h3 h4 => by omega, h2 hb⟩⟩
   simp only [privityref10_IsSymmetric.l1]
   rw [if_neg (by omega), wrapS i (by omega)]
  | succ d ih =>
   intro j hj
   have hjl : j < M.length := by omega
   have hri := hs _ (List.getElem_mem hi)
   have hrj := hs _ (List.getElem_mem hjl)
   have e1 : ent M i j = M[i][j]'(by omega) := by simp [ent, hi, show j < M[i].length by omega]
   have e2 : ent M j i = M[j][i]'(by omega) := by simp [ent, hjl, show i < M[j].length by omega]
   by_cases he : ent M i j = ent M j i
   ·obtain ⟨b, h1, h2⟩ := ih (j + 1) (by omega)
    refine ⟨b, Ev.step (fun k => ?_) h1, fun hb => ⟨fun j' h3 h4 => ?_, (h2 hb).2⟩⟩
    ·simp only [privityref10_IsSymmetric.l1]
     rw [if_pos (by omega), if_pos (by omega), if_pos (by omega), if_pos (by omega), rdL_at hi, rdL_at hjl, if_pos (by omega), if_pos (by omega), if_pos (by omega), rd_at (by omega), rd_at (by omega), if_pos (by rw [← e1, ← e2]; exact he), wrapS j (by omega)]
    ·by_cases h5 : j' = j
     ·rw [h5]; exact he
     ·exact (h2 hb).1 j' (by omega) h4
   ·refine ⟨false, Ev.step (f := fun _ => some false) (fun k => ?_) (Ev.now _), fun hb => by cases hb⟩
    simp only [privityref10_IsSymmetric.l1]
    rw [if_pos (by omega), if_pos (by omega), if_pos (by omega), if_pos (by omega), rdL_at hi, rdL_at hjl, if_pos (by omega), if_pos (by omega), if_pos (by omega), rd_at (by omega), rd_at (by omega), if_neg (by rw [← e1, ← e2]; exact he)]
 have outer : ∀ d i, i + d = M.length → ∃ b, Ev (fun k => privityref10_IsSymmetric.l0 k M (i : Int)) b ∧ (b = true → ∀ i' j, i ≤ i' → j < i' → i' < M.length → ent M i' j = ent M j i') := by
  intro d
  induction d with
  | zero =>
   intro i hi
   refine ⟨true, Ev.step (f := fun _ => some true) (fun k => ?_) (Ev.now _), fun _ i' j h1 h2 h3 => by omega⟩
   simp only [privityref10_IsSymmetric.l0]; rw [if_neg (by omega)]
  | succ d ih =>
   intro i hi
   obtain ⟨b, h1, h2⟩ := inner i (by omega) (ih (i + 1) (by omega)) i 0 (by omega)
   refine ⟨b, Ev.step (fun k => ?_) h1, fun hb i' j h3 h4 h5 => ?_⟩
   ·simp only [privityref10_IsSymmetric.l0]; rw [if_pos (by omega)]; rfl
   ·by_cases h6 : i' = i
    ·subst h6; exact (h2 hb).1 j (by omega) h4
    ·exact (h2 hb).2 i' j (by omega) h4 h5
 obtain ⟨b, h1, h2⟩ := outer M.length 0 (by omega)
 refine ⟨b, ?_, fun hb i j h3 h4 => h2 hb i j (by omega) h3 h4⟩
 unfold privityref10_IsSymmetric.f
 refine Ev.bind hsq ?_
 simp only [if_true]
 exact h1
end Go.Proofs.Ytgjcmcokkbdflaa.Pure
end
section
/-
A part of this claim's proof (Pure10b): lemmas that the text of the law stands on.
-/
set_option linter.unusedVariables false
set_option linter.unusedSimpArgs false
namespace Go.Proofs.Ytgjcmcokkbdflaa.Pure
open Go.RowKit Go.Proofs.Ytgjcmcokkbdflaa Go.Proofs.Ytgjcmcokkbdflaa.F Go.Proofs.YtgjcmcokkbdflaaW.PrintWords Go.Proofs.YtgjcmcokkbdflaaW.PrintLast
variable {m : Nat}
/-! ### equality -/
theorem sl_ev (a b : List Int) (hl : a.length ≤ 1000000) : Ev (fun k => privityref06_SameList.f k a b) (decide (a = b)) := by
 unfold privityref06_SameList.f
 by_cases he : a.length = b.length
 case neg =>
  rw [decide_eq_false (fun h => he (by rw [h]))]
  refine Ev.congr (f := fun _ => some false) (fun k => ?_) (Ev.now _)
  rw [if_neg (by omega)]
 have key : ∀ d i, i + d = a.length → Ev (fun k => privityref06_SameList.l0 k a b (i : Int)) (decide (a.drop i = b.drop i)) := by
  intro d
  induction d with
  | zero =>
   intro i hi
   rw [List.drop_of_length_le (by omega), List.drop_of_length_le (by omega)]
   exact Ev.step (f := fun _ => some true) (fun k => by simp only [privityref06_SameList.l0]; rw [if_neg (by omega)]) (Ev.now _)
  | succ d ih =>
   intro i hi
   have h1 : i < a.length := by omega
   have h2 : i < b.length := by omega
   rw [List.drop_eq_getElem_cons h1, List.drop_eq_getElem_cons h2]
   by_cases h : a[i] = b[i]
   ·have e : (a[i] :: a.drop (i + 1) = b[i] :: b.drop (i + 1)) ↔ (a.drop (i + 1) = b.drop (i + 1)) := ⟨fun e => (List.cons.inj e).2, fun e => by rw [h, e]⟩
    rw [decide_eq_decide.2 e]
    refine Ev.step (fun k => ?_) (ih (i + 1) (by omega))
    simp only [privityref06_SameList.l0]
    rw [if_pos (by omega), if_pos (by omega), if_pos (by omega), rd_at h1, rd_at h2, if_pos h, wrapS i (by omega)]
   ·rw [decide_eq_false (fun e => h (List.cons.inj e).1)]
    refine Ev.step (f := fun _ => some false) (fun k => ?_) (Ev.now _)
    simp only [privityref06_SameList.l0]
    rw [if_pos (by omega), if_pos (by omega), if_pos (by omega), rd_at h1, rd_at h2, if_neg h]
 refine Ev.congr (fun k => ?_) (key a.length 0 (by omega))
 rw [if_pos (by omega)]; rfl
theorem sls_ev (a b : List (List Int)) (hl : a.length ≤ 1000000) (hr : ∀ r ∈ a, r.length ≤ 1000000) : Ev (fun k => privityref06_Same.f k a b) (decide (a = b)) := by
 unfold privityref06_Same.f
 by_cases he : a.length = b.length
 case neg =>
  rw [decide_eq_false (fun h => he (by rw [h]))]
  refine Ev.congr (f := fun _ => some false) (fun k => ?_) (Ev.now _)
  rw [if_neg (by omega)]
 have key : ∀ d i, i + d = a.length → Ev (fun k => privityref06_Same.l0 k a b (i : Int)) (decide (a.drop i = b.drop i)) := by
  intro d
  induction d with
  | zero =>
   intro i hi
   rw [List.drop_of_length_le (by omega), List.drop_of_length_le (by omega)]
   exact Ev.step (f := fun _ => some true) (fun k => by simp only [privityref06_Same.l0]; rw [if_neg (by omega)]) (Ev.now _)
  | succ d ih =>
   intro i hi
   have h1 : i < a.length := by omega
   have h2 : i < b.length := by omega
   have hs := sl_ev a[i] b[i] (hr _ (List.getElem_mem h1))
   have hstep : ∀ k, privityref06_Same.l0 (k + 1) a b (i : Int) = (privityref06_SameList.f k a[i] b[i]).bind fun t => if t = true then privityref06_Same.l0 k a b ((i + 1 : Nat) : Int) else some false := fun k => by
    simp only [privityref06_Same.l0]
    rw [if_pos (by omega), if_pos (by omega), if_pos (by omega), rdL_at h1, rdL_at h2, wrapS i (by omega)]
   rw [List.drop_eq_getElem_cons h1, List.drop_eq_getElem_cons h2]
   by_cases h : a[i] = b[i]
   ·have e : (a[i] :: a.drop (i + 1) = b[i] :: b.drop (i + 1)) ↔ (a.drop (i + 1) = b.drop (i + 1)) := ⟨fun e => (List.cons.inj e).2, fun e => by rw [h, e]⟩
    rw [decide_eq_decide.2 e]
    rw [decide_eq_true h] at hs
    refine Ev.step hstep (Ev.bind hs ?_)
    simp only [if_true]
    exact ih (i + 1) (by omega)
   ·rw [decide_eq_false (fun e => h (List.cons.inj e).1)]
    rw [decide_eq_false h] at hs
    exact Ev.step hstep (Ev.bind hs (Ev.now _))
 refine Ev.congr (fun k => ?_) (key a.length 0 (by omega))
 rw [if_pos (by omega)]; rfl
/-! ### matrices -/
theorem oFF_inj {a b : List (List (Fin (m + 1)))} (h : a.map oF = b.map oF) : a = b := (List.map_inj_right (fun _ _ h => oF_inj h)).1 h
theorem all_oFF {M : List (List Int)} (h : ∀ r ∈ M, ∀ x ∈ r, 0 ≤ x ∧ x < ((m + 1 : Nat) : Int)) : ∃ Q : List (List (Fin (m + 1))), M = Q.map oF := by
 induction M with
 | nil => exact ⟨[], rfl⟩
 | cons a l ih =>
  obtain ⟨ys, rfl⟩ := all_oF (m := m) (l := a) (by
   rw [List.all_eq_true]
   intro x hx
   have := h a (List.mem_cons_self ..) x hx
   simp only [inr, Bool.and_eq_true, decide_eq_true_eq]; omega)
  obtain ⟨Q, rfl⟩ := ih fun r hr => h r (List.mem_cons_of_mem _ hr)
  exact ⟨ys :: Q, rfl⟩
def fe (M : List (List (Fin (m + 1)))) (i j : Nat) : Fin (m + 1) := co (M.getD i []) j
theorem ent_oFF (M : List (List (Fin (m + 1)))) (i j : Nat) : ent (M.map oF) i j = (((fe M i j).val : Nat) : Int) := by
 unfold ent fe co
 have h1 : (M.map oF).getD i [] = oF (M.getD i []) := by
  rw [List.getD_eq_getElem?_getD, List.getD_eq_getElem?_getD, List.getElem?_map]
  cases M[i]? <;> rfl
 rw [h1]
 generalize M.getD i [] = r
 rw [List.getD_eq_getElem?_getD, List.getD_eq_getElem?_getD]
 unfold oF
 rw [List.getElem?_map]
 cases r[j]? <;> rfl
theorem fe_at {M : List (List (Fin (m + 1)))} {i j : Nat} (hi : i < M.length) (hj : j < M[i].length) : fe M i j = M[i][j] := by
 unfold fe
 rw [show M.getD i [] = M[i] by simp [hi], co_getElem hj]
theorem rdL_map {M : List (List (Fin (m + 1)))} {i : Nat} (h : i < M.length) : rd_L1 (M.map oF) (i : Int) = oF M[i] := by simp [rd_L1, h]
theorem set_range {α : Type} (n j : Nat) (g h : Nat → α) (hg : ∀ q, q ≠ j → g q = h q) : ((List.range n).map g).set j (h j) = (List.range n).map h := by
 refine List.ext_getElem (by simp) fun i h1 h2 => ?_
 rw [List.getElem_set]
 simp only [List.getElem_map, List.getElem_range]
 split
 next e => rw [e]
 next e => exact hg i fun h => e h.symm
theorem ev_snoc (f : List (Fin (m + 1))) (c x : Fin (m + 1)) : ev (f ++ [c]) x = ev f x + c * fpow x f.length := by
 induction f with
 | nil => simp only [List.nil_append, ev_cons, ev_nil, List.length_nil, fpow_zero]; grind
 | cons a l ih => simp only [List.cons_append, ev_cons, ih, List.length_cons, fpow_succ]; grind
/-! ### the row at a point, as the program adds it up -/
def rowAt (M : List (List (Fin (m + 1)))) (x : Fin (m + 1)) : List (Fin (m + 1)) := (List.range M.length).map fun j => ev (M.map fun r => co r j) x
theorem browAt_ev (hs : Sup (m + 1)) (M : List (List (Fin (m + 1)))) (x : Fin (m + 1)) (hl : M.length ≤ 1000) (hr : ∀ r ∈ M, r.length = M.length) :
  Ev (fun k => bivariate_Row.f k ((m + 1 : Nat) : Int) (M.map oF) ((x.val : Nat) : Int)) (oF (rowAt M x)) := by
 have hml : (M.map oF).length = M.length := by simp
 have inner : ∀ i (hi : i < M.length) r, Ev (fun k => bivariate_Row.l0 k ((m + 1 : Nat) : Int) ((x.val : Nat) : Int) (oF ((List.range M.length).map fun j => ev ((M.take (i + 1)).map fun r => co r j) x)) (((fpow x (i + 1)).val : Nat) : Int) (M.map oF) (M.length : Int) ((i + 1 : Nat) : Int)) r →
   ∀ d j, j + d = M.length → Ev (fun k => bivariate_Row.l1 k ((m + 1 : Nat) : Int) ((x.val : Nat) : Int) (oF ((List.range M.length).map fun q => if q < j then ev ((M.take (i + 1)).map fun r => co r q) x else ev ((M.take i).map fun r => co r q) x)) (((fpow x i).val : Nat) : Int) (M.map oF) (M.length : Int) (i : Int) (oF M[i]) (M.length : Int) (j : Int)) r := by
  intro i hi r hr0 d
  have hrl := hr M[i] (List.getElem_mem hi)
  induction d with
  | zero =>
   intro j hj
   refine Ev.step (fun k => ?_) hr0
   simp only [bivariate_Row.l1]
   unfold field_Mul.f
   rw [if_neg (by omega), fMul_eq hs]; simp only [Option.bind_some]
   rw [wrapS i (by omega), fpow_succ, show fpow x i * x = x * fpow x i by grind]
   congr 2
   refine List.map_congr_left fun q hq => ?_
   rw [if_pos (by have := List.mem_range.1 hq; omega)]
  | succ d ih =>
   intro j hj
   have hjl : j < M.length := by omega
   have hjr : j < M[i].length := by omega
   refine Ev.step (fun k => ?_) (ih (j + 1) (by omega))
   have hev : ev ((M.take (i + 1)).map fun r => co r j) x = ev ((M.take i).map fun r => co r j) x + M[i][j] * fpow x i := by
    rw [List.take_succ_eq_append_getElem hi, List.map_append, List.map_cons, List.map_nil, ev_snoc, co_getElem hjr, List.length_map, List.length_take, Nat.min_eq_left (by omega)]
   have hset := set_range M.length j (fun q => if q < j then ev ((M.take (i + 1)).map fun r => co r q) x else ev ((M.take i).map fun r => co r q) x) (fun q => if q < j + 1 then ev ((M.take (i + 1)).map fun r => co r q) x else ev ((M.take i).map fun r => co r q) x) (fun q hq => by
    by_cases h1 : q < j
    ·rw [if_pos h1, if_pos (by omega)]
    ·rw [if_neg h1, if_neg (by omega)])
   simp only [if_pos (Nat.lt_succ_self j)] at hset
   rw [hev] at hset
   simp only [bivariate_Row.l1]
   unfold field_Mul.f field_Add.f
   rw [if_pos (by omega), if_pos (by omega), if_pos (by rw [len_oF]; omega), if_pos (by rw [len_oF]; simp; omega), rd_oF hjr, fMul_eq hs]; simp only [Option.bind_some]
   rw [rd_oF (by simp; omega)]
   simp only [List.getElem_map, List.getElem_range, if_neg (Nat.lt_irrefl j)]
   rw [fAdd_eq hs]; simp only [Option.bind_some]
   rw [Int.toNat_natCast, oF_set, hset, wrapS j (by omega)]
 have outer : ∀ d i, i + d = M.length → Ev (fun k => bivariate_Row.l0 k ((m + 1 : Nat) : Int) ((x.val : Nat) : Int) (oF ((List.range M.length).map fun j => ev ((M.take i).map fun r => co r j) x)) (((fpow x i).val : Nat) : Int) (M.map oF) (M.length : Int) (i : Int)) (oF (rowAt M x)) := by
  intro d
  induction d with
  | zero =>
   intro i hi
   refine Ev.step (f := fun _ => some (oF (rowAt M x))) (fun k => ?_) (Ev.now _)
   simp only [bivariate_Row.l0]
   rw [if_neg (by omega), List.take_of_length_le (by omega)]; rfl
  | succ d ih =>
   intro i hi
   have hlt : i < M.length := by omega
   have hrl := hr M[i] (List.getElem_mem hlt)
   refine Ev.step (fun k => ?_) (inner i hlt _ (ih (i + 1) (by omega)) M.length 0 (by omega))
   simp only [bivariate_Row.l0]
   rw [if_pos (by omega), if_pos (by omega), if_pos (by omega), rdL_map hlt, len_oF, hrl]
   simp only [Nat.not_lt_zero, if_false]; rfl
 have h := outer M.length 0 (by omega)
 refine Ev.congr (fun k => ?_) h
 unfold bivariate_Row.f
 rw [hml, if_pos (by omega), if_pos (by omega), Int.toNat_natCast, oF_replicate (m := m)]
 have e1 : (List.range M.length).map (fun j => ev ((M.take 0).map fun r => co r j) x) = List.replicate M.length (0 : Fin (m + 1)) := by
  refine List.ext_getElem (by simp) fun i h1 h2 => ?_
  simp [ev_nil]
 rw [e1, fpow_zero, hs.one_val]; rfl
theorem peval_ev (hs : Sup (m + 1)) (f : List (Fin (m + 1))) (x : Fin (m + 1)) (hl : f.length ≤ 1000000000) : Ev (fun k => poly_Eval.f k ((m + 1 : Nat) : Int) (oF f) ((x.val : Nat) : Int)) (((ev f x).val : Nat) : Int) := by
 have key : ∀ i, i ≤ f.length → ∀ e : Int, e = (i : Int) - 1 → Ev (fun k => poly_Eval.l0 k ((m + 1 : Nat) : Int) (oF f) ((x.val : Nat) : Int) (((ev (f.drop i) x).val : Nat) : Int) e) (((ev f x).val : Nat) : Int) := by
  intro i
  induction i with
  | zero =>
   intro _ e he
   refine Ev.step (f := fun _ => some (((ev f x).val : Nat) : Int)) (fun k => ?_) (Ev.now _)
   simp only [poly_Eval.l0]
   rw [if_neg (by omega), List.drop_zero]
  | succ i ih =>
   intro hi e he
   have hlt : i < f.length := by omega
   have h := ih (by omega) ((i : Int) - 1) rfl
   rw [List.drop_eq_getElem_cons hlt, ev_cons] at h
   rw [show e = (i : Int) by omega]
   refine Ev.step (fun k => ?_) h
   simp only [poly_Eval.l0]
   unfold field_Mul.f field_Add.f
   rw [if_pos (by omega), fMul_eq hs]; simp only [Option.bind_some]
   rw [if_pos (by omega), if_pos (by rw [len_oF]; omega), rd_oF hlt, fAdd_eq hs]; simp only [Option.bind_some]
   rw [show ev (f.drop (i + 1)) x * x + f[i] = f[i] + x * ev (f.drop (i + 1)) x by grind, show wrap64 ((i : Int) - 1) = (i : Int) - 1 by unfold wrap64; omega]
 have h := key f.length (Nat.le_refl _) ((f.length : Int) - 1) rfl
 rw [List.drop_length] at h
 refine Ev.congr (fun k => ?_) h
 unfold poly_Eval.f
 rw [len_oF, show wrap64 ((f.length : Int) - 1) = (f.length : Int) - 1 by unfold wrap64; omega, ev_nil, zero_val]; rfl
theorem beval_ev (hs : Sup (m + 1)) (M : List (List (Fin (m + 1)))) (x y : Fin (m + 1)) (hl : M.length ≤ 1000) (hr : ∀ r ∈ M, r.length = M.length) :
  Ev (fun k => bivariate_Eval.f k ((m + 1 : Nat) : Int) (M.map oF) ((x.val : Nat) : Int) ((y.val : Nat) : Int)) (((ev (rowAt M x) y).val : Nat) : Int) := by
 unfold bivariate_Eval.f
 exact Ev.bind (browAt_ev hs M x hl hr) (Ev.bind (peval_ev hs _ y (by simp [rowAt]; omega)) (Ev.now _))
/-! ### symmetry -/
theorem psym_ev (M : List (List Int)) (hl : M.length ≤ 1000) (hr : ∀ r ∈ M, r.length = M.length) (h0 : 0 < M.length) (hs : ∀ i j, j < i → i < M.length → ent M i j = ent M j i) : Ev (fun k => bivariate_IsSymmetric.f k M) true := by
 have inner : ∀ i, i < M.length → Ev (fun k => bivariate_IsSymmetric.l1 k M M (M.length : Int) ((i + 1 : Nat) : Int)) true →
   ∀ d j, j + d = i → Ev (fun k => bivariate_IsSymmetric.l2 k M (i : Int) (rd_L1 M (i : Int)) M (M.length : Int) (i : Int) (i : Int) (j : Int)) true := by
  intro i hi hn d
  induction d with
  | zero =>
   intro j hj
   refine Ev.step (fun k => ?_) hn
   simp only [bivariate_IsSymmetric.l2]
   rw [if_neg (by omega), wrapS i (by omega)]
  | succ d ih =>
   intro j hj
   have hjl : j < M.length := by omega
   have hri := hr _ (List.getElem_mem hi)
   have hrj := hr _ (List.getElem_mem hjl)
   have e1 : ent M i j = M[i][j]'(by omega) := by simp [ent, hi, show j < M[i].length by omega]
   have e2 : ent M j i = M[j][i]'(by omega) := by simp [ent, hjl, show i < M[j].length by omega]
   refine Ev.step (fun k => ?_) (ih (j + 1) (by omega))
   simp only [bivariate_IsSymmetric.l2]
   rw [rdL_at hi, rdL_at hjl, if_pos (by omega), if_pos (by omega), if_pos (by omega), if_pos (by omega), if_pos (by omega), if_pos (by omega), rd_at (by omega), rd_at (by omega), if_pos (by rw [← e1, ← e2]; exact hs i j (by omega) hi), wrapS j (by omega)]
 have outer : ∀ d i, i + d = M.length → Ev (fun k => bivariate_IsSymmetric.l1 k M M (M.length : Int) (i : Int)) true := by
  intro d
  induction d with
  | zero =>
   intro i hi
   refine Ev.step (f := fun _ => some true) (fun k => ?_) (Ev.now _)
   simp only [bivariate_IsSymmetric.l1]
   rw [if_neg (by omega), decide_eq_true (by omega)]
  | succ d ih =>
   intro i hi
   refine Ev.step (fun k => ?_) (inner i (by omega) (ih (i + 1) (by omega)) i 0 (by omega))
   simp only [bivariate_IsSymmetric.l1]
   rw [if_pos (by omega), if_pos (by omega), if_pos (by omega)]; rfl
 have first : ∀ d i, i + d = M.length → Ev (fun k => bivariate_IsSymmetric.l0 k M M (M.length : Int) (i : Int)) true := by
  intro d
  induction d with
  | zero =>
   intro i hi
   refine Ev.step (fun k => ?_) (outer M.length 0 (by omega))
   simp only [bivariate_IsSymmetric.l0]
   rw [if_neg (by omega)]; rfl
  | succ d ih =>
   intro i hi
   have hlt : i < M.length := by omega
   refine Ev.step (fun k => ?_) (ih (i + 1) (by omega))
   simp only [bivariate_IsSymmetric.l0]
   rw [if_pos (by omega), if_pos (by omega), if_pos (by omega), rdL_at hlt, if_pos (by rw [hr _ (List.getElem_mem hlt)]), wrapS i (by omega)]
 exact first M.length 0 (by omega)
end Go.Proofs.Ytgjcmcokkbdflaa.Pure
end
section
/-
A part of this claim's proof (Pure10c): lemmas that the text of the law stands on.
-/
set_option linter.unusedVariables false
set_option linter.unusedSimpArgs false
namespace Go.Proofs.Ytgjcmcokkbdflaa.Pure
open Go.RowKit Go.Proofs.Ytgjcmcokkbdflaa Go.Proofs.Ytgjcmcokkbdflaa.F Go.Proofs.YtgjcmcokkbdflaaW.PrintWords Go.Proofs.YtgjcmcokkbdflaaW.PrintLast
variable {m : Nat}
/-! ### a translated matrix -/
def trE (M : List (List (Fin (m + 1)))) (d : Fin (m + 1)) (z : List (Fin (m + 1))) (i j : Nat) : Fin (m + 1) := fe M i j + d * (co z i * co z j)
def tr (M : List (List (Fin (m + 1)))) (d : Fin (m + 1)) (z : List (Fin (m + 1))) : List (List (Fin (m + 1))) := (List.range M.length).map fun i => (List.range M.length).map fun j => trE M d z i j
theorem tr_len (M : List (List (Fin (m + 1)))) (d : Fin (m + 1)) (z : List (Fin (m + 1))) : (tr M d z).length = M.length := by simp [tr]
theorem tr_rows (M : List (List (Fin (m + 1)))) (d : Fin (m + 1)) (z : List (Fin (m + 1))) : ∀ r ∈ tr M d z, r.length = (tr M d z).length := by
 intro r hr
 obtain ⟨i, _, rfl⟩ := List.mem_map.1 hr
 simp [tr_len]
theorem fe_tr {M : List (List (Fin (m + 1)))} {d : Fin (m + 1)} {z : List (Fin (m + 1))} {i j : Nat} (hi : i < M.length) (hj : j < M.length) : fe (tr M d z) i j = trE M d z i j := by
 rw [fe_at (by rw [tr_len]; exact hi) (by simp [tr]; exact hj)]
 simp [tr]
theorem mat_ext {M N : List (List (Fin (m + 1)))} (hl : M.length = N.length) (hM : ∀ r ∈ M, r.length = M.length) (hN : ∀ r ∈ N, r.length = N.length) (h : ∀ i j, i < M.length → j < M.length → fe M i j = fe N i j) : M = N := by
 refine List.ext_getElem hl fun i h1 h2 => ?_
 have a1 := hM _ (List.getElem_mem h1)
 have a2 := hN _ (List.getElem_mem h2)
 refine List.ext_getElem (by omega) fun j h3 h4 => ?_
 rw [← fe_at h1 h3, ← fe_at h2 h4]
 exact h i j h1 (by omega)
theorem btr_ev (hs : Sup (m + 1)) (M : List (List (Fin (m + 1)))) (d : Fin (m + 1)) (z : List (Fin (m + 1))) (hl : M.length ≤ 1000) (hr : ∀ r ∈ M, r.length = M.length) (hz : z.length = M.length) :
  Ev (fun k => bivariate_Translate.f k ((m + 1 : Nat) : Int) (M.map oF) ((d.val : Nat) : Int) (oF z)) ((tr M d z).map oF) := by
 have hml : (M.map oF).length = M.length := by simp
 have inner : ∀ i (hi : i < M.length) X r, X.length ≤ 1000 → Ev (fun k => bivariate_Translate.l0 k ((m + 1 : Nat) : Int) ((d.val : Nat) : Int) (oF z) (X ++ [oF ((List.range M.length).map fun j => trE M d z i j)]) (M.map oF) (M.length : Int) ((i + 1 : Nat) : Int)) r →
   ∀ e j, j + e = M.length → Ev (fun k => bivariate_Translate.l1 k ((m + 1 : Nat) : Int) ((d.val : Nat) : Int) (oF z) X (i : Int) (oF ((List.range j).map fun j => trE M d z i j)) (M.map oF) (M.length : Int) (i : Int) (oF M[i]) (M.length : Int) (j : Int)) r := by
  intro i hi X r hX hr0 e
  have hrl := hr M[i] (List.getElem_mem hi)
  induction e with
  | zero =>
   intro j hj
   have hjm : j = M.length := by omega
   subst hjm
   refine Ev.step (fun k => ?_) hr0
   simp only [bivariate_Translate.l1]
   rw [if_neg (by omega), if_pos (by omega), wrapS i (by omega)]
  | succ e ih =>
   intro j hj
   have hjl : j < M.length := by omega
   have hjr : j < M[i].length := by omega
   have h := ih (j + 1) (by omega)
   rw [List.range_succ, List.map_append, oF_append] at h
   refine Ev.step (fun k => ?_) h
   simp only [bivariate_Translate.l1]
   unfold field_Mul.f field_Add.f
   rw [if_pos (by omega), if_pos (by omega), if_pos (by rw [len_oF]; omega), if_pos (by omega), if_pos (by rw [len_oF]; omega), if_pos (by rw [len_oF]; omega), rd_oF (show i < z.length by omega), rd_oF (show j < z.length by omega), fMul_eq hs]; simp only [Option.bind_some]
   rw [fMul_eq hs]; simp only [Option.bind_some]
   rw [rd_oF hjr, fAdd_eq hs]; simp only [Option.bind_some]
   rw [if_pos (by rw [len_oF]; simp; omega), wrapS j (by omega), ← fe_at hi hjr, ← co_getElem (show i < z.length by omega), ← co_getElem (show j < z.length by omega)]; rfl
 have outer : ∀ e i, i + e = M.length → Ev (fun k => bivariate_Translate.l0 k ((m + 1 : Nat) : Int) ((d.val : Nat) : Int) (oF z) (((List.range i).map fun i => (List.range M.length).map fun j => trE M d z i j).map oF) (M.map oF) (M.length : Int) (i : Int)) ((tr M d z).map oF) := by
  intro e
  induction e with
  | zero =>
   intro i hi
   refine Ev.step (f := fun _ => some ((tr M d z).map oF)) (fun k => ?_) (Ev.now _)
   simp only [bivariate_Translate.l0]
   rw [if_neg (by omega), show i = M.length by omega]; rfl
  | succ e ih =>
   intro i hi
   have hlt : i < M.length := by omega
   have hrl := hr M[i] (List.getElem_mem hlt)
   have h := ih (i + 1) (by omega)
   rw [List.range_succ, List.map_append, List.map_append] at h
   refine Ev.step (fun k => ?_) (inner i hlt _ _ (by simp; omega) h M.length 0 (by omega))
   simp only [bivariate_Translate.l0]
   rw [if_pos (by omega), if_pos (by omega), if_pos (by omega), rdL_map hlt, len_oF, hrl]; rfl
 have h := outer M.length 0 (by omega)
 refine Ev.congr (fun k => ?_) h
 unfold bivariate_Translate.f
 rw [hml]; rfl
theorem rtr_ev (hs : Sup (m + 1)) (M : List (List (Fin (m + 1)))) (d : Fin (m + 1)) (z : List (Fin (m + 1))) (hl : M.length ≤ 1000) (hr : ∀ r ∈ M, r.length = M.length) (hz : z.length = M.length) :
  Ev (fun k => privityref10_Translate.f k ((m + 1 : Nat) : Int) (M.map oF) ((d.val : Nat) : Int) (oF z)) ((tr M d z).map oF) := by
 have hml : (M.map oF).length = M.length := by simp
 have inner : ∀ i (hi : i < M.length) X r, X.length ≤ 1000 → Ev (fun k => privityref10_Translate.l0 k ((m + 1 : Nat) : Int) (M.map oF) ((d.val : Nat) : Int) (oF z) (X ++ [oF ((List.range M.length).map fun j => trE M d z i j)]) ((i + 1 : Nat) : Int)) r →
   ∀ e j, j + e = M.length → Ev (fun k => privityref10_Translate.l1 k ((m + 1 : Nat) : Int) (M.map oF) ((d.val : Nat) : Int) (oF z) X (i : Int) (oF ((List.range j).map fun j => trE M d z i j)) (j : Int)) r := by
  intro i hi X r hX hr0 e
  have hrl := hr M[i] (List.getElem_mem hi)
  induction e with
  | zero =>
   intro j hj
   have hjm : j = M.length := by omega
   subst hjm
   refine Ev.step (fun k => ?_) hr0
   simp only [privityref10_Translate.l1]
   rw [if_neg (by omega), if_pos (by omega), wrapS i (by omega)]
  | succ e ih =>
   intro j hj
   have hjl : j < M.length := by omega
   have hjr : j < M[i].length := by omega
   have h := ih (j + 1) (by omega)
   rw [List.range_succ, List.map_append, oF_append] at h
   refine Ev.step (fun k => ?_) h
   simp only [privityref10_Translate.l1]
   unfold privityref01_Mul.f privityref01_Add.f
   rw [rdL_map hi, if_pos (by omega), if_pos (by omega), if_pos (by omega), if_pos (by omega), if_pos (by rw [len_oF]; omega), if_pos (by rw [len_oF]; omega), if_pos (by rw [len_oF]; omega), rd_oF (show i < z.length by omega), rd_oF (show j < z.length by omega), fMul_eq hs]; simp only [Option.bind_some]
   rw [fMul_eq hs]; simp only [Option.bind_some]
   rw [rd_oF hjr, fAdd_eq hs]; simp only [Option.bind_some]
   rw [if_pos (by rw [len_oF]; simp; omega), wrapS j (by omega), ← fe_at hi hjr, ← co_getElem (show i < z.length by omega), ← co_getElem (show j < z.length by omega)]; rfl
 have outer : ∀ e i, i + e = M.length → Ev (fun k => privityref10_Translate.l0 k ((m + 1 : Nat) : Int) (M.map oF) ((d.val : Nat) : Int) (oF z) (((List.range i).map fun i => (List.range M.length).map fun j => trE M d z i j).map oF) (i : Int)) ((tr M d z).map oF) := by
  intro e
  induction e with
  | zero =>
   intro i hi
   refine Ev.step (f := fun _ => some ((tr M d z).map oF)) (fun k => ?_) (Ev.now _)
   simp only [privityref10_Translate.l0]
   rw [if_neg (by omega), show i = M.length by omega]; rfl
  | succ e ih =>
   intro i hi
   have hlt : i < M.length := by omega
   have h := ih (i + 1) (by omega)
   rw [List.range_succ, List.map_append, List.map_append] at h
   refine Ev.step (fun k => ?_) (inner i hlt _ _ (by simp; omega) h M.length 0 (by omega))
   simp only [privityref10_Translate.l0]
   rw [if_pos (by omega)]; rfl
 have h := outer M.length 0 (by omega)
 refine Ev.congr (fun k => ?_) h
 unfold privityref10_Translate.f; rfl
/-! ### the polynomial that vanishes at the points -/
def vstep (z : List (Fin (m + 1))) (c : Fin (m + 1)) : List (Fin (m + 1)) := (List.range (z.length + 1)).map fun i => if i = 0 then co z i else co z i + c * co z (i - 1)
theorem vstep_len (z : List (Fin (m + 1))) (c : Fin (m + 1)) : (vstep z c).length = z.length + 1 := by simp [vstep]
theorem vstep_ev (z : List (Fin (m + 1))) (c y : Fin (m + 1)) : ev (vstep z c) y = ev z y * (1 + c * y) := by
 have h : Same (vstep z c) (padd z (0 :: pscale c z)) := by
  intro i
  rw [co_padd]
  by_cases hi : i < z.length + 1
  ·rw [co_getElem (by rw [vstep_len]; exact hi)]
   simp only [vstep, List.getElem_map, List.getElem_range]
   cases i with
   | zero => rw [if_pos rfl, co_cons_zero]; grind
   | succ i => rw [if_neg (by omega), co_cons_succ, co_pscale]; rfl
  ·rw [co_of_length_le (by rw [vstep_len]; omega), co_of_length_le (show z.length ≤ i by omega)]
   cases i with
   | zero => omega
   | succ i => rw [co_cons_succ, co_pscale, co_of_length_le (show z.length ≤ i by omega)]; grind
 rw [h.ev, ev_padd, ev_cons, ev_pscale]
 grind
theorem vstep_zero (z : List (Fin (m + 1))) (c : Fin (m + 1)) : co (vstep z c) 0 = co z 0 := by
 rw [co_getElem (by rw [vstep_len]; omega)]
 simp [vstep]
def vanL (xs : List (Fin (m + 1))) : List (Fin (m + 1)) := xs.foldl (fun z x => vstep z (0 - finv x)) [1]
theorem van_facts (hs : Sup (m + 1)) (xs : List (Fin (m + 1))) (h0 : ∀ x ∈ xs, x ≠ 0) : (vanL xs).length = xs.length + 1 ∧ co (vanL xs) 0 = 1 ∧ ∀ x ∈ xs, ev (vanL xs) x = 0 := by
 have key : ∀ (xs : List (Fin (m + 1))) (z : List (Fin (m + 1))), (∀ x ∈ xs, x ≠ 0) → (xs.foldl (fun z x => vstep z (0 - finv x)) z).length = z.length + xs.length ∧ co (xs.foldl (fun z x => vstep z (0 - finv x)) z) 0 = co z 0 ∧ (∀ y, ev z y = 0 → ev (xs.foldl (fun z x => vstep z (0 - finv x)) z) y = 0) ∧ ∀ x ∈ xs, ev (xs.foldl (fun z x => vstep z (0 - finv x)) z) x = 0 := by
  intro xs
  induction xs with
  | nil => intro z _; exact ⟨by simp, rfl, fun y h => h, fun x hx => by cases hx⟩
  | cons a l ih =>
   intro z hz
   obtain ⟨h1, h2, h3, h4⟩ := ih (vstep z (0 - finv a)) fun x hx => hz x (List.mem_cons_of_mem _ hx)
   rw [List.foldl_cons]
   refine ⟨by rw [h1, vstep_len, List.length_cons]; omega, by rw [h2, vstep_zero], fun y hy => h3 y (by rw [vstep_ev, hy]; grind), fun x hx => ?_⟩
   rcases List.mem_cons.1 hx with rfl | hx
   ·refine h3 _ ?_
    rw [vstep_ev]
    have := hs.inv (hz x (List.mem_cons_self ..))
    grind
   ·exact h4 x hx
 obtain ⟨h1, h2, _, h4⟩ := key xs [1] h0
 exact ⟨by rw [vanL, h1]; simp; omega, by rw [vanL, h2, co_cons_zero], h4⟩
theorem rvan_ev (hs : Sup (m + 1)) (xs : List (Fin (m + 1))) (hl : xs.length ≤ 1000) : Ev (fun k => privityref10_Vanish.f k ((m + 1 : Nat) : Int) (oF xs)) (oF (vanL xs)) := by
 have inner : ∀ i (c : Fin (m + 1)) (z : List (Fin (m + 1))) r, i ≤ 1000 → z.length ≤ 5000 → Ev (fun k => privityref10_Vanish.l0 k ((m + 1 : Nat) : Int) (oF xs) (oF (vstep z c)) ((i + 1 : Nat) : Int)) r →
   ∀ e j, j + e = z.length → Ev (fun k => privityref10_Vanish.l1 k ((m + 1 : Nat) : Int) (oF xs) (oF z) (i : Int) ((c.val : Nat) : Int) (oF ((List.range (z.length + 1)).map fun q => if 0 < q ∧ q ≤ j then co z q + c * co z (q - 1) else co z q)) (j : Int)) r := by
  intro i c z r hi hz hr0 e
  induction e with
  | zero =>
   intro j hj
   refine Ev.step (fun k => ?_) hr0
   simp only [privityref10_Vanish.l1]
   rw [if_neg (by rw [len_oF]; omega), wrapS i (by omega)]
   congr 2
   refine List.map_congr_left fun q hq => ?_
   have := List.mem_range.1 hq
   by_cases h0 : q = 0
   ·rw [if_neg (by omega), if_pos h0]
   ·rw [if_pos (by omega), if_neg h0]
  | succ e ih =>
   intro j hj
   have hset := set_range (z.length + 1) (j + 1) (fun q => if 0 < q ∧ q ≤ j then co z q + c * co z (q - 1) else co z q) (fun q => if 0 < q ∧ q ≤ j + 1 then co z q + c * co z (q - 1) else co z q) (fun q hq => by
    by_cases h1 : 0 < q ∧ q ≤ j
    ·rw [if_pos h1, if_pos (by omega)]
    ·rw [if_neg h1, if_neg (by omega)])
   simp only [if_pos (show 0 < j + 1 ∧ j + 1 ≤ j + 1 by omega), Nat.add_sub_cancel] at hset
   refine Ev.step (fun k => ?_) (ih (j + 1) (by omega))
   simp only [privityref10_Vanish.l1]
   unfold privityref01_Mul.f privityref01_Add.f
   rw [if_pos (by rw [len_oF]; omega), wrapS j (by omega), if_pos (by omega), if_pos (by rw [len_oF]; simp; omega), if_pos (by omega), rd_oF (show j < z.length by omega), fMul_eq hs]; simp only [Option.bind_some]
   rw [rd_oF (show j + 1 < _ by simp; omega)]
   simp only [List.getElem_map, List.getElem_range, if_neg (show ¬ (0 < j + 1 ∧ j + 1 ≤ j) by omega)]
   rw [fAdd_eq hs]; simp only [Option.bind_some]
   rw [Int.toNat_natCast, oF_set, ← co_getElem (show j < z.length by omega), hset]
 have outer : ∀ e i, i + e = xs.length → Ev (fun k => privityref10_Vanish.l0 k ((m + 1 : Nat) : Int) (oF xs) (oF (vanL (xs.take i))) (i : Int)) (oF (vanL xs)) := by
  intro e
  induction e with
  | zero =>
   intro i hi
   refine Ev.step (f := fun _ => some (oF (vanL xs))) (fun k => ?_) (Ev.now _)
   simp only [privityref10_Vanish.l0]
   rw [if_neg (by rw [len_oF]; omega), List.take_of_length_le (by omega)]
  | succ e ih =>
   intro i hi
   have hlt : i < xs.length := by omega
   have hlen : ∀ (l : List (Fin (m + 1))) (z : List (Fin (m + 1))), (l.foldl (fun z x => vstep z (0 - finv x)) z).length = z.length + l.length := by
    intro l
    induction l with
    | nil => intro z; simp
    | cons a l ih => intro z; rw [List.foldl_cons, ih, vstep_len, List.length_cons]; omega
   have hzl : (vanL (xs.take i)).length ≤ 5000 := by rw [vanL, hlen]; simp; omega
   have h := ih (i + 1) (by omega)
   rw [List.take_succ_eq_append_getElem hlt] at h
   have e1 : vanL (xs.take i ++ [xs[i]]) = vstep (vanL (xs.take i)) (0 - finv xs[i]) := by unfold vanL; rw [List.foldl_append]; rfl
   rw [e1] at h
   generalize hzz : vanL (xs.take i) = z at *
   have hin := inner i (0 - finv xs[i]) z _ (by omega) hzl h z.length 0 (by omega)
   have e2 : ((List.range (z.length + 1)).map fun q => if 0 < q ∧ q ≤ 0 then co z q + (0 - finv xs[i]) * co z (q - 1) else co z q) = z ++ [0] := by
    refine List.ext_getElem (by simp) fun q h1 h2 => ?_
    simp only [List.getElem_map, List.getElem_range]
    rw [if_neg (by omega)]
    by_cases hq : q < z.length
    ·rw [List.getElem_append_left hq, co_getElem hq]
    ·rw [List.getElem_append_right (by omega), co_of_length_le (by omega)]
     simp
   rw [e2] at hin
   refine Ev.step (fun k => ?_) hin
   simp only [privityref10_Vanish.l0]
   unfold privityref01_Inverse.f privityref01_Sub.f
   rw [if_pos (by rw [len_oF]; omega), if_pos (by omega), rd_oF hlt, fInv_eq hs]; simp only [Option.bind_some]
   have hsub := fSub_eq hs (0 : Fin (m + 1)) (finv xs[i])
   rw [zero_val] at hsub
   rw [show (0 : Int) = ((0 : Nat) : Int) from rfl, hsub]; simp only [Option.bind_some]
   rw [if_pos (by rw [len_oF]; simp; omega)]; simp only [List.nil_append]
   rw [if_pos (by rw [len_oF]; omega), oF_append]; rfl
 have h := outer xs.length 0 (by omega)
 refine Ev.congr (fun k => ?_) h
 unfold privityref10_Vanish.f
 rw [List.take_zero]
 show privityref10_Vanish.l0 k _ _ [1] 0 = privityref10_Vanish.l0 k _ _ (oF [1]) _
 simp only [oF, List.map_cons, List.map_nil, hs.one_val]; rfl
end Go.Proofs.Ytgjcmcokkbdflaa.Pure
end
section
/-
A part of this claim's proof (Pure10d): lemmas that the text of the law stands on.
-/
set_option linter.unusedVariables false
set_option linter.unusedSimpArgs false
namespace Go.Proofs.Ytgjcmcokkbdflaa.Pure
open Go.RowKit Go.Proofs.Ytgjcmcokkbdflaa Go.Proofs.Ytgjcmcokkbdflaa.F Go.Proofs.YtgjcmcokkbdflaaW.PrintWords Go.Proofs.YtgjcmcokkbdflaaW.PrintLast
variable {m : Nat}
set_option maxRecDepth 10000 in
theorem awake10_ev : Ev (fun k => privitylaw10_awake.f k) true := Ev.of (fun k => privitylaw10_awake.mono k) (k := 60) (by decide +kernel)
theorem unlike_ev (l : List Int) (hl : l.length ≤ 1000000) : Ev (fun k => privityref10_Unlike.f k l) (decide l.Nodup) := by
 have hno : ∀ i j (hi : i < l.length) (hj : j < i), l[i] = l[j] → decide l.Nodup = false := fun i j hi hj h => by
  rw [decide_eq_false_iff_not]
  intro hn
  have := (List.getElem_inj hn).1 h
  omega
 have inner : ∀ i (hi : i < l.length), Ev (fun k => privityref10_Unlike.l0 k l ((i + 1 : Nat) : Int)) (decide l.Nodup) ∨ (∃ j, ∃ hj : j < i, l[i] = l[j]) → ∀ d j (hjd : j + d = i), (∀ a, (ha : a < j) → l[i] ≠ l[a]'(by omega)) → Ev (fun k => privityref10_Unlike.l1 k l (i : Int) (j : Int)) (decide l.Nodup) := by
  intro i hi hnext d
  induction d with
  | zero =>
   intro j hj hd
   rcases hnext with h | ⟨a, ha, h⟩
   ·refine Ev.step (fun k => ?_) h
    simp only [privityref10_Unlike.l1]
    rw [if_neg (by omega), wrapS i (by omega)]
   ·exact absurd h (hd a (by omega))
  | succ d ih =>
   intro j hj hd
   have hjl : j < l.length := by omega
   by_cases h : l[i] = l[j]
   ·rw [hno i j hi (by omega) h]
    refine Ev.step (f := fun _ => some false) (fun k => ?_) (Ev.now _)
    simp only [privityref10_Unlike.l1]
    rw [if_pos (by omega), if_pos (by omega), if_pos (by omega), if_pos (by omega), if_pos (by omega), rd_at hi, rd_at hjl, if_pos (by rw [h])]
   ·refine Ev.step (fun k => ?_) (ih (j + 1) (by omega) fun a ha => by
     by_cases haj : a = j
     ·subst haj; exact h
     ·exact hd a (by omega))
    simp only [privityref10_Unlike.l1]
    rw [if_pos (by omega), if_pos (by omega), if_pos (by omega), if_pos (by omega), if_pos (by omega), rd_at hi, rd_at hjl, if_neg h, wrapS j (by omega)]
 have outer : ∀ d i (hid : i + d = l.length), (∀ a b (hb : b < i) (hab : a < b), l[b]'(by omega) ≠ l[a]'(by omega)) → Ev (fun k => privityref10_Unlike.l0 k l (i : Int)) (decide l.Nodup) := by
  intro d
  induction d with
  | zero =>
   intro i hi hd
   have hn : l.Nodup := by
    unfold List.Nodup
    rw [List.pairwise_iff_getElem]
    intro a b ha hb hab h
    exact hd a b (by omega) hab h.symm
   rw [decide_eq_true hn]
   refine Ev.step (f := fun _ => some true) (fun k => ?_) (Ev.now _)
   simp only [privityref10_Unlike.l0]
   rw [if_neg (by omega)]
  | succ d ih =>
   intro i hi hd
   have hlt : i < l.length := by omega
   refine Ev.step (f := fun k => privityref10_Unlike.l1 k l (i : Int) 0) (fun k => ?_) (inner i hlt ?_ i 0 (by omega) fun a ha => by omega)
   ·simp only [privityref10_Unlike.l0]
    rw [if_pos (by omega)]
   ·by_cases h : ∃ j, ∃ hj : j < i, l[i] = l[j]
    ·exact .inr h
    ·refine .inl (ih (i + 1) (by omega) fun a b hb hab => ?_)
     by_cases hbi : b = i
     ·subst hbi; exact fun e => h ⟨a, hab, e⟩
     ·exact hd a b (by omega) hab
 exact outer l.length 0 (by omega) fun a b hb => by omega
/-! ### a case -/
structure Case (p : Int) (M : List (List Int)) (xs : List Int) (d x : Int) : Prop where
 okp : okp p = true
 six : M.length ≤ 6
 low : ∀ r ∈ M, ∀ x ∈ r, x < p
 pos : 0 < M.length
 sq : ∀ r ∈ M, r.length = M.length
 sym : ∀ i j, j < i → i < M.length → ent M i j = ent M j i
 lowx : ∀ x ∈ xs, x < p
 len : xs.length + 1 = M.length
 nodup : xs.Nodup
 d : d < p
 x : x < p
 ne : ∀ x ∈ xs, x ≠ 0
theorem vt_ev (p : Int) (M : List (List Int)) (xs : List Int) (d x : Int) : ∃ b, Ev (fun k => privitylaw10_validTranslation.f k p M xs d x) b ∧ (b = true → Case p M xs d x) := by
 have hj : Ev (fun k => privitylaw10_validTranslation.j0 k true p M xs d x) false := Ev.step (f := fun _ => some false) (fun k => by simp only [privitylaw10_validTranslation.j0]; rw [if_pos trivial]) (Ev.now _)
 unfold privitylaw10_validTranslation.f
 obtain ⟨b, h1, h2⟩ := fair10_ev p M
 cases b with
 | false => exact ⟨false, Ev.bind h1 hj, fun hb => by cases hb⟩
 | true =>
 obtain ⟨a1, a2, a3, a4, a5⟩ := h2 rfl
 obtain ⟨b, h3, h4⟩ := rsym_ev M (by omega) a5 a4
 cases b with
 | false => exact ⟨false, Ev.bind h1 (Ev.bind h3 hj), fun hb => by cases hb⟩
 | true =>
 have a6 := h4 rfl
 obtain ⟨b, h5, h6⟩ := below6_ev p xs
 cases b with
 | false => exact ⟨false, Ev.bind h1 (Ev.bind h3 (Ev.bind h5 hj)), fun hb => by cases hb⟩
 | true =>
 obtain ⟨a7, a8⟩ := h6 rfl
 have hw : wrap64 ((M.length : Int) - 1) = (M.length : Int) - 1 := by unfold wrap64; omega
 by_cases hlen : (xs.length : Int) = wrap64 ((M.length : Int) - 1)
 case neg => exact ⟨false, Ev.bind h1 (Ev.bind h3 (Ev.bind h5 (Ev.congr (fun k => by simp only [if_true]; rw [if_neg hlen]) hj))), fun hb => by cases hb⟩
 have hu := unlike_ev xs (by omega)
 by_cases hn : xs.Nodup
 case neg =>
  rw [decide_eq_false hn] at hu
  exact ⟨false, Ev.bind h1 (Ev.bind h3 (Ev.bind h5 (Ev.congr (f := fun k => (privityref10_Unlike.f k xs).bind fun t => if t = true then (if d ≥ p then privitylaw10_validTranslation.j0 k true p M xs d x else privitylaw10_validTranslation.j0 k (decide (x ≥ p)) p M xs d x) else privitylaw10_validTranslation.j0 k true p M xs d x) (fun k => by simp only [if_true]; rw [if_pos hlen]) (Ev.bind hu hj)))), fun hb => by cases hb⟩
 rw [decide_eq_true hn] at hu
 have tail : ∀ b, Ev (fun k => if d ≥ p then privitylaw10_validTranslation.j0 k true p M xs d x else privitylaw10_validTranslation.j0 k (decide (x ≥ p)) p M xs d x) b → Ev (fun k => (privityref10_Fair.f k p M 6).bind fun t308 => (if t308 = true then ((privityref10_IsSymmetric.f k M).bind fun t309 => (if t309 = true then ((privityref06_Below.f k p xs 6).bind fun t310 => (if t310 = true then (if (xs.length : Int) = (wrap64 ((M.length : Int) - 1)) then ((privityref10_Unlike.f k xs).bind fun t311 => (if t311 = true then (if d ≥ p then (privitylaw10_validTranslation.j0 k true p M xs d x) else (privitylaw10_validTranslation.j0 k (decide (x ≥ p)) p M xs d x)) else (privitylaw10_validTranslation.j0 k true p M xs d x))) else (privitylaw10_validTranslation.j0 k true p M xs d x)) else (privitylaw10_validTranslation.j0 k true p M xs d x))) else (privitylaw10_validTranslation.j0 k true p M xs d x))) else (privitylaw10_validTranslation.j0 k true p M xs d x))) b := fun b hb =>
  Ev.bind h1 (Ev.bind h3 (Ev.bind h5 (Ev.congr (f := fun k => (privityref10_Unlike.f k xs).bind fun t => if t = true then (if d ≥ p then privitylaw10_validTranslation.j0 k true p M xs d x else privitylaw10_validTranslation.j0 k (decide (x ≥ p)) p M xs d x) else privitylaw10_validTranslation.j0 k true p M xs d x) (fun k => by simp only [if_true]; rw [if_pos hlen]) (Ev.bind hu hb))))
 by_cases hd : d ≥ p
 ·exact ⟨false, tail false (Ev.congr (fun k => by rw [if_pos hd]) hj), fun hb => by cases hb⟩
 by_cases hx : x ≥ p
 ·exact ⟨false, tail false (Ev.congr (fun k => by rw [if_neg hd, decide_eq_true hx]) hj), fun hb => by cases hb⟩
 have key : ∀ e i, i + e = xs.length → (∀ x ∈ xs.take i, x ≠ 0) → ∃ b, Ev (fun k => privitylaw10_validTranslation.l0 k (i : Int) p M xs d x) b ∧ (b = true → ∀ x ∈ xs, x ≠ 0) := by
  intro e
  induction e with
  | zero =>
   intro i hi h
   rw [List.take_of_length_le (by omega)] at h
   refine ⟨true, Ev.step (f := fun _ => some true) (fun k => ?_) (Ev.now _), fun _ => h⟩
   simp only [privitylaw10_validTranslation.l0]; rw [if_neg (by omega)]
  | succ e ih =>
   intro i hi h
   have hlt : i < xs.length := by omega
   by_cases hz : xs[i] = 0
   ·refine ⟨false, Ev.step (f := fun _ => some false) (fun k => ?_) (Ev.now _), fun hb => by cases hb⟩
    simp only [privitylaw10_validTranslation.l0]
    rw [if_pos (by omega), if_pos (by omega), rd_at hlt, if_pos hz]
   ·obtain ⟨b, g1, g2⟩ := ih (i + 1) (by omega) (fun x hx' => by
     rw [List.take_succ_eq_append_getElem hlt, List.mem_append, List.mem_singleton] at hx'
     rcases hx' with h3 | rfl
     ·exact h x h3
     ·exact hz)
    refine ⟨b, Ev.step (fun k => ?_) g1, g2⟩
    simp only [privitylaw10_validTranslation.l0]
    rw [if_pos (by omega), if_pos (by omega), rd_at hlt, if_neg hz, wrapS i (by omega)]
 obtain ⟨b, g1, g2⟩ := key xs.length 0 (by omega) (by simp)
 refine ⟨b, tail b ?_, fun hb => ⟨a1, a2, a3, a4, a5, a6, a7, by omega, hn, by omega, by omega, g2 hb⟩⟩
 refine Ev.congr (f := fun k => privitylaw10_validTranslation.j0 k false p M xs d x) (fun k => by rw [if_neg hd, decide_eq_false hx]) ?_
 refine Ev.step (fun k => ?_) g1
 simp only [privitylaw10_validTranslation.j0]; rw [if_neg (by simp)]; rfl
/-! ### in the field -/
structure FCase (M : List (List (Fin (m + 1)))) (xs : List (Fin (m + 1))) : Prop where
 six : M.length ≤ 6
 pos : 0 < M.length
 sq : ∀ r ∈ M, r.length = M.length
 sym : ∀ i j, i < M.length → j < M.length → fe M i j = fe M j i
 len : xs.length + 1 = M.length
 nodup : xs.Nodup
 ne : ∀ x ∈ xs, x ≠ 0
theorem fsym {M : List (List (Fin (m + 1)))} (h : ∀ i j, j < i → i < (M.map oF).length → ent (M.map oF) i j = ent (M.map oF) j i) (i j : Nat) (hi : i < M.length) (hj : j < M.length) : fe M i j = fe M j i := by
 have key : ∀ i j, j < i → i < M.length → fe M i j = fe M j i := fun i j h1 h2 => by
  have := h i j h1 (by simpa using h2)
  rw [ent_oFF, ent_oFF] at this
  exact Fin.ext (by omega)
 rcases Nat.lt_trichotomy i j with h1 | h1 | h1
 ·exact (key j i h1 hj).symm
 ·rw [h1]
 ·exact key i j h1 hi
theorem Case.field {p : Int} {M : List (List Int)} {xs : List Int} {d x : Int} (h : Case p M xs d x) (hM : ∀ r ∈ M, ∀ x ∈ r, 0 ≤ x) (hxs : ∀ x ∈ xs, 0 ≤ x) (hd : 0 ≤ d) :
  ∃ (m : Nat) (Q : List (List (Fin (m + 1)))) (ys : List (Fin (m + 1))) (e : Fin (m + 1)), p = ((m + 1 : Nat) : Int) ∧ Sup (m + 1) ∧ M = Q.map oF ∧ xs = oF ys ∧ d = ((e.val : Nat) : Int) ∧ FCase Q ys := by
 obtain ⟨m, rfl, hs⟩ := okp_sup h.okp
 obtain ⟨Q, rfl⟩ := all_oFF (m := m) fun r hr x hx => ⟨hM r hr x hx, h.low r hr x hx⟩
 obtain ⟨ys, rfl⟩ := all_oF (m := m) (l := xs) (by
  rw [List.all_eq_true]
  intro x hx
  have := hxs x hx
  have := h.lowx x hx
  simp only [inr, Bool.and_eq_true, decide_eq_true_eq]; omega)
 obtain ⟨e, rfl⟩ := inr_fin (m := m) (a := d) (by
  have := h.d
  simp only [inr, Bool.and_eq_true, decide_eq_true_eq]; omega)
 have hlen := h.len
 rw [len_oF, List.length_map] at hlen
 refine ⟨m, Q, ys, e, rfl, hs, rfl, rfl, rfl, by simpa using h.six, by simpa using h.pos, fun r hr => ?_, fsym h.sym, hlen, ?_, fun x hx h0 => ?_⟩
 ·have := h.sq (oF r) (List.mem_map.2 ⟨r, hr, rfl⟩)
  rw [len_oF, List.length_map] at this
  exact this
 ·have h1 := h.nodup
  unfold oF List.Nodup at h1
  rw [List.pairwise_map] at h1
  exact h1.imp fun h e => h (by rw [e])
 ·refine h.ne ((x.val : Nat) : Int) (List.mem_map.2 ⟨x, hx, rfl⟩) ?_
  rw [h0, zero_val]; rfl
theorem rowAt_tr (M : List (List (Fin (m + 1)))) (d x : Fin (m + 1)) (z : List (Fin (m + 1))) (hM : ∀ r ∈ M, r.length = M.length) (hz : z.length = M.length) (h : ev z x = 0) : rowAt (tr M d z) x = rowAt M x := by
 unfold rowAt
 rw [tr_len]
 refine List.map_congr_left fun j hj => ?_
 have hj := List.mem_range.1 hj
 have e : (tr M d z).map (fun r => co r j) = padd (M.map fun r => co r j) (pscale (d * co z j) z) := by
  refine same_ext (by rw [length_padd, length_pscale]; simp [tr_len, hz]) fun i => ?_
  rw [co_padd, co_pscale]
  by_cases hi : i < M.length
  ·rw [co_getElem (by simp [tr_len]; exact hi), co_getElem (show i < (M.map fun r => co r j).length by simpa using hi)]
   have := fe_tr (M := M) (d := d) (z := z) hi hj
   unfold fe at this
   rw [show (tr M d z).getD i [] = (tr M d z)[i]'(by rw [tr_len]; exact hi) by simp [tr_len, hi]] at this
   simp only [List.getElem_map, this, trE, fe]
   rw [show M.getD i [] = M[i] by simp [hi]]
   grind
  ·rw [co_of_length_le (by simp [tr_len]; omega), co_of_length_le (show (M.map fun r => co r j).length ≤ i by simp; omega), co_of_length_le (show z.length ≤ i by omega)]
   grind
 rw [e, ev_padd, ev_pscale, h]
 grind
theorem ev_at_zero (f : List (Fin (m + 1))) : ev f 0 = co f 0 := by
 cases f with
 | nil => simp [ev_nil, co_nil]
 | cons a l => rw [ev_cons, co_cons_zero]; grind
theorem co_cols (M : List (List (Fin (m + 1)))) (i j : Nat) : co (M.map fun r => co r j) i = fe M i j := by
 unfold fe
 by_cases hi : i < M.length
 ·rw [co_getElem (by simpa using hi), show M.getD i [] = M[i] by simp [hi]]; simp
 ·rw [co_of_length_le (by simp; omega), show M.getD i [] = [] by rw [List.getD_eq_getElem?_getD, List.getElem?_eq_none (by omega)]; rfl, co_nil]
theorem secret (M : List (List (Fin (m + 1)))) (h : 0 < M.length) : ev (rowAt M 0) 0 = fe M 0 0 := by
 rw [ev_at_zero, co_getElem (by simp [rowAt]; exact h)]
 simp only [rowAt, List.getElem_map, List.getElem_range]
 rw [ev_at_zero, co_cols]
theorem back_tr (M : List (List (Fin (m + 1)))) (d : Fin (m + 1)) (z : List (Fin (m + 1))) (hM : ∀ r ∈ M, r.length = M.length) : tr (tr M d z) (-d) z = M := by
 refine mat_ext (by rw [tr_len, tr_len]) (tr_rows _ _ _) hM fun i j hi hj => ?_
 rw [tr_len, tr_len] at hi hj
 rw [fe_tr (by rw [tr_len]; exact hi) (by rw [tr_len]; exact hj)]
 unfold trE
 rw [fe_tr hi hj]
 unfold trE
 grind
theorem unique_tr (hs : Sup (m + 1)) {M N : List (List (Fin (m + 1)))} {xs z : List (Fin (m + 1))} (h : FCase M xs) (hN : N.length = M.length) (hNr : ∀ r ∈ N, r.length = N.length) (hNs : ∀ i j, i < N.length → j < N.length → fe N i j = fe N j i)
  (hz : z.length = M.length) (hz0 : co z 0 = 1) (hzx : ∀ x ∈ xs, ev z x = 0) (hrow : ∀ x ∈ xs, rowAt N x = rowAt M x) : tr M (fe N 0 0 - fe M 0 0) z = N := by
 have col : ∀ j, j < M.length → ∀ i, i < M.length → fe N i j - fe M i j = (fe N 0 j - fe M 0 j) * co z i := by
  intro j hj
  have hx0 : (0 :: xs).Nodup := List.nodup_cons.2 ⟨fun h0 => h.ne 0 h0 rfl, h.nodup⟩
  have h0 : ∀ c ∈ padd (padd (N.map fun r => co r j) (pscale (-1) (M.map fun r => co r j))) (pscale (-(fe N 0 j - fe M 0 j)) z), c = 0 := by
   refine roots hs.dom (0 :: xs) _ hx0 (by rw [length_padd, length_padd, length_pscale, length_pscale, List.length_map, List.length_map, List.length_cons]; have := h.len; omega) fun x hx => ?_
   rw [ev_padd, ev_padd, ev_pscale, ev_pscale]
   rcases List.mem_cons.1 hx with rfl | hx
   ·rw [ev_at_zero, ev_at_zero, ev_at_zero, co_cols, co_cols, hz0]; grind
   ·have hr := hrow x hx
    have e1 : ev (N.map fun r => co r j) x = (rowAt N x)[j]'(by simp [rowAt]; omega) := by simp [rowAt]
    have e2 : ev (M.map fun r => co r j) x = (rowAt M x)[j]'(by simp [rowAt]; omega) := by simp [rowAt]
    have e3 : (rowAt N x)[j]'(by simp [rowAt]; omega) = (rowAt M x)[j]'(by simp [rowAt]; omega) := by simp only [hr]
    rw [e1, e2, e3, hzx x hx]; grind
  intro i hi
  have h1 : co (padd (padd (N.map fun r => co r j) (pscale (-1) (M.map fun r => co r j))) (pscale (-(fe N 0 j - fe M 0 j)) z)) i = 0 := by
   rw [co_getElem (by rw [length_padd, length_padd, length_pscale, length_pscale, List.length_map, List.length_map]; omega)]
   exact h0 _ (List.getElem_mem _)
  rw [co_padd, co_padd, co_pscale, co_pscale, co_cols, co_cols] at h1
  grind
 refine mat_ext (by rw [tr_len, hN]) (tr_rows _ _ _) hNr fun i j hi hj => ?_
 rw [tr_len] at hi hj
 rw [fe_tr hi hj]
 unfold trE
 have c1 := col j hj i hi
 have c2 := col 0 h.pos j hj
 have s1 := hNs 0 j (by have := h.pos; omega) (by omega)
 have s2 := h.sym 0 j h.pos hj
 grind
/-! ### helpers of the laws -/
def okU (l : List Int) : Prop := l.length ≤ maxLen ∧ ∀ x ∈ l, (Lit.int .u64 x).wf = true
def okUU (l : List (List Int)) : Prop := l.length ≤ maxLen ∧ ∀ r ∈ l, okU r
theorem okUU_pos {l : List (List Int)} (h : okUU l) : ∀ r ∈ l, ∀ x ∈ r, 0 ≤ x := fun r hr x hx => wf_u64 ((h.2 r hr).2 x hx)
theorem rowAt_len (M : List (List (Fin (m + 1)))) (x : Fin (m + 1)) : (rowAt M x).length = M.length := by simp [rowAt]
theorem same_oFF (M N : List (List (Fin (m + 1)))) (hl : M.length ≤ 1000) (hr : ∀ r ∈ M, r.length = M.length) (h : M = N) : Ev (fun k => privityref06_Same.f k (M.map oF) (N.map oF)) true := by
 have := sls_ev (M.map oF) (N.map oF) (by simp; omega) (fun r hr' => by
  obtain ⟨q, hq, rfl⟩ := List.mem_map.1 hr'
  rw [len_oF, hr q hq]; omega)
 rw [decide_eq_true (by rw [h])] at this
 exact this
theorem zeros (hs : Sup (m + 1)) (M : List (List (Fin (m + 1)))) (hl : M.length ≤ 1000) (hp : 0 < M.length) (hr : ∀ r ∈ M, r.length = M.length) :
  Ev (fun k => bivariate_Eval.f k ((m + 1 : Nat) : Int) (M.map oF) 0 0) (((fe M 0 0).val : Nat) : Int) := by
 have h := beval_ev hs M 0 0 hl hr
 rw [secret M hp] at h
 exact h
end Go.Proofs.Ytgjcmcokkbdflaa.Pure
end
