/-
A part of this claim's proof (Pure10b): lemmas that the text of the law stands on.
-/
import Derived.Test.YtlooloaaceohdaaPure10a
import Derived.Test.YtlooloaaceohdaaG1
set_option linter.unusedVariables false
set_option linter.unusedSimpArgs false
namespace Go.Proofs.Ytlooloaaceohdaa.Pure
open Go.RowKit Go.Proofs.Ytlooloaaceohdaa Go.Proofs.Ytlooloaaceohdaa.F Go.Proofs.YtlooloaaceohdaaW.PrintWords Go.Proofs.YtlooloaaceohdaaW.PrintLast
variable {m : Nat}
/-! ### equality -/
theorem sl_ev (a b : List Int) (hl : a.length ≤ 1000000) : Ev (fun k => privityref06_SameList.f k a b) (decide (a = b)) := by
  unfold privityref06_SameList.f
  by_cases he : a.length = b.length
  case neg =>
    rw [decide_eq_false (fun h => he (by rw [h]))]
    refine Ev.congr (f := fun _ => some false) (fun k => ?_) (Ev.now _)
    rw [if_neg (by omega)]
  have key : ∀ d i, i + d = a.length → Ev (fun k => privityref06_SameList.l0 k a b (i : Int)) (decide (a.drop i = b.drop i)) := by
    intro d
    induction d with
    | zero =>
      intro i hi
      rw [List.drop_of_length_le (by omega), List.drop_of_length_le (by omega)]
      exact Ev.step (f := fun _ => some true) (fun k => by simp only [privityref06_SameList.l0]; rw [if_neg (by omega)]) (Ev.now _)
    | succ d ih =>
      intro i hi
      have h1 : i < a.length := by omega
      have h2 : i < b.length := by omega
      rw [List.drop_eq_getElem_cons h1, List.drop_eq_getElem_cons h2]
      by_cases h : a[i] = b[i]
      · have e : (a[i] :: a.drop (i + 1) = b[i] :: b.drop (i + 1)) ↔ (a.drop (i + 1) = b.drop (i + 1)) := ⟨fun e => (List.cons.inj e).2, fun e => by rw [h, e]⟩
        rw [decide_eq_decide.2 e]
        refine Ev.step (fun k => ?_) (ih (i + 1) (by omega))
        simp only [privityref06_SameList.l0]
        rw [if_pos (by omega), if_pos (by omega), if_pos (by omega), rd_at h1, rd_at h2, if_pos h, wrapS i (by omega)]
      · rw [decide_eq_false (fun e => h (List.cons.inj e).1)]
        refine Ev.step (f := fun _ => some false) (fun k => ?_) (Ev.now _)
        simp only [privityref06_SameList.l0]
        rw [if_pos (by omega), if_pos (by omega), if_pos (by omega), rd_at h1, rd_at h2, if_neg h]
  refine Ev.congr (fun k => ?_) (key a.length 0 (by omega))
  rw [if_pos (by omega)]; rfl
theorem sls_ev (a b : List (List Int)) (hl : a.length ≤ 1000000) (hr : ∀ r ∈ a, r.length ≤ 1000000) : Ev (fun k => privityref06_Same.f k a b) (decide (a = b)) := by
  unfold privityref06_Same.f
  by_cases he : a.length = b.length
  case neg =>
    rw [decide_eq_false (fun h => he (by rw [h]))]
    refine Ev.congr (f := fun _ => some false) (fun k => ?_) (Ev.now _)
    rw [if_neg (by omega)]
  have key : ∀ d i, i + d = a.length → Ev (fun k => privityref06_Same.l0 k a b (i : Int)) (decide (a.drop i = b.drop i)) := by
    intro d
    induction d with
    | zero =>
      intro i hi
      rw [List.drop_of_length_le (by omega), List.drop_of_length_le (by omega)]
      exact Ev.step (f := fun _ => some true) (fun k => by simp only [privityref06_Same.l0]; rw [if_neg (by omega)]) (Ev.now _)
    | succ d ih =>
      intro i hi
      have h1 : i < a.length := by omega
      have h2 : i < b.length := by omega
      have hs := sl_ev a[i] b[i] (hr _ (List.getElem_mem h1))
      have hstep : ∀ k, privityref06_Same.l0 (k + 1) a b (i : Int) = (privityref06_SameList.f k a[i] b[i]).bind fun t => if t = true then privityref06_Same.l0 k a b ((i + 1 : Nat) : Int) else some false := fun k => by
        simp only [privityref06_Same.l0]
        rw [if_pos (by omega), if_pos (by omega), if_pos (by omega), rdL_at h1, rdL_at h2, wrapS i (by omega)]
      rw [List.drop_eq_getElem_cons h1, List.drop_eq_getElem_cons h2]
      by_cases h : a[i] = b[i]
      · have e : (a[i] :: a.drop (i + 1) = b[i] :: b.drop (i + 1)) ↔ (a.drop (i + 1) = b.drop (i + 1)) := ⟨fun e => (List.cons.inj e).2, fun e => by rw [h, e]⟩
        rw [decide_eq_decide.2 e]
        rw [decide_eq_true h] at hs
        refine Ev.step hstep (Ev.bind hs ?_)
        simp only [if_true]
        exact ih (i + 1) (by omega)
      · rw [decide_eq_false (fun e => h (List.cons.inj e).1)]
        rw [decide_eq_false h] at hs
        exact Ev.step hstep (Ev.bind hs (Ev.now _))
  refine Ev.congr (fun k => ?_) (key a.length 0 (by omega))
  rw [if_pos (by omega)]; rfl
/-! ### matrices -/
theorem oFF_inj {a b : List (List (Fin (m + 1)))} (h : a.map oF = b.map oF) : a = b := (List.map_inj_right (fun _ _ h => oF_inj h)).1 h
theorem all_oFF {M : List (List Int)} (h : ∀ r ∈ M, ∀ x ∈ r, 0 ≤ x ∧ x < ((m + 1 : Nat) : Int)) : ∃ Q : List (List (Fin (m + 1))), M = Q.map oF := by
  induction M with
  | nil => exact ⟨[], rfl⟩
  | cons a l ih =>
    obtain ⟨ys, rfl⟩ := all_oF (m := m) (l := a) (by
      rw [List.all_eq_true]
      intro x hx
      have := h a (List.mem_cons_self ..) x hx
      simp only [inr, Bool.and_eq_true, decide_eq_true_eq]; omega)
    obtain ⟨Q, rfl⟩ := ih fun r hr => h r (List.mem_cons_of_mem _ hr)
    exact ⟨ys :: Q, rfl⟩
def fe (M : List (List (Fin (m + 1)))) (i j : Nat) : Fin (m + 1) := co (M.getD i []) j
theorem ent_oFF (M : List (List (Fin (m + 1)))) (i j : Nat) : ent (M.map oF) i j = (((fe M i j).val : Nat) : Int) := by
  unfold ent fe co
  have h1 : (M.map oF).getD i [] = oF (M.getD i []) := by
    rw [List.getD_eq_getElem?_getD, List.getD_eq_getElem?_getD, List.getElem?_map]
    cases M[i]? <;> rfl
  rw [h1]
  generalize M.getD i [] = r
  rw [List.getD_eq_getElem?_getD, List.getD_eq_getElem?_getD]
  unfold oF
  rw [List.getElem?_map]
  cases r[j]? <;> rfl
theorem fe_at {M : List (List (Fin (m + 1)))} {i j : Nat} (hi : i < M.length) (hj : j < M[i].length) : fe M i j = M[i][j] := by
  unfold fe
  rw [show M.getD i [] = M[i] by simp [hi], co_getElem hj]
theorem rdL_map {M : List (List (Fin (m + 1)))} {i : Nat} (h : i < M.length) : rd_L2 (M.map oF) (i : Int) = oF M[i] := by simp [rd_L2, h]
theorem set_range {α : Type} (n j : Nat) (g h : Nat → α) (hg : ∀ q, q ≠ j → g q = h q) : ((List.range n).map g).set j (h j) = (List.range n).map h := by
  refine List.ext_getElem (by simp) fun i h1 h2 => ?_
  rw [List.getElem_set]
  simp only [List.getElem_map, List.getElem_range]
  split
  next e => rw [e]
  next e => exact hg i fun h => e h.symm
theorem ev_snoc (f : List (Fin (m + 1))) (c x : Fin (m + 1)) : ev (f ++ [c]) x = ev f x + c * fpow x f.length := by
  induction f with
  | nil => simp only [List.nil_append, ev_cons, ev_nil, List.length_nil, fpow_zero]; grind
  | cons a l ih => simp only [List.cons_append, ev_cons, ih, List.length_cons, fpow_succ]; grind
/-! ### the row at a point, as the program adds it up -/
def rowAt (M : List (List (Fin (m + 1)))) (x : Fin (m + 1)) : List (Fin (m + 1)) := (List.range M.length).map fun j => ev (M.map fun r => co r j) x
theorem browAt_ev (hs : Sup (m + 1)) (M : List (List (Fin (m + 1)))) (x : Fin (m + 1)) (hl : M.length ≤ 1000) (hr : ∀ r ∈ M, r.length = M.length) :
    Ev (fun k => bivariate_Row.f k ((m + 1 : Nat) : Int) (M.map oF) ((x.val : Nat) : Int)) (oF (rowAt M x)) := by
  have hml : (M.map oF).length = M.length := by simp
  have inner : ∀ i (hi : i < M.length) r, Ev (fun k => bivariate_Row.l0 k ((m + 1 : Nat) : Int) ((x.val : Nat) : Int) (oF ((List.range M.length).map fun j => ev ((M.take (i + 1)).map fun r => co r j) x)) (((fpow x (i + 1)).val : Nat) : Int) (M.map oF) (M.length : Int) ((i + 1 : Nat) : Int)) r →
      ∀ d j, j + d = M.length → Ev (fun k => bivariate_Row.l1 k ((m + 1 : Nat) : Int) ((x.val : Nat) : Int) (oF ((List.range M.length).map fun q => if q < j then ev ((M.take (i + 1)).map fun r => co r q) x else ev ((M.take i).map fun r => co r q) x)) (((fpow x i).val : Nat) : Int) (M.map oF) (M.length : Int) (i : Int) (oF M[i]) (M.length : Int) (j : Int)) r := by
    intro i hi r hr0 d
    have hrl := hr M[i] (List.getElem_mem hi)
    induction d with
    | zero =>
      intro j hj
      refine Ev.step (fun k => ?_) hr0
      simp only [bivariate_Row.l1]
      unfold field_Mul.f
      rw [if_neg (by omega), fMul_eq hs]; simp only [Option.bind_some]
      rw [wrapS i (by omega), fpow_succ, show fpow x i * x = x * fpow x i by grind]
      congr 2
      refine List.map_congr_left fun q hq => ?_
      rw [if_pos (by have := List.mem_range.1 hq; omega)]
    | succ d ih =>
      intro j hj
      have hjl : j < M.length := by omega
      have hjr : j < M[i].length := by omega
      refine Ev.step (fun k => ?_) (ih (j + 1) (by omega))
      have hev : ev ((M.take (i + 1)).map fun r => co r j) x = ev ((M.take i).map fun r => co r j) x + M[i][j] * fpow x i := by
        rw [List.take_succ_eq_append_getElem hi, List.map_append, List.map_cons, List.map_nil, ev_snoc, co_getElem hjr, List.length_map, List.length_take, Nat.min_eq_left (by omega)]
      have hset := set_range M.length j (fun q => if q < j then ev ((M.take (i + 1)).map fun r => co r q) x else ev ((M.take i).map fun r => co r q) x) (fun q => if q < j + 1 then ev ((M.take (i + 1)).map fun r => co r q) x else ev ((M.take i).map fun r => co r q) x) (fun q hq => by
        by_cases h1 : q < j
        · rw [if_pos h1, if_pos (by omega)]
        · rw [if_neg h1, if_neg (by omega)])
      simp only [if_pos (Nat.lt_succ_self j)] at hset
      rw [hev] at hset
      simp only [bivariate_Row.l1]
      unfold field_Mul.f field_Add.f
      rw [if_pos (by omega), if_pos (by omega), if_pos (by rw [len_oF]; omega), if_pos (by rw [len_oF]; simp; omega), rd_oF hjr, fMul_eq hs]; simp only [Option.bind_some]
      rw [rd_oF (by simp; omega)]
      simp only [List.getElem_map, List.getElem_range, if_neg (Nat.lt_irrefl j)]
      rw [fAdd_eq hs]; simp only [Option.bind_some]
      rw [Int.toNat_natCast, oF_set, hset, wrapS j (by omega)]
  have outer : ∀ d i, i + d = M.length → Ev (fun k => bivariate_Row.l0 k ((m + 1 : Nat) : Int) ((x.val : Nat) : Int) (oF ((List.range M.length).map fun j => ev ((M.take i).map fun r => co r j) x)) (((fpow x i).val : Nat) : Int) (M.map oF) (M.length : Int) (i : Int)) (oF (rowAt M x)) := by
    intro d
    induction d with
    | zero =>
      intro i hi
      refine Ev.step (f := fun _ => some (oF (rowAt M x))) (fun k => ?_) (Ev.now _)
      simp only [bivariate_Row.l0]
      rw [if_neg (by omega), List.take_of_length_le (by omega)]; rfl
    | succ d ih =>
      intro i hi
      have hlt : i < M.length := by omega
      have hrl := hr M[i] (List.getElem_mem hlt)
      refine Ev.step (fun k => ?_) (inner i hlt _ (ih (i + 1) (by omega)) M.length 0 (by omega))
      simp only [bivariate_Row.l0]
      rw [if_pos (by omega), if_pos (by omega), if_pos (by omega), rdL_map hlt, len_oF, hrl]
      simp only [Nat.not_lt_zero, if_false]; rfl
  have h := outer M.length 0 (by omega)
  refine Ev.congr (fun k => ?_) h
  unfold bivariate_Row.f
  rw [hml, if_pos (by omega), if_pos (by omega), Int.toNat_natCast, oF_replicate (m := m)]
  have e1 : (List.range M.length).map (fun j => ev ((M.take 0).map fun r => co r j) x) = List.replicate M.length (0 : Fin (m + 1)) := by
    refine List.ext_getElem (by simp) fun i h1 h2 => ?_
    simp [ev_nil]
  rw [e1, fpow_zero, hs.one_val]; rfl
theorem peval_ev (hs : Sup (m + 1)) (f : List (Fin (m + 1))) (x : Fin (m + 1)) (hl : f.length ≤ 1000000000) : Ev (fun k => poly_Eval.f k ((m + 1 : Nat) : Int) (oF f) ((x.val : Nat) : Int)) (((ev f x).val : Nat) : Int) := by
  have key : ∀ i, i ≤ f.length → ∀ e : Int, e = (i : Int) - 1 → Ev (fun k => poly_Eval.l0 k ((m + 1 : Nat) : Int) (oF f) ((x.val : Nat) : Int) (((ev (f.drop i) x).val : Nat) : Int) e) (((ev f x).val : Nat) : Int) := by
    intro i
    induction i with
    | zero =>
      intro _ e he
      refine Ev.step (f := fun _ => some (((ev f x).val : Nat) : Int)) (fun k => ?_) (Ev.now _)
      simp only [poly_Eval.l0]
      rw [if_neg (by omega), List.drop_zero]
    | succ i ih =>
      intro hi e he
      have hlt : i < f.length := by omega
      have h := ih (by omega) ((i : Int) - 1) rfl
      rw [List.drop_eq_getElem_cons hlt, ev_cons] at h
      rw [show e = (i : Int) by omega]
      refine Ev.step (fun k => ?_) h
      simp only [poly_Eval.l0]
      unfold field_Mul.f field_Add.f
      rw [if_pos (by omega), fMul_eq hs]; simp only [Option.bind_some]
      rw [if_pos (by omega), if_pos (by rw [len_oF]; omega), rd_oF hlt, fAdd_eq hs]; simp only [Option.bind_some]
      rw [show ev (f.drop (i + 1)) x * x + f[i] = f[i] + x * ev (f.drop (i + 1)) x by grind, show wrap64 ((i : Int) - 1) = (i : Int) - 1 by unfold wrap64; omega]
  have h := key f.length (Nat.le_refl _) ((f.length : Int) - 1) rfl
  rw [List.drop_length] at h
  refine Ev.congr (fun k => ?_) h
  unfold poly_Eval.f
  rw [len_oF, show wrap64 ((f.length : Int) - 1) = (f.length : Int) - 1 by unfold wrap64; omega, ev_nil, zero_val]; rfl
theorem beval_ev (hs : Sup (m + 1)) (M : List (List (Fin (m + 1)))) (x y : Fin (m + 1)) (hl : M.length ≤ 1000) (hr : ∀ r ∈ M, r.length = M.length) :
    Ev (fun k => bivariate_Eval.f k ((m + 1 : Nat) : Int) (M.map oF) ((x.val : Nat) : Int) ((y.val : Nat) : Int)) (((ev (rowAt M x) y).val : Nat) : Int) := by
  unfold bivariate_Eval.f
  exact Ev.bind (browAt_ev hs M x hl hr) (Ev.bind (peval_ev hs _ y (by simp [rowAt]; omega)) (Ev.now _))
/-! ### symmetry -/
theorem psym_ev (M : List (List Int)) (hl : M.length ≤ 1000) (hr : ∀ r ∈ M, r.length = M.length) (h0 : 0 < M.length) (hs : ∀ i j, j < i → i < M.length → ent M i j = ent M j i) : Ev (fun k => bivariate_IsSymmetric.f k M) true := by
  have inner : ∀ i, i < M.length → Ev (fun k => bivariate_IsSymmetric.l1 k M M (M.length : Int) ((i + 1 : Nat) : Int)) true →
      ∀ d j, j + d = i → Ev (fun k => bivariate_IsSymmetric.l2 k M (i : Int) (rd_L2 M (i : Int)) M (M.length : Int) (i : Int) (i : Int) (j : Int)) true := by
    intro i hi hn d
    induction d with
    | zero =>
      intro j hj
      refine Ev.step (fun k => ?_) hn
      simp only [bivariate_IsSymmetric.l2]
      rw [if_neg (by omega), wrapS i (by omega)]
    | succ d ih =>
      intro j hj
      have hjl : j < M.length := by omega
      have hri := hr _ (List.getElem_mem hi)
      have hrj := hr _ (List.getElem_mem hjl)
      have e1 : ent M i j = M[i][j]'(by omega) := by simp [ent, hi, show j < M[i].length by omega]
      have e2 : ent M j i = M[j][i]'(by omega) := by simp [ent, hjl, show i < M[j].length by omega]
      refine Ev.step (fun k => ?_) (ih (j + 1) (by omega))
      simp only [bivariate_IsSymmetric.l2]
      rw [rdL_at hi, rdL_at hjl, if_pos (by omega), if_pos (by omega), if_pos (by omega), if_pos (by omega), if_pos (by omega), if_pos (by omega), rd_at (by omega), rd_at (by omega), if_pos (by rw [← e1, ← e2]; exact hs i j (by omega) hi), wrapS j (by omega)]
  have outer : ∀ d i, i + d = M.length → Ev (fun k => bivariate_IsSymmetric.l1 k M M (M.length : Int) (i : Int)) true := by
    intro d
    induction d with
    | zero =>
      intro i hi
      refine Ev.step (f := fun _ => some true) (fun k => ?_) (Ev.now _)
      simp only [bivariate_IsSymmetric.l1]
      rw [if_neg (by omega), decide_eq_true (by omega)]
    | succ d ih =>
      intro i hi
      refine Ev.step (fun k => ?_) (inner i (by omega) (ih (i + 1) (by omega)) i 0 (by omega))
      simp only [bivariate_IsSymmetric.l1]
      rw [if_pos (by omega), if_pos (by omega), if_pos (by omega)]; rfl
  have first : ∀ d i, i + d = M.length → Ev (fun k => bivariate_IsSymmetric.l0 k M M (M.length : Int) (i : Int)) true := by
    intro d
    induction d with
    | zero =>
      intro i hi
      refine Ev.step (fun k => ?_) (outer M.length 0 (by omega))
      simp only [bivariate_IsSymmetric.l0]
      rw [if_neg (by omega)]; rfl
    | succ d ih =>
      intro i hi
      have hlt : i < M.length := by omega
      refine Ev.step (fun k => ?_) (ih (i + 1) (by omega))
      simp only [bivariate_IsSymmetric.l0]
      rw [if_pos (by omega), if_pos (by omega), if_pos (by omega), rdL_at hlt, if_pos (by rw [hr _ (List.getElem_mem hlt)]), wrapS i (by omega)]
  exact first M.length 0 (by omega)
end Go.Proofs.Ytlooloaaceohdaa.Pure
