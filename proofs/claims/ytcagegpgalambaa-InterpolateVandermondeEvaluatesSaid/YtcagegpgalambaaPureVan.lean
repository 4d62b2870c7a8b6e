import Derived.Test.YtcagegpgalambaaPureEval
import Derived.Test.YtcagegpgalambaaF11
set_option linter.unusedVariables false
set_option linter.unusedSimpArgs false
namespace Go.Proofs.Ytcagegpgalambaa.Pure
open Go.RowKit Go.Proofs.Ytcagegpgalambaa Go.Proofs.Ytcagegpgalambaa.F Go.Proofs.YtcagegpgalambaaW.PrintWords Go.Proofs.YtcagegpgalambaaW.PrintLast
variable {m : Nat}
/-! ### the rows of powers -/
def powl (x : Fin (m + 1)) : Fin (m + 1) → Nat → List (Fin (m + 1))
  | _, 0 => []
  | q, c + 1 => q :: powl x (q * x) c
theorem powl_length (x : Fin (m + 1)) : ∀ c q, (powl x q c).length = c
  | 0, _ => rfl
  | c + 1, q => by simp [powl, powl_length x c]
def van (xs : List (Fin (m + 1))) (c : Nat) : List (List Int) := xs.map fun x => oF (powl x 1 c)
theorem van_take (xs : List (Fin (m + 1))) (c i : Nat) (h : i < xs.length) : van (xs.take i) c ++ [oF (powl xs[i] 1 c)] = van (xs.take (i + 1)) c := by
  simp only [van]
  rw [List.take_succ_eq_append_getElem h, List.map_append]; rfl
theorem rvan_ev (hs : Sup (m + 1)) (xs : List (Fin (m + 1))) (c : Nat) (hl : xs.length ≤ 1000) (hc : c ≤ 1000) : Ev (fun k => privityref05_Vandermonde.f k ((m + 1 : Nat) : Int) (oF xs) (c : Int)) (van xs c) := by
  have inner : ∀ i (hi : i < xs.length) M r, Ev (fun k => privityref05_Vandermonde.l0 k ((m + 1 : Nat) : Int) (oF xs) (c : Int) (M ++ [oF (powl xs[i] 1 c)]) ((i + 1 : Nat) : Int)) r → M.length ≤ 1000 →
      ∀ d j, j + d = c → ∀ (pre : List (Fin (m + 1))) q, pre.length = j → pre ++ powl xs[i] q d = powl xs[i] 1 c → Ev (fun k => privityref05_Vandermonde.l1 k ((m + 1 : Nat) : Int) (oF xs) (c : Int) M (i : Int) (oF pre) ((q.val : Nat) : Int) (j : Int)) r := by
    intro i hi M r hr hM d
    induction d with
    | zero =>
      intro j hj pre q hp he
      refine Ev.step (fun k => ?_) hr
      simp only [privityref05_Vandermonde.l1]
      rw [if_neg (by omega), if_pos (by omega), wrapS i (by omega), ← he]
      simp [powl]
    | succ d ih =>
      intro j hj pre q hp he
      refine Ev.step (fun k => ?_) (ih (j + 1) (by omega) (pre ++ [q]) (q * xs[i]) (by simp [hp]) (by rw [← he]; simp [powl]))
      simp only [privityref05_Vandermonde.l1]
      unfold privityref01_Mul.f
      rw [if_pos (by omega), if_pos (by rw [len_oF]; omega), if_pos (by omega), if_pos (by rw [len_oF]; omega), rd_oF hi, fMul_eq hs]; simp only [Option.bind_some]
      rw [wrapS j (by omega), oF_append]; rfl
  have outer : ∀ d i, i + d = xs.length → Ev (fun k => privityref05_Vandermonde.l0 k ((m + 1 : Nat) : Int) (oF xs) (c : Int) (van (xs.take i) c) (i : Int)) (van xs c) := by
    intro d
    induction d with
    | zero =>
      intro i hi
      refine Ev.step (f := fun _ => some (van xs c)) (fun k => ?_) (Ev.now _)
      simp only [privityref05_Vandermonde.l0]
      rw [if_neg (by rw [len_oF]; omega), List.take_of_length_le (by omega)]
    | succ d ih =>
      intro i hi
      have hlt : i < xs.length := by omega
      have h := ih (i + 1) (by omega)
      rw [← van_take xs c i hlt] at h
      refine Ev.step (fun k => ?_) (inner i hlt _ _ h (by simp [van]; omega) c 0 (by omega) [] 1 rfl rfl)
      simp only [privityref05_Vandermonde.l0]
      rw [if_pos (by rw [len_oF]; omega), hs.one_val]; rfl
  exact outer xs.length 0 (by omega)
theorem ivan_ev (hs : Sup (m + 1)) (xs : List (Fin (m + 1))) (C : Int) (c : Nat) (hC : C.toNat = c) (hl : xs.length ≤ 1000) (hc : c ≤ 1000) : Ev (fun k => interpolate_Vandermonde.f k ((m + 1 : Nat) : Int) (oF xs) C) (van xs c) := by
  have inner : ∀ i (hi : i < xs.length) M r, Ev (fun k => interpolate_Vandermonde.l0 k ((m + 1 : Nat) : Int) C (M ++ [oF (powl xs[i] 1 c)]) (oF xs) (xs.length : Int) ((i + 1 : Nat) : Int)) r → M.length ≤ 1000 →
      ∀ d j, j + d = c → ∀ (pre : List (Fin (m + 1))) q, pre.length = j → pre ++ powl xs[i] q d = powl xs[i] 1 c → Ev (fun k => interpolate_Vandermonde.l1 k ((m + 1 : Nat) : Int) C M ((xs[i].val : Nat) : Int) (oF pre) ((q.val : Nat) : Int) (oF xs) (xs.length : Int) (i : Int)) r := by
    intro i hi M r hr hM d
    induction d with
    | zero =>
      intro j hj pre q hp he
      refine Ev.step (fun k => ?_) hr
      simp only [interpolate_Vandermonde.l1]
      rw [if_neg (by rw [len_oF]; omega), if_pos (by omega), wrapS i (by omega), ← he]
      simp [powl]
    | succ d ih =>
      intro j hj pre q hp he
      refine Ev.step (fun k => ?_) (ih (j + 1) (by omega) (pre ++ [q]) (q * xs[i]) (by simp [hp]) (by rw [← he]; simp [powl]))
      simp only [interpolate_Vandermonde.l1]
      unfold field_Mul.f
      rw [if_pos (by rw [len_oF]; omega), if_pos (by rw [len_oF]; omega), fMul_eq hs]; simp only [Option.bind_some]
      rw [oF_append]; rfl
  have outer : ∀ d i, i + d = xs.length → Ev (fun k => interpolate_Vandermonde.l0 k ((m + 1 : Nat) : Int) C (van (xs.take i) c) (oF xs) (xs.length : Int) (i : Int)) (van xs c) := by
    intro d
    induction d with
    | zero =>
      intro i hi
      refine Ev.step (f := fun _ => some (van xs c)) (fun k => ?_) (Ev.now _)
      simp only [interpolate_Vandermonde.l0]
      rw [if_neg (by omega), List.take_of_length_le (by omega)]
    | succ d ih =>
      intro i hi
      have hlt : i < xs.length := by omega
      have h := ih (i + 1) (by omega)
      rw [← van_take xs c i hlt] at h
      refine Ev.step (fun k => ?_) (inner i hlt _ _ h (by simp [van]; omega) c 0 (by omega) [] 1 rfl rfl)
      simp only [interpolate_Vandermonde.l0]
      rw [if_pos (by omega), if_pos (by omega), if_pos (by rw [len_oF]; omega), rd_oF hlt, hs.one_val]; rfl
  refine Ev.congr (fun k => ?_) (outer xs.length 0 (by omega))
  unfold interpolate_Vandermonde.f
  rw [len_oF]; rfl
theorem rows_ev (M : List (List Int)) (hl : M.length ≤ 1000) (hr : ∀ r ∈ M, r.length ≤ 1000) : Ev (fun k => privityref05_SameRows.f k M M) true := by
  have key : ∀ d i, i + d = M.length → Ev (fun k => privityref05_SameRows.l0 k M M (i : Int)) true := by
    intro d
    induction d with
    | zero =>
      intro i hi
      exact Ev.step (f := fun _ => some true) (fun k => by simp only [privityref05_SameRows.l0]; rw [if_neg (by omega)]) (Ev.now _)
    | succ d ih =>
      intro i hi
      have hlt : i < M.length := by omega
      have hrd : rd_L2 M (i : Int) = M[i] := by simp [rd_L2, hlt]
      refine Ev.step (f := fun k => (privityref05_Same.f k M[i] M[i]).bind fun t => if t = true then privityref05_SameRows.l0 k M M ((i + 1 : Nat) : Int) else some false) (fun k => ?_) (Ev.bind (same_ev M[i] (by have := hr _ (List.getElem_mem hlt); omega)) ?_)
      · simp only [privityref05_SameRows.l0]
        rw [if_pos (by omega), if_pos (by omega), if_pos (by omega), hrd, wrapS i (by omega)]
      · simp only [if_true]; exact ih (i + 1) (by omega)
  refine Ev.congr (fun k => ?_) (key M.length 0 (by omega))
  unfold privityref05_SameRows.f
  rw [if_pos rfl]; rfl
theorem prod_ev (hs : Sup (m + 1)) (xs f : List (Fin (m + 1))) (hl : xs.length ≤ 12) (hf : f.length ≤ 12) :
    ∀ d i, i + d = xs.length → Ev (fun k => privitylaw05_InterpolateVandermondeEvaluates.l0 k ((m + 1 : Nat) : Int) (oF xs) (oF f) (van xs f.length) (i : Int)) true := by
  have inner : ∀ i (hi : i < xs.length), Ev (fun k => privitylaw05_InterpolateVandermondeEvaluates.l0 k ((m + 1 : Nat) : Int) (oF xs) (oF f) (van xs f.length) ((i + 1 : Nat) : Int)) true →
      ∀ d j, j + d = f.length → ∀ s q : Fin (m + 1), (powl xs[i] 1 f.length).drop j = powl xs[i] q d → s + q * ev (f.drop j) xs[i] = ev f xs[i] →
      Ev (fun k => privitylaw05_InterpolateVandermondeEvaluates.l1 k ((m + 1 : Nat) : Int) (oF xs) (oF f) (van xs f.length) (i : Int) ((s.val : Nat) : Int) (j : Int)) true := by
    intro i hi hr d
    induction d with
    | zero =>
      intro j hj s q hp he
      rw [List.drop_of_length_le (by omega), ev_nil, show s + q * 0 = s by grind] at he
      refine Ev.step (f := fun k => (poly_Eval.f k ((m + 1 : Nat) : Int) (oF f) ((xs[i].val : Nat) : Int)).bind fun t => if ((s.val : Nat) : Int) = t then privitylaw05_InterpolateVandermondeEvaluates.l0 k ((m + 1 : Nat) : Int) (oF xs) (oF f) (van xs f.length) ((i + 1 : Nat) : Int) else some false) (fun k => ?_) (Ev.bind (peval_ev hs f xs[i] (by omega)) ?_)
      · simp only [privitylaw05_InterpolateVandermondeEvaluates.l1]
        rw [if_neg (by rw [len_oF]; omega), if_pos (by omega), if_pos (by rw [len_oF]; omega), rd_oF hi, wrapS i (by omega)]
      · simp only [he, if_true]; exact hr
    | succ d ih =>
      intro j hj s q hp he
      have hlt : j < f.length := by omega
      have hlp : j < (powl xs[i] 1 f.length).length := by rw [powl_length]; exact hlt
      rw [List.drop_eq_getElem_cons hlp, powl] at hp
      obtain ⟨h1, h2⟩ := List.cons.inj hp
      rw [List.drop_eq_getElem_cons hlt, ev_cons] at he
      have hrd : rd_L2 (van xs f.length) (i : Int) = oF (powl xs[i] 1 f.length) := by simp [rd_L2, van, hi]
      refine Ev.step (fun k => ?_) (ih (j + 1) (by omega) (s + q * f[j]) (q * xs[i]) h2 (by rw [← he]; grind))
      simp only [privitylaw05_InterpolateVandermondeEvaluates.l1]
      unfold field_Mul.f field_Add.f
      rw [hrd, if_pos (by rw [len_oF]; omega), if_pos (by omega), if_pos (by simp [van]; omega), if_pos (by omega), if_pos (by rw [len_oF]; omega), rd_oF hlp, rd_oF hlt, h1, fMul_eq hs]; simp only [Option.bind_some]
      rw [fAdd_eq hs]; simp only [Option.bind_some]
      rw [wrapS j (by omega)]
  intro d
  induction d with
  | zero =>
    intro i hi
    exact Ev.step (f := fun _ => some true) (fun k => by simp only [privitylaw05_InterpolateVandermondeEvaluates.l0]; rw [if_neg (by rw [len_oF]; omega)]) (Ev.now _)
  | succ d ih =>
    intro i hi
    have hlt : i < xs.length := by omega
    refine Ev.step (fun k => ?_) (inner i hlt (ih (i + 1) (by omega)) f.length 0 (by omega) 0 1 (List.drop_zero ..) (by rw [List.drop_zero]; grind))
    simp only [privitylaw05_InterpolateVandermondeEvaluates.l0]
    rw [if_pos (by rw [len_oF]; omega), zero_val]; rfl
theorem all_inr {p : Int} {l : List Int} (hw : ∀ x ∈ l, (Lit.int .u64 x).wf = true) (hb : (l.all fun x => decide (x < p)) = true) : l.all (inr p) = true := by
  rw [List.all_eq_true] at hb ⊢
  intro x hx
  have h1 := wf_u64 (hw x hx)
  have h2 := of_decide_eq_true (hb x hx)
  simp only [inr, Bool.and_eq_true, decide_eq_true_eq]
  exact ⟨h1, h2⟩
theorem InterpolateVandermondeEvaluates : privitylaw05_InterpolateVandermondeEvaluates.Pure := by
  intro a0 l1 l2 hw0 hm1 hm18 hw1 hm2 hm28 hw2
  refine Ev.rounds ?_
  unfold privitylaw05_InterpolateVandermondeEvaluates.f
  refine Ev.bind awake_ev ?_
  simp only [if_true]
  refine Ev.bind (supported_ev a0) ?_
  have hj0 : Ev (fun k => privitylaw05_InterpolateVandermondeEvaluates.j0 k a0 l1 l2 true) true := Ev.step (f := fun _ => some true) (fun k => by simp only [privitylaw05_InterpolateVandermondeEvaluates.j0]; rw [if_pos trivial]) (Ev.now _)
  by_cases hok : okp a0 = true
  case neg => rw [Bool.not_eq_true] at hok; rw [hok]; exact hj0
  rw [hok]
  simp only [if_true]
  by_cases hlen : (l1.length : Int) > 12
  · simp only [if_pos hlen]; exact hj0
  simp only [if_neg hlen]
  by_cases hlen2 : (l2.length : Int) > 12
  · simp only [if_pos hlen2]; exact hj0
  simp only [if_neg hlen2]
  refine Ev.bind (below_ev a0 l1 (by omega)) ?_
  by_cases hb : (l1.all fun x => decide (x < a0)) = true
  case neg => rw [Bool.not_eq_true] at hb; rw [hb]; exact hj0
  rw [hb]
  simp only [if_true]
  refine Ev.bind (below_ev a0 l2 (by omega)) ?_
  by_cases hb2 : (l2.all fun x => decide (x < a0)) = true
  case neg => rw [Bool.not_eq_true] at hb2; rw [hb2]; exact hj0
  rw [hb2]
  obtain ⟨m, rfl, hs⟩ := okp_sup hok
  obtain ⟨xs, rfl⟩ := all_oF (all_inr hw1 hb)
  obtain ⟨f, rfl⟩ := all_oF (all_inr hw2 hb2)
  rw [len_oF] at hlen hlen2
  refine Ev.step (f := fun k => (interpolate_Vandermonde.f k ((m + 1 : Nat) : Int) (oF xs) (f.length : Int)).bind fun a => (privityref05_Vandermonde.f k ((m + 1 : Nat) : Int) (oF xs) (f.length : Int)).bind fun b => (privityref05_SameRows.f k a b).bind fun t => if t = true then (interpolate_Vandermonde.f k ((m + 1 : Nat) : Int) (oF xs) (-1)).bind fun c => privitylaw05_InterpolateVandermondeEvaluates.j1 k ((m + 1 : Nat) : Int) (oF xs) (oF f) a ((c.length : Int) != (xs.length : Int)) else privitylaw05_InterpolateVandermondeEvaluates.j1 k ((m + 1 : Nat) : Int) (oF xs) (oF f) a true) (fun k => ?_) ?_
  · simp only [privitylaw05_InterpolateVandermondeEvaluates.j0]
    rw [if_neg (by simp), len_oF, len_oF]
  refine Ev.bind (ivan_ev hs xs (f.length : Int) f.length (by omega) (by omega) (by omega)) ?_
  refine Ev.bind (rvan_ev hs xs f.length (by omega) (by omega)) ?_
  refine Ev.bind (rows_ev _ (by simp [van]; omega) ?_) ?_
  · intro r hr
    obtain ⟨x, _, rfl⟩ := List.mem_map.1 hr
    rw [len_oF, powl_length]; omega
  simp only [if_true]
  refine Ev.bind (ivan_ev hs xs (-1) 0 (by omega) (by omega) (by omega)) ?_
  refine Ev.step (fun k => ?_) (prod_ev hs xs f (by omega) (by omega) xs.length 0 (by omega))
  simp only [privitylaw05_InterpolateVandermondeEvaluates.j1]
  rw [if_neg (by simp [van])]; rfl
end Go.Proofs.Ytcagegpgalambaa.Pure
