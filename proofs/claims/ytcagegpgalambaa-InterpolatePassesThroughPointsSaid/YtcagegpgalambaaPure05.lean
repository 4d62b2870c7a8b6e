import Derived.Test.YtcagegpgalambaaPures
import Derived.Test.YtcagegpgalambaaF6
set_option linter.unusedVariables false
set_option linter.unusedSimpArgs false
namespace Go.Proofs.Ytcagegpgalambaa.Pure
open Go.RowKit Go.Proofs.Ytcagegpgalambaa Go.Proofs.Ytcagegpgalambaa.F Go.Proofs.YtcagegpgalambaaW.PrintWords Go.Proofs.YtcagegpgalambaaW.PrintLast
/-! ### the short ones -/
theorem exponent_step (a : Int) (n : Nat) (l : List Int) (i i' : Nat) (x v : Int) (h : l[i]? = some x) (hi' : i + 1 = i') (hi : i ≤ 100) (h0 : 0 ≤ IntKind.u64.wrap x) (hv : IntKind.u64.wrap ((shl .u64 1 (IntKind.u64.wrap x)) - 1) = v) :
    privityref01_Exponent.l0 (n + 1) a l (i : Int) = if a = v then some x else privityref01_Exponent.l0 n a l (i' : Int) := by
  obtain ⟨hl, rfl⟩ := List.getElem?_eq_some_iff.1 h
  subst hi' hv
  simp only [privityref01_Exponent.l0]
  rw [if_pos (by omega), if_pos (by omega), rd_at hl, if_pos h0, wrapS i (by omega)]
set_option maxRecDepth 10000 in
theorem supported_ev (a : Int) : Ev (fun k => privityref01_Supported.f k a) (okp a) := by
  refine ⟨8, fun k hk => ?_⟩
  obtain ⟨n, rfl⟩ : ∃ n, k = n + 8 := ⟨k - 8, by omega⟩
  unfold privityref01_Supported.f privityref01_Exponent.f privityref01_exps.f
  simp only [Option.bind_some]
  have e0 := exponent_step a (n + 7) [5, 7, 13, 17, 19, 31, 61] 0 1 5 31 rfl rfl (by decide) (by decide +kernel) (by decide +kernel)
  have e1 := exponent_step a (n + 6) [5, 7, 13, 17, 19, 31, 61] 1 2 7 127 rfl rfl (by decide) (by decide +kernel) (by decide +kernel)
  have e2 := exponent_step a (n + 5) [5, 7, 13, 17, 19, 31, 61] 2 3 13 8191 rfl rfl (by decide) (by decide +kernel) (by decide +kernel)
  have e3 := exponent_step a (n + 4) [5, 7, 13, 17, 19, 31, 61] 3 4 17 131071 rfl rfl (by decide) (by decide +kernel) (by decide +kernel)
  have e4 := exponent_step a (n + 3) [5, 7, 13, 17, 19, 31, 61] 4 5 19 524287 rfl rfl (by decide) (by decide +kernel) (by decide +kernel)
  have e5 := exponent_step a (n + 2) [5, 7, 13, 17, 19, 31, 61] 5 6 31 2147483647 rfl rfl (by decide) (by decide +kernel) (by decide +kernel)
  have e6 := exponent_step a (n + 1) [5, 7, 13, 17, 19, 31, 61] 6 7 61 2305843009213693951 rfl rfl (by decide) (by decide +kernel) (by decide +kernel)
  have e7 : privityref01_Exponent.l0 (n + 1) a [5, 7, 13, 17, 19, 31, 61] ((7 : Nat) : Int) = some 0 := by
    simp only [privityref01_Exponent.l0]; rw [if_neg (by decide)]
  have e : privityref01_Exponent.l0 (n + 8) a [5, 7, 13, 17, 19, 31, 61] 0 = _ := e0
  rw [e, e1, e2, e3, e4, e5, e6, e7]
  unfold okp
  by_cases c0 : a = 31
  · subst c0; decide
  rw [if_neg c0]
  by_cases c1 : a = 127
  · subst c1; decide
  rw [if_neg c1]
  by_cases c2 : a = 8191
  · subst c2; decide
  rw [if_neg c2]
  by_cases c3 : a = 131071
  · subst c3; decide
  rw [if_neg c3]
  by_cases c4 : a = 524287
  · subst c4; decide
  rw [if_neg c4]
  by_cases c5 : a = 2147483647
  · subst c5; decide
  rw [if_neg c5]
  by_cases c6 : a = 2305843009213693951
  · subst c6; decide
  rw [if_neg c6]
  simp [c0, c1, c2, c3, c4, c5, c6]
theorem below_ev (p : Int) (l : List Int) (hl : l.length ≤ 1000000000) : Ev (fun k => privityref05_Below.f k p l) (l.all fun x => decide (x < p)) := by
  have key : ∀ d i, i + d = l.length → Ev (fun k => privityref05_Below.l0 k p l (i : Int)) ((l.drop i).all fun x => decide (x < p)) := by
    intro d
    induction d with
    | zero =>
      intro i hi
      rw [List.drop_of_length_le (by omega)]
      exact Ev.step (f := fun _ => some true) (fun k => by simp only [privityref05_Below.l0]; rw [if_neg (by omega)]) (Ev.now _)
    | succ d ih =>
      intro i hi
      have hlt : i < l.length := by omega
      rw [List.drop_eq_getElem_cons hlt, List.all_cons]
      by_cases h : l[i] < p
      · rw [decide_eq_true h, Bool.true_and]
        refine Ev.step (f := fun k => privityref05_Below.l0 k p l ((i + 1 : Nat) : Int)) (fun k => ?_) (ih (i + 1) (by omega))
        simp only [privityref05_Below.l0]
        rw [if_pos (by omega), if_pos (by omega), rd_at hlt, if_neg (by omega), wrapS i (by omega)]
      · rw [decide_eq_false h, Bool.false_and]
        refine Ev.step (f := fun _ => some false) (fun k => ?_) (Ev.now _)
        simp only [privityref05_Below.l0]
        rw [if_pos (by omega), if_pos (by omega), rd_at hlt, if_pos (by omega)]
  exact key l.length 0 (by omega)
theorem same_ev (l : List Int) (hl : l.length ≤ 1000000000) : Ev (fun k => privityref05_Same.f k l l) true := by
  have key : ∀ d i, i + d = l.length → Ev (fun k => privityref05_Same.l0 k l l (i : Int)) true := by
    intro d
    induction d with
    | zero =>
      intro i hi
      exact Ev.step (f := fun _ => some true) (fun k => by simp only [privityref05_Same.l0]; rw [if_neg (by omega)]) (Ev.now _)
    | succ d ih =>
      intro i hi
      refine Ev.step (f := fun k => privityref05_Same.l0 k l l ((i + 1 : Nat) : Int)) (fun k => ?_) (ih (i + 1) (by omega))
      simp only [privityref05_Same.l0]
      rw [if_pos (by omega), if_pos (by omega), if_pos (by omega), if_pos trivial, wrapS i (by omega)]
  refine Ev.congr (fun k => ?_) (key l.length 0 (by omega))
  unfold privityref05_Same.f
  rw [if_pos rfl]; rfl
set_option maxRecDepth 10000 in
theorem awake_ev : Ev (fun k => privitylaw05_awake.f k) true := Ev.of (fun k => privitylaw05_awake.mono k) (k := 40) (by decide +kernel)
/-! ### the weights sum to 1 -/
theorem wf_u64 {x : Int} (h : (Lit.int .u64 x).wf = true) : 0 ≤ x := by
  have := h
  have e : IntKind.u64.min = 0 := by decide
  simp [Lit.wf, e] at this
  omega
theorem sum_ev {m : Nat} (hs : Sup (m + 1)) (l1 : List Int) (W : List (Fin (m + 1))) (hl : W.length ≤ 12) (c : Int) :
    ∀ s : Fin (m + 1), Ev (fun k => privitylaw05_InterpolateWeightsSumToOne.l0 k ((m + 1 : Nat) : Int) l1 (oF W) c ((s.val : Nat) : Int) 0) (if c = 0 then (if (l1.length : Int) = 0 then true else ((((W.foldl (fun a b => a + b) s).val : Nat) : Int) == 1)) else true) := by
  have key : ∀ d i, i + d = W.length → ∀ s : Fin (m + 1), Ev (fun k => privitylaw05_InterpolateWeightsSumToOne.l0 k ((m + 1 : Nat) : Int) l1 (oF W) c ((s.val : Nat) : Int) (i : Int)) (if c = 0 then (if (l1.length : Int) = 0 then true else (((((W.drop i).foldl (fun a b => a + b) s).val : Nat) : Int) == 1)) else true) := by
    intro d
    induction d with
    | zero =>
      intro i hi s
      rw [List.drop_of_length_le (by omega), List.foldl_nil]
      refine Ev.step (f := fun _ => some (if c = 0 then (if (l1.length : Int) = 0 then true else (((s.val : Nat) : Int) == 1)) else true)) (fun k => ?_) (Ev.now _)
      simp only [privitylaw05_InterpolateWeightsSumToOne.l0]
      rw [if_neg (by rw [len_oF]; omega)]
      split
      · split <;> rfl
      · rfl
    | succ d ih =>
      intro i hi s
      have hlt : i < W.length := by omega
      rw [List.drop_eq_getElem_cons hlt, List.foldl_cons]
      refine Ev.step (fun k => ?_) (ih (i + 1) (by omega) (s + W[i]))
      simp only [privitylaw05_InterpolateWeightsSumToOne.l0]
      rw [if_pos (by rw [len_oF]; omega), if_pos (by omega), rd_oF hlt]
      unfold field_Add.f
      rw [fAdd_eq hs, Option.bind_some, wrapS i (by omega)]
  intro s
  exact key W.length 0 (by omega) s
theorem InterpolateWeightsSumToOne : privitylaw05_InterpolateWeightsSumToOne.Pure := by
  intro a0 l1 a2 hw0 hm hm8 hw1 hw2
  refine Ev.rounds ?_
  unfold privitylaw05_InterpolateWeightsSumToOne.f
  refine Ev.bind awake_ev ?_
  simp only [if_true]
  refine Ev.bind (supported_ev a0) ?_
  have hj0 : Ev (fun k => privitylaw05_InterpolateWeightsSumToOne.j0 k a0 l1 a2 true) true := Ev.step (f := fun _ => some true) (fun k => by simp only [privitylaw05_InterpolateWeightsSumToOne.j0]; rw [if_pos trivial]) (Ev.now _)
  by_cases hok : okp a0 = true
  · rw [hok]
    simp only [if_true]
    by_cases hlen : (l1.length : Int) > 12
    · simp only [if_pos hlen]; exact hj0
    · simp only [if_neg hlen]
      refine Ev.bind (below_ev a0 l1 (by omega)) ?_
      by_cases hb : (l1.all fun x => decide (x < a0)) = true
      · rw [hb]
        simp only [if_true]
        by_cases ha : a2 ≥ a0
        · rw [decide_eq_true ha]; exact hj0
        · rw [decide_eq_false ha]
          obtain ⟨m, rfl, hs⟩ := okp_sup hok
          have hall : l1.all (inr ((m + 1 : Nat) : Int)) = true := by
            rw [List.all_eq_true] at hb ⊢
            intro x hx
            have h1 := wf_u64 (hw1 x hx)
            have h2 := of_decide_eq_true (hb x hx)
            simp only [inr, Bool.and_eq_true, decide_eq_true_eq]
            exact ⟨h1, h2⟩
          obtain ⟨xs, rfl⟩ := all_oF hall
          obtain ⟨z, rfl⟩ := inr_fin (m := m) (a := a2) (by have := wf_u64 hw2; simp only [inr, Bool.and_eq_true, decide_eq_true_eq]; omega)
          rw [len_oF] at hlen
          have hl : xs.length ≤ 12 := by omega
          have hw := weights_ev hs xs z hl
          have hlag : interpolate_LagrangeWeights.f ((m + 1 : Nat) : Int) (oF xs) ((z.val : Nat) : Int) = some (if xs.Nodup then (oF (lagW xs z), 0) else ([], 1)) := by
            unfold interpolate_LagrangeWeights.f
            rw [lagI_eq hs xs z hl]; split <;> rfl
          have hj1 : Ev (fun k => privitylaw05_InterpolateWeightsSumToOne.j1 k ((m + 1 : Nat) : Int) (oF xs) (if xs.Nodup then (oF (lagW xs z), (0 : Int)) else ([], 1)).1 (if xs.Nodup then (oF (lagW xs z), (0 : Int)) else ([], 1)).2 false) true := by
            refine Ev.step (f := fun k => privitylaw05_InterpolateWeightsSumToOne.l0 k ((m + 1 : Nat) : Int) (oF xs) (if xs.Nodup then (oF (lagW xs z), (0 : Int)) else ([], 1)).1 (if xs.Nodup then (oF (lagW xs z), (0 : Int)) else ([], 1)).2 0 0) (fun k => ?_) ?_
            · simp only [privitylaw05_InterpolateWeightsSumToOne.j1]
              rw [if_neg (by simp)]
            · by_cases hn : xs.Nodup
              · simp only [if_pos hn]
                have h := sum_ev hs (oF xs) (lagW xs z) (by simp [lagW]; omega) 0 0
                rw [if_pos rfl] at h
                by_cases hne : xs = []
                · subst hne; exact h
                · have h1 := lagW_sum hs xs z hn hne
                  rw [if_neg (by rw [len_oF]; have := List.length_pos_iff.2 hne; omega), h1, hs.one_val] at h
                  exact h
              · simp only [if_neg hn]
                have h := sum_ev hs (oF xs) ([] : List (Fin (m + 1))) (by simp) 1 0
                rw [if_neg (by decide)] at h
                exact h
          refine Ev.step (f := fun k => (privityref05_LagrangeWeights.f k ((m + 1 : Nat) : Int) (oF xs) ((z.val : Nat) : Int)).bind fun b => if (if xs.Nodup then (oF (lagW xs z), (0 : Int)) else ([], 1)).2 = b.2 then (privityref05_Same.f k (if xs.Nodup then (oF (lagW xs z), (0 : Int)) else ([], 1)).1 b.1).bind fun t => privitylaw05_InterpolateWeightsSumToOne.j1 k ((m + 1 : Nat) : Int) (oF xs) (if xs.Nodup then (oF (lagW xs z), (0 : Int)) else ([], 1)).1 (if xs.Nodup then (oF (lagW xs z), (0 : Int)) else ([], 1)).2 (!t) else privitylaw05_InterpolateWeightsSumToOne.j1 k ((m + 1 : Nat) : Int) (oF xs) (if xs.Nodup then (oF (lagW xs z), (0 : Int)) else ([], 1)).1 (if xs.Nodup then (oF (lagW xs z), (0 : Int)) else ([], 1)).2 true) (fun k => ?_) (Ev.bind hw ?_)
          · simp only [privitylaw05_InterpolateWeightsSumToOne.j0]
            rw [if_neg (by simp), hlag, Option.bind_some]
          · simp only [if_true]
            refine Ev.bind (same_ev _ ?_) hj1
            split
            · rw [len_oF]; simp [lagW]; omega
            · simp
      · rw [Bool.not_eq_true] at hb
        rw [hb]
        exact hj0
  · rw [Bool.not_eq_true] at hok
    rw [hok]
    exact hj0
end Go.Proofs.Ytcagegpgalambaa.Pure
