/-
A part of this claim's proof (Pure10u): lemmas that the text of the law stands on.
-/
import Derived.Test.YtgjcmcokkbdflaaPureA
import Derived.Test.YtgjcmcokkbdflaaF27
set_option linter.unusedVariables false
set_option linter.unusedSimpArgs false
namespace Go.Proofs.Ytgjcmcokkbdflaa.Pure
open Go.RowKit Go.Proofs.Ytgjcmcokkbdflaa Go.Proofs.Ytgjcmcokkbdflaa.F Go.Proofs.YtgjcmcokkbdflaaW.PrintWords Go.Proofs.YtgjcmcokkbdflaaW.PrintLast
variable {m : Nat}
theorem only (hs : Sup (m + 1)) (M N : List (List (Fin (m + 1)))) (xs : List (Fin (m + 1))) (d x : Int) (h : FCase M xs) (hN : N.length = M.length) (hNr : ∀ r ∈ N, r.length = N.length) (hNs : ∀ i j, i < N.length → j < N.length → fe N i j = fe N j i) :
    Ev (fun k => privitylaw10_BivariateUniqueTranslation.l0 k (N.map oF) 0 ((m + 1 : Nat) : Int) (M.map oF) (oF xs) d x) true := by
  have h6 := h.six
  have hp := h.pos
  have hlen := h.len
  obtain ⟨z1, z2, z3⟩ := van_facts hs xs h.ne
  generalize hz : vanL xs = z at *
  have hrv := rvan_ev hs xs (by omega)
  rw [hz] at hrv
  have key : ∀ e i, i + e = xs.length → (∀ x ∈ xs.take i, rowAt N x = rowAt M x) → Ev (fun k => privitylaw10_BivariateUniqueTranslation.l0 k (N.map oF) (i : Int) ((m + 1 : Nat) : Int) (M.map oF) (oF xs) d x) true := by
    intro e
    induction e with
    | zero =>
      intro i hi hrow
      rw [List.take_of_length_le (by omega)] at hrow
      have hu := unique_tr hs h hN hNr hNs (by omega) z2 z3 hrow
      refine Ev.step (f := fun k => ((bivariate_Eval.f k ((m + 1 : Nat) : Int) (N.map oF) 0 0).bind fun t394 => ((bivariate_Eval.f k ((m + 1 : Nat) : Int) (M.map oF) 0 0).bind fun t395 => ((field_Sub.f ((m + 1 : Nat) : Int) t394 t395).bind fun t396 => ((privitylaw10_awake.f k).bind fun t397 => (if t397 = true then ((privityref10_Vanish.f k ((m + 1 : Nat) : Int) (oF xs)).bind fun t398 => ((bivariate_Translate.f k ((m + 1 : Nat) : Int) (M.map oF) t396 t398).bind fun t401 => ((privityref06_Same.f k t401 (N.map oF)).bind fun t404 => (some t404)))) else (some false))))))) (fun k => ?_) ?_
      · simp only [privitylaw10_BivariateUniqueTranslation.l0]
        rw [if_neg (by rw [len_oF]; omega)]
      · refine Ev.bind (zeros hs N (by omega) (by omega) hNr) (Ev.bind (zeros hs M (by omega) hp h.sq) ?_)
        unfold field_Sub.f
        rw [fSub_eq hs]; simp only [Option.bind_some]
        refine Ev.bind awake10_ev ?_
        simp only [if_true]
        exact Ev.bind hrv (Ev.bind (btr_ev hs M _ z (by omega) h.sq (by omega)) (Ev.bind (same_oFF _ N (by rw [tr_len]; omega) (tr_rows _ _ _) hu) (Ev.now _)))
    | succ e ih =>
      intro i hi hrow
      have hlt : i < xs.length := by omega
      have hw := sl_ev (oF (rowAt N xs[i])) (oF (rowAt M xs[i])) (by rw [len_oF, rowAt_len]; omega)
      refine Ev.step (f := fun k => (bivariate_Row.f k ((m + 1 : Nat) : Int) (N.map oF) ((xs[i].val : Nat) : Int)).bind fun t385 => (bivariate_Row.f k ((m + 1 : Nat) : Int) (M.map oF) ((xs[i].val : Nat) : Int)).bind fun t389 => (privityref06_SameList.f k t385 t389).bind fun t392 => if t392 = true then privitylaw10_BivariateUniqueTranslation.l0 k (N.map oF) ((i + 1 : Nat) : Int) ((m + 1 : Nat) : Int) (M.map oF) (oF xs) d x else (privitylaw10_awake.f k).bind fun t393 => some t393) (fun k => ?_) (Ev.bind (browAt_ev hs N xs[i] (by omega) hNr) (Ev.bind (browAt_ev hs M xs[i] (by omega) h.sq) (Ev.bind hw ?_)))
      · simp only [privitylaw10_BivariateUniqueTranslation.l0]
        rw [if_pos (by rw [len_oF]; omega), if_pos (by omega), rd_oF hlt, wrapS i (by omega)]
      · by_cases he : rowAt N xs[i] = rowAt M xs[i]
        · rw [decide_eq_true (by rw [he])]
          simp only [if_true]
          refine ih (i + 1) (by omega) fun y hy => ?_
          rw [List.take_succ_eq_append_getElem hlt, List.mem_append, List.mem_singleton] at hy
          rcases hy with h3 | rfl
          · exact hrow y h3
          · exact he
        · rw [decide_eq_false (fun e => he (oF_inj e))]
          exact Ev.bind awake10_ev (Ev.now _)
  exact key xs.length 0 (by omega) (by simp)
theorem BivariateUniqueTranslation : ∀ (p : Int) (M : List (List Int)) (xs : List Int) (d x : Int) (N : List (List Int)), (Lit.int .u64 p).wf = true → okUU M → okU xs → (Lit.int .u64 d).wf = true → (Lit.int .u64 x).wf = true → okUU N → ∃ k, privitylaw10_BivariateUniqueTranslation.f k p M xs d x N = some true := by
  intro p M xs d x N _ hM hxs hd _ hN
  refine Ev.rounds ?_
  have hj : Ev (fun k => privitylaw10_BivariateUniqueTranslation.j0 k N true p M xs d x) true := Ev.step (f := fun k => (privitylaw10_awake.f k).bind fun t => some t) (fun k => by simp only [privitylaw10_BivariateUniqueTranslation.j0]; rw [if_pos trivial]) (Ev.bind awake10_ev (Ev.now _))
  unfold privitylaw10_BivariateUniqueTranslation.f
  obtain ⟨b, h1, h2⟩ := vt_ev p M xs d x
  cases b with
  | false => exact Ev.bind h1 hj
  | true =>
  have hC := h2 rfl
  refine Ev.bind h1 ?_
  simp only [if_true]
  obtain ⟨b, h3, h4⟩ := fair10_ev p N
  refine Ev.bind h3 ?_
  cases b with
  | false => exact hj
  | true =>
  obtain ⟨a1, a2, a3, a4, a5⟩ := h4 rfl
  simp only [if_true]
  by_cases hl : (N.length : Int) = (M.length : Int)
  case neg => exact Ev.congr (fun k => by rw [if_neg hl]) hj
  obtain ⟨b, h5, h6⟩ := rsym_ev N (by omega) a5 a4
  refine Ev.congr (f := fun k => (privityref10_IsSymmetric.f k N).bind fun t382 => privitylaw10_BivariateUniqueTranslation.j0 k N (!t382) p M xs d x) (fun k => by rw [if_pos hl]) (Ev.bind h5 ?_)
  cases b with
  | false => exact hj
  | true =>
  refine Ev.step (f := fun k => privitylaw10_BivariateUniqueTranslation.l0 k N 0 p M xs d x) (fun k => by simp only [privitylaw10_BivariateUniqueTranslation.j0]; rw [if_neg (by simp)]) ?_
  obtain ⟨m, Q, ys, e, rfl, hs, rfl, rfl, rfl, hF⟩ := hC.field (okUU_pos hM) (fun x hx => wf_u64 (hxs.2 x hx)) (wf_u64 hd)
  obtain ⟨R, rfl⟩ := all_oFF (m := m) fun r hr x hx => ⟨okUU_pos hN r hr x hx, a3 r hr x hx⟩
  rw [List.length_map, List.length_map] at hl
  exact only hs Q R ys _ x hF (by omega) (fun r hr => by
    have := a5 (oF r) (List.mem_map.2 ⟨r, hr, rfl⟩)
    rw [len_oF, List.length_map] at this
    exact this) (fsym (h6 rfl))
end Go.Proofs.Ytgjcmcokkbdflaa.Pure
