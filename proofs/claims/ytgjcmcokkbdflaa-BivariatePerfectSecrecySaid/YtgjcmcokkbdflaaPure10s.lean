/-
A part of this claim's proof (Pure10s): lemmas that the text of the law stands on.
-/
import Derived.Test.YtgjcmcokkbdflaaPureA
import Derived.Test.YtgjcmcokkbdflaaF25
set_option linter.unusedVariables false
set_option linter.unusedSimpArgs false
namespace Go.Proofs.Ytgjcmcokkbdflaa.Pure
open Go.RowKit Go.Proofs.Ytgjcmcokkbdflaa Go.Proofs.Ytgjcmcokkbdflaa.F Go.Proofs.YtgjcmcokkbdflaaW.PrintWords Go.Proofs.YtgjcmcokkbdflaaW.PrintLast
variable {m : Nat}
theorem secrecy (hs : Sup (m + 1)) (M : List (List (Fin (m + 1)))) (xs : List (Fin (m + 1))) (d : Fin (m + 1)) (x : Int) (h : FCase M xs) (hv : Ev (fun k => privitylaw10_validTranslation.f k ((m + 1 : Nat) : Int) (M.map oF) (oF xs) ((d.val : Nat) : Int) x) true) :
    Ev (fun k => privitylaw10_BivariatePerfectSecrecy.f k ((m + 1 : Nat) : Int) (M.map oF) (oF xs) ((d.val : Nat) : Int) x) true := by
  have h6 := h.six
  have hp := h.pos
  have hlen := h.len
  obtain ⟨z1, z2, z3⟩ := van_facts hs xs h.ne
  generalize hz : vanL xs = z at *
  have hrv := rvan_ev hs xs (by omega)
  rw [hz] at hrv
  have htl := tr_len M d z
  have htr := tr_rows M d z
  have hts : ∀ i j, i < M.length → j < M.length → fe (tr M d z) i j = fe (tr M d z) j i := fun i j hi hj => by
    rw [fe_tr hi hj, fe_tr hj hi]
    unfold trE
    rw [h.sym i j hi hj]
    grind
  have hsym : Ev (fun k => bivariate_IsSymmetric.f k ((tr M d z).map oF)) true := by
    refine psym_ev _ (by simp [htl]; omega) (fun r hr => ?_) (by simp [htl]; omega) fun i j h1 h2 => ?_
    · obtain ⟨q, hq, rfl⟩ := List.mem_map.1 hr
      rw [len_oF, List.length_map, htr q hq]
    · rw [List.length_map, htl] at h2
      rw [ent_oFF, ent_oFF, hts i j h2 (by omega)]
  have hback := btr_ev hs (tr M d z) (-d) z (by omega) htr (by omega)
  rw [back_tr M d z h.sq] at hback
  have key : ∀ e i, i + e = xs.length → Ev (fun k => privitylaw10_BivariatePerfectSecrecy.l0 k (oF z) ((tr M d z).map oF) (i : Int) ((m + 1 : Nat) : Int) (M.map oF) (oF xs) ((d.val : Nat) : Int) x) true := by
    intro e
    induction e with
    | zero =>
      intro i hi
      refine Ev.step (f := fun k => ((some (((-d).val : Nat) : Int)).bind fun t370 => ((bivariate_Translate.f k ((m + 1 : Nat) : Int) ((tr M d z).map oF) t370 (oF z)).bind fun t371 => ((privitylaw10_awake.f k).bind fun t374 => (if t374 = true then ((bivariate_Eval.f k ((m + 1 : Nat) : Int) ((tr M d z).map oF) 0 0).bind fun t375 => ((bivariate_Eval.f k ((m + 1 : Nat) : Int) (M.map oF) 0 0).bind fun t376 => ((field_Add.f ((m + 1 : Nat) : Int) t376 ((d.val : Nat) : Int)).bind fun t377 => (if t375 = t377 then ((privityref06_Same.f k t371 (M.map oF)).bind fun t378 => (some t378)) else (some false))))) else (some false)))))) (fun k => ?_) ?_
      · simp only [privitylaw10_BivariatePerfectSecrecy.l0]
        unfold field_Neg.f
        rw [if_neg (by rw [len_oF]; omega), fNeg_eq hs]
      · refine Ev.bind (Ev.now _) (Ev.bind hback (Ev.bind awake10_ev ?_))
        simp only [if_true]
        refine Ev.bind (zeros hs _ (by omega) (by omega) htr) (Ev.bind (zeros hs M (by omega) hp h.sq) ?_)
        unfold field_Add.f
        rw [fAdd_eq hs]; simp only [Option.bind_some]
        have e1 : fe (tr M d z) 0 0 = fe M 0 0 + d := by
          rw [fe_tr hp hp]
          unfold trE
          rw [z2]; grind
        rw [e1]
        simp only [if_true]
        exact Ev.bind (same_oFF M M (by omega) h.sq rfl) (Ev.now _)
    | succ e ih =>
      intro i hi
      have hlt : i < xs.length := by omega
      have hw := sl_ev (oF (rowAt (tr M d z) xs[i])) (oF (rowAt M xs[i])) (by rw [len_oF, rowAt_len]; omega)
      rw [decide_eq_true (by rw [rowAt_tr M d xs[i] z h.sq (by omega) (z3 _ (List.getElem_mem hlt))])] at hw
      refine Ev.step (f := fun k => (bivariate_Row.f k ((m + 1 : Nat) : Int) ((tr M d z).map oF) ((xs[i].val : Nat) : Int)).bind fun t362 => (bivariate_Row.f k ((m + 1 : Nat) : Int) (M.map oF) ((xs[i].val : Nat) : Int)).bind fun t366 => (privityref06_SameList.f k t362 t366).bind fun t369 => if t369 = true then privitylaw10_BivariatePerfectSecrecy.l0 k (oF z) ((tr M d z).map oF) ((i + 1 : Nat) : Int) ((m + 1 : Nat) : Int) (M.map oF) (oF xs) ((d.val : Nat) : Int) x else some false) (fun k => ?_) (Ev.bind (browAt_ev hs _ xs[i] (by omega) htr) (Ev.bind (browAt_ev hs M xs[i] (by omega) h.sq) (Ev.bind hw ?_)))
      · simp only [privitylaw10_BivariatePerfectSecrecy.l0]
        rw [if_pos (by rw [len_oF]; omega), if_pos (by omega), rd_oF hlt, wrapS i (by omega)]
      · simp only [if_true]; exact ih (i + 1) (by omega)
  unfold privitylaw10_BivariatePerfectSecrecy.f
  refine Ev.bind hv ?_
  simp only [if_true]
  refine Ev.bind hrv (Ev.bind (btr_ev hs M d z (by omega) h.sq (by omega)) (Ev.bind (rtr_ev hs M d z (by omega) h.sq (by omega)) (Ev.bind (same_oFF _ _ (by omega) htr rfl) ?_)))
  simp only [if_true]
  refine Ev.bind hsym ?_
  refine Ev.step (fun k => ?_) (key xs.length 0 (by omega))
  simp only [privitylaw10_BivariatePerfectSecrecy.j0]
  rw [if_neg (by simp)]; rfl
theorem BivariatePerfectSecrecy : ∀ (p : Int) (M : List (List Int)) (xs : List Int) (d x : Int), (Lit.int .u64 p).wf = true → okUU M → okU xs → (Lit.int .u64 d).wf = true → (Lit.int .u64 x).wf = true → ∃ k, privitylaw10_BivariatePerfectSecrecy.f k p M xs d x = some true := by
  intro p M xs d x _ hM hxs hd _
  refine Ev.rounds ?_
  obtain ⟨b, h1, h2⟩ := vt_ev p M xs d x
  cases b with
  | false =>
    unfold privitylaw10_BivariatePerfectSecrecy.f
    exact Ev.bind h1 (Ev.bind awake10_ev (Ev.now _))
  | true =>
    obtain ⟨m, Q, ys, e, rfl, hs, rfl, rfl, rfl, hF⟩ := (h2 rfl).field (okUU_pos hM) (fun x hx => wf_u64 (hxs.2 x hx)) (wf_u64 hd)
    exact secrecy hs Q ys e x hF h1
end Go.Proofs.Ytgjcmcokkbdflaa.Pure
