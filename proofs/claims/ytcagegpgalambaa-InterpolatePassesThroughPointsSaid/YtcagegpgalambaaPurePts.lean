import Derived.Test.YtcagegpgalambaaPureEval
import Derived.Test.YtcagegpgalambaaF9
set_option linter.unusedVariables false
set_option linter.unusedSimpArgs false
namespace Go.Proofs.Ytcagegpgalambaa.Pure
open Go.RowKit Go.Proofs.Ytcagegpgalambaa Go.Proofs.Ytcagegpgalambaa.F Go.Proofs.YtcagegpgalambaaW.PrintWords Go.Proofs.YtcagegpgalambaaW.PrintLast
variable {m : Nat}
/-! ### sums and multiples of polynomials, in the reference -/
theorem coef_eq (a : List (Fin (m + 1))) (i : Nat) : privityref04_Coefficient.f (oF a) (i : Int) = some (((co a i).val : Nat) : Int) := by
  unfold privityref04_Coefficient.f
  rw [if_neg (by omega), len_oF]
  by_cases h : i < a.length
  · rw [if_neg (by omega), if_pos (by omega), if_pos (by omega), rd_oF h, co_getElem h]
  · rw [if_pos (by omega), co_of_length_le (by omega), zero_val]; rfl
theorem add_ev (hs : Sup (m + 1)) (a b : List (Fin (m + 1))) (ha : a.length ≤ 1000) (hb : b.length ≤ 1000) : Ev (fun k => privityref04_Add.f k ((m + 1 : Nat) : Int) (oF a) (oF b)) (oF (ptrim (padd a b))) := by
  have key : ∀ d i, i + d = max a.length b.length → Ev (fun k => privityref04_Add.l0 k ((m + 1 : Nat) : Int) (oF a) (oF b) (oF ((List.range i).map fun j => co a j + co b j)) (i : Int)) (oF (ptrim (padd a b))) := by
    intro d
    induction d with
    | zero =>
      intro i hi
      have hsame : ptrim ((List.range i).map fun j => co a j + co b j) = ptrim (padd a b) := by
        refine ptrim_congr fun n => ?_
        rw [co_padd]
        by_cases hn : n < i
        · rw [co_getElem (by simpa using hn)]; simp
        · rw [co_of_length_le (by simp; omega), co_of_length_le (show a.length ≤ n by omega), co_of_length_le (show b.length ≤ n by omega)]; grind
      refine Ev.step (f := fun k => privityref04_Add.j1 k ((m + 1 : Nat) : Int) (oF a) (oF b) (oF ((List.range i).map fun j => co a j + co b j)) (i : Int) false) (fun k => ?_) ?_
      · simp only [privityref04_Add.l0]
        rw [if_neg (by rw [len_oF]; omega), decide_eq_false (by rw [len_oF]; omega)]
      · refine Ev.step (f := fun _ => some (oF (ptrim (padd a b)))) (fun k => ?_) (Ev.now _)
        simp only [privityref04_Add.j1]
        rw [if_neg (by simp), trim_eq _ (by simp; omega), hsame]; rfl
    | succ d ih =>
      intro i hi
      have h := ih (i + 1) (by omega)
      have hj : Ev (fun k => privityref04_Add.j1 k ((m + 1 : Nat) : Int) (oF a) (oF b) (oF ((List.range i).map fun j => co a j + co b j)) (i : Int) true) (oF (ptrim (padd a b))) := by
        refine Ev.step (fun k => ?_) h
        simp only [privityref04_Add.j1]
        rw [if_pos trivial, coef_eq, coef_eq]; simp only [Option.bind_some]
        unfold privityref01_Add.f
        rw [fAdd_eq hs]; simp only [Option.bind_some]
        rw [if_pos (by rw [len_oF]; simp; omega), wrapS i (by omega), List.range_succ, List.map_append, oF_append]; rfl
      by_cases h1 : i < a.length
      · refine Ev.step (fun k => ?_) hj
        simp only [privityref04_Add.l0]
        rw [if_pos (by rw [len_oF]; omega)]
      · refine Ev.step (fun k => ?_) hj
        simp only [privityref04_Add.l0]
        rw [if_neg (by rw [len_oF]; omega), decide_eq_true (by rw [len_oF]; omega)]
  exact key (max a.length b.length) 0 (by omega)
theorem scale_ev (hs : Sup (m + 1)) (c : Fin (m + 1)) (f : List (Fin (m + 1))) (hl : f.length ≤ 1000) : Ev (fun k => privityref04_Scale.f k ((m + 1 : Nat) : Int) ((c.val : Nat) : Int) (oF f)) (oF (ptrim (pscale c f))) := by
  have key : ∀ d i, i + d = f.length → Ev (fun k => privityref04_Scale.l0 k ((m + 1 : Nat) : Int) ((c.val : Nat) : Int) (oF f) (oF (pscale c (f.take i))) (i : Int)) (oF (ptrim (pscale c f))) := by
    intro d
    induction d with
    | zero =>
      intro i hi
      refine Ev.step (f := fun _ => some (oF (ptrim (pscale c f)))) (fun k => ?_) (Ev.now _)
      simp only [privityref04_Scale.l0]
      rw [if_neg (by rw [len_oF]; omega), List.take_of_length_le (by omega), trim_eq _ (by rw [length_pscale]; omega)]; rfl
    | succ d ih =>
      intro i hi
      have hlt : i < f.length := by omega
      refine Ev.step (fun k => ?_) (ih (i + 1) (by omega))
      simp only [privityref04_Scale.l0]
      unfold privityref01_Mul.f
      rw [if_pos (by rw [len_oF]; omega), if_pos (by omega), rd_oF hlt, fMul_eq hs]; simp only [Option.bind_some]
      rw [if_pos (by rw [len_oF, length_pscale, List.length_take]; omega), wrapS i (by omega), List.take_succ_eq_append_getElem hlt]
      unfold pscale
      rw [List.map_append, oF_append]; rfl
  exact key f.length 0 (by omega)
/-! ### points -/
def toS (pts : List (Fin (m + 1) × Fin (m + 1))) : List S38 := pts.map fun q => ⟨((q.1.val : Nat) : Int), ((q.2.val : Nat) : Int)⟩
theorem toS_len (pts : List (Fin (m + 1) × Fin (m + 1))) : (toS pts).length = pts.length := by simp [toS]
theorem toS_oP (pts : List (Fin (m + 1) × Fin (m + 1))) : ((toS pts).map fun s => (s.f0, s.f1)) = oP pts := by simp [toS, oP]
theorem rd_toS {pts : List (Fin (m + 1) × Fin (m + 1))} {i : Nat} (h : i < pts.length) : rd_T38 (toS pts) (i : Int) = ⟨((pts[i].1.val : Nat) : Int), ((pts[i].2.val : Nat) : Int)⟩ := by simp [rd_T38, toS, h]
theorem rdT_at {l : List S38} {i : Nat} (h : i < l.length) : rd_T38 l (i : Int) = l[i] := by simp [rd_T38, h]
theorem points_ev (p : Int) (l : List S38) (hl : l.length ≤ 1000000000) : Ev (fun k => privityref05_Points.f k p l) (l.all fun x => decide (x.f0 < p) && decide (x.f1 < p)) := by
  have key : ∀ d i, i + d = l.length → Ev (fun k => privityref05_Points.l0 k p l (i : Int)) ((l.drop i).all fun x => decide (x.f0 < p) && decide (x.f1 < p)) := by
    intro d
    induction d with
    | zero =>
      intro i hi
      rw [List.drop_of_length_le (by omega)]
      exact Ev.step (f := fun _ => some true) (fun k => by simp only [privityref05_Points.l0]; rw [if_neg (by omega)]) (Ev.now _)
    | succ d ih =>
      intro i hi
      have hlt : i < l.length := by omega
      rw [List.drop_eq_getElem_cons hlt, List.all_cons]
      by_cases h : l[i].f0 < p
      · by_cases h2 : l[i].f1 < p
        · rw [decide_eq_true h, decide_eq_true h2, Bool.and_self, Bool.true_and]
          refine Ev.step (f := fun k => privityref05_Points.l0 k p l ((i + 1 : Nat) : Int)) (fun k => ?_) (ih (i + 1) (by omega))
          simp only [privityref05_Points.l0]
          rw [if_pos (by omega), if_pos (by omega), rdT_at hlt, if_neg (by omega), if_neg (by omega), wrapS i (by omega)]
        · rw [decide_eq_true h, decide_eq_false h2, Bool.and_false, Bool.false_and]
          refine Ev.step (f := fun _ => some false) (fun k => ?_) (Ev.now _)
          simp only [privityref05_Points.l0]
          rw [if_pos (by omega), if_pos (by omega), rdT_at hlt, if_neg (by omega), if_pos (by omega)]
      · rw [decide_eq_false h, Bool.false_and, Bool.false_and]
        refine Ev.step (f := fun _ => some false) (fun k => ?_) (Ev.now _)
        simp only [privityref05_Points.l0]
        rw [if_pos (by omega), if_pos (by omega), rdT_at hlt, if_pos (by omega)]
  exact key l.length 0 (by omega)
theorem places_ev (pts : List (Fin (m + 1) × Fin (m + 1))) (hl : pts.length ≤ 1000) : Ev (fun k => privityref05_Places.f k (toS pts)) (oF (pts.map (·.1))) := by
  have key : ∀ d i, i + d = pts.length → Ev (fun k => privityref05_Places.l0 k (toS pts) (oF ((pts.take i).map (·.1))) (i : Int)) (oF (pts.map (·.1))) := by
    intro d
    induction d with
    | zero =>
      intro i hi
      refine Ev.step (f := fun _ => some (oF (pts.map (·.1)))) (fun k => ?_) (Ev.now _)
      simp only [privityref05_Places.l0]
      rw [if_neg (by rw [toS_len]; omega), List.take_of_length_le (by omega)]
    | succ d ih =>
      intro i hi
      have hlt : i < pts.length := by omega
      refine Ev.step (fun k => ?_) (ih (i + 1) (by omega))
      simp only [privityref05_Places.l0]
      rw [if_pos (by rw [toS_len]; omega), if_pos (by omega), if_pos (by rw [len_oF]; simp; omega), rd_toS hlt, wrapS i (by omega), List.take_succ_eq_append_getElem hlt, List.map_append, oF_append]; rfl
  exact key pts.length 0 (by omega)
theorem rpoly_ev (hs : Sup (m + 1)) (pts : List (Fin (m + 1) × Fin (m + 1))) (hl : pts.length ≤ 12) :
    Ev (fun k => privityref05_Polynomial.f k ((m + 1 : Nat) : Int) (toS pts)) (if (pts.map (·.1)).Nodup then (oF (lagP pts), 0) else ([], 1)) := by
  have hxl : (pts.map (·.1)).length = pts.length := by simp
  unfold privityref05_Polynomial.f
  refine Ev.bind (places_ev pts (by omega)) ?_
  refine Ev.bind (unlike_ev (pts.map (·.1)) (by omega)) ?_
  by_cases hn : (pts.map (·.1)).Nodup
  case neg => rw [decide_eq_false hn, if_neg hn]; exact Ev.now _
  rw [decide_eq_true hn, if_pos hn]
  simp only [if_true]
  have key : ∀ d i, i + d = pts.length → ∀ f, Part pts i f → Ev (fun k => privityref05_Polynomial.l0 k ((m + 1 : Nat) : Int) (toS pts) (oF (pts.map (·.1))) (oF f) (i : Int)) (oF (lagP pts), (0 : Int)) := by
    intro d
    induction d with
    | zero =>
      intro i hi f hf
      obtain rfl : i = pts.length := by omega
      have he : f = lagP pts := Interp.unique hs.dom hn hf.interp (lagP_interp hs pts hn)
      subst he
      refine Ev.step (f := fun _ => some (oF (lagP pts), (0 : Int))) (fun k => ?_) (Ev.now _)
      simp only [privityref05_Polynomial.l0]
      rw [if_neg (by rw [toS_len]; omega)]
    | succ d ih =>
      intro i hi f hf
      have hlt : i < pts.length := by omega
      have hlt2 : i < (pts.map (·.1)).length := by omega
      obtain ⟨g, hg, hbe⟩ := base_ev hs (pts.map (·.1)) hn (by omega) i hlt2
      have hsc := scale_ev hs pts[i].2 g (by have := hg.len; omega)
      have hgl : (ptrim (pscale pts[i].2 g)).length ≤ pts.length := by
        refine Nat.le_trans (ptrim_length_le _) ?_
        rw [length_pscale]
        have h := hg.small
        rw [List.take_length, List.length_eraseIdx, if_pos hlt2] at h
        omega
      have hpart : Part pts (i + 1) (ptrim (padd f (ptrim (pscale pts[i].2 g)))) := by
        have hne := over_evp hs hn hlt
        refine Part.step hs hn hlt (c := pts[i].2 * finv (evp pts[i].1 ((pts.map (·.1)).eraseIdx i))) hf (fun z => ?_) hgl ?_
        · have h1 := hg.ev z
          rw [List.take_length, List.getElem_map] at h1
          rw [(ptrim_same _).ev, ev_pscale]
          have h2 := hs.inv hne
          grind
        · have h2 := hs.inv hne
          grind
      have hadd := add_ev hs f (ptrim (pscale pts[i].2 g)) (by have := hf.len; omega) (by omega)
      refine Ev.step (f := fun k => (privityref05_base.f k ((m + 1 : Nat) : Int) (oF (pts.map (·.1))) (i : Int)).bind fun a => (privityref04_Scale.f k ((m + 1 : Nat) : Int) ((pts[i].2.val : Nat) : Int) a).bind fun b => (privityref04_Add.f k ((m + 1 : Nat) : Int) (oF f) b).bind fun c => privityref05_Polynomial.l0 k ((m + 1 : Nat) : Int) (toS pts) (oF (pts.map (·.1))) c ((i + 1 : Nat) : Int)) (fun k => ?_) (Ev.bind hbe (Ev.bind hsc (Ev.bind hadd (ih (i + 1) (by omega) _ hpart))))
      simp only [privityref05_Polynomial.l0]
      rw [if_pos (by rw [toS_len]; omega), if_pos (by omega), rd_toS hlt, wrapS i (by omega)]
  exact key pts.length 0 (by omega) [] (Part.zero pts)
theorem through_ev (hs : Sup (m + 1)) (pts : List (Fin (m + 1) × Fin (m + 1))) (f : List (Fin (m + 1))) (hl : pts.length ≤ 12) (hf : f.length ≤ 1000) (c : Int) (hv : c = 0 → ∀ q ∈ pts, ev f q.1 = q.2) :
    Ev (fun k => privitylaw05_InterpolatePassesThroughPoints.l0 k ((m + 1 : Nat) : Int) (toS pts) (oF f) c 0) true := by
  have key : ∀ d i, i + d = pts.length → Ev (fun k => privitylaw05_InterpolatePassesThroughPoints.l0 k ((m + 1 : Nat) : Int) (toS pts) (oF f) c (i : Int)) true := by
    intro d
    have hfalse : ∀ i : Nat, Ev (fun k => privitylaw05_InterpolatePassesThroughPoints.j3 k ((m + 1 : Nat) : Int) (toS pts) (oF f) c (i : Int) false) true := fun i => Ev.step (f := fun _ => some true) (fun k => by simp only [privitylaw05_InterpolatePassesThroughPoints.j3]; rw [if_neg (by simp)]) (Ev.now _)
    induction d with
    | zero =>
      intro i hi
      refine Ev.step (fun k => ?_) (hfalse i)
      simp only [privitylaw05_InterpolatePassesThroughPoints.l0]
      rw [if_neg (by rw [toS_len]; omega)]
    | succ d ih =>
      intro i hi
      have hlt : i < pts.length := by omega
      by_cases hc : c = 0
      · refine Ev.step (f := fun k => privitylaw05_InterpolatePassesThroughPoints.j3 k ((m + 1 : Nat) : Int) (toS pts) (oF f) c (i : Int) true) (fun k => ?_) ?_
        · simp only [privitylaw05_InterpolatePassesThroughPoints.l0]
          rw [if_pos (by rw [toS_len]; omega), show (c == 0) = true by simpa using hc]
        · refine Ev.step (f := fun k => (poly_Eval.f k ((m + 1 : Nat) : Int) (oF f) ((pts[i].1.val : Nat) : Int)).bind fun t => if t = ((pts[i].2.val : Nat) : Int) then privitylaw05_InterpolatePassesThroughPoints.l0 k ((m + 1 : Nat) : Int) (toS pts) (oF f) c ((i + 1 : Nat) : Int) else some false) (fun k => ?_) (Ev.bind (peval_ev hs f pts[i].1 (by omega)) ?_)
          · simp only [privitylaw05_InterpolatePassesThroughPoints.j3]
            rw [if_pos trivial, if_pos (by omega), if_pos (by rw [toS_len]; omega), rd_toS hlt, wrapS i (by omega)]
          · rw [hv hc pts[i] (List.getElem_mem hlt)]
            simp only [if_true]
            exact ih (i + 1) (by omega)
      · refine Ev.step (fun k => ?_) (hfalse i)
        simp only [privitylaw05_InterpolatePassesThroughPoints.l0]
        rw [if_pos (by rw [toS_len]; omega), show (c == 0) = false by simpa using hc]
  exact key pts.length 0 (by omega)
theorem all_toS {m : Nat} {l : List S38} (hw : ∀ x ∈ l, (Lit.int .u64 x.f0).wf = true ∧ (Lit.int .u64 x.f1).wf = true) (hb : (l.all fun x => decide (x.f0 < ((m + 1 : Nat) : Int)) && decide (x.f1 < ((m + 1 : Nat) : Int))) = true) : ∃ pts : List (Fin (m + 1) × Fin (m + 1)), l = toS pts := by
  induction l with
  | nil => exact ⟨[], rfl⟩
  | cons a l ih =>
    rw [List.all_cons, Bool.and_eq_true, Bool.and_eq_true, decide_eq_true_eq, decide_eq_true_eq] at hb
    obtain ⟨⟨h0, h1⟩, h2⟩ := hb
    obtain ⟨w0, w1⟩ := hw a (List.mem_cons_self ..)
    obtain ⟨x, hx⟩ := inr_fin (m := m) (a := a.f0) (by have := wf_u64 w0; simp only [inr, Bool.and_eq_true, decide_eq_true_eq]; omega)
    obtain ⟨y, hy⟩ := inr_fin (m := m) (a := a.f1) (by have := wf_u64 w1; simp only [inr, Bool.and_eq_true, decide_eq_true_eq]; omega)
    obtain ⟨pts, rfl⟩ := ih (fun z hz => hw z (List.mem_cons_of_mem _ hz)) h2
    exact ⟨(x, y) :: pts, by obtain ⟨a1, a2⟩ := a; simp only at hx hy; subst hx hy; rfl⟩
theorem InterpolatePassesThroughPoints : ∀ (a0 : Int) (l1 : List S38), (Lit.int .u64 a0).wf = true → (l1.length ≤ maxLen ∧ ∀ x ∈ l1, (Lit.int .u64 x.f0).wf = true ∧ (Lit.int .u64 x.f1).wf = true) → ∃ k, privitylaw05_InterpolatePassesThroughPoints.f k a0 l1 = some true := by
  intro a0 l1 hw0 ⟨_, hw1⟩
  refine Ev.rounds ?_
  unfold privitylaw05_InterpolatePassesThroughPoints.f
  refine Ev.bind awake_ev ?_
  simp only [if_true]
  refine Ev.bind (supported_ev a0) ?_
  have hj0 : Ev (fun k => privitylaw05_InterpolatePassesThroughPoints.j0 k a0 l1 true) true := Ev.step (f := fun _ => some true) (fun k => by simp only [privitylaw05_InterpolatePassesThroughPoints.j0]; rw [if_pos trivial]) (Ev.now _)
  by_cases hok : okp a0 = true
  case neg => rw [Bool.not_eq_true] at hok; rw [hok]; exact hj0
  rw [hok]
  simp only [if_true]
  by_cases hlen : (l1.length : Int) > 12
  · simp only [if_pos hlen]; exact hj0
  simp only [if_neg hlen]
  refine Ev.bind (points_ev a0 l1 (by omega)) ?_
  by_cases hb : (l1.all fun x => decide (x.f0 < a0) && decide (x.f1 < a0)) = true
  case neg => rw [Bool.not_eq_true] at hb; rw [hb]; exact hj0
  rw [hb]
  obtain ⟨m, rfl, hs⟩ := okp_sup hok
  obtain ⟨pts, rfl⟩ := all_toS hw1 hb
  rw [toS_len] at hlen
  have hl : pts.length ≤ 12 := by omega
  have hpoly : interpolate_Polynomial.f ((m + 1 : Nat) : Int) (toS pts) = some (if (pts.map (·.1)).Nodup then (oF (lagP pts), 0) else ([], 1)) := by
    unfold interpolate_Polynomial.f
    rw [toS_oP, polyI_eq hs pts hl]; split <;> rfl
  refine Ev.step (f := fun k => (privityref05_Polynomial.f k ((m + 1 : Nat) : Int) (toS pts)).bind fun b => if (if (pts.map (·.1)).Nodup then (oF (lagP pts), (0 : Int)) else ([], 1)).2 = b.2 then (privityref05_Same.f k (if (pts.map (·.1)).Nodup then (oF (lagP pts), (0 : Int)) else ([], 1)).1 b.1).bind fun t => privitylaw05_InterpolatePassesThroughPoints.j1 k ((m + 1 : Nat) : Int) (toS pts) (if (pts.map (·.1)).Nodup then (oF (lagP pts), (0 : Int)) else ([], 1)).1 (if (pts.map (·.1)).Nodup then (oF (lagP pts), (0 : Int)) else ([], 1)).2 (!t) else privitylaw05_InterpolatePassesThroughPoints.j1 k ((m + 1 : Nat) : Int) (toS pts) (if (pts.map (·.1)).Nodup then (oF (lagP pts), (0 : Int)) else ([], 1)).1 (if (pts.map (·.1)).Nodup then (oF (lagP pts), (0 : Int)) else ([], 1)).2 true) (fun k => ?_) (Ev.bind (rpoly_ev hs pts hl) ?_)
  · simp only [privitylaw05_InterpolatePassesThroughPoints.j0]
    rw [if_neg (by simp), hpoly, Option.bind_some]
  · have hi := fun hn => lagP_interp hs pts hn
    simp only [if_true]
    refine Ev.bind (same_ev _ ?_) ?_
    · split
      · rename_i hn; rw [len_oF]; have := (hi hn).len; omega
      · simp
    refine Ev.step (f := fun k => privitylaw05_InterpolatePassesThroughPoints.l0 k ((m + 1 : Nat) : Int) (toS pts) (if (pts.map (·.1)).Nodup then (oF (lagP pts), (0 : Int)) else ([], 1)).1 (if (pts.map (·.1)).Nodup then (oF (lagP pts), (0 : Int)) else ([], 1)).2 0) (fun k => ?_) ?_
    · simp only [privitylaw05_InterpolatePassesThroughPoints.j1]
      rw [if_neg (by simp)]
    · by_cases hn : (pts.map (·.1)).Nodup
      · simp only [if_pos hn]
        exact through_ev hs pts (lagP pts) hl (by have := (hi hn).len; omega) 0 (fun _ => (hi hn).val)
      · simp only [if_neg hn]
        exact through_ev hs pts [] hl (by simp) 1 (fun h => absurd h (by decide))
end Go.Proofs.Ytcagegpgalambaa.Pure
