import Derived.Test.YtfddoegcbpinkaaPure43
import Derived.Test.YtfddoegcbpinkaaF7
import Derived.Test.YtfddoegcbpinkaaF6
import Derived.Test.YtfddoegcbpinkaaF8
import Derived.Test.YtfddoegcbpinkaaF6
set_option linter.unusedVariables false
set_option linter.unusedSimpArgs false
namespace Go.Proofs.Ytfddoegcbpinkaa.Pure
open Go.RowKit Go.Proofs.Ytfddoegcbpinkaa Go.Proofs.Ytfddoegcbpinkaa.F Go.Proofs.YtfddoegcbpinkaaW.PrintWords Go.Proofs.YtfddoegcbpinkaaW.PrintLast
variable {m : Nat}
/-! ### equality of lists of words -/
theorem words_ev (a b : List Int) (hl : a.length ≤ 1000000) : Ev (fun k => privityref14_Words.f k a b) (decide (a = b)) := by
  unfold privityref14_Words.f
  by_cases he : a.length = b.length
  case neg =>
    rw [decide_eq_false (fun h => he (by rw [h]))]
    refine Ev.congr (f := fun _ => some false) (fun k => ?_) (Ev.now _)
    rw [if_neg (by omega)]
  have key : ∀ d i, i + d = a.length → Ev (fun k => privityref14_Words.l0 k a b (i : Int)) (decide (a.drop i = b.drop i)) := by
    intro d
    induction d with
    | zero =>
      intro i hi
      rw [List.drop_of_length_le (by omega), List.drop_of_length_le (by omega)]
      exact Ev.step (f := fun _ => some true) (fun k => by simp only [privityref14_Words.l0]; rw [if_neg (by omega)]) (Ev.now _)
    | succ d ih =>
      intro i hi
      have h1 : i < a.length := by omega
      have h2 : i < b.length := by omega
      rw [List.drop_eq_getElem_cons h1, List.drop_eq_getElem_cons h2]
      by_cases h : a[i] = b[i]
      · have e : (a[i] :: a.drop (i + 1) = b[i] :: b.drop (i + 1)) ↔ (a.drop (i + 1) = b.drop (i + 1)) := ⟨fun e => (List.cons.inj e).2, fun e => by rw [h, e]⟩
        rw [decide_eq_decide.2 e]
        refine Ev.step (fun k => ?_) (ih (i + 1) (by omega))
        simp only [privityref14_Words.l0]
        rw [if_pos (by omega), if_pos (by omega), if_pos (by omega), rd_at h1, rd_at h2, if_pos h, wrapS i (by omega)]
      · rw [decide_eq_false (fun e => h (List.cons.inj e).1)]
        refine Ev.step (f := fun _ => some false) (fun k => ?_) (Ev.now _)
        simp only [privityref14_Words.l0]
        rw [if_pos (by omega), if_pos (by omega), if_pos (by omega), rd_at h1, rd_at h2, if_neg h]
  refine Ev.congr (fun k => ?_) (key a.length 0 (by omega))
  rw [if_pos (by omega)]; rfl
theorem words_oF (a b : List (Fin (m + 1))) (hl : a.length ≤ 1000000) : Ev (fun k => privityref14_Words.f k (oF a) (oF b)) (decide (a = b)) := by
  have h := words_ev (oF a) (oF b) (by rw [len_oF]; exact hl)
  have e : (oF a = oF b) ↔ (a = b) := ⟨oF_inj, fun h => by rw [h]⟩
  rw [decide_eq_decide.2 e] at h
  exact h
/-! ### rows of a matrix at a point -/
theorem value_ev (hs : Sup (m + 1)) (f : List (Fin (m + 1))) (x : Fin (m + 1)) (hl : f.length ≤ 1000000000) : Ev (fun k => privityref10_Value.f k ((m + 1 : Nat) : Int) (oF f) ((x.val : Nat) : Int)) (((ev f x).val : Nat) : Int) := by
  have key : ∀ i, i ≤ f.length → ∀ e : Int, e = (i : Int) - 1 → Ev (fun k => privityref10_Value.l0 k ((m + 1 : Nat) : Int) (oF f) ((x.val : Nat) : Int) (((ev (f.drop i) x).val : Nat) : Int) e) (((ev f x).val : Nat) : Int) := by
    intro i
    induction i with
    | zero =>
      intro _ e he
      refine Ev.step (f := fun _ => some (((ev f x).val : Nat) : Int)) (fun k => ?_) (Ev.now _)
      simp only [privityref10_Value.l0]
      rw [if_neg (by omega), List.drop_zero]
    | succ i ih =>
      intro hi e he
      have hlt : i < f.length := by omega
      have h := ih (by omega) ((i : Int) - 1) rfl
      rw [List.drop_eq_getElem_cons hlt, ev_cons] at h
      rw [show e = (i : Int) by omega]
      refine Ev.step (fun k => ?_) h
      simp only [privityref10_Value.l0]
      unfold privityref01_Mul.f privityref01_Add.f
      rw [if_pos (by omega), fMul_eq hs]; simp only [Option.bind_some]
      rw [if_pos (by omega), if_pos (by rw [len_oF]; omega), rd_oF hlt, fAdd_eq hs]; simp only [Option.bind_some]
      rw [show ev (f.drop (i + 1)) x * x + f[i] = f[i] + x * ev (f.drop (i + 1)) x by grind, show wrap64 ((i : Int) - 1) = (i : Int) - 1 by unfold wrap64; omega]
  have h := key f.length (Nat.le_refl _) ((f.length : Int) - 1) rfl
  rw [List.drop_length] at h
  refine Ev.congr (fun k => ?_) h
  unfold privityref10_Value.f
  rw [len_oF, show wrap64 ((f.length : Int) - 1) = (f.length : Int) - 1 by unfold wrap64; omega, ev_nil, zero_val]; rfl
def rowAt (M : List (List (Fin (m + 1)))) (x : Fin (m + 1)) : List (Fin (m + 1)) := (List.range M.length).map fun j => ev (M.map fun r => co r j) x
theorem rdL_map {M : List (List (Fin (m + 1)))} {i : Nat} (h : i < M.length) : rd_L3 (M.map oF) (i : Int) = oF M[i] := by simp [rd_L3, h]
theorem row_ev (hs : Sup (m + 1)) (M : List (List (Fin (m + 1)))) (x : Fin (m + 1)) (hl : M.length ≤ 1000) (hr : ∀ r ∈ M, r.length = M.length) :
    Ev (fun k => privityref10_Row.f k ((m + 1 : Nat) : Int) (M.map oF) ((x.val : Nat) : Int)) (oF (rowAt M x)) := by
  have hml : (M.map oF).length = M.length := by simp
  have inner : ∀ j, j < M.length → ∀ X r, Ev (fun k => privityref10_Row.l0 k ((m + 1 : Nat) : Int) (M.map oF) ((x.val : Nat) : Int) (X ++ [(((ev (M.map fun r => co r j) x).val : Nat) : Int)]) ((j + 1 : Nat) : Int)) r → X.length ≤ 1000 →
      ∀ d i, i + d = M.length → Ev (fun k => privityref10_Row.l1 k ((m + 1 : Nat) : Int) (M.map oF) ((x.val : Nat) : Int) X (j : Int) (oF ((M.take i).map fun r => co r j)) (i : Int)) r := by
    intro j hj X r hr0 hX d
    induction d with
    | zero =>
      intro i hi
      have hv := value_ev hs (M.map fun r => co r j) x (by simp; omega)
      refine Ev.step (f := fun k => (privityref10_Value.f k ((m + 1 : Nat) : Int) (oF (M.map fun r => co r j)) ((x.val : Nat) : Int)).bind fun t => privityref10_Row.l0 k ((m + 1 : Nat) : Int) (M.map oF) ((x.val : Nat) : Int) (X ++ [t]) ((j + 1 : Nat) : Int)) (fun k => ?_) (Ev.bind hv hr0)
      simp only [privityref10_Row.l1]
      rw [if_neg (by omega), List.take_of_length_le (by omega)]
      simp only [if_pos (show X.length < 17592186044416 by omega), wrapS j (by omega)]
    | succ d ih =>
      intro i hi
      have hlt : i < M.length := by omega
      have hrl := hr M[i] (List.getElem_mem hlt)
      have hjr : j < M[i].length := by omega
      refine Ev.step (fun k => ?_) (ih (i + 1) (by omega))
      simp only [privityref10_Row.l1]
      rw [rdL_map hlt, if_pos (by omega), if_pos (by omega), if_pos (by omega), if_pos (by rw [len_oF]; omega), if_pos (by rw [len_oF]; simp; omega), rd_oF hjr, wrapS i (by omega), List.take_succ_eq_append_getElem hlt, List.map_append, oF_append, ← co_getElem hjr]; rfl
  have outer : ∀ d j, j + d = M.length → Ev (fun k => privityref10_Row.l0 k ((m + 1 : Nat) : Int) (M.map oF) ((x.val : Nat) : Int) (oF ((List.range j).map fun j => ev (M.map fun r => co r j) x)) (j : Int)) (oF (rowAt M x)) := by
    intro d
    induction d with
    | zero =>
      intro j hj
      refine Ev.step (f := fun _ => some (oF (rowAt M x))) (fun k => ?_) (Ev.now _)
      simp only [privityref10_Row.l0]
      rw [if_neg (by omega), show j = M.length by omega]; rfl
    | succ d ih =>
      intro j hj
      have hlt : j < M.length := by omega
      have h := ih (j + 1) (by omega)
      rw [List.range_succ, List.map_append, oF_append] at h
      refine Ev.step (fun k => ?_) (inner j hlt _ _ h (by rw [len_oF]; simp; omega) M.length 0 (by omega))
      simp only [privityref10_Row.l0]
      rw [if_pos (by omega)]; rfl
  exact outer M.length 0 (by omega)
/-! ### the words of a sharing -/
theorem tmod_fin {x : Int} (h : 0 ≤ x) : ∃ y : Fin (m + 1), Int.tmod x ((m + 1 : Nat) : Int) = ((y.val : Nat) : Int) := by
  refine inr_fin ?_
  rw [Int.tmod_eq_emod_of_nonneg h]
  simp only [inr, Bool.and_eq_true, decide_eq_true_eq]
  exact ⟨Int.emod_nonneg _ (by omega), Int.emod_lt_of_pos _ (by omega)⟩
theorem cut_ev (n t : Int) (bad : List Int) (da db : Int) (ws : List Int) (hw : ∀ x ∈ ws, 0 ≤ x) (a c : Nat) (hac : a + c ≤ 1000) :
    ∃ L : List (Fin (m + 1)), L.length = c ∧ Ev (fun k => privitylaw43_cut.f k ((m + 1 : Nat) : Int) n t bad da db ws (a : Int) (c : Int)) (oF L) := by
  have key : ∀ d i, i + d = a + c → ∀ L0 : List (Fin (m + 1)), L0.length ≤ i → ∃ L : List (Fin (m + 1)), L.length = L0.length + d ∧ Ev (fun k => privitylaw43_cut.l0 k (a : Int) (c : Int) (oF L0) (i : Int) ((m + 1 : Nat) : Int) n t bad da db ws) (oF L) := by
    intro d
    induction d with
    | zero =>
      intro i hi L0 h0
      refine ⟨L0, rfl, Ev.step (f := fun _ => some (oF L0)) (fun k => ?_) (Ev.now _)⟩
      simp only [privitylaw43_cut.l0]
      rw [if_neg (by unfold wrap64; omega)]
    | succ d ih =>
      intro i hi L0 h0
      by_cases hlt : i < ws.length
      · obtain ⟨y, hy⟩ := tmod_fin (m := m) (hw ws[i] (List.getElem_mem hlt))
        obtain ⟨L, h1, h2⟩ := ih (i + 1) (by omega) (L0 ++ [y]) (by simp; omega)
        refine ⟨L, by rw [h1]; simp; omega, Ev.step (fun k => ?_) h2⟩
        simp only [privitylaw43_cut.l0]
        rw [if_pos (by unfold wrap64; omega), if_pos (by omega), if_pos (by omega), if_neg (by omega), if_pos (by rw [len_oF]; omega), rd_at hlt, hy, wrapS i (by omega), oF_append]; rfl
      · obtain ⟨L, h1, h2⟩ := ih (i + 1) (by omega) (L0 ++ [0]) (by simp; omega)
        refine ⟨L, by rw [h1]; simp; omega, Ev.step (fun k => ?_) h2⟩
        simp only [privitylaw43_cut.l0]
        rw [if_pos (by unfold wrap64; omega), if_neg (by omega), if_pos (by rw [len_oF]; omega), wrapS i (by omega), oF_append]; rfl
  obtain ⟨L, h1, h2⟩ := key c a rfl [] (by simp)
  exact ⟨L, by simpa using h1, h2⟩
theorem one_ev1 (n : Int) (bad : List Int) (da db : Int) (ws : List Int) (hw : ∀ x ∈ ws, 0 ≤ x) :
    ∃ q0 q1 r0 : Fin (m + 1), Ev (fun k => privitylaw43_one.f k ((m + 1 : Nat) : Int) n 1 bad da db ws) (oF [q0, q1], oF [r0]) := by
  obtain ⟨L, h1, h2⟩ := cut_ev (m := m) n 1 bad da db ws hw 0 2 (by omega)
  obtain ⟨R, h3, h4⟩ := cut_ev (m := m) n 1 bad da db ws hw 2 1 (by omega)
  match L, h1, R, h3 with
  | [q0, q1], _, [r0], _ =>
    refine ⟨q0, q1, r0, ?_⟩
    unfold privitylaw43_one.f
    have e1 : wrap64 ((1 : Int) + 1) = 2 := by decide +kernel
    have e2 : wrap64 (Int.tdiv (wrap64 (1 * 2)) 2) = 1 := by decide +kernel
    simp only [e1, e2]
    exact Ev.bind h2 (Ev.bind h4 (Ev.now _))
theorem one_ev2 (n : Int) (bad : List Int) (da db : Int) (ws : List Int) (hw : ∀ x ∈ ws, 0 ≤ x) :
    ∃ q0 q1 q2 r0 r1 r2 : Fin (m + 1), Ev (fun k => privitylaw43_one.f k ((m + 1 : Nat) : Int) n 2 bad da db ws) (oF [q0, q1, q2], oF [r0, r1, r2]) := by
  obtain ⟨L, h1, h2⟩ := cut_ev (m := m) n 2 bad da db ws hw 0 3 (by omega)
  obtain ⟨R, h3, h4⟩ := cut_ev (m := m) n 2 bad da db ws hw 3 3 (by omega)
  match L, h1, R, h3 with
  | [q0, q1, q2], _, [r0, r1, r2], _ =>
    refine ⟨q0, q1, q2, r0, r1, r2, ?_⟩
    unfold privitylaw43_one.f
    have e1 : wrap64 ((2 : Int) + 1) = 3 := by decide +kernel
    have e2 : wrap64 (Int.tdiv (wrap64 (2 * 3)) 2) = 3 := by decide +kernel
    simp only [e1, e2]
    exact Ev.bind h2 (Ev.bind h4 (Ev.now _))
/-! ### a sharing, moved -/
theorem by_ev1 (hs : Sup (m + 1)) (t : Int) (z0 z1 d q0 q1 : Fin (m + 1)) : Ev (fun k => tapeshift_mover_by.f k ((m + 1 : Nat) : Int) t (oF [z0, z1]) ((d.val : Nat) : Int) (oF [q0, q1])) (oF [q0 + d * z0, q1 + d * z1]) := by
  have hM := fun x y : Fin (m + 1) => fMul_eq hs x y
  have hA := fun x y : Fin (m + 1) => fAdd_eq hs x y
  generalize ((m + 1 : Nat) : Int) = P at *
  refine ⟨10, fun k hk => ?_⟩
  obtain ⟨n, rfl⟩ : ∃ n, k = n + 10 := ⟨k - 10, by omega⟩
  simp [tapeshift_mover_by.f, tapeshift_mover_by.l0, slices_Clone_uint64_uint64.f, cloneI, oF, rd, field_Mul.f, field_Add.f, hM, hA, wrap64]
theorem by_ev2 (hs : Sup (m + 1)) (t : Int) (z0 z1 z2 d q0 q1 q2 : Fin (m + 1)) : Ev (fun k => tapeshift_mover_by.f k ((m + 1 : Nat) : Int) t (oF [z0, z1, z2]) ((d.val : Nat) : Int) (oF [q0, q1, q2])) (oF [q0 + d * z0, q1 + d * z1, q2 + d * z2]) := by
  have hM := fun x y : Fin (m + 1) => fMul_eq hs x y
  have hA := fun x y : Fin (m + 1) => fAdd_eq hs x y
  generalize ((m + 1 : Nat) : Int) = P at *
  refine ⟨10, fun k hk => ?_⟩
  obtain ⟨n, rfl⟩ : ∃ n, k = n + 10 := ⟨k - 10, by omega⟩
  simp [tapeshift_mover_by.f, tapeshift_mover_by.l0, slices_Clone_uint64_uint64.f, cloneI, oF, rd, field_Mul.f, field_Add.f, hM, hA, wrap64]
theorem rest_ev1 (hs : Sup (m + 1)) (z0 z1 d r0 : Fin (m + 1)) : Ev (fun k => tapeshift_mover_rest.f k ((m + 1 : Nat) : Int) 1 (oF [z0, z1]) ((d.val : Nat) : Int) (oF [r0])) (oF [r0 + d * z1 * z1]) := by
  have hM := fun x y : Fin (m + 1) => fMul_eq hs x y
  have hA := fun x y : Fin (m + 1) => fAdd_eq hs x y
  generalize ((m + 1 : Nat) : Int) = P at *
  refine ⟨20, fun k hk => ?_⟩
  obtain ⟨n, rfl⟩ : ∃ n, k = n + 20 := ⟨k - 20, by omega⟩
  simp [tapeshift_mover_rest.f, tapeshift_mover_rest.l0, tapeshift_mover_rest.l1, oF, rd, field_Mul.f, field_Add.f, hM, hA, wrap64]
theorem rest_ev2 (hs : Sup (m + 1)) (z0 z1 z2 d r0 r1 r2 : Fin (m + 1)) : Ev (fun k => tapeshift_mover_rest.f k ((m + 1 : Nat) : Int) 2 (oF [z0, z1, z2]) ((d.val : Nat) : Int) (oF [r0, r1, r2])) (oF [r0 + d * z1 * z1, r1 + d * z1 * z2, r2 + d * z2 * z2]) := by
  have hM := fun x y : Fin (m + 1) => fMul_eq hs x y
  have hA := fun x y : Fin (m + 1) => fAdd_eq hs x y
  generalize ((m + 1 : Nat) : Int) = P at *
  refine ⟨20, fun k hk => ?_⟩
  obtain ⟨n, rfl⟩ : ∃ n, k = n + 20 := ⟨k - 20, by omega⟩
  simp [tapeshift_mover_rest.f, tapeshift_mover_rest.l0, tapeshift_mover_rest.l1, oF, rd, field_Mul.f, field_Add.f, hM, hA, wrap64]
theorem share_ev1 (hs : Sup (m + 1)) (n : Int) (bad : List Int) (z1 d q0 q1 r0 : Fin (m + 1)) (hv : Ev (fun k => params_VanishingPolynomial.f k ((m + 1 : Nat) : Int) n 1 bad) (oF [1, z1])) :
    Ev (fun k => tapeshift_Sharing.f k ((m + 1 : Nat) : Int) n 1 bad ((d.val : Nat) : Int) (oF [q0, q1]) (oF [r0])) (oF [q0 + d * 1, q1 + d * z1], oF [r0 + d * z1 * z1]) := by
  unfold tapeshift_Sharing.f tapeshift_of.f
  exact Ev.bind (Ev.bind hv (Ev.now _)) (Ev.bind (by_ev1 hs 1 1 z1 d q0 q1) (Ev.bind (rest_ev1 hs 1 z1 d r0) (Ev.now _)))
theorem share_ev2 (hs : Sup (m + 1)) (n : Int) (bad : List Int) (z1 z2 d q0 q1 q2 r0 r1 r2 : Fin (m + 1)) (hv : Ev (fun k => params_VanishingPolynomial.f k ((m + 1 : Nat) : Int) n 2 bad) (oF [1, z1, z2])) :
    Ev (fun k => tapeshift_Sharing.f k ((m + 1 : Nat) : Int) n 2 bad ((d.val : Nat) : Int) (oF [q0, q1, q2]) (oF [r0, r1, r2])) (oF [q0 + d * 1, q1 + d * z1, q2 + d * z2], oF [r0 + d * z1 * z1, r1 + d * z1 * z2, r2 + d * z2 * z2]) := by
  unfold tapeshift_Sharing.f tapeshift_of.f
  exact Ev.bind (Ev.bind hv (Ev.now _)) (Ev.bind (by_ev2 hs 2 1 z1 z2 d q0 q1 q2) (Ev.bind (rest_ev2 hs 1 z1 z2 d r0 r1 r2) (Ev.now _)))
theorem new1 (q0 q1 r0 : Fin (m + 1)) : privityref10_New.f (oF [q0, q1]) (oF [r0]) = some ([[q0, q1], [q1, r0]].map oF, 0) := by
  simp [privityref10_New.f, newI, newM, newOut, newIn, set2, oF, List.range, List.range.loop]
theorem new2 (q0 q1 q2 r0 r1 r2 : Fin (m + 1)) : privityref10_New.f (oF [q0, q1, q2]) (oF [r0, r1, r2]) = some ([[q0, q1, q2], [q1, r0, r1], [q2, r1, r2]].map oF, 0) := by
  simp [privityref10_New.f, newI, newM, newOut, newIn, set2, oF, List.range, List.range.loop]
end Go.Proofs.Ytfddoegcbpinkaa.Pure
