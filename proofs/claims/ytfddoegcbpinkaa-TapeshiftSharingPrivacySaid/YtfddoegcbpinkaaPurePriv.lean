import Derived.Test.YtfddoegcbpinkaaPurePriv0
import Derived.Test.YtfddoegcbpinkaaF9
set_option linter.unusedVariables false
set_option linter.unusedSimpArgs false
namespace Go.Proofs.Ytfddoegcbpinkaa.Pure
open Go.RowKit Go.Proofs.Ytfddoegcbpinkaa Go.Proofs.Ytfddoegcbpinkaa.F Go.Proofs.YtfddoegcbpinkaaW.PrintWords Go.Proofs.YtfddoegcbpinkaaW.PrintLast
variable {m : Nat}
theorem priv_tail (hs : Sup (m + 1)) (n t da db : Int) (bad ws : List Int) (M N : List (List (Fin (m + 1)))) (hM : M.length ≤ 1000) (hN : N.length ≤ 1000) (hMr : ∀ r ∈ M, r.length = M.length) (hNr : ∀ r ∈ N, r.length = N.length) (hl : bad.length ≤ 1000)
    (h : ∀ x ∈ bad, ∃ e : Fin (m + 1), x = ((e.val : Nat) : Int) ∧ rowAt M e = rowAt N e) :
    Ev (fun k => privitylaw43_TapeshiftSharingPrivacy.l0 k ((m + 1 : Nat) : Int) (M.map oF) (N.map oF) 0 ((m + 1 : Nat) : Int) n t bad da db ws) true := by
  have key : ∀ d i, i + d = bad.length → Ev (fun k => privitylaw43_TapeshiftSharingPrivacy.l0 k ((m + 1 : Nat) : Int) (M.map oF) (N.map oF) (i : Int) ((m + 1 : Nat) : Int) n t bad da db ws) true := by
    intro d
    induction d with
    | zero =>
      intro i hi
      refine Ev.step (f := fun k => (privitylaw43_awake.f k).bind fun t => some t) (fun k => ?_) (Ev.bind awake43_ev (Ev.now _))
      simp only [privitylaw43_TapeshiftSharingPrivacy.l0]
      rw [if_neg (by omega)]
    | succ d ih =>
      intro i hi
      have hlt : i < bad.length := by omega
      obtain ⟨e, he, hrow⟩ := h bad[i] (List.getElem_mem hlt)
      have hw := words_oF (rowAt M e) (rowAt N e) (by simp [rowAt]; omega)
      rw [decide_eq_true hrow] at hw
      refine Ev.step (f := fun k => (privityref10_Row.f k ((m + 1 : Nat) : Int) (M.map oF) ((e.val : Nat) : Int)).bind fun a => (privityref10_Row.f k ((m + 1 : Nat) : Int) (N.map oF) ((e.val : Nat) : Int)).bind fun b => (privityref14_Words.f k a b).bind fun c => if c = true then privitylaw43_TapeshiftSharingPrivacy.l0 k ((m + 1 : Nat) : Int) (M.map oF) (N.map oF) ((i + 1 : Nat) : Int) ((m + 1 : Nat) : Int) n t bad da db ws else some false) (fun k => ?_) (Ev.bind (row_ev hs M e hM hMr) (Ev.bind (row_ev hs N e hN hNr) (Ev.bind hw ?_)))
      · simp only [privitylaw43_TapeshiftSharingPrivacy.l0]
        rw [if_pos (by omega), if_pos (by omega), rd_at hlt, he, wrap_small _ (by omega) (by have := hs.lt; have := e.isLt; omega), wrapS i (by omega)]
      · simp only [if_true]; exact ih (i + 1) (by omega)
  exact key bad.length 0 (by omega)
theorem TapeshiftSharingPrivacy : ∀ (p n t : Int) (bad : List Int) (da db : Int) (ws : List Int), (Lit.int .u64 p).wf = true → (Lit.int .i64 n).wf = true → (Lit.int .i64 t).wf = true → (bad.length ≤ maxLen ∧ ∀ x ∈ bad, (Lit.int .i64 x).wf = true) → (Lit.int .u64 da).wf = true → (Lit.int .u64 db).wf = true → (ws.length ≤ maxLen ∧ ∀ x ∈ ws, (Lit.int .u64 x).wf = true) → ∃ k, privitylaw43_TapeshiftSharingPrivacy.f k p n t bad da db ws = some true := by
  intro p n t bad da db ws h1 h2 h3 h4 hda h5 hws0
  have hws := hws0.2
  clear h1 h2 h3 h4 h5 hws0
  refine Ev.rounds ?_
  unfold privitylaw43_TapeshiftSharingPrivacy.f
  refine Ev.bind (may_ev p n t bad da db ws) ?_
  by_cases hm : mayB p n t bad = true
  case neg => rw [Bool.not_eq_true] at hm; rw [hm]; exact Ev.bind awake43_ev (Ev.now _)
  rw [hm]
  simp only [if_true]
  obtain ⟨m, N, T, E, Z, rfl, hs, rfl, rfl, hN, hT, hbl, hV, hE⟩ := may_req hm
  have hw : ∀ x ∈ ws, 0 ≤ x := fun x hx => wf_u64 (hws x hx)
  obtain ⟨d, hd⟩ := tmod_fin (m := m) (wf_u64 hda)
  have hp0 : ¬ (((m + 1 : Nat) : Int) = 0) := by omega
  rcases hT with rfl | rfl
  · obtain ⟨z1, rfl⟩ := van1 hV
    obtain ⟨q0, q1, r0, ho⟩ := one_ev1 (m := m) (N : Int) bad da db ws hw
    refine Ev.bind ho ?_
    simp only [if_neg hp0, hd]
    refine Ev.bind (share_ev1 hs N bad z1 d q0 q1 r0 hE) ?_
    simp only [new1, Option.bind_some, if_true]
    refine Ev.congr (f := fun k => privitylaw43_TapeshiftSharingPrivacy.j0 k ((m + 1 : Nat) : Int) ([[q0, q1], [q1, r0]].map oF) ([[q0 + d * 1, q1 + d * z1], [q1 + d * z1, r0 + d * z1 * z1]].map oF) false ((m + 1 : Nat) : Int) (N : Int) 1 bad da db ws) (fun k => ?_) ?_
    · rw [if_pos (by simp), if_pos (by simp [rd_L3, oF]), if_pos (by simp), if_pos (by simp [rd_L3, oF])]
      have e1 : rd (rd_L3 ([[q0, q1], [q1, r0]].map oF) 0) 0 = ((q0.val : Nat) : Int) := by simp [rd_L3, oF, rd]
      have e2 : rd (rd_L3 ([[q0 + d * 1, q1 + d * z1], [q1 + d * z1, r0 + d * z1 * z1]].map oF) 0) 0 = (((q0 + d * 1).val : Nat) : Int) := by simp [rd_L3, oF, rd]
      unfold privityref01_Add.f
      rw [e1, e2, fAdd_eq hs]; simp only [Option.bind_some]
      rw [show d * 1 = d by grind]
      simp
    · refine Ev.step (f := fun k => privitylaw43_TapeshiftSharingPrivacy.l0 k ((m + 1 : Nat) : Int) ([[q0, q1], [q1, r0]].map oF) ([[q0 + d * 1, q1 + d * z1], [q1 + d * z1, r0 + d * z1 * z1]].map oF) 0 ((m + 1 : Nat) : Int) (N : Int) 1 bad da db ws) (fun k => ?_) ?_
      · simp only [privitylaw43_TapeshiftSharingPrivacy.j0]
        rw [if_neg (by simp)]
      · refine priv_tail hs _ _ _ _ bad ws _ _ (by simp) (by simp) (by simp) (by simp) (by omega) fun x hx => ?_
        obtain ⟨e, he, rfl⟩ := hV.mem x hx
        have hz := hV.zero e he
        simp only [ev_cons, ev_nil] at hz
        refine ⟨e, rfl, ?_⟩
        rw [rowAt1, rowAt1]
        congr 1
        · grind
        · congr 1; grind
  · obtain ⟨z1, z2, rfl⟩ := van2 hV
    obtain ⟨q0, q1, q2, r0, r1, r2, ho⟩ := one_ev2 (m := m) (N : Int) bad da db ws hw
    refine Ev.bind ho ?_
    simp only [if_neg hp0, hd]
    refine Ev.bind (share_ev2 hs N bad z1 z2 d q0 q1 q2 r0 r1 r2 hE) ?_
    simp only [new2, Option.bind_some, if_true]
    refine Ev.congr (f := fun k => privitylaw43_TapeshiftSharingPrivacy.j0 k ((m + 1 : Nat) : Int) ([[q0, q1, q2], [q1, r0, r1], [q2, r1, r2]].map oF) ([[q0 + d * 1, q1 + d * z1, q2 + d * z2], [q1 + d * z1, r0 + d * z1 * z1, r1 + d * z1 * z2], [q2 + d * z2, r1 + d * z1 * z2, r2 + d * z2 * z2]].map oF) false ((m + 1 : Nat) : Int) (N : Int) 2 bad da db ws) (fun k => ?_) ?_
    · rw [if_pos (by simp), if_pos (by simp [rd_L3, oF]), if_pos (by simp), if_pos (by simp [rd_L3, oF])]
      have e1 : rd (rd_L3 ([[q0, q1, q2], [q1, r0, r1], [q2, r1, r2]].map oF) 0) 0 = ((q0.val : Nat) : Int) := by simp [rd_L3, oF, rd]
      have e2 : rd (rd_L3 ([[q0 + d * 1, q1 + d * z1, q2 + d * z2], [q1 + d * z1, r0 + d * z1 * z1, r1 + d * z1 * z2], [q2 + d * z2, r1 + d * z1 * z2, r2 + d * z2 * z2]].map oF) 0) 0 = (((q0 + d * 1).val : Nat) : Int) := by simp [rd_L3, oF, rd]
      unfold privityref01_Add.f
      rw [e1, e2, fAdd_eq hs]; simp only [Option.bind_some]
      rw [show d * 1 = d by grind]
      simp
    · refine Ev.step (f := fun k => privitylaw43_TapeshiftSharingPrivacy.l0 k ((m + 1 : Nat) : Int) ([[q0, q1, q2], [q1, r0, r1], [q2, r1, r2]].map oF) ([[q0 + d * 1, q1 + d * z1, q2 + d * z2], [q1 + d * z1, r0 + d * z1 * z1, r1 + d * z1 * z2], [q2 + d * z2, r1 + d * z1 * z2, r2 + d * z2 * z2]].map oF) 0 ((m + 1 : Nat) : Int) (N : Int) 2 bad da db ws) (fun k => ?_) ?_
      · simp only [privitylaw43_TapeshiftSharingPrivacy.j0]
        rw [if_neg (by simp)]
      · refine priv_tail hs _ _ _ _ bad ws _ _ (by simp) (by simp) (by simp) (by simp) (by omega) fun x hx => ?_
        obtain ⟨e, he, rfl⟩ := hV.mem x hx
        have hz := hV.zero e he
        simp only [ev_cons, ev_nil] at hz
        refine ⟨e, rfl, ?_⟩
        rw [rowAt2, rowAt2]
        congr 1
        · grind
        · congr 1
          · grind
          · congr 1; grind
end Go.Proofs.Ytfddoegcbpinkaa.Pure
