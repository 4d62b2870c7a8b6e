import Derived.Test.YtfddoegcbpinkaaPure43b
import Derived.Test.YtfddoegcbpinkaaF6
set_option linter.unusedVariables false
set_option linter.unusedSimpArgs false
namespace Go.Proofs.Ytfddoegcbpinkaa.Pure
open Go.RowKit Go.Proofs.Ytfddoegcbpinkaa Go.Proofs.Ytfddoegcbpinkaa.F Go.Proofs.YtfddoegcbpinkaaW.PrintWords Go.Proofs.YtfddoegcbpinkaaW.PrintLast
variable {m : Nat}
set_option maxRecDepth 10000 in
theorem awake43_ev : Ev (fun k => privitylaw43_awake.f k) true := Ev.of (fun k => privitylaw43_awake.mono k) (k := 40) (by decide +kernel)
def mayB (p n t : Int) (bad : List Int) : Bool := validB p n t && (decide (n ≤ 7) && vcoB p n t bad)
theorem may_ev (p n t : Int) (bad : List Int) (da db : Int) (ws : List Int) : Ev (fun k => privitylaw43_may.f k p n t bad da db ws) (mayB p n t bad) := by
  unfold privitylaw43_may.f mayB
  refine Ev.bind (valid_ev p n t) ?_
  cases validB p n t
  · exact Ev.now _
  simp only [if_true, Bool.true_and]
  by_cases h : n ≤ 7
  · simp only [if_pos h]
    rw [decide_eq_true h, Bool.true_and]
    exact Ev.bind (vco_ev p n t bad) (Ev.now _)
  · simp only [if_neg h]
    rw [decide_eq_false h, Bool.false_and]
    exact Ev.now _
theorem may_req {p n t : Int} {bad : List Int} (h : mayB p n t bad = true) :
    ∃ (m N T : Nat) (E Z : List (Fin (m + 1))), p = ((m + 1 : Nat) : Int) ∧ Sup (m + 1) ∧ n = (N : Int) ∧ t = (T : Int) ∧ N ≤ 7 ∧ (T = 1 ∨ T = 2) ∧ bad.length ≤ 2 ∧ Van N T bad E Z ∧ Ev (fun k => params_VanishingPolynomial.f k ((m + 1 : Nat) : Int) N T bad) (oF Z) := by
  simp only [mayB, vcoB, Bool.and_eq_true, decide_eq_true_eq] at h
  obtain ⟨hv, hn7, _, hl, hc⟩ := h
  obtain ⟨hok, h4, h13, hnp, ht1, ht3⟩ := valid_facts hv
  obtain ⟨m, rfl, hs⟩ := okp_sup hok
  obtain ⟨N, rfl⟩ := Int.eq_ofNat_of_zero_le (show 0 ≤ n by omega)
  obtain ⟨T, rfl⟩ := Int.eq_ofNat_of_zero_le (show 0 ≤ t by omega)
  have hT : T = 1 ∨ T = 2 := by omega
  have hsub := chk_subs N 1 bad none hc (fun x hx => by have := (chk_le hc x hx).1; omega) (by omega)
  have hext := ext_small N (by simp; omega) T (by simp; omega) bad hsub (by omega)
  obtain ⟨E, Z, hV, hE⟩ := vanish_ev hs N T bad hnp (by omega) hext
  exact ⟨m, N, T, E, Z, rfl, hs, rfl, rfl, by omega, hT, by omega, hV, hE⟩
theorem van1 {N : Nat} {bad : List Int} {E Z : List (Fin (m + 1))} (h : Van N 1 bad E Z) : ∃ z1, Z = [1, z1] := by
  have h1 := h.zlen
  have h2 := h.one
  match Z, h1 with
  | [z0, z1], _ => exact ⟨z1, by rw [co_cons_zero] at h2; rw [h2]⟩
theorem van2 {N : Nat} {bad : List Int} {E Z : List (Fin (m + 1))} (h : Van N 2 bad E Z) : ∃ z1 z2, Z = [1, z1, z2] := by
  have h1 := h.zlen
  have h2 := h.one
  match Z, h1 with
  | [z0, z1, z2], _ => exact ⟨z1, z2, by rw [co_cons_zero] at h2; rw [h2]⟩
theorem rowAt1 (a b c d x : Fin (m + 1)) : rowAt [[a, b], [c, d]] x = [a + x * c, b + x * d] := by
  simp [rowAt, List.range, List.range.loop, co, ev_cons, ev_nil]
  exact ⟨by grind, by grind⟩
theorem rowAt2 (a b c d e f g h i x : Fin (m + 1)) : rowAt [[a, b, c], [d, e, f], [g, h, i]] x = [a + x * (d + x * g), b + x * (e + x * h), c + x * (f + x * i)] := by
  simp [rowAt, List.range, List.range.loop, co, ev_cons, ev_nil]
  exact ⟨by grind, by grind, by grind⟩
end Go.Proofs.Ytfddoegcbpinkaa.Pure
