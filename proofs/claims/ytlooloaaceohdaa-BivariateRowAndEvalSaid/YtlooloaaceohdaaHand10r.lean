/-
A part of this claim's proof (Hand10r): lemmas that the text of the law stands on.
-/
import Derived.Test.YtlooloaaceohdaaPure10r
import Derived.Test.YtlooloaaceohdaaF19
set_option linter.unusedVariables false
set_option linter.unusedSimpArgs false
set_option maxRecDepth 4000
namespace Go.Proofs.Ytlooloaaceohdaa
open Go.RowKit Go.Proofs.YtlooloaaceohdaaW.PrintWords Go.Proofs.Ytlooloaaceohdaa.F Go.Proofs.Ytlooloaaceohdaa.Pure
/-- what the law's arguments are to be -/
def okArgs10 (p : Int) (M : List (List Int)) (x y : Int) : Prop := okUU M ∧ (Lit.int .u64 x).wf = true ∧ (Lit.int .u64 y).wf = true
theorem toExt {w w' : World} (h : Below w.heap.size w w') : Ext w w' := h
theorem drawnExt {w w' : World} (h : Drawn0 w w') : Ext w w' := h.below
theorem C_ext {α : Type} {d : Kd α} {w w' : World} {A : Option Addr} {n : Nat} {l : List α} (h : Kd.C d w A n l) (he : Ext w w') : Kd.C d w' A n l := Kd.C_below h he
set_option maxHeartbeats 2000000 in
theorem law_walk (p : Int) (A : Option Addr) (c : Nat) (M : List (List Int)) (x y : Int) (w : World) (hr : Kd.C (Kd.slice 22 (Kd.int .u64)) w A M.length M) (hc : M.length ≤ c) (ho : okArgs10 p M x y) :
    Calls Try.prog 3 #[.int .u64 p, .slice A M.length c, .agg #[.int .u64 x, .int .u64 y]] w fun e w' => e = .returned (.bool true) ∧ Below w.heap.size w w' := by
  obtain ⟨b, h1, h2⟩ := fair10_ev p M
  obtain ⟨ka, hka⟩ := Ev.rounds awake10r_ev
  obtain ⟨kf, hkf⟩ := Ev.rounds h1
  have HA := Hd.mk hr
  have HC := Hd.mk hc
  have HO := Hd.mk ho
  have HB := Hd.mk h2
  have eb := Ext.of_alloc w (.cells #[.int .u64 x, .int .u64 y] 24)
  have hx0 : (w.alloc (.cells #[.int .u64 x, .int .u64 y] 24)).cell? ⟨w.heap.size, 0, none⟩ = some (.int .u64 x) := by rw [cell_of_row _ _ _ _ _ _ (heap_alloc_new w _)]; rfl
  have hx1 : (w.alloc (.cells #[.int .u64 x, .int .u64 y] 24)).cell? ⟨w.heap.size, 1, none⟩ = some (.int .u64 y) := by rw [cell_of_row _ _ _ _ _ _ (heap_alloc_new w _)]; rfl
  have hf := Hd.mk (privityref10_Fair.calls kf p A c M 6 b _ (C_ext hr eb) hc hkf)
  have HX0 := Hd.mk hx0
  have HX1 := Hd.mk hx1
  have HE := Hd.mk eb
  clear hr hc ho h1 h2 hkf hx0 hx1 eb
  go_enter Try.func3, Try.ntmps3
  go_wp2_with fail
  refine (hf.out).mono ?_; rintro _ w1 ⟨rfl, hd⟩; first | replace hd := toExt hd | replace hd := drawnExt hd
  have HE1 := Hd.mk (HE.out.trans hd)
  have d0 := hd.cell HX0.out
  have d1 := hd.cell HX1.out
  clear hd hf HX0 HX1 HE
  cases b with
  | false =>
    go_wp2_with fail
    refine (privitylaw10_awake.calls ka true _ hka).mono ?_; rintro _ w2 ⟨rfl, hd⟩; first | replace hd := toExt hd | replace hd := drawnExt hd
    have HE2 := Hd.mk (HE1.out.trans hd)
    clear hd
    go_wp2_with fail
    go_ret
    exact ⟨rfl, HE2.out⟩
  | true =>
    obtain ⟨X, v, q0, q1, q2, q3, q4, q5, q6⟩ := law_facts p M x y HO.out.1 HO.out.2.1 HO.out.2.2 (HB.out rfl)
    have Q1 := Hd.mk (Ev.rounds q1)
    have Q2 := Hd.mk (Ev.rounds q2)
    have Q3 := Hd.mk (Ev.rounds q3)
    have Q4 := Hd.mk (Ev.rounds q4)
    have Q5 := Hd.mk (Ev.rounds q5)
    have Q6 := Hd.mk (Ev.rounds q6)
    clear q1 q2 q3 q4 q5 q6 HB HO
    have qz : (p == 0) = false := by simp; omega
    have qz1 : (p != 0) = true := by simp; omega
    have qz2 : ¬ p = 0 := by omega
    go_wp2_with fail
    refine wp_region_lex (EW 3) [some (0, 1), some (0, 1), some (0, 1), some (0, 1), some (0, 1), some (0, 1), some (0, 1), some (0, 1), some (0, 1), some (0, 1)] (by kernel_rfl) (by kernel_rfl) ?_
    (repeat (refine lex_steady (fun K hK => ?_); go_simp; first | (refine ⟨_, fun _ _ => rfl, hK _ ?_⟩; clear hK K) | (refine ⟨?_, fun w' hw' => ?_, hK _ ?_⟩; rotate_left; (have hw'' := reach_ext hw' (by decide); have z0 := Ext.cell hw'' d0; have z1 := Ext.cell hw'' d1; go_simp; rfl); go_simp; clear hK K) | (refine hK _ ?_; clear hK K)))
    refine lex_nil ?_
    have HE2 : Hd (Ext w w1.drew) := ⟨HE1.out.trans (Ext.drew _)⟩
    generalize hP : Int.tmod x p = P at *
    generalize hR : Int.tmod y p = R at *
    clear d0 d1 HE1
    generalize hw2 : w1.drew = w2 at *
    clear hw2
    go_wp2_with fail
    refine (privitylaw10_awake.calls ka true _ hka).mono ?_; rintro _ w3 ⟨rfl, hd⟩; first | replace hd := toExt hd | replace hd := drawnExt hd
    have HE3 := Hd.mk (HE2.out.trans hd)
    clear hd HE2
    go_wp2_with fail
    obtain ⟨k, hk⟩ := Q1.out
    refine (bivariate_Row.calls k p A c M P X _ (C_ext HA.out HE3.out) HC.out hk).mono ?_; rintro _ w4 ⟨v4, rfl, hv4, hd⟩; first | replace hd := toExt hd | replace hd := drawnExt hd
    have HE4 := Hd.mk (HE3.out.trans hd)
    obtain ⟨A4, c4, rfl, hl4, hr4⟩ := Kd.R_reads hv4
    have HR4 := Hd.mk hr4
    clear hd HE3 hv4 hr4
    go_wp2_with fail
    obtain ⟨k, hk⟩ := Q2.out
    refine (privityref10_Row.calls k p A c M P X _ (C_ext HA.out HE4.out) HC.out hk).mono ?_; rintro _ w5 ⟨v5, rfl, hv5, hd⟩; first | replace hd := toExt hd | replace hd := drawnExt hd
    have HE5 := Hd.mk (HE4.out.trans hd)
    have HR4 := Hd.mk (C_ext HR4.out hd)
    obtain ⟨A5, c5, rfl, hl5, hr5⟩ := Kd.R_reads hv5
    have HR5 := Hd.mk hr5
    clear hd HE4 hv5 hr5
    go_wp2_with fail
    obtain ⟨k, hk⟩ := Q3.out
    refine (privityref06_SameList.calls k A4 c4 X A5 c5 X true _ HR4.out hl4 HR5.out hl5 hk).mono ?_; rintro _ w6 ⟨rfl, hd⟩; first | replace hd := toExt hd | replace hd := drawnExt hd
    have HE6 := Hd.mk (HE5.out.trans hd)
    clear hd HE5 HR4 HR5
    go_wp2_with fail
    obtain ⟨k, hk⟩ := Q4.out
    refine (bivariate_Eval.calls k p A c M P R v _ (C_ext HA.out HE6.out) HC.out hk).mono ?_; rintro _ w7 ⟨rfl, hd⟩; first | replace hd := toExt hd | replace hd := drawnExt hd
    have HE7 := Hd.mk (HE6.out.trans hd)
    clear hd HE6
    go_wp2_with fail
    obtain ⟨k, hk⟩ := Q5.out
    refine (privityref10_Eval.calls k p A c M P R v _ (C_ext HA.out HE7.out) HC.out hk).mono ?_; rintro _ w8 ⟨rfl, hd⟩; first | replace hd := toExt hd | replace hd := drawnExt hd
    have HE8 := Hd.mk (HE7.out.trans hd)
    clear hd HE7
    go_wp2_with fail
    obtain ⟨k, hk⟩ := Q4.out
    refine (bivariate_Eval.calls k p A c M P R v _ (C_ext HA.out HE8.out) HC.out hk).mono ?_; rintro _ w9 ⟨rfl, hd⟩; first | replace hd := toExt hd | replace hd := drawnExt hd
    have HE9 := Hd.mk (HE8.out.trans hd)
    clear hd HE8
    go_wp2_with fail
    obtain ⟨k, hk⟩ := Q1.out
    refine (bivariate_Row.calls k p A c M P X _ (C_ext HA.out HE9.out) HC.out hk).mono ?_; rintro _ wa ⟨va, rfl, hva, hd⟩; first | replace hd := toExt hd | replace hd := drawnExt hd
    have HEa := Hd.mk (HE9.out.trans hd)
    obtain ⟨Aa, ca, rfl, hla, hra⟩ := Kd.R_reads hva
    have HRa := Hd.mk hra
    clear hd HE9 hva hra
    go_wp2_with fail
    obtain ⟨k, hk⟩ := Q6.out
    refine (poly_Eval.calls k p Aa ca X R v _ HRa.out hla hk).mono ?_; rintro _ wb ⟨rfl, hd⟩; first | replace hd := toExt hd | replace hd := drawnExt hd
    have HEb := Hd.mk (HEa.out.trans hd)
    clear hd HEa HRa
    go_wp2_with fail
    go_ret
    exact ⟨rfl, HEb.out⟩
namespace F
open Classical in
noncomputable def privitylaw10_BivariateRowAndEval.f (_ : Nat) (p : Int) (M : List (List Int)) (x y : Int) : Option Bool := if okArgs10 p M x y then some true else none
theorem privitylaw10_BivariateRowAndEval.calls (k : Nat) (a0 : Int) (A1 : Option Addr) (c1 : Nat) (l1 : List (List Int)) (a2_0 : Int) (a2_1 : Int) (r : Bool) (w : World) (hr1 : Kd.C (Kd.slice 22 (Kd.int .u64)) w A1 l1.length l1) (hc1 : l1.length ≤ c1) (h : privitylaw10_BivariateRowAndEval.f k a0 l1 a2_0 a2_1 = some r) :
    Calls Try.prog 3 #[.int .u64 a0, .slice A1 l1.length c1, .agg #[.int .u64 a2_0, .int .u64 a2_1]] w fun e w' => e = .returned (.bool r) ∧ Below w.heap.size w w' := by
  unfold privitylaw10_BivariateRowAndEval.f at h
  split at h
  case isFalse => cases h
  rename_i ho
  injection h with h
  subst h
  exact law_walk a0 A1 c1 l1 a2_0 a2_1 w hr1 hc1 ho
end F
namespace Pure
theorem BivariateRowAndEval : ∀ (p : Int) (M : List (List Int)) (x y : Int), (Lit.int .u64 p).wf = true → okUU M → (Lit.int .u64 x).wf = true → (Lit.int .u64 y).wf = true → ∃ k, privitylaw10_BivariateRowAndEval.f k p M x y = some true :=
  fun p M x y _ h1 h2 h3 => ⟨0, if_pos ⟨h1, h2, h3⟩⟩
end Pure
end Go.Proofs.Ytlooloaaceohdaa
