/-
The law BivariateRowAndEval as the statement has it: out of what is proved of it on plain lists, and the proof that the code computes that.
-/
import Derived.Test.YtlooloaaceohdaaRows
import Derived.Test.YtlooloaaceohdaaHand10r
import Derived.Test.YtlooloaaceohdaaHand10r
import Derived.Test.YtlooloaaceohdaaOpen
import Derived.WalkKit
import Derived.ProofKit
import Derived.OpenShut
import Derived.ShutString
import Derived.ChangeOld
import Derived.Below
import Derived.SizedLaws
namespace Go.Proofs.Ytlooloaaceohdaa.bivariateRowAndEval
open Go.ChangeShapes Go.WideShapes Go.ChangeAt Go.RowKit Go.Proofs.YtlooloaaceohdaaW.PrintWords
set_option linter.unusedVariables false
set_option linter.unusedSimpArgs false
theorem own : ownKnob Try.prog.godebug = none := by kernel_rfl
theorem laidOut : laidOutB Try.prog = true := by kernel_rfl
set_option maxRecDepth 100000 in
theorem lifted (os : Os) (started : os.Started) (H : Type) (enc : TypeId × Value → H) :
    ReturnsInHanded {} Try.checked os 3 .any (Rows.bivariateRowAndEvalSpec.pre6 enc Try.prog Try.f3 Rows.bivariateRowAndEvalRow.domain false) (Rows.bivariateRowAndEvalSpec.post enc Try.prog Try.f3 false true false false) := by
  refine returnsInHanded_of_change_sized (C := Try.checked) own started (by kernel_rfl) Try.func3
    (ChangeSpec.witness6 (enc := enc) (C := Try.checked) false ⟨#[], #[.int .u64 0, .slice none 0 0, .agg #[.int .u64 0, .int .u64 0]], []⟩ 8 (by kernel_rfl) (by kernel_rfl) (by kernel_rfl) (by kernel_rfl)) ?_
  intro W base args ds gs before hval0 hW hcnd hsz0 _
  have hval : ∀ (j : Nat) t v, Try.f3.params[j]? = some t → args[j]? = some v → Value.okWide Try.prog W .any base t v := hval0
  have hW' := hW
  obtain ⟨p, q, hA0, hV, rfl, hfz, hnd⟩ := hW
  have hA : DataW.TrodAll enc Try.prog W 0 (fun _ => true) true Try.f3.params.toList args.toList ds p := hA0
  rw [Try.params3] at hA hval
  obtain ⟨v0, vs0, d0, ds0, p0, q0, hargs, rfl, rfl, h0, r0⟩ := trodAll_cons hA
  obtain ⟨v1, vs1, d1, ds1, p1, q1, rfl, rfl, rfl, h1, r1⟩ := trodAll_cons r0
  obtain ⟨v2, vs2, d2, ds2, p2, q2, rfl, rfl, rfl, h2, r2⟩ := trodAll_cons r1
  obtain ⟨rfl, rfl, rfl⟩ := trodAll_nil r2
  obtain rfl : args = #[v0, v1, v2] := by cases args; simp_all
  obtain ⟨rfl, rfl⟩ := trodVars_none hV
  obtain ⟨a0, rfl, rfl, rfl, w0⟩ := open_int Try.underlying22 (hval 0 22 v0 rfl rfl) h0
  have k1 := h1
  have lt1 : ∀ x ∈ p1, x.block < W.heap.size := by obtain ⟨m, hm⟩ := k1; exact DataW.trod_lt m _ _ _ hm
  obtain ⟨a1, len1, cap1, rfl⟩ := okWide_slice Try.underlying23 (hval 1 23 v1 rfl rfl)
  obtain ⟨l1, hl1, hc1, hC1, ok1⟩ := Open.opn_arg (d := (Kd.slice 22 (Kd.int .u64))) (e' := 28) (Open.opn_slice Try.underlying23 (by kernel_rfl) (Open.opn_slice Try.underlying28 (by kernel_rfl) (Open.opn_int Try.underlying22))) h1
  subst hl1
  have k2 := h2
  have lt2 : ∀ x ∈ p2, x.block < W.heap.size := by obtain ⟨m, hm⟩ := k2; exact DataW.trod_lt m _ _ _ hm
  obtain ⟨c2, rfl, _⟩ := Open.okWide_array Try.underlying24 (hval 2 24 v2 rfl rfl)
  obtain ⟨y2, hK2, ok2⟩ := Open.opn_agg (d := (Kd.pair (Kd.int .u64) (Kd.int .u64))) (Open.opn_arr2 Try.underlying24 (by kernel_rfl) (by kernel_rfl) (Open.opn_int Try.underlying22)) h2
  obtain ⟨c2⟩ := c2
  obtain ⟨a2_0, a2_1⟩ := y2
  obtain ⟨_, _, rfl, rfl, rfl⟩ := hK2
  obtain ⟨ok2_0, ok2_1⟩ := ok2
  clear hA0 hval0 hsz0
  obtain ⟨k, hk⟩ := Pure.BivariateRowAndEval a0 l1 a2_0 a2_1 w0 ok1 ok2_0 ok2_1
  refine (F.privitylaw10_BivariateRowAndEval.calls k a0 a1 cap1 l1 a2_0 a2_1 true W hC1 hc1 hk).mono fun e W' ⟨he, bel⟩ => ?_
  subst he
  exact ⟨_, rfl, _, _, _, [], _, [], hW', trodAll_mk1 (shut_bool Try.underlying4 _), (trodAll_cons_mk (shut_int Try.underlying22 w0) (trodAll_cons_mk (Below.trod laidOut (by kernel_rfl) (of_decide_eq_true (by kernel_rfl)) k1 bel lt1) (trodAll_cons_mk (Below.trod laidOut (by kernel_rfl) (of_decide_eq_true (by kernel_rfl)) k2 bel lt2) trodAll_mk0))), rfl, bel.frame _, fun h => by cases h⟩
theorem over : Rows.bivariateRowAndEvalRow.holds Try.pinned (OpenSpec.ofChange Rows.bivariateRowAndEvalSpec) :=
  OpenClaim.holds_of_wide 3 Try.f3 rfl rfl rfl rfl rfl rfl rfl ⟨rfl, rfl, rfl, rfl, rfl⟩ rfl rfl rfl rfl rfl (by kernel_rfl) Try.func3 (by kernel_rfl)
    (of_decide_eq_true (by kernel_rfl)) (by unfold Func.isWrapper; first | (rw [if_pos (by decide +kernel)]; kernel_rfl) | (rw [if_neg (by decide +kernel)]; exact ⟨rfl, rfl⟩))
    (fun os started H enc _ => lifted os started H enc)
theorem proved : Rows.BivariateRowAndEvalSaid := over
end Go.Proofs.Ytlooloaaceohdaa.bivariateRowAndEval
namespace Go.Proofs.Ytlooloaaceohdaa
/-- The row, under a short name, for the claim. -/
theorem bivariateRowAndEval_holds : Rows.BivariateRowAndEvalSaid := bivariateRowAndEval.proved
end Go.Proofs.Ytlooloaaceohdaa
