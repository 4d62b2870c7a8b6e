/-
The law ShamirLinearOpsMatchReference as the statement has it: out of what is proved of it on plain lists, and the proof that the code computes that.
-/
import Derived.Test.YtiokpaknhbfenaaRows
import Derived.Test.YtiokpaknhbfenaaHand09l
import Derived.Test.YtiokpaknhbfenaaHand09l
import Derived.Test.YtiokpaknhbfenaaOpen
import Derived.WalkKit
import Derived.ProofKit
import Derived.OpenShut
import Derived.ShutString
import Derived.ChangeOld
import Derived.Below
import Derived.SizedLaws
namespace Go.Proofs.Ytiokpaknhbfenaa.shamirLinearOpsMatchReference
open Go.ChangeShapes Go.WideShapes Go.ChangeAt Go.RowKit Go.Proofs.YtiokpaknhbfenaaW.PrintWords
set_option linter.unusedVariables false
set_option linter.unusedSimpArgs false
theorem own : ownKnob Try.prog.godebug = none := by kernel_rfl
theorem laidOut : laidOutB Try.prog = true := by kernel_rfl
set_option maxRecDepth 100000 in
theorem lifted (os : Os) (started : os.Started) (H : Type) (enc : TypeId × Value → H) :
    ReturnsInHanded {} Try.checked os 5 .any (Rows.shamirLinearOpsMatchReferenceSpec.pre6 enc Try.prog Try.f5 Rows.shamirLinearOpsMatchReferenceRow.domain false) (Rows.shamirLinearOpsMatchReferenceSpec.post enc Try.prog Try.f5 false true false false) := by
  refine returnsInHanded_of_change_sized (C := Try.checked) own started (by kernel_rfl) Try.func5
    (ChangeSpec.witness6 (enc := enc) (C := Try.checked) false ⟨#[], #[.agg #[.int .u64 0, .int .i64 0, .int .i64 0, .slice none 0 0, .slice none 0 0, .int .u64 0]], []⟩ 8 (by kernel_rfl) (by kernel_rfl) (by kernel_rfl) (by kernel_rfl)) ?_
  intro W base args ds gs before hval0 hW hcnd hsz0 _
  have hval : ∀ (j : Nat) t v, Try.f5.params[j]? = some t → args[j]? = some v → Value.okWide Try.prog W .any base t v := hval0
  have hW' := hW
  obtain ⟨p, q, hA0, hV, rfl, hfz, hnd⟩ := hW
  have hA : DataW.TrodAll enc Try.prog W 0 (fun _ => true) true Try.f5.params.toList args.toList ds p := hA0
  rw [Try.params5] at hA hval
  obtain ⟨v0, vs0, d0, ds0, p0, q0, hargs, rfl, rfl, h0, r0⟩ := trodAll_cons hA
  obtain ⟨rfl, rfl, rfl⟩ := trodAll_nil r0
  obtain rfl : args = #[v0] := by cases args; simp_all
  obtain ⟨rfl, rfl⟩ := trodVars_none hV
  have k0 := h0
  have lt0 : ∀ x ∈ p0, x.block < W.heap.size := by obtain ⟨m, hm⟩ := k0; exact DataW.trod_lt m _ _ _ hm
  obtain ⟨c0, rfl, _⟩ := okWide_struct Try.underlying43 (hval 0 43 v0 rfl rfl)
  obtain ⟨y0, hK0, ok0⟩ := Open.opn_agg (d := (Kd.pair (Kd.pair (Kd.int .u64) (Kd.pair (Kd.int .i64) (Kd.int .i64))) (Kd.pair (Kd.slice 23 (Kd.slice 22 (Kd.int .u64))) (Kd.pair (Kd.slice 23 (Kd.slice 22 (Kd.int .u64))) (Kd.int .u64))))) (Open.opn_fields Try.underlying43 (by kernel_rfl) (Open.opnF_cons rfl (by kernel_rfl) (Open.opn_fields Try.underlying39 (by kernel_rfl) (Open.opnF_cons rfl (by kernel_rfl) (Open.opn_int Try.underlying22) (Open.opnF_cons rfl (by kernel_rfl) (Open.opn_int Try.underlying3) (Open.opnF_last rfl (by kernel_rfl) (Open.opn_int Try.underlying3))))) (Open.opnF_cons rfl (by kernel_rfl) (Open.opn_slice Try.underlying41 (by kernel_rfl) (Open.opn_slice Try.underlying23 (by kernel_rfl) (Open.opn_int Try.underlying22))) (Open.opnF_cons rfl (by kernel_rfl) (Open.opn_slice Try.underlying41 (by kernel_rfl) (Open.opn_slice Try.underlying23 (by kernel_rfl) (Open.opn_int Try.underlying22))) (Open.opnF_last rfl (by kernel_rfl) (Open.opn_int Try.underlying22)))))) h0
  obtain ⟨c0⟩ := c0
  obtain ⟨⟨a0_0, a0_1, a0_2⟩, l0_3, l0_4, a0_5⟩ := y0
  obtain ⟨_, _, rfl, ⟨_, _, rfl, rfl, ⟨_, _, rfl, rfl, rfl⟩⟩, ⟨_, _, rfl, ⟨A0_3, cap0_3, rfl, hc0_3, hC0_3⟩, ⟨_, _, rfl, ⟨A0_4, cap0_4, rfl, hc0_4, hC0_4⟩, rfl⟩⟩⟩ := hK0
  obtain ⟨⟨ok0_0, ok0_1, ok0_2⟩, ok0_3, ok0_4, ok0_5⟩ := ok0
  clear hA0 hval0 hsz0
  obtain ⟨k, hk⟩ := Pure.ShamirLinearOpsMatchReference a0_0 a0_1 a0_2 l0_3 l0_4 a0_5 ok0_0 ok0_1 ok0_2 ok0_3 ok0_4 ok0_5
  refine (F.privitylaw09_ShamirLinearOpsMatchReference.calls k a0_0 a0_1 a0_2 A0_3 cap0_3 l0_3 A0_4 cap0_4 l0_4 a0_5 true W hC0_3 hc0_3 hC0_4 hc0_4 hk).mono fun e W' ⟨he, bel⟩ => ?_
  subst he
  exact ⟨_, rfl, _, _, _, [], _, [], hW', trodAll_mk1 (shut_bool Try.underlying4 _), (trodAll_cons_mk (Below.trod laidOut (by kernel_rfl) (of_decide_eq_true (by kernel_rfl)) k0 bel lt0) trodAll_mk0), rfl, bel.frame _, fun h => by cases h⟩
theorem over : Rows.shamirLinearOpsMatchReferenceRow.holds Try.pinned (OpenSpec.ofChange Rows.shamirLinearOpsMatchReferenceSpec) :=
  OpenClaim.holds_of_wide 5 Try.f5 rfl rfl rfl rfl rfl rfl rfl ⟨rfl, rfl, rfl, rfl, rfl⟩ rfl rfl rfl rfl rfl (by kernel_rfl) Try.func5 (by kernel_rfl)
    (of_decide_eq_true (by kernel_rfl)) (by unfold Func.isWrapper; first | (rw [if_pos (by decide +kernel)]; kernel_rfl) | (rw [if_neg (by decide +kernel)]; exact ⟨rfl, rfl⟩))
    (fun os started H enc _ => lifted os started H enc)
theorem proved : Rows.ShamirLinearOpsMatchReferenceSaid := over
end Go.Proofs.Ytiokpaknhbfenaa.shamirLinearOpsMatchReference
namespace Go.Proofs.Ytiokpaknhbfenaa
/-- The row, under a short name, for the claim. -/
theorem shamirLinearOpsMatchReference_holds : Rows.ShamirLinearOpsMatchReferenceSaid := shamirLinearOpsMatchReference.proved
end Go.Proofs.Ytiokpaknhbfenaa
