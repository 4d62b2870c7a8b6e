/-
A part of this claim's proof (PureB): lemmas that the text of the law stands on.
-/
import Derived.Test.YtiokpaknhbfenaaSpec
import Derived.Test.YtiokpaknhbfenaaG2
section
set_option linter.unusedVariables false
set_option linter.unusedSimpArgs false
namespace Go.Proofs.Ytiokpaknhbfenaa.Pure
open Go.RowKit Go.Proofs.Ytiokpaknhbfenaa Go.Proofs.YtiokpaknhbfenaaW.PrintWords
theorem wrapS (i : Nat) (h : i ≤ 1000000000000) : wrap64 ((i : Int) + 1) = ((i + 1 : Nat) : Int) := by unfold wrap64; omega
theorem rd_at {l : List Int} {i : Nat} (h : i < l.length) : rd l (i : Int) = l[i] := by simp [rd, h]
theorem rd_oF {n : Nat} {xs : List (Fin n)} {i : Nat} (h : i < xs.length) : rd (oF xs) (i : Int) = ((xs[i].val : Nat) : Int) := by simp [rd, oF, h]
theorem len_oF {n : Nat} (xs : List (Fin n)) : (oF xs).length = xs.length := by simp [oF]
theorem oF_inj {n : Nat} {a b : List (Fin n)} (h : oF a = oF b) : a = b := by
  unfold oF at h
  exact (List.map_inj_right (fun x y hxy => Fin.ext (by omega))).1 h
theorem oF_append {n : Nat} (a b : List (Fin n)) : oF (a ++ b) = oF a ++ oF b := by simp [oF]
theorem oF_set {n : Nat} (l : List (Fin n)) (i : Nat) (x : Fin n) : (oF l).set i ((x.val : Nat) : Int) = oF (l.set i x) := by simp [oF, List.map_set]
theorem oF_replicate {m : Nat} (n : Nat) : List.replicate n (0 : Int) = oF (List.replicate n (0 : Fin (m + 1))) := by simp [oF]
theorem oF_take {n : Nat} (l : List (Fin n)) (k : Nat) : (oF l).take k = oF (l.take k) := by simp [oF, List.map_take]
theorem val_zero_iff {m : Nat} (x : Fin (m + 1)) : ((x.val : Nat) : Int) = 0 ↔ x = 0 := by
  constructor
  · intro h; exact Fin.ext (by rw [zero_val]; omega)
  · rintro rfl; rfl
end Go.Proofs.Ytiokpaknhbfenaa.Pure
end
section
set_option linter.unusedVariables false
set_option linter.unusedSimpArgs false
namespace Go.Proofs.Ytiokpaknhbfenaa.Pure
open Go.RowKit Go.Proofs.Ytiokpaknhbfenaa Go.Proofs.Ytiokpaknhbfenaa.F Go.Proofs.YtiokpaknhbfenaaW.PrintWords Go.Proofs.YtiokpaknhbfenaaW.PrintLast
/-! ### the short ones -/
theorem exponent_step (a : Int) (n : Nat) (l : List Int) (i i' : Nat) (x v : Int) (h : l[i]? = some x) (hi' : i + 1 = i') (hi : i ≤ 100) (h0 : 0 ≤ IntKind.u64.wrap x) (hv : IntKind.u64.wrap ((shl .u64 1 (IntKind.u64.wrap x)) - 1) = v) :
    privityref01_Exponent.l0 (n + 1) a l (i : Int) = if a = v then some x else privityref01_Exponent.l0 n a l (i' : Int) := by
  obtain ⟨hl, rfl⟩ := List.getElem?_eq_some_iff.1 h
  subst hi' hv
  simp only [privityref01_Exponent.l0]
  rw [if_pos (by omega), if_pos (by omega), rd_at hl, if_pos h0, wrapS i (by omega)]
set_option maxRecDepth 10000 in
theorem supported_ev (a : Int) : Ev (fun k => privityref01_Supported.f k a) (okp a) := by
  refine ⟨8, fun k hk => ?_⟩
  obtain ⟨n, rfl⟩ : ∃ n, k = n + 8 := ⟨k - 8, by omega⟩
  unfold privityref01_Supported.f privityref01_Exponent.f privityref01_exps.f
  simp only [Option.bind_some]
  have e0 := exponent_step a (n + 7) [5, 7, 13, 17, 19, 31, 61] 0 1 5 31 rfl rfl (by decide) (by decide +kernel) (by decide +kernel)
  have e1 := exponent_step a (n + 6) [5, 7, 13, 17, 19, 31, 61] 1 2 7 127 rfl rfl (by decide) (by decide +kernel) (by decide +kernel)
  have e2 := exponent_step a (n + 5) [5, 7, 13, 17, 19, 31, 61] 2 3 13 8191 rfl rfl (by decide) (by decide +kernel) (by decide +kernel)
  have e3 := exponent_step a (n + 4) [5, 7, 13, 17, 19, 31, 61] 3 4 17 131071 rfl rfl (by decide) (by decide +kernel) (by decide +kernel)
  have e4 := exponent_step a (n + 3) [5, 7, 13, 17, 19, 31, 61] 4 5 19 524287 rfl rfl (by decide) (by decide +kernel) (by decide +kernel)
  have e5 := exponent_step a (n + 2) [5, 7, 13, 17, 19, 31, 61] 5 6 31 2147483647 rfl rfl (by decide) (by decide +kernel) (by decide +kernel)
  have e6 := exponent_step a (n + 1) [5, 7, 13, 17, 19, 31, 61] 6 7 61 2305843009213693951 rfl rfl (by decide) (by decide +kernel) (by decide +kernel)
  have e7 : privityref01_Exponent.l0 (n + 1) a [5, 7, 13, 17, 19, 31, 61] ((7 : Nat) : Int) = some 0 := by
    simp only [privityref01_Exponent.l0]; rw [if_neg (by decide)]
  have e : privityref01_Exponent.l0 (n + 8) a [5, 7, 13, 17, 19, 31, 61] 0 = _ := e0
  rw [e, e1, e2, e3, e4, e5, e6, e7]
  unfold okp
  by_cases c0 : a = 31
  · subst c0; decide
  rw [if_neg c0]
  by_cases c1 : a = 127
  · subst c1; decide
  rw [if_neg c1]
  by_cases c2 : a = 8191
  · subst c2; decide
  rw [if_neg c2]
  by_cases c3 : a = 131071
  · subst c3; decide
  rw [if_neg c3]
  by_cases c4 : a = 524287
  · subst c4; decide
  rw [if_neg c4]
  by_cases c5 : a = 2147483647
  · subst c5; decide
  rw [if_neg c5]
  by_cases c6 : a = 2305843009213693951
  · subst c6; decide
  rw [if_neg c6]
  simp [c0, c1, c2, c3, c4, c5, c6]
theorem wf_u64 {x : Int} (h : (Lit.int .u64 x).wf = true) : 0 ≤ x := by
  have := h
  have e : IntKind.u64.min = 0 := by decide
  simp [Lit.wf, e] at this
  omega
end Go.Proofs.Ytiokpaknhbfenaa.Pure
end
