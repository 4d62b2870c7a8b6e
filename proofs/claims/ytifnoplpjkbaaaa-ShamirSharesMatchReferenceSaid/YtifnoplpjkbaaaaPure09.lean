/-
A part of this claim's proof (Pure09): lemmas that the text of the law stands on.
-/
import Derived.Test.YtifnoplpjkbaaaaPureC
import Derived.Test.YtifnoplpjkbaaaaF11
set_option linter.unusedVariables false
set_option linter.unusedSimpArgs false
namespace Go.Proofs.Ytifnoplpjkbaaaa.Pure
open Go.RowKit Go.Proofs.Ytifnoplpjkbaaaa Go.Proofs.Ytifnoplpjkbaaaa.F Go.Proofs.YtifnoplpjkbaaaaW.PrintWords Go.Proofs.YtifnoplpjkbaaaaW.PrintLast
variable {m : Nat}
set_option maxRecDepth 10000 in
theorem awake09_ev : Ev (fun k => privitylaw09_awake.f k) true := Ev.of (fun k => privitylaw09_awake.mono k) (k := 60) (by decide +kernel)
def shl (q : List (Fin (m + 1))) (i : Nat) : List (Fin (m + 1)) := (List.range i).map fun j => ev q (Fin.ofNat (m + 1) (j + 1))
theorem shl_succ (q : List (Fin (m + 1))) (i : Nat) : oF (shl q (i + 1)) = oF (shl q i) ++ [(((ev q (Fin.ofNat (m + 1) (i + 1))).val : Nat) : Int)] := by
  unfold shl
  rw [List.range_succ, List.map_append, oF_append]; rfl
theorem shl_len (q : List (Fin (m + 1))) (i : Nat) : (oF (shl q i)).length = i := by rw [len_oF]; simp [shl]
theorem shares_ev (hs : Sup (m + 1)) (n : Int) (q : List (Fin (m + 1))) (hn : n ≤ 40) (hp : n < ((m + 1 : Nat) : Int)) (hq : q.length ≤ 1000) : Ev (fun k => shamir_Shares.f k ((m + 1 : Nat) : Int) n (oF q)) (oF (shl q n.toNat)) := by
  have key : ∀ d i, i + d = n.toNat → Ev (fun k => shamir_Shares.l0 k ((m + 1 : Nat) : Int) n (oF q) (oF (shl q i)) ((i + 1 : Nat) : Int)) (oF (shl q n.toNat)) := by
    intro d
    induction d with
    | zero =>
      intro i hi
      refine Ev.step (f := fun _ => some (oF (shl q n.toNat))) (fun k => ?_) (Ev.now _)
      simp only [shamir_Shares.l0]
      rw [if_neg (by omega), show i = n.toNat by omega]
    | succ d ih =>
      intro i hi
      have hx : (((Fin.ofNat (m + 1) (i + 1)).val : Nat) : Int) = ((i + 1 : Nat) : Int) := by
        show (((i + 1) % (m + 1) : Nat) : Int) = _
        rw [Nat.mod_eq_of_lt (by omega)]
      have he := peval_ev hs q (Fin.ofNat (m + 1) (i + 1)) (by omega)
      rw [hx] at he
      refine Ev.step (f := fun k => (poly_Eval.f k ((m + 1 : Nat) : Int) (oF q) ((i + 1 : Nat) : Int)).bind fun t => shamir_Shares.l0 k ((m + 1 : Nat) : Int) n (oF q) (oF (shl q i) ++ [t]) ((i + 1 + 1 : Nat) : Int)) (fun k => ?_) (Ev.bind he ?_)
      · simp only [shamir_Shares.l0]
        rw [if_pos (by omega), wrap_small _ (by omega) (by omega)]
        simp only [if_pos (show (oF (shl q i)).length < 17592186044416 by rw [shl_len]; omega), wrapS (i + 1) (by omega)]
      · rw [← shl_succ]
        exact ih (i + 1) (by omega)
  exact key n.toNat 0 (by omega)
theorem rshares_ev (hs : Sup (m + 1)) (n : Int) (q : List (Fin (m + 1))) (hn : n ≤ 40) (hp : n < ((m + 1 : Nat) : Int)) (hq : q.length ≤ 1000) : Ev (fun k => privityref09_Shares.f k ((m + 1 : Nat) : Int) n (oF q)) (oF (shl q n.toNat)) := by
  have key : ∀ d i, i + d = n.toNat → Ev (fun k => privityref09_Shares.l0 k ((m + 1 : Nat) : Int) n (oF q) (oF (shl q i)) ((i + 1 : Nat) : Int)) (oF (shl q n.toNat)) := by
    intro d
    induction d with
    | zero =>
      intro i hi
      refine Ev.step (f := fun _ => some (oF (shl q n.toNat))) (fun k => ?_) (Ev.now _)
      simp only [privityref09_Shares.l0]
      rw [if_neg (by omega), show i = n.toNat by omega]
    | succ d ih =>
      intro i hi
      have hx : (((Fin.ofNat (m + 1) (i + 1)).val : Nat) : Int) = ((i + 1 : Nat) : Int) := by
        show (((i + 1) % (m + 1) : Nat) : Int) = _
        rw [Nat.mod_eq_of_lt (by omega)]
      have he := eval_ev hs q (Fin.ofNat (m + 1) (i + 1)) (by omega)
      rw [hx] at he
      refine Ev.step (f := fun k => (privityref04_Eval.f k ((m + 1 : Nat) : Int) (oF q) ((i + 1 : Nat) : Int)).bind fun t => privityref09_Shares.l0 k ((m + 1 : Nat) : Int) n (oF q) (oF (shl q i) ++ [t]) ((i + 1 + 1 : Nat) : Int)) (fun k => ?_) (Ev.bind he ?_)
      · simp only [privityref09_Shares.l0]
        rw [if_pos (by omega), wrap_small _ (by omega) (by omega)]
        simp only [if_pos (show (oF (shl q i)).length < 17592186044416 by rw [shl_len]; omega), wrapS (i + 1) (by omega)]
      · rw [← shl_succ]
        exact ih (i + 1) (by omega)
  exact key n.toNat 0 (by omega)
theorem ShamirSharesMatchReference : privitylaw09_ShamirSharesMatchReference.Pure := by
  intro a0 a1 l2 hw0 hw1 hm hm8 hw2
  refine Ev.rounds ?_
  unfold privitylaw09_ShamirSharesMatchReference.f
  refine Ev.bind awake09_ev ?_
  simp only [if_true]
  refine Ev.bind (supported_ev a0) ?_
  have hj0 : Ev (fun k => privitylaw09_ShamirSharesMatchReference.j0 k a0 a1 l2 true) true := Ev.step (f := fun _ => some true) (fun k => by simp only [privitylaw09_ShamirSharesMatchReference.j0]; rw [if_pos trivial]) (Ev.now _)
  by_cases hok : okp a0 = true
  case neg => rw [Bool.not_eq_true] at hok; rw [hok]; exact hj0
  rw [hok]
  simp only [if_true]
  by_cases h40 : a1 > 40
  · simp only [if_pos h40]; exact hj0
  simp only [if_neg h40]
  have rest : a1 < a0 → Ev (fun k => if (l2.length : Int) > 20 then privitylaw09_ShamirSharesMatchReference.j0 k a0 a1 l2 true else (privityref05_Below.f k a0 l2).bind fun t => privitylaw09_ShamirSharesMatchReference.j0 k a0 a1 l2 (!t)) true := by
    intro hlt
    by_cases h20 : (l2.length : Int) > 20
    · simp only [if_pos h20]; exact hj0
    simp only [if_neg h20]
    refine Ev.bind (below_ev a0 l2 (by omega)) ?_
    by_cases hb : (l2.all fun x => decide (x < a0)) = true
    case neg => rw [Bool.not_eq_true] at hb; rw [hb]; exact hj0
    rw [hb]
    obtain ⟨m, rfl, hs⟩ := okp_sup hok
    obtain ⟨q, rfl⟩ := all_oF (all_inr hw2 hb)
    rw [len_oF] at h20
    refine Ev.step (f := fun k => (shamir_Shares.f k ((m + 1 : Nat) : Int) a1 (oF q)).bind fun x => (privityref09_Shares.f k ((m + 1 : Nat) : Int) a1 (oF q)).bind fun y => (privityref05_Same.f k x y).bind fun t => some t) (fun k => ?_) (Ev.bind (shares_ev hs a1 q (by omega) hlt (by omega)) (Ev.bind (rshares_ev hs a1 q (by omega) hlt (by omega)) (Ev.bind (same_ev _ (by rw [shl_len]; omega)) (Ev.now _))))
    simp only [privitylaw09_ShamirSharesMatchReference.j0]
    rw [if_neg (by simp)]
  by_cases h0 : a1 > 0
  · simp only [if_pos h0]
    by_cases hp : IntKind.u64.wrap a1 ≥ a0
    · simp only [if_pos hp]; exact hj0
    simp only [if_neg hp]
    rw [wrap_small a1 (by omega) (by omega)] at hp
    exact rest (by omega)
  · simp only [if_neg h0]
    obtain ⟨m, h1, hs⟩ := okp_sup hok
    exact rest (by have := hs.two_lt; omega)
end Go.Proofs.Ytifnoplpjkbaaaa.Pure
