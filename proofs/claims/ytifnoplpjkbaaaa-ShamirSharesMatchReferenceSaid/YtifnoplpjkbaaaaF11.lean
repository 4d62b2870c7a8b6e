-- Written by a program of this claim's session: functions of the Go program as Lean functions, with proofs that the Go code comes to them.
import Derived.Test.YtifnoplpjkbaaaaF0
import Derived.Test.YtifnoplpjkbaaaaF1
import Derived.Test.YtifnoplpjkbaaaaF2
import Derived.Test.YtifnoplpjkbaaaaF7
import Derived.Test.YtifnoplpjkbaaaaF8
import Derived.Test.YtifnoplpjkbaaaaF9
import Derived.Test.YtifnoplpjkbaaaaF10
namespace Go.Proofs.Ytifnoplpjkbaaaa.F
open Go.RowKit Go.Proofs.YtifnoplpjkbaaaaW.PrintWords Go.Proofs.YtifnoplpjkbaaaaW.PrintLast Go.Proofs.YtifnoplpjkbaaaaW.PrintMore
attribute [local go_sem] max2_int min2_int max_two min_two max_three min_three max_four min_four   -- for this text's walks alone
set_option linter.unusedVariables false
set_option linter.unusedSimpArgs false

/-! ### privitylaw09_ShamirSharesMatchReference: function 3 -/
def privitylaw09_ShamirSharesMatchReference.j0 : Nat → Int → Int → List Int → Bool → Option (Bool)
  | 0, _, _, _, _ => none
  | k + 1, x0, x1, x2, x36 => if x36 = true then (some true) else ((shamir_Shares.f k x0 x1 x2).bind fun t232 => ((privityref09_Shares.f k x0 x1 x2).bind fun t235 => ((privityref05_Same.f k t232 t235).bind fun t238 => (some t238))))
def privitylaw09_ShamirSharesMatchReference.f (k : Nat) (a0 : Int) (a1 : Int) (l2 : List Int) : Option (Bool) := (privitylaw09_awake.f k).bind fun t228 => (if t228 = true then ((privityref01_Supported.f k a0).bind fun t229 => (if t229 = true then (if a1 > 40 then (privitylaw09_ShamirSharesMatchReference.j0 k a0 a1 l2 true) else (if a1 > 0 then (if (IntKind.u64.wrap (a1)) ≥ a0 then (privitylaw09_ShamirSharesMatchReference.j0 k a0 a1 l2 true) else (if (l2.length : Int) > 20 then (privitylaw09_ShamirSharesMatchReference.j0 k a0 a1 l2 true) else ((privityref05_Below.f k a0 l2).bind fun t230 => (privitylaw09_ShamirSharesMatchReference.j0 k a0 a1 l2 (!t230))))) else (if (l2.length : Int) > 20 then (privitylaw09_ShamirSharesMatchReference.j0 k a0 a1 l2 true) else ((privityref05_Below.f k a0 l2).bind fun t231 => (privitylaw09_ShamirSharesMatchReference.j0 k a0 a1 l2 (!t231)))))) else (privitylaw09_ShamirSharesMatchReference.j0 k a0 a1 l2 true))) else (some false))
theorem privitylaw09_ShamirSharesMatchReference.mono_l : ∀ k, (∀ y0 y1 y2 y3, LeO (privitylaw09_ShamirSharesMatchReference.j0 k y0 y1 y2 y3) (privitylaw09_ShamirSharesMatchReference.j0 (k + 1) y0 y1 y2 y3))
  | 0 => fun _ _ _ _ r h => by simp [privitylaw09_ShamirSharesMatchReference.j0] at h
  | k + 1 => by
    have ih0 := privitylaw09_ShamirSharesMatchReference.mono_l k
    · intro y0 y1 y2 y3
      unfold privitylaw09_ShamirSharesMatchReference.j0
      repeat' first
      | (with_reducible exact ih0 _ _ _ _)
      | (with_reducible exact privitylaw09_awake.mono _)
      | (with_reducible exact privityref01_Supported.mono _ _)
      | (with_reducible exact privityref05_Below.mono _ _ _)
      | (with_reducible exact privityref05_Same.mono _ _ _)
      | (with_reducible exact privityref09_Shares.mono _ _ _ _)
      | (with_reducible exact shamir_Shares.mono _ _ _ _)
      | (with_reducible exact LeO.refl _)
      | (with_reducible exact LeO.none _)
      | (with_reducible refine LeO.ite ?_ ?_)
      | (with_reducible refine LeO.bind ?_ (fun _ => ?_))
      | exact ih0 _ _ _ _
      | exact privitylaw09_awake.mono _
      | exact privityref01_Supported.mono _ _
      | exact privityref05_Below.mono _ _ _
      | exact privityref05_Same.mono _ _ _
      | exact privityref09_Shares.mono _ _ _ _
      | exact shamir_Shares.mono _ _ _ _
      | exact LeO.none _
      | refine LeO.ite ?_ ?_
      | refine LeO.bind ?_ (fun _ => ?_)
theorem privitylaw09_ShamirSharesMatchReference.mono : ∀ a0 a1 a2 k, LeO (privitylaw09_ShamirSharesMatchReference.f k a0 a1 a2) (privitylaw09_ShamirSharesMatchReference.f (k + 1) a0 a1 a2) := by
  intro a0 a1 a2 k
  have ih0 := privitylaw09_ShamirSharesMatchReference.mono_l k
  unfold privitylaw09_ShamirSharesMatchReference.f
  repeat' first
      | (with_reducible exact ih0 _ _ _ _)
      | (with_reducible exact privitylaw09_awake.mono _)
      | (with_reducible exact privityref01_Supported.mono _ _)
      | (with_reducible exact privityref05_Below.mono _ _ _)
      | (with_reducible exact privityref05_Same.mono _ _ _)
      | (with_reducible exact privityref09_Shares.mono _ _ _ _)
      | (with_reducible exact shamir_Shares.mono _ _ _ _)
      | (with_reducible exact LeO.refl _)
      | (with_reducible exact LeO.none _)
      | (with_reducible refine LeO.ite ?_ ?_)
      | (with_reducible refine LeO.bind ?_ (fun _ => ?_))
      | exact ih0 _ _ _ _
      | exact privitylaw09_awake.mono _
      | exact privityref01_Supported.mono _ _
      | exact privityref05_Below.mono _ _ _
      | exact privityref05_Same.mono _ _ _
      | exact privityref09_Shares.mono _ _ _ _
      | exact shamir_Shares.mono _ _ _ _
      | exact LeO.none _
      | refine LeO.ite ?_ ?_
      | refine LeO.bind ?_ (fun _ => ?_)
set_option maxHeartbeats 8000000 in
set_option maxRecDepth 100000 in
theorem privitylaw09_ShamirSharesMatchReference.calls (k : Nat) (a0 : Int) (a1 : Int) (A2 : Option Addr) (c2 : Nat) (l2 : List Int) (r : Bool) (w : World) (hr2 : Kd.C (Kd.int .u64) w A2 l2.length l2) (hc2 : l2.length ≤ c2) (h : privitylaw09_ShamirSharesMatchReference.f k a0 a1 l2 = some r) :
    Calls Try.prog 3 #[.int .u64 a0, .int .i64 a1, .slice A2 l2.length c2] w fun e w' => e = .returned (.bool r) ∧ Below w.heap.size w w' := by
  have HR2 := Aside0.mk hr2
  have HC2 := Aside0.mk hc2
  clear hr2 hc2
  have HB := Aside0.mk (Below.refl w.heap.size w)
  have H : ((privitylaw09_awake.f k).bind fun t228 => (if t228 = true then ((privityref01_Supported.f k a0).bind fun t229 => (if t229 = true then (if a1 > 40 then (privitylaw09_ShamirSharesMatchReference.j0 k a0 a1 l2 true) else (if a1 > 0 then (if (IntKind.u64.wrap (a1)) ≥ a0 then (privitylaw09_ShamirSharesMatchReference.j0 k a0 a1 l2 true) else (if (l2.length : Int) > 20 then (privitylaw09_ShamirSharesMatchReference.j0 k a0 a1 l2 true) else ((privityref05_Below.f k a0 l2).bind fun t230 => (privitylaw09_ShamirSharesMatchReference.j0 k a0 a1 l2 (!t230))))) else (if (l2.length : Int) > 20 then (privitylaw09_ShamirSharesMatchReference.j0 k a0 a1 l2 true) else ((privityref05_Below.f k a0 l2).bind fun t231 => (privitylaw09_ShamirSharesMatchReference.j0 k a0 a1 l2 (!t231)))))) else (privitylaw09_ShamirSharesMatchReference.j0 k a0 a1 l2 true))) else (some false))) = some r := h
  clear h
  replace H := Option.bind_eq_some_iff.mp H
  obtain ⟨t228, A40, H⟩ := H
  replace H : (if t228 = true then ((privityref01_Supported.f k a0).bind fun t229 => (if t229 = true then (if a1 > 40 then (privitylaw09_ShamirSharesMatchReference.j0 k a0 a1 l2 true) else (if a1 > 0 then (if (IntKind.u64.wrap (a1)) ≥ a0 then (privitylaw09_ShamirSharesMatchReference.j0 k a0 a1 l2 true) else (if (l2.length : Int) > 20 then (privitylaw09_ShamirSharesMatchReference.j0 k a0 a1 l2 true) else ((privityref05_Below.f k a0 l2).bind fun t230 => (privitylaw09_ShamirSharesMatchReference.j0 k a0 a1 l2 (!t230))))) else (if (l2.length : Int) > 20 then (privitylaw09_ShamirSharesMatchReference.j0 k a0 a1 l2 true) else ((privityref05_Below.f k a0 l2).bind fun t231 => (privitylaw09_ShamirSharesMatchReference.j0 k a0 a1 l2 (!t231)))))) else (privitylaw09_ShamirSharesMatchReference.j0 k a0 a1 l2 true))) else (some false)) = some r := H
  have A4 := Aside0.mk A40
  clear A40
  by_cases c5 : t228 = true
  · subst c5
    have H1 : ((privityref01_Supported.f k a0).bind fun t229 => (if t229 = true then (if a1 > 40 then (privitylaw09_ShamirSharesMatchReference.j0 k a0 a1 l2 true) else (if a1 > 0 then (if (IntKind.u64.wrap (a1)) ≥ a0 then (privitylaw09_ShamirSharesMatchReference.j0 k a0 a1 l2 true) else (if (l2.length : Int) > 20 then (privitylaw09_ShamirSharesMatchReference.j0 k a0 a1 l2 true) else ((privityref05_Below.f k a0 l2).bind fun t230 => (privitylaw09_ShamirSharesMatchReference.j0 k a0 a1 l2 (!t230))))) else (if (l2.length : Int) > 20 then (privitylaw09_ShamirSharesMatchReference.j0 k a0 a1 l2 true) else ((privityref05_Below.f k a0 l2).bind fun t231 => (privitylaw09_ShamirSharesMatchReference.j0 k a0 a1 l2 (!t231)))))) else (privitylaw09_ShamirSharesMatchReference.j0 k a0 a1 l2 true))) = some r := by rw [if_pos rfl] at H; exact H
    clear H
    have H := H1
    clear H1
    have HC6 := Aside0.mk H
    clear H
    go_enter Try.func3, Try.ntmps3
    go_upto_region 3 with (first | ((with_reducible refine gate_callee (f := 6) rfl ?_); refine goesL_ (some 7) rfl rfl Try.func6 (by kernel_rfl) rfl #[] rfl (by (try simp only [List.map_toArray, List.map_cons, List.map_nil]); first | done | rfl | (simp only [List.length_drop, List.length_take]; rfl)) ?_; (with_reducible refine (privitylaw09_awake.calls k  true _ A4.out).mono ?_); rintro e w7 ⟨rfl, hb⟩; refine ⟨_, rfl, ?_⟩; have n0_ := Aside0.mk (below_step (by repeat (first | (with_reducible first | exact HB.out | apply below_alloc | apply pw_below_drewN | apply below_drew1) | exact HB.out)) hb); clear HB; have HB := n0_; clear n0_; (try clear hb); (try clear hb2); (try clear hk); (try clear hi)))
    (try simp only [Act.put, List.setIfInBounds_toArray, List.set_cons_zero, List.set_cons_succ])
    go_cut [36] (fun v36 wc => ∃ (kq : Nat) (x36_5 : Bool), v36 = .bool x36_5 ∧ Aside0 (privitylaw09_ShamirSharesMatchReference.j0 kq a0 a1 l2 x36_5 = some r) ∧ Aside0 (kq ≤ k) ∧ Aside0 (Below w.heap.size w wc))
    case first =>
      have H := HC6.out
      clear HC6
      replace H := Option.bind_eq_some_iff.mp H
      obtain ⟨t229, A80, H⟩ := H
      replace H : (if t229 = true then (if a1 > 40 then (privitylaw09_ShamirSharesMatchReference.j0 k a0 a1 l2 true) else (if a1 > 0 then (if (IntKind.u64.wrap (a1)) ≥ a0 then (privitylaw09_ShamirSharesMatchReference.j0 k a0 a1 l2 true) else (if (l2.length : Int) > 20 then (privitylaw09_ShamirSharesMatchReference.j0 k a0 a1 l2 true) else ((privityref05_Below.f k a0 l2).bind fun t230 => (privitylaw09_ShamirSharesMatchReference.j0 k a0 a1 l2 (!t230))))) else (if (l2.length : Int) > 20 then (privitylaw09_ShamirSharesMatchReference.j0 k a0 a1 l2 true) else ((privityref05_Below.f k a0 l2).bind fun t231 => (privitylaw09_ShamirSharesMatchReference.j0 k a0 a1 l2 (!t231)))))) else (privitylaw09_ShamirSharesMatchReference.j0 k a0 a1 l2 true)) = some r := H
      have A8 := Aside0.mk A80
      clear A80
      by_cases c9 : t229 = true
      · subst c9
        have H1 : (if a1 > 40 then (privitylaw09_ShamirSharesMatchReference.j0 k a0 a1 l2 true) else (if a1 > 0 then (if (IntKind.u64.wrap (a1)) ≥ a0 then (privitylaw09_ShamirSharesMatchReference.j0 k a0 a1 l2 true) else (if (l2.length : Int) > 20 then (privitylaw09_ShamirSharesMatchReference.j0 k a0 a1 l2 true) else ((privityref05_Below.f k a0 l2).bind fun t230 => (privitylaw09_ShamirSharesMatchReference.j0 k a0 a1 l2 (!t230))))) else (if (l2.length : Int) > 20 then (privitylaw09_ShamirSharesMatchReference.j0 k a0 a1 l2 true) else ((privityref05_Below.f k a0 l2).bind fun t231 => (privitylaw09_ShamirSharesMatchReference.j0 k a0 a1 l2 (!t231)))))) = some r := by rw [if_pos rfl] at H; exact H
        clear H
        have H := H1
        clear H1
        by_cases c10 : a1 > 40
        · rw [if_pos c10] at H
          have c10b0 : decide (40 < a1) = true := decide_eq_true c10
          clear c10
          (first | rw [c10b0] | (simp only [i64_w, i32_w]; rw [c10b0]) | skip)
          have H' := Aside0.mk H
          clear H
          go_wp2_with (first | ((with_reducible refine gate_callee (f := 7) rfl ?_); refine goesL_ (some 10) rfl rfl Try.func7 (by kernel_rfl) rfl #[.int .u64 a0] rfl (by (try simp only [List.map_toArray, List.map_cons, List.map_nil]); first | done | rfl | (simp only [List.length_drop, List.length_take]; rfl)) ?_; (with_reducible refine (privityref01_Supported.calls k a0 true _ A8.out).mono ?_); rintro e w11 ⟨rfl, hb⟩; refine ⟨_, rfl, ?_⟩; have n0_ := Aside0.mk (below_step (by repeat (first | (with_reducible first | exact HB.out | apply below_alloc | apply pw_below_drewN | apply below_drew1) | exact HB.out)) hb); clear HB; have HB := n0_; clear n0_; (try clear hb); (try clear hb2); (try clear hk); (try clear hi)))
          go_meet
          case rel => exact ⟨_, (true), (by first | rfl | (simp; done) | (simp [*]; done)), H', ⟨by first | omega | exact Nat.le_refl _⟩, ⟨by repeat (first | (with_reducible first | exact HB.out | apply below_alloc | apply pw_below_drewN | apply below_drew1) | exact HB.out)⟩⟩
        · rw [if_neg c10] at H
          have c10b0 : decide (40 < a1) = false := decide_eq_false c10
          clear c10
          (first | rw [c10b0] | (simp only [i64_w, i32_w]; rw [c10b0]) | skip)
          by_cases c12 : a1 > 0
          · rw [if_pos c12] at H
            have c12b0 : decide (0 < a1) = true := decide_eq_true c12
            clear c12
            by_cases c13 : (IntKind.u64.wrap (a1)) ≥ a0
            · rw [if_pos c13] at H
              have c13b0 : decide (a0 ≤ (IntKind.u64.wrap (a1))) = true := decide_eq_true c13
              clear c13
              have H' := Aside0.mk H
              clear H
              go_wp2_with (first | ((with_reducible refine gate_callee (f := 7) rfl ?_); refine goesL_ (some 10) rfl rfl Try.func7 (by kernel_rfl) rfl #[.int .u64 a0] rfl (by (try simp only [List.map_toArray, List.map_cons, List.map_nil]); first | done | rfl | (simp only [List.length_drop, List.length_take]; rfl)) ?_; (with_reducible refine (privityref01_Supported.calls k a0 true _ A8.out).mono ?_); rintro e w14 ⟨rfl, hb⟩; refine ⟨_, rfl, ?_⟩; have n0_ := Aside0.mk (below_step (by repeat (first | (with_reducible first | exact HB.out | apply below_alloc | apply pw_below_drewN | apply below_drew1) | exact HB.out)) hb); clear HB; have HB := n0_; clear n0_; (try clear hb); (try clear hb2); (try clear hk); (try clear hi)))
              go_meet
              case rel => exact ⟨_, (true), (by first | rfl | (simp; done) | (simp [*]; done)), H', ⟨by first | omega | exact Nat.le_refl _⟩, ⟨by repeat (first | (with_reducible first | exact HB.out | apply below_alloc | apply pw_below_drewN | apply below_drew1) | exact HB.out)⟩⟩
            · rw [if_neg c13] at H
              have c13b0 : decide (a0 ≤ (IntKind.u64.wrap (a1))) = false := decide_eq_false c13
              clear c13
              by_cases c15 : (l2.length : Int) > 20
              · rw [if_pos c15] at H
                have c15b0 : decide (20 < (l2.length : Int)) = true := decide_eq_true c15
                have c15b1 : decide (20 < l2.length) = true := decide_eq_true (by omega)
                clear c15
                have H' := Aside0.mk H
                clear H
                go_wp2_with (first | ((with_reducible refine gate_callee (f := 7) rfl ?_); refine goesL_ (some 10) rfl rfl Try.func7 (by kernel_rfl) rfl #[.int .u64 a0] rfl (by (try simp only [List.map_toArray, List.map_cons, List.map_nil]); first | done | rfl | (simp only [List.length_drop, List.length_take]; rfl)) ?_; (with_reducible refine (privityref01_Supported.calls k a0 true _ A8.out).mono ?_); rintro e w16 ⟨rfl, hb⟩; refine ⟨_, rfl, ?_⟩; have n0_ := Aside0.mk (below_step (by repeat (first | (with_reducible first | exact HB.out | apply below_alloc | apply pw_below_drewN | apply below_drew1) | exact HB.out)) hb); clear HB; have HB := n0_; clear n0_; (try clear hb); (try clear hb2); (try clear hk); (try clear hi)))
                go_meet
                case rel => exact ⟨_, (true), (by first | rfl | (simp; done) | (simp [*]; done)), H', ⟨by first | omega | exact Nat.le_refl _⟩, ⟨by repeat (first | (with_reducible first | exact HB.out | apply below_alloc | apply pw_below_drewN | apply below_drew1) | exact HB.out)⟩⟩
              · rw [if_neg c15] at H
                have c15b0 : decide (20 < (l2.length : Int)) = false := decide_eq_false c15
                have c15b1 : decide (20 < l2.length) = false := decide_eq_false (by omega)
                clear c15
                replace H := Option.bind_eq_some_iff.mp H
                obtain ⟨t230, A170, H⟩ := H
                replace H : (privitylaw09_ShamirSharesMatchReference.j0 k a0 a1 l2 (!t230)) = some r := H
                have A17 := Aside0.mk A170
                clear A170
                have H' := Aside0.mk H
                clear H
                go_wp2_with (first | ((with_reducible refine gate_callee (f := 7) rfl ?_); refine goesL_ (some 10) rfl rfl Try.func7 (by kernel_rfl) rfl #[.int .u64 a0] rfl (by (try simp only [List.map_toArray, List.map_cons, List.map_nil]); first | done | rfl | (simp only [List.length_drop, List.length_take]; rfl)) ?_; (with_reducible refine (privityref01_Supported.calls k a0 true _ A8.out).mono ?_); rintro e w18 ⟨rfl, hb⟩; refine ⟨_, rfl, ?_⟩; have n0_ := Aside0.mk (below_step (by repeat (first | (with_reducible first | exact HB.out | apply below_alloc | apply pw_below_drewN | apply below_drew1) | exact HB.out)) hb); clear HB; have HB := n0_; clear n0_; (try clear hb); (try clear hb2); (try clear hk); (try clear hi)) | (go_at_call 8; (with_reducible refine (privityref05_Below.calls k a0 _ _ l2 t230 _ ?side1 ?side2 A17.out).mono ?_); (case side1 => repeat (first | exact (Kd.C_below HR2.out HB.out) | (with_reducible refine Kd.C_alloc ?_ _) | (with_reducible refine Kd.C_drewN ?_ _) | (with_reducible refine Kd.C_drew ?_))); (case side2 => exact HC2.out); rintro e w' ⟨rfl, ⟨nd, rfl⟩⟩))
                go_meet
                case rel => exact ⟨_, (!t230), (by first | rfl | (simp; done) | (simp [*]; done)), H', ⟨by first | omega | exact Nat.le_refl _⟩, ⟨by repeat (first | (with_reducible first | exact HB.out | apply below_alloc | apply pw_below_drewN | apply below_drew1) | exact HB.out)⟩⟩
          · rw [if_neg c12] at H
            have c12b0 : decide (0 < a1) = false := decide_eq_false c12
            clear c12
            by_cases c19 : (l2.length : Int) > 20
            · rw [if_pos c19] at H
              have c19b0 : decide (20 < (l2.length : Int)) = true := decide_eq_true c19
              have c19b1 : decide (20 < l2.length) = true := decide_eq_true (by omega)
              clear c19
              have H' := Aside0.mk H
              clear H
              go_wp2_with (first | ((with_reducible refine gate_callee (f := 7) rfl ?_); refine goesL_ (some 10) rfl rfl Try.func7 (by kernel_rfl) rfl #[.int .u64 a0] rfl (by (try simp only [List.map_toArray, List.map_cons, List.map_nil]); first | done | rfl | (simp only [List.length_drop, List.length_take]; rfl)) ?_; (with_reducible refine (privityref01_Supported.calls k a0 true _ A8.out).mono ?_); rintro e w20 ⟨rfl, hb⟩; refine ⟨_, rfl, ?_⟩; have n0_ := Aside0.mk (below_step (by repeat (first | (with_reducible first | exact HB.out | apply below_alloc | apply pw_below_drewN | apply below_drew1) | exact HB.out)) hb); clear HB; have HB := n0_; clear n0_; (try clear hb); (try clear hb2); (try clear hk); (try clear hi)))
              go_meet
              case rel => exact ⟨_, (true), (by first | rfl | (simp; done) | (simp [*]; done)), H', ⟨by first | omega | exact Nat.le_refl _⟩, ⟨by repeat (first | (with_reducible first | exact HB.out | apply below_alloc | apply pw_below_drewN | apply below_drew1) | exact HB.out)⟩⟩
            · rw [if_neg c19] at H
              have c19b0 : decide (20 < (l2.length : Int)) = false := decide_eq_false c19
              have c19b1 : decide (20 < l2.length) = false := decide_eq_false (by omega)
              clear c19
              replace H := Option.bind_eq_some_iff.mp H
              obtain ⟨t231, A210, H⟩ := H
              replace H : (privitylaw09_ShamirSharesMatchReference.j0 k a0 a1 l2 (!t231)) = some r := H
              have A21 := Aside0.mk A210
              clear A210
              have H' := Aside0.mk H
              clear H
              go_wp2_with (first | ((with_reducible refine gate_callee (f := 7) rfl ?_); refine goesL_ (some 10) rfl rfl Try.func7 (by kernel_rfl) rfl #[.int .u64 a0] rfl (by (try simp only [List.map_toArray, List.map_cons, List.map_nil]); first | done | rfl | (simp only [List.length_drop, List.length_take]; rfl)) ?_; (with_reducible refine (privityref01_Supported.calls k a0 true _ A8.out).mono ?_); rintro e w22 ⟨rfl, hb⟩; refine ⟨_, rfl, ?_⟩; have n0_ := Aside0.mk (below_step (by repeat (first | (with_reducible first | exact HB.out | apply below_alloc | apply pw_below_drewN | apply below_drew1) | exact HB.out)) hb); clear HB; have HB := n0_; clear n0_; (try clear hb); (try clear hb2); (try clear hk); (try clear hi)) | (go_at_call 8; (with_reducible refine (privityref05_Below.calls k a0 _ _ l2 t231 _ ?side1 ?side2 A21.out).mono ?_); (case side1 => repeat (first | exact (Kd.C_below HR2.out HB.out) | (with_reducible refine Kd.C_alloc ?_ _) | (with_reducible refine Kd.C_drewN ?_ _) | (with_reducible refine Kd.C_drew ?_))); (case side2 => exact HC2.out); rintro e w' ⟨rfl, ⟨nd, rfl⟩⟩))
              go_meet
              case rel => exact ⟨_, (!t231), (by first | rfl | (simp; done) | (simp [*]; done)), H', ⟨by first | omega | exact Nat.le_refl _⟩, ⟨by repeat (first | (with_reducible first | exact HB.out | apply below_alloc | apply pw_below_drewN | apply below_drew1) | exact HB.out)⟩⟩
      · replace c9 := Bool.eq_false_iff.mpr c9
        subst c9
        have H1 : (privitylaw09_ShamirSharesMatchReference.j0 k a0 a1 l2 true) = some r := by rw [if_neg (show ¬ (false = true) by decide)] at H; exact H
        clear H
        have H := H1
        clear H1
        have H' := Aside0.mk H
        clear H
        go_wp2_with (first | ((with_reducible refine gate_callee (f := 7) rfl ?_); refine goesL_ (some 10) rfl rfl Try.func7 (by kernel_rfl) rfl #[.int .u64 a0] rfl (by (try simp only [List.map_toArray, List.map_cons, List.map_nil]); first | done | rfl | (simp only [List.length_drop, List.length_take]; rfl)) ?_; (with_reducible refine (privityref01_Supported.calls k a0 false _ A8.out).mono ?_); rintro e w23 ⟨rfl, hb⟩; refine ⟨_, rfl, ?_⟩; have n0_ := Aside0.mk (below_step (by repeat (first | (with_reducible first | exact HB.out | apply below_alloc | apply pw_below_drewN | apply below_drew1) | exact HB.out)) hb); clear HB; have HB := n0_; clear n0_; (try clear hb); (try clear hb2); (try clear hk); (try clear hi)))
        go_meet
        case rel => exact ⟨_, (true), (by first | rfl | (simp; done) | (simp [*]; done)), H', ⟨by first | omega | exact Nat.le_refl _⟩, ⟨by repeat (first | (with_reducible first | exact HB.out | apply below_alloc | apply pw_below_drewN | apply below_drew1) | exact HB.out)⟩⟩
    case rest =>
      clear HC6
      try clear c1
      try clear c2
      try clear p2
      try clear c3
      try clear c5
      try clear c6
      try clear c7
      try clear c9
      try clear c10
      try clear c10b0
      try clear c12
      try clear c12b0
      try clear c13
      try clear c13b0
      try clear c15
      try clear c15b0
      try clear c15b1
      try clear c19
      try clear c19b0
      try clear c19b1
      obtain ⟨kq, x36_5, rfl, HA, HJ5, HB⟩ := hcut
      cases kq with
      | zero => exact absurd HA.out (by simp [privitylaw09_ShamirSharesMatchReference.j0])
      | succ kj5 =>
        have H := HA.out
        clear HA
        simp only [privitylaw09_ShamirSharesMatchReference.j0] at H
        by_cases c24 : x36_5 = true
        · subst c24
          have H1 : (some true) = some r := by rw [if_pos rfl] at H; exact H
          clear H
          have H := H1
          clear H1
          obtain rfl := Option.some.inj H
          go_wp2
          go_ret
          exact ⟨by first | rfl | (simp [errW_none, errW_some] <;> rfl) | (simp [*, errW_none, errW_some] <;> rfl), by repeat (first | (with_reducible first | exact HB.out | apply below_alloc | apply pw_below_drewN | apply below_drew1) | exact HB.out)⟩
        · replace c24 := Bool.eq_false_iff.mpr c24
          subst c24
          have H1 : ((shamir_Shares.f kj5 a0 a1 l2).bind fun t232 => ((privityref09_Shares.f kj5 a0 a1 l2).bind fun t235 => ((privityref05_Same.f kj5 t232 t235).bind fun t238 => (some t238)))) = some r := by rw [if_neg (show ¬ (false = true) by decide)] at H; exact H
          clear H
          have H := H1
          clear H1
          replace H := Option.bind_eq_some_iff.mp H
          obtain ⟨t232, A250, H⟩ := H
          replace H : ((privityref09_Shares.f kj5 a0 a1 l2).bind fun t235 => ((privityref05_Same.f kj5 t232 t235).bind fun t238 => (some t238))) = some r := H
          have A25 := Aside0.mk A250
          clear A250
          replace H := Option.bind_eq_some_iff.mp H
          obtain ⟨t235, A260, H⟩ := H
          replace H : ((privityref05_Same.f kj5 t232 t235).bind fun t238 => (some t238)) = some r := H
          have A26 := Aside0.mk A260
          clear A260
          replace H := Option.bind_eq_some_iff.mp H
          obtain ⟨t238, A270, H⟩ := H
          replace H : (some t238) = some r := H
          have A27 := Aside0.mk A270
          clear A270
          obtain rfl := Option.some.inj H
          go_wp2_with (first | ((with_reducible refine gate_callee (f := 10) rfl ?_); refine goesL_ (some 40) rfl rfl Try.func10 (by kernel_rfl) rfl #[.int .u64 a0, .int .i64 a1, .slice A2 l2.length c2] rfl (by (try simp only [List.map_toArray, List.map_cons, List.map_nil]); first | done | rfl | (simp only [List.length_drop, List.length_take]; rfl)) ?_; (with_reducible refine (shamir_Shares.calls kj5 a0 a1 _ _ l2 t232 _ ?side1 ?side2 A25.out).mono ?_); (case side1 => repeat (first | exact (Kd.C_below HR2.out HB.out) | (with_reducible refine Kd.C_alloc ?_ _) | (with_reducible refine Kd.C_drewN ?_ _) | (with_reducible refine Kd.C_drew ?_))); (case side2 => exact HC2.out); rintro e w28 ⟨v233, rfl, ho0, hb⟩; refine ⟨_, rfl, ?_⟩; have n0_ := Aside0.mk (Kd.R_lower ho0 (below_size (by repeat (first | (with_reducible first | exact HB.out | apply below_alloc | apply pw_below_drewN | apply below_drew1) | exact HB.out)))); have n1_ := Aside0.mk (below_step (by repeat (first | (with_reducible first | exact HB.out | apply below_alloc | apply pw_below_drewN | apply below_drew1) | exact HB.out)) hb); clear HB; have HO234 := n0_; have HB := n1_; clear n0_ n1_; (try clear hb); (try clear hb2); (try clear hk); (try clear hi); (try clear ho0)) | ((with_reducible refine gate_callee (f := 11) rfl ?_); refine goesL_ (some 44) rfl rfl Try.func11 (by kernel_rfl) rfl #[.int .u64 a0, .int .i64 a1, .slice A2 l2.length c2] rfl (by (try simp only [List.map_toArray, List.map_cons, List.map_nil]); first | done | rfl | (simp only [List.length_drop, List.length_take]; rfl)) ?_; (with_reducible refine (privityref09_Shares.calls kj5 a0 a1 _ _ l2 t235 _ ?side1 ?side2 A26.out).mono ?_); (case side1 => repeat (first | exact (Kd.C_below HR2.out HB.out) | (with_reducible refine Kd.C_alloc ?_ _) | (with_reducible refine Kd.C_drewN ?_ _) | (with_reducible refine Kd.C_drew ?_))); (case side2 => exact HC2.out); rintro e w29 ⟨v236, rfl, ho0, hb⟩; refine ⟨_, rfl, ?_⟩; have n0_ := Aside0.mk (Kd.R_elder' (by (with_reducible repeat (first | apply Kd.R_alloc | apply Kd.R_drewN | apply Kd.R_drew)); exact HO234.out) (Kd.R_base ho0) hb); have n1_ := Aside0.mk (Kd.R_lower (Kd.R_new' ho0 (Kd.R_lt (by (with_reducible repeat (first | apply Kd.R_alloc | apply Kd.R_drewN | apply Kd.R_drew)); exact HO234.out))) (below_size (by repeat (first | (with_reducible first | exact HB.out | apply below_alloc | apply pw_below_drewN | apply below_drew1) | exact HB.out)))); have n2_ := Aside0.mk (below_step (by repeat (first | (with_reducible first | exact HB.out | apply below_alloc | apply pw_below_drewN | apply below_drew1) | exact HB.out)) hb); clear HO234; clear HB; have HO234 := n0_; have HO237 := n1_; have HB := n2_; clear n0_ n1_ n2_; (try clear hb); (try clear hb2); (try clear hk); (try clear hi); (try clear ho0); obtain ⟨Ao30, co30, eo30⟩ := Kd.R_slice HO234.out; subst eo30; obtain ⟨Ao31, co31, eo31⟩ := Kd.R_slice HO237.out; subst eo31) | ((with_reducible refine gate_callee (f := 9) rfl ?_); refine goesL_ (some 45) rfl rfl Try.func9 (by kernel_rfl) rfl #[.slice Ao30 t232.length co30, .slice Ao31 t235.length co31] rfl (by (try simp only [List.map_toArray, List.map_cons, List.map_nil]); first | done | rfl | (simp only [List.length_drop, List.length_take]; rfl)) ?_; (with_reducible refine (privityref05_Same.calls kj5 _ _ t232 _ _ t235 t238 _ ?side1 ?side2 ?side3 ?side4 A27.out).mono ?_); (case side1 => repeat (first | exact (Kd.R_reads' HO234.out).2.2 | (with_reducible refine Kd.C_alloc ?_ _) | (with_reducible refine Kd.C_drewN ?_ _) | (with_reducible refine Kd.C_drew ?_))); (case side2 => exact (Kd.R_reads' HO234.out).2.1); (case side3 => repeat (first | exact (Kd.R_reads' HO237.out).2.2 | (with_reducible refine Kd.C_alloc ?_ _) | (with_reducible refine Kd.C_drewN ?_ _) | (with_reducible refine Kd.C_drew ?_))); (case side4 => exact (Kd.R_reads' HO237.out).2.1); rintro e w' ⟨rfl, ⟨nd, rfl⟩⟩; refine ⟨_, rfl, ?_⟩))
          go_ret
          exact ⟨by first | rfl | (simp [errW_none, errW_some] <;> rfl) | (simp [*, errW_none, errW_some] <;> rfl), by repeat (first | (with_reducible first | exact HB.out | apply below_alloc | apply pw_below_drewN | apply below_drew1) | exact HB.out)⟩
  · replace c5 := Bool.eq_false_iff.mpr c5
    subst c5
    have H1 : (some false) = some r := by rw [if_neg (show ¬ (false = true) by decide)] at H; exact H
    clear H
    have H := H1
    clear H1
    obtain rfl := Option.some.inj H
    go_enter Try.func3, Try.ntmps3
    go_wp2_with (first | ((with_reducible refine gate_callee (f := 6) rfl ?_); refine goesL_ (some 7) rfl rfl Try.func6 (by kernel_rfl) rfl #[] rfl (by (try simp only [List.map_toArray, List.map_cons, List.map_nil]); first | done | rfl | (simp only [List.length_drop, List.length_take]; rfl)) ?_; (with_reducible refine (privitylaw09_awake.calls k  false _ A4.out).mono ?_); rintro e w32 ⟨rfl, hb⟩; refine ⟨_, rfl, ?_⟩; have n0_ := Aside0.mk (below_step (by repeat (first | (with_reducible first | exact HB.out | apply below_alloc | apply pw_below_drewN | apply below_drew1) | exact HB.out)) hb); clear HB; have HB := n0_; clear n0_; (try clear hb); (try clear hb2); (try clear hk); (try clear hi)))
    go_ret
    exact ⟨by first | rfl | (simp [errW_none, errW_some] <;> rfl) | (simp [*, errW_none, errW_some] <;> rfl), by repeat (first | (with_reducible first | exact HB.out | apply below_alloc | apply pw_below_drewN | apply below_drew1) | exact HB.out)⟩

/-- THE ONE PURE STATEMENT of privitylaw09_ShamirSharesMatchReference: yours. -/
def privitylaw09_ShamirSharesMatchReference.Pure : Prop := ∀ (a0 : Int) (a1 : Int) (l2 : List Int), (Lit.int .u64 a0).wf = true → (Lit.int .i64 a1).wf = true → l2.length ≤ maxLen → l2.length * 8 ≤ 140737488351232 → (∀ x ∈ l2, (Lit.int .u64 x).wf = true) → ∃ k, privitylaw09_ShamirSharesMatchReference.f k a0 a1 l2 = some true
theorem privitylaw09_ShamirSharesMatchReference.walk (P : privitylaw09_ShamirSharesMatchReference.Pure) (a0 : Int) (a1 : Int) (a2 : Option Addr) (len2 cap2 : Nat) (z2 : List Int) (w : World) (w0 : (Lit.int .u64 a0).wf = true) (w1 : (Lit.int .i64 a1).wf = true) (w2 : (a2 = none ∧ len2 = 0 ∧ cap2 = 0 ∧ z2 = []) ∨ ∃ x, a2 = some x ∧ len2 ≤ cap2 ∧ cap2 ≤ maxLen ∧ z2.length = cap2 ∧ (∀ i, i < z2.length → w.cell? (x.add i) = some (.int .u64 (z2.getD i 0))) ∧ ∀ n ∈ z2, (Lit.int .u64 n).wf = true) (y2 : len2 * 8 ≤ 140737488351232) :
    Calls Try.prog 3 #[.int .u64 a0, .int .i64 a1, .slice a2 len2 cap2] w fun e w' => e = .returned (.bool true) ∧ Below w.heap.size w w' := by
  obtain ⟨l2, rfl, hr2, hm2, hw2, hc2⟩ := ReadsInt.ofRowC w2
  obtain ⟨k, h⟩ := P a0 a1 l2 w0 w1 hm2 y2 hw2
  refine (privitylaw09_ShamirSharesMatchReference.calls k a0 a1 _ _ l2 true w (Kd.C_of_reads (d := (0 : Int)) (h1 := fun _ => rfl) hr2) hc2 h).mono ?_
  rintro e w' ⟨rfl, hd⟩
  exact ⟨rfl, hd⟩

end Go.Proofs.Ytifnoplpjkbaaaa.F
