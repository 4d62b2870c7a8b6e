-- Written by a program of this claim's session: functions of the Go program as Lean functions, with proofs that the Go code comes to them.
import Derived.Test.YtgjcmcokkbdflaaG1
import Derived.Test.YtgjcmcokkbdflaaG2
namespace Go.Proofs.Ytgjcmcokkbdflaa.F
open Go.RowKit Go.Proofs.YtgjcmcokkbdflaaW.PrintWords Go.Proofs.YtgjcmcokkbdflaaW.PrintLast Go.Proofs.YtgjcmcokkbdflaaW.PrintMore
attribute [local go_sem] max2_int min2_int max_two min_two max_three min_three max_four min_four   -- for this text's walks alone
set_option linter.unusedVariables false
set_option linter.unusedSimpArgs false
theorem Ra20 {α : Type} {d : Kd α} {e : Nat} {w : World} {base : Nat} {ok : Nat → Prop} {v : Value} {xs : List α} (h : d.R e w base ok v xs) (o : Obj) : d.R e (w.alloc o) base ok v xs := Kd.R_alloc h o
theorem Rb20 {α : Type} {d : Kd α} {e : Nat} {w : World} {base : Nat} {ok : Nat → Prop} {v : Value} {xs : List α} (h : d.R e w base ok v xs) (m : Nat) : d.R e (w.drewN m) base ok v xs := Kd.R_drewN h m
theorem Rc20 {α : Type} {d : Kd α} {e : Nat} {w : World} {base : Nat} {ok : Nat → Prop} {v : Value} {xs : List α} (h : d.R e w base ok v xs) : d.R e w.drew base ok v xs := Kd.R_drew h
theorem Ba20 {w W : World} (h : Below w.heap.size w W) (o : Obj) : Below w.heap.size w (W.alloc o) := below_alloc h o
theorem Bb20 {B : Nat} {w W : World} (h : Below B w W) (n : Nat) : Below B w (W.drewN n) := pw_below_drewN h n
theorem Bc20 {base : Nat} {w W : World} (h : Below base w W) : Below base w W.drew := below_drew1 h
theorem Ak20 {p : Prop} (h : p) : Aside0 p := Aside0.mk h

/-! ### privitylaw10_validTranslation: function 14 -/
mutual
def privitylaw10_validTranslation.j0 : Nat → Bool → Int → List (List Int) → List Int → Int → Int → Option (Bool)
 | 0, _, _, _, _, _, _ => none
 | k + 1, x53, x308000, x308001, x308002, x308003, x308004 => if x53 = true then (some false) else (privitylaw10_validTranslation.l0 k 0 x308000 x308001 x308002 x308003 x308004)
def privitylaw10_validTranslation.l0 : Nat → Int → Int → List (List Int) → List Int → Int → Int → Option (Bool)
 | 0, _, _, _, _, _, _ => none
 | k + 1, x3, x308000, x308001, x308002, x308003, x308004 => if x3 < (x308002.length : Int) then (if 0 ≤ x3 then (if (rd x308002 x3) = 0 then (some false) else (privitylaw10_validTranslation.l0 k (wrap64 (x3 + 1)) x308000 x308001 x308002 x308003 x308004)) else (none)) else (some true)
end
def privitylaw10_validTranslation.f (k : Nat) (a0_0 : Int) (l0_1 : List (List Int)) (l0_2 : List Int) (a0_3 : Int) (a0_4 : Int) : Option (Bool) := (privityref10_Fair.f k a0_0 l0_1 6).bind fun t308 => (if t308 = true then ((privityref10_IsSymmetric.f k l0_1).bind fun t309 => (if t309 = true then ((privityref06_Below.f k a0_0 l0_2 6).bind fun t310 => (if t310 = true then (if (l0_2.length : Int) = (wrap64 ((l0_1.length : Int) - 1)) then ((privityref10_Unlike.f k l0_2).bind fun t311 => (if t311 = true then (if a0_3 ≥ a0_0 then (privitylaw10_validTranslation.j0 k true a0_0 l0_1 l0_2 a0_3 a0_4) else (privitylaw10_validTranslation.j0 k (decide (a0_4 ≥ a0_0)) a0_0 l0_1 l0_2 a0_3 a0_4)) else (privitylaw10_validTranslation.j0 k true a0_0 l0_1 l0_2 a0_3 a0_4))) else (privitylaw10_validTranslation.j0 k true a0_0 l0_1 l0_2 a0_3 a0_4)) else (privitylaw10_validTranslation.j0 k true a0_0 l0_1 l0_2 a0_3 a0_4))) else (privitylaw10_validTranslation.j0 k true a0_0 l0_1 l0_2 a0_3 a0_4))) else (privitylaw10_validTranslation.j0 k true a0_0 l0_1 l0_2 a0_3 a0_4))
theorem privitylaw10_validTranslation.mono_l : ∀ k, (∀ y0 y1 y2 y3 y4 y5, LeO (privitylaw10_validTranslation.j0 k y0 y1 y2 y3 y4 y5) (privitylaw10_validTranslation.j0 (k + 1) y0 y1 y2 y3 y4 y5)) ∧ (∀ y0 y1 y2 y3 y4 y5, LeO (privitylaw10_validTranslation.l0 k y0 y1 y2 y3 y4 y5) (privitylaw10_validTranslation.l0 (k + 1) y0 y1 y2 y3 y4 y5))
 | 0 => ⟨fun _ _ _ _ _ _ r h => by simp [privitylaw10_validTranslation.j0] at h, fun _ _ _ _ _ _ r h => by simp [privitylaw10_validTranslation.l0] at h⟩
 | k + 1 => by
  obtain ⟨ih0, ih1⟩ := privitylaw10_validTranslation.mono_l k
  refine ⟨?_, ?_⟩
  ·intro y0 y1 y2 y3 y4 y5
   unfold privitylaw10_validTranslation.j0
   repeat' first
   | (with_reducible exact ih0 _ _ _ _ _ _)
   | (with_reducible exact ih1 _ _ _ _ _ _)
   | (with_reducible exact privityref06_Below.mono _ _ _ _)
   | (with_reducible exact privityref10_Fair.mono _ _ _ _)
   | (with_reducible exact privityref10_IsSymmetric.mono _ _)
   | (with_reducible exact privityref10_Unlike.mono _ _)
   | (with_reducible exact LeO.refl _)
   | (with_reducible exact LeO.none _)
   | (with_reducible refine LeO.ite ?_ ?_)
   | (with_reducible refine LeO.bind ?_ (fun _ => ?_))
   | exact ih0 _ _ _ _ _ _
   | exact ih1 _ _ _ _ _ _
   | exact privityref06_Below.mono _ _ _ _
   | exact privityref10_Fair.mono _ _ _ _
   | exact privityref10_IsSymmetric.mono _ _
   | exact privityref10_Unlike.mono _ _
   | exact LeO.none _
   | refine LeO.ite ?_ ?_
   | refine LeO.bind ?_ (fun _ => ?_)
  ·intro y0 y1 y2 y3 y4 y5
   unfold privitylaw10_validTranslation.l0
   repeat' first
   | (with_reducible exact ih0 _ _ _ _ _ _)
   | (with_reducible exact ih1 _ _ _ _ _ _)
   | (with_reducible exact privityref06_Below.mono _ _ _ _)
   | (with_reducible exact privityref10_Fair.mono _ _ _ _)
   | (with_reducible exact privityref10_IsSymmetric.mono _ _)
   | (with_reducible exact privityref10_Unlike.mono _ _)
   | (with_reducible exact LeO.refl _)
   | (with_reducible exact LeO.none _)
   | (with_reducible refine LeO.ite ?_ ?_)
   | (with_reducible refine LeO.bind ?_ (fun _ => ?_))
   | exact ih0 _ _ _ _ _ _
   | exact ih1 _ _ _ _ _ _
   | exact privityref06_Below.mono _ _ _ _
   | exact privityref10_Fair.mono _ _ _ _
   | exact privityref10_IsSymmetric.mono _ _
   | exact privityref10_Unlike.mono _ _
   | exact LeO.none _
   | refine LeO.ite ?_ ?_
   | refine LeO.bind ?_ (fun _ => ?_)
theorem privitylaw10_validTranslation.mono : ∀ a0 a1 a2 a3 a4 k, LeO (privitylaw10_validTranslation.f k a0 a1 a2 a3 a4) (privitylaw10_validTranslation.f (k + 1) a0 a1 a2 a3 a4) := by
 intro a0 a1 a2 a3 a4 k
 obtain ⟨ih0, ih1⟩ := privitylaw10_validTranslation.mono_l k
 unfold privitylaw10_validTranslation.f
 repeat' first
   | (with_reducible exact ih0 _ _ _ _ _ _)
   | (with_reducible exact ih1 _ _ _ _ _ _)
   | (with_reducible exact privityref06_Below.mono _ _ _ _)
   | (with_reducible exact privityref10_Fair.mono _ _ _ _)
   | (with_reducible exact privityref10_IsSymmetric.mono _ _)
   | (with_reducible exact privityref10_Unlike.mono _ _)
   | (with_reducible exact LeO.refl _)
   | (with_reducible exact LeO.none _)
   | (with_reducible refine LeO.ite ?_ ?_)
   | (with_reducible refine LeO.bind ?_ (fun _ => ?_))
   | exact ih0 _ _ _ _ _ _
   | exact ih1 _ _ _ _ _ _
   | exact privityref06_Below.mono _ _ _ _
   | exact privityref10_Fair.mono _ _ _ _
   | exact privityref10_IsSymmetric.mono _ _
   | exact privityref10_Unlike.mono _ _
   | exact LeO.none _
   | refine LeO.ite ?_ ?_
   | refine LeO.bind ?_ (fun _ => ?_)
set_option maxHeartbeats 8000000 in
set_option maxRecDepth 100000 in
theorem privitylaw10_validTranslation.calls (k : Nat) (a0_0 : Int) (A0_1 : Option Addr) (c0_1 : Nat) (l0_1 : List (List Int)) (A0_2 : Option Addr) (c0_2 : Nat) (l0_2 : List Int) (a0_3 : Int) (a0_4 : Int) (r : Bool) (w : World) (hr0_1 : Kd.C (Kd.slice 22 (Kd.int .u64)) w A0_1 l0_1.length l0_1) (hc0_1 : l0_1.length ≤ c0_1) (hr0_2 : Kd.C (Kd.int .u64) w A0_2 l0_2.length l0_2) (hc0_2 : l0_2.length ≤ c0_2) (h : privitylaw10_validTranslation.f k a0_0 l0_1 l0_2 a0_3 a0_4 = some r) :
  Calls Try.prog 14 #[.agg #[.int .u64 a0_0, .slice A0_1 l0_1.length c0_1, .slice A0_2 l0_2.length c0_2, .int .u64 a0_3, .int .u64 a0_4]] w fun e w' => e = .returned (.bool r) ∧ Below w.heap.size w w' := by
 have hu34 := Try.underlying34
 have HR0_1 := Ak20 hr0_1
 have HC0_1 := Ak20 hc0_1
 clear hr0_1 hc0_1
 have HR0_2 := Ak20 hr0_2
 have HC0_2 := Ak20 hc0_2
 clear hr0_2 hc0_2
 have HB := Ak20 (Below.refl w.heap.size w)
 have H : ((privityref10_Fair.f k a0_0 l0_1 6).bind fun t308 => (if t308 = true then ((privityref10_IsSymmetric.f k l0_1).bind fun t309 => (if t309 = true then ((privityref06_Below.f k a0_0 l0_2 6).bind fun t310 => (if t310 = true then (if (l0_2.length : Int) = (wrap64 ((l0_1.length : Int) - 1)) then ((privityref10_Unlike.f k l0_2).bind fun t311 => (if t311 = true then (if a0_3 ≥ a0_0 then (privitylaw10_validTranslation.j0 k true a0_0 l0_1 l0_2 a0_3 a0_4) else (privitylaw10_validTranslation.j0 k (decide (a0_4 ≥ a0_0)) a0_0 l0_1 l0_2 a0_3 a0_4)) else (privitylaw10_validTranslation.j0 k true a0_0 l0_1 l0_2 a0_3 a0_4))) else (privitylaw10_validTranslation.j0 k true a0_0 l0_1 l0_2 a0_3 a0_4)) else (privitylaw10_validTranslation.j0 k true a0_0 l0_1 l0_2 a0_3 a0_4))) else (privitylaw10_validTranslation.j0 k true a0_0 l0_1 l0_2 a0_3 a0_4))) else (privitylaw10_validTranslation.j0 k true a0_0 l0_1 l0_2 a0_3 a0_4))) = some r := h
 clear h
 have HC2 := Ak20 H
 clear H
 go_enter Try.func14, Try.ntmps14
 go_upto_region 1 with (first | ((with_reducible refine gate_dst (N := 1) rfl ?_); (try (refine gate_guard (by rfl) ?_; dsimp only)); refine box_event ?hg (N := 1) ?hd (cs := #[.int .u64 a0_0, .slice A0_1 l0_1.length c0_1, .slice A0_2 l0_2.length c0_2, .int .u64 a0_3, .int .u64 a0_4]) (t := 34) ?hr ?_; (case hd => rfl); (case hg => rfl); (case hr => first | (go_simp; done) | (go_simp; rfl)); intro gb307 hg w3 hbox hb; have n0_ := Ak20 (below_step (by repeat (first | (with_reducible first | exact HB.out | apply Ba20 | apply Bb20 | apply Bc20) | exact HB.out)) hb); have n1_ := Ak20 (hbox); have n2_ := Ak20 ((by rw [hg]; exact (below_size (by repeat (first | (with_reducible first | exact HB.out | apply Ba20 | apply Bb20 | apply Bc20) | exact HB.out))) : w.heap.size ≤ gb307)); have n3_ := Ak20 ((by rw [hg]; exact (below_size (by repeat (first | (with_reducible first | exact HB.out | apply Ba20 | apply Bb20 | apply Bc20) | exact HB.out))) : w.heap.size ≤ gb307)); clear HB; have HB := n0_; have BK307 := n1_; have GW307 := n2_; have GE307 := n3_; clear n0_ n1_ n2_ n3_; clear hb hbox hg))
 (try simp only [Act.put, List.setIfInBounds_toArray, List.set_cons_zero, List.set_cons_succ])
 go_cut [53] (fun v53 wc => ∃ (kq : Nat) (x53_1 : Bool), v53 = .bool x53_1 ∧ Aside0 (privitylaw10_validTranslation.j0 kq x53_1 a0_0 l0_1 l0_2 a0_3 a0_4 = some r) ∧ Aside0 (kq ≤ k) ∧ Aside0 (wc.heap[gb307]? = some (.cells #[.int .u64 a0_0, (.slice A0_1 l0_1.length c0_1), (.slice A0_2 l0_2.length c0_2), .int .u64 a0_3, .int .u64 a0_4] 34 (0, 0))) ∧ Aside0 (Below w.heap.size w wc))
 case first =>
  have H := HC2.out
  clear HC2
  replace H := Option.bind_eq_some_iff.mp H
  obtain ⟨t308, A40, H⟩ := H
  replace H : (if t308 = true then ((privityref10_IsSymmetric.f k l0_1).bind fun t309 => (if t309 = true then ((privityref06_Below.f k a0_0 l0_2 6).bind fun t310 => (if t310 = true then (if (l0_2.length : Int) = (wrap64 ((l0_1.length : Int) - 1)) then ((privityref10_Unlike.f k l0_2).bind fun t311 => (if t311 = true then (if a0_3 ≥ a0_0 then (privitylaw10_validTranslation.j0 k true a0_0 l0_1 l0_2 a0_3 a0_4) else (privitylaw10_validTranslation.j0 k (decide (a0_4 ≥ a0_0)) a0_0 l0_1 l0_2 a0_3 a0_4)) else (privitylaw10_validTranslation.j0 k true a0_0 l0_1 l0_2 a0_3 a0_4))) else (privitylaw10_validTranslation.j0 k true a0_0 l0_1 l0_2 a0_3 a0_4)) else (privitylaw10_validTranslation.j0 k true a0_0 l0_1 l0_2 a0_3 a0_4))) else (privitylaw10_validTranslation.j0 k true a0_0 l0_1 l0_2 a0_3 a0_4))) else (privitylaw10_validTranslation.j0 k true a0_0 l0_1 l0_2 a0_3 a0_4)) = some r := H
  have A4 := Ak20 A40
  clear A40
  by_cases c5 : t308 = true
  ·subst c5
   have H1 : ((privityref10_IsSymmetric.f k l0_1).bind fun t309 => (if t309 = true then ((privityref06_Below.f k a0_0 l0_2 6).bind fun t310 => (if t310 = true then (if (l0_2.length : Int) = (wrap64 ((l0_1.length : Int) - 1)) then ((privityref10_Unlike.f k l0_2).bind fun t311 => (if t311 = true then (if a0_3 ≥ a0_0 then (privitylaw10_validTranslation.j0 k true a0_0 l0_1 l0_2 a0_3 a0_4) else (privitylaw10_validTranslation.j0 k (decide (a0_4 ≥ a0_0)) a0_0 l0_1 l0_2 a0_3 a0_4)) else (privitylaw10_validTranslation.j0 k true a0_0 l0_1 l0_2 a0_3 a0_4))) else (privitylaw10_validTranslation.j0 k true a0_0 l0_1 l0_2 a0_3 a0_4)) else (privitylaw10_validTranslation.j0 k true a0_0 l0_1 l0_2 a0_3 a0_4))) else (privitylaw10_validTranslation.j0 k true a0_0 l0_1 l0_2 a0_3 a0_4))) = some r := by rw [if_pos rfl] at H; exact H
   clear H
   have H := H1
   clear H1
   replace H := Option.bind_eq_some_iff.mp H
   obtain ⟨t309, A60, H⟩ := H
   replace H : (if t309 = true then ((privityref06_Below.f k a0_0 l0_2 6).bind fun t310 => (if t310 = true then (if (l0_2.length : Int) = (wrap64 ((l0_1.length : Int) - 1)) then ((privityref10_Unlike.f k l0_2).bind fun t311 => (if t311 = true then (if a0_3 ≥ a0_0 then (privitylaw10_validTranslation.j0 k true a0_0 l0_1 l0_2 a0_3 a0_4) else (privitylaw10_validTranslation.j0 k (decide (a0_4 ≥ a0_0)) a0_0 l0_1 l0_2 a0_3 a0_4)) else (privitylaw10_validTranslation.j0 k true a0_0 l0_1 l0_2 a0_3 a0_4))) else (privitylaw10_validTranslation.j0 k true a0_0 l0_1 l0_2 a0_3 a0_4)) else (privitylaw10_validTranslation.j0 k true a0_0 l0_1 l0_2 a0_3 a0_4))) else (privitylaw10_validTranslation.j0 k true a0_0 l0_1 l0_2 a0_3 a0_4)) = some r := H
   have A6 := Ak20 A60
   clear A60
   by_cases c7 : t309 = true
   ·subst c7
    have H1 : ((privityref06_Below.f k a0_0 l0_2 6).bind fun t310 => (if t310 = true then (if (l0_2.length : Int) = (wrap64 ((l0_1.length : Int) - 1)) then ((privityref10_Unlike.f k l0_2).bind fun t311 => (if t311 = true then (if a0_3 ≥ a0_0 then (privitylaw10_validTranslation.j0 k true a0_0 l0_1 l0_2 a0_3 a0_4) else (privitylaw10_validTranslation.j0 k (decide (a0_4 ≥ a0_0)) a0_0 l0_1 l0_2 a0_3 a0_4)) else (privitylaw10_validTranslation.j0 k true a0_0 l0_1 l0_2 a0_3 a0_4))) else (privitylaw10_validTranslation.j0 k true a0_0 l0_1 l0_2 a0_3 a0_4)) else (privitylaw10_validTranslation.j0 k true a0_0 l0_1 l0_2 a0_3 a0_4))) = some r := by rw [if_pos rfl] at H; exact H
    clear H
    have H := H1
    clear H1
    replace H := Option.bind_eq_some_iff.mp H
    obtain ⟨t310, A80, H⟩ := H
    replace H : (if t310 = true then (if (l0_2.length : Int) = (wrap64 ((l0_1.length : Int) - 1)) then ((privityref10_Unlike.f k l0_2).bind fun t311 => (if t311 = true then (if a0_3 ≥ a0_0 then (privitylaw10_validTranslation.j0 k true a0_0 l0_1 l0_2 a0_3 a0_4) else (privitylaw10_validTranslation.j0 k (decide (a0_4 ≥ a0_0)) a0_0 l0_1 l0_2 a0_3 a0_4)) else (privitylaw10_validTranslation.j0 k true a0_0 l0_1 l0_2 a0_3 a0_4))) else (privitylaw10_validTranslation.j0 k true a0_0 l0_1 l0_2 a0_3 a0_4)) else (privitylaw10_validTranslation.j0 k true a0_0 l0_1 l0_2 a0_3 a0_4)) = some r := H
    have A8 := Ak20 A80
    clear A80
    by_cases c9 : t310 = true
    ·subst c9
     have H1 : (if (l0_2.length : Int) = (wrap64 ((l0_1.length : Int) - 1)) then ((privityref10_Unlike.f k l0_2).bind fun t311 => (if t311 = true then (if a0_3 ≥ a0_0 then (privitylaw10_validTranslation.j0 k true a0_0 l0_1 l0_2 a0_3 a0_4) else (privitylaw10_validTranslation.j0 k (decide (a0_4 ≥ a0_0)) a0_0 l0_1 l0_2 a0_3 a0_4)) else (privitylaw10_validTranslation.j0 k true a0_0 l0_1 l0_2 a0_3 a0_4))) else (privitylaw10_validTranslation.j0 k true a0_0 l0_1 l0_2 a0_3 a0_4)) = some r := by rw [if_pos rfl] at H; exact H
     clear H
     have H := H1
     clear H1
     by_cases c10 : (l0_2.length : Int) = (wrap64 ((l0_1.length : Int) - 1))
     ·rw [if_pos c10] at H
      have c10b0 : ((l0_2.length : Int) == (wrap64 ((l0_1.length : Int) - 1))) = true := beq_iff_eq.mpr c10
      have c10b1 : ((l0_2.length : Int) != (wrap64 ((l0_1.length : Int) - 1))) = false := bne_eq_false_iff_eq.mpr c10
      clear c10
      (first | rw [c10b0] | (simp only [i64_w, i32_w]; rw [c10b0]) | skip)
      replace H := Option.bind_eq_some_iff.mp H
      obtain ⟨t311, A110, H⟩ := H
      replace H : (if t311 = true then (if a0_3 ≥ a0_0 then (privitylaw10_validTranslation.j0 k true a0_0 l0_1 l0_2 a0_3 a0_4) else (privitylaw10_validTranslation.j0 k (decide (a0_4 ≥ a0_0)) a0_0 l0_1 l0_2 a0_3 a0_4)) else (privitylaw10_validTranslation.j0 k true a0_0 l0_1 l0_2 a0_3 a0_4)) = some r := H
      have A11 := Ak20 A110
      clear A110
      by_cases c12 : t311 = true
      ·subst c12
       have H1 : (if a0_3 ≥ a0_0 then (privitylaw10_validTranslation.j0 k true a0_0 l0_1 l0_2 a0_3 a0_4) else (privitylaw10_validTranslation.j0 k (decide (a0_4 ≥ a0_0)) a0_0 l0_1 l0_2 a0_3 a0_4)) = some r := by rw [if_pos rfl] at H; exact H
       clear H
       have H := H1
       clear H1
       by_cases c13 : a0_3 ≥ a0_0
       ·rw [if_pos c13] at H
        have c13b0 : decide (a0_0 ≤ a0_3) = true := decide_eq_true c13
        clear c13
        have H' := Ak20 H
        clear H
        have hcz14_0 : w3.cell? ⟨gb307, 0, none⟩ = some (.int .u64 a0_0) := (blk_cell BK307.out 0).trans rfl
        have hcz14_1 : w3.cell? ⟨gb307, 1, none⟩ = some (.slice A0_1 l0_1.length c0_1) := (blk_cell BK307.out 1).trans rfl
        have hcz14_2 : w3.cell? ⟨gb307, 2, none⟩ = some (.slice A0_2 l0_2.length c0_2) := (blk_cell BK307.out 2).trans rfl
        have hcz14_3 : w3.cell? ⟨gb307, 3, none⟩ = some (.int .u64 a0_3) := (blk_cell BK307.out 3).trans rfl
        have hcz14_4 : w3.cell? ⟨gb307, 4, none⟩ = some (.int .u64 a0_4) := (blk_cell BK307.out 4).trans rfl
        have hfz14_0 := blk_frozen BK307.out 0
        have hfz14_1 := blk_frozen BK307.out 1
        have hfz14_2 := blk_frozen BK307.out 2
        have hfz14_3 := blk_frozen BK307.out 3
        have hfz14_4 := blk_frozen BK307.out 4
        go_wp2_with (first | ((with_reducible refine gate_callee (f := 6) rfl ?_); refine goesL_ (some 8) rfl rfl Try.func6 (by kernel_rfl) rfl #[.int .u64 a0_0, .slice A0_1 l0_1.length c0_1, .int .i64 6] rfl (by (try simp only [List.map_toArray, List.map_cons, List.map_nil]); first | done | rfl | (simp only [List.length_drop, List.length_take]; rfl)) ?_; (with_reducible refine (privityref10_Fair.calls k a0_0 _ _ l0_1 6 true _ ?side1 ?side2 A4.out).mono ?_); (case side1 => repeat (first | exact (Kd.C_below HR0_1.out HB.out) | (with_reducible refine Kd.C_alloc ?_ _) | (with_reducible refine Kd.C_drewN ?_ _) | (with_reducible refine Kd.C_drew ?_))); (case side2 => exact HC0_1.out); rintro e w15 ⟨rfl, hb⟩; refine ⟨_, rfl, ?_⟩; have n0_ := Ak20 (blk_below (g := gb307) (o := .cells #[.int .u64 a0_0, .slice A0_1 l0_1.length c0_1, .slice A0_2 l0_2.length c0_2, .int .u64 a0_3, .int .u64 a0_4] 34 (0, 0)) (by (with_reducible repeat (first | refine blk_drewN ?_ _ | refine blk_drew ?_ | refine blk_alloc ?_ _)); exact BK307.out) hb); have n1_ := Ak20 (below_step (by repeat (first | (with_reducible first | exact HB.out | apply Ba20 | apply Bb20 | apply Bc20 | refine below_set ?_ GE307.out) | exact HB.out)) hb); clear BK307; clear HB; have BK307 := n0_; have HB := n1_; clear n0_ n1_; (try clear hb); (try clear hb2); (try clear hk); (try clear hi); have hcz16_0 : w15.cell? ⟨gb307, 0, none⟩ = some (.int .u64 a0_0) := (blk_cell BK307.out 0).trans rfl; have hcz16_1 : w15.cell? ⟨gb307, 1, none⟩ = some (.slice A0_1 l0_1.length c0_1) := (blk_cell BK307.out 1).trans rfl; have hcz16_2 : w15.cell? ⟨gb307, 2, none⟩ = some (.slice A0_2 l0_2.length c0_2) := (blk_cell BK307.out 2).trans rfl; have hcz16_3 : w15.cell? ⟨gb307, 3, none⟩ = some (.int .u64 a0_3) := (blk_cell BK307.out 3).trans rfl; have hcz16_4 : w15.cell? ⟨gb307, 4, none⟩ = some (.int .u64 a0_4) := (blk_cell BK307.out 4).trans rfl; have hfz16_0 := blk_frozen BK307.out 0; have hfz16_1 := blk_frozen BK307.out 1; have hfz16_2 := blk_frozen BK307.out 2; have hfz16_3 := blk_frozen BK307.out 3; have hfz16_4 := blk_frozen BK307.out 4) | (go_at_call 22; (with_reducible refine (privityref10_IsSymmetric.calls k _ _ l0_1 true _ ?side1 ?side2 A6.out).mono ?_); (case side1 => repeat (first | exact (Kd.C_below HR0_1.out HB.out) | (with_reducible refine Kd.C_alloc ?_ _) | (with_reducible refine Kd.C_drewN ?_ _) | (with_reducible refine Kd.C_drew ?_))); (case side2 => exact HC0_1.out); rintro e w' ⟨rfl, ⟨nd, rfl⟩⟩) | (go_at_call 30; (with_reducible refine (privityref06_Below.calls k a0_0 _ _ l0_2 6 true _ ?side1 ?side2 A8.out).mono ?_); (case side1 => repeat (first | exact (Kd.C_below HR0_2.out (by repeat (first | (with_reducible first | exact HB.out | apply Ba20 | apply Bb20 | apply Bc20 | refine below_set ?_ GE307.out) | exact HB.out))) | (with_reducible refine Kd.C_alloc ?_ _) | (with_reducible refine Kd.C_drewN ?_ _) | (with_reducible refine Kd.C_drew ?_))); (case side2 => exact HC0_2.out); rintro e w' ⟨rfl, ⟨nd, rfl⟩⟩) | (go_at_call 31; (with_reducible refine (privityref10_Unlike.calls k _ _ l0_2 true _ ?side1 ?side2 A11.out).mono ?_); (case side1 => repeat (first | exact (Kd.C_below HR0_2.out (by repeat (first | (with_reducible first | exact HB.out | apply Ba20 | apply Bb20 | apply Bc20 | refine below_set ?_ GE307.out) | exact HB.out))) | (with_reducible refine Kd.C_alloc ?_ _) | (with_reducible refine Kd.C_drewN ?_ _) | (with_reducible refine Kd.C_drew ?_))); (case side2 => exact HC0_2.out); rintro e w' ⟨rfl, ⟨nd, rfl⟩⟩))
        go_meet
        case rel => exact ⟨_, (true), (by first | rfl | (simp; done) | (simp [*]; done)), H', ⟨by first | omega | exact Nat.le_refl _⟩, ⟨by (with_reducible repeat (first | refine blk_drewN ?_ _ | refine blk_drew ?_ | refine blk_alloc ?_ _)); exact BK307.out⟩, ⟨by repeat (first | (with_reducible first | exact HB.out | apply Ba20 | apply Bb20 | apply Bc20 | refine below_set ?_ GE307.out) | exact HB.out)⟩⟩
       ·rw [if_neg c13] at H
        have c13b0 : decide (a0_0 ≤ a0_3) = false := decide_eq_false c13
        clear c13
        have H' := Ak20 H
        clear H
        have hcz17_0 : w3.cell? ⟨gb307, 0, none⟩ = some (.int .u64 a0_0) := (blk_cell BK307.out 0).trans rfl
        have hcz17_1 : w3.cell? ⟨gb307, 1, none⟩ = some (.slice A0_1 l0_1.length c0_1) := (blk_cell BK307.out 1).trans rfl
        have hcz17_2 : w3.cell? ⟨gb307, 2, none⟩ = some (.slice A0_2 l0_2.length c0_2) := (blk_cell BK307.out 2).trans rfl
        have hcz17_3 : w3.cell? ⟨gb307, 3, none⟩ = some (.int .u64 a0_3) := (blk_cell BK307.out 3).trans rfl
        have hcz17_4 : w3.cell? ⟨gb307, 4, none⟩ = some (.int .u64 a0_4) := (blk_cell BK307.out 4).trans rfl
        have hfz17_0 := blk_frozen BK307.out 0
        have hfz17_1 := blk_frozen BK307.out 1
        have hfz17_2 := blk_frozen BK307.out 2
        have hfz17_3 := blk_frozen BK307.out 3
        have hfz17_4 := blk_frozen BK307.out 4
        go_wp2_with (first | ((with_reducible refine gate_callee (f := 6) rfl ?_); refine goesL_ (some 8) rfl rfl Try.func6 (by kernel_rfl) rfl #[.int .u64 a0_0, .slice A0_1 l0_1.length c0_1, .int .i64 6] rfl (by (try simp only [List.map_toArray, List.map_cons, List.map_nil]); first | done | rfl | (simp only [List.length_drop, List.length_take]; rfl)) ?_; (with_reducible refine (privityref10_Fair.calls k a0_0 _ _ l0_1 6 true _ ?side1 ?side2 A4.out).mono ?_); (case side1 => repeat (first | exact (Kd.C_below HR0_1.out HB.out) | (with_reducible refine Kd.C_alloc ?_ _) | (with_reducible refine Kd.C_drewN ?_ _) | (with_reducible refine Kd.C_drew ?_))); (case side2 => exact HC0_1.out); rintro e w18 ⟨rfl, hb⟩; refine ⟨_, rfl, ?_⟩; have n0_ := Ak20 (blk_below (g := gb307) (o := .cells #[.int .u64 a0_0, .slice A0_1 l0_1.length c0_1, .slice A0_2 l0_2.length c0_2, .int .u64 a0_3, .int .u64 a0_4] 34 (0, 0)) (by (with_reducible repeat (first | refine blk_drewN ?_ _ | refine blk_drew ?_ | refine blk_alloc ?_ _)); exact BK307.out) hb); have n1_ := Ak20 (below_step (by repeat (first | (with_reducible first | exact HB.out | apply Ba20 | apply Bb20 | apply Bc20 | refine below_set ?_ GE307.out) | exact HB.out)) hb); clear BK307; clear HB; have BK307 := n0_; have HB := n1_; clear n0_ n1_; (try clear hb); (try clear hb2); (try clear hk); (try clear hi); have hcz19_0 : w18.cell? ⟨gb307, 0, none⟩ = some (.int .u64 a0_0) := (blk_cell BK307.out 0).trans rfl; have hcz19_1 : w18.cell? ⟨gb307, 1, none⟩ = some (.slice A0_1 l0_1.length c0_1) := (blk_cell BK307.out 1).trans rfl; have hcz19_2 : w18.cell? ⟨gb307, 2, none⟩ = some (.slice A0_2 l0_2.length c0_2) := (blk_cell BK307.out 2).trans rfl; have hcz19_3 : w18.cell? ⟨gb307, 3, none⟩ = some (.int .u64 a0_3) := (blk_cell BK307.out 3).trans rfl; have hcz19_4 : w18.cell? ⟨gb307, 4, none⟩ = some (.int .u64 a0_4) := (blk_cell BK307.out 4).trans rfl; have hfz19_0 := blk_frozen BK307.out 0; have hfz19_1 := blk_frozen BK307.out 1; have hfz19_2 := blk_frozen BK307.out 2; have hfz19_3 := blk_frozen BK307.out 3; have hfz19_4 := blk_frozen BK307.out 4) | (go_at_call 22; (with_reducible refine (privityref10_IsSymmetric.calls k _ _ l0_1 true _ ?side1 ?side2 A6.out).mono ?_); (case side1 => repeat (first | exact (Kd.C_below HR0_1.out HB.out) | (with_reducible refine Kd.C_alloc ?_ _) | (with_reducible refine Kd.C_drewN ?_ _) | (with_reducible refine Kd.C_drew ?_))); (case side2 => exact HC0_1.out); rintro e w' ⟨rfl, ⟨nd, rfl⟩⟩) | (go_at_call 30; (with_reducible refine (privityref06_Below.calls k a0_0 _ _ l0_2 6 true _ ?side1 ?side2 A8.out).mono ?_); (case side1 => repeat (first | exact (Kd.C_below HR0_2.out (by repeat (first | (with_reducible first | exact HB.out | apply Ba20 | apply Bb20 | apply Bc20 | refine below_set ?_ GE307.out) | exact HB.out))) | (with_reducible refine Kd.C_alloc ?_ _) | (with_reducible refine Kd.C_drewN ?_ _) | (with_reducible refine Kd.C_drew ?_))); (case side2 => exact HC0_2.out); rintro e w' ⟨rfl, ⟨nd, rfl⟩⟩) | (go_at_call 31; (with_reducible refine (privityref10_Unlike.calls k _ _ l0_2 true _ ?side1 ?side2 A11.out).mono ?_); (case side1 => repeat (first | exact (Kd.C_below HR0_2.out (by repeat (first | (with_reducible first | exact HB.out | apply Ba20 | apply Bb20 | apply Bc20 | refine below_set ?_ GE307.out) | exact HB.out))) | (with_reducible refine Kd.C_alloc ?_ _) | (with_reducible refine Kd.C_drewN ?_ _) | (with_reducible refine Kd.C_drew ?_))); (case side2 => exact HC0_2.out); rintro e w' ⟨rfl, ⟨nd, rfl⟩⟩))
        go_meet
        case rel => exact ⟨_, (decide (a0_4 ≥ a0_0)), (by first | rfl | (simp; done) | (simp [*]; done)), H', ⟨by first | omega | exact Nat.le_refl _⟩, ⟨by (with_reducible repeat (first | refine blk_drewN ?_ _ | refine blk_drew ?_ | refine blk_alloc ?_ _)); exact BK307.out⟩, ⟨by repeat (first | (with_reducible first | exact HB.out | apply Ba20 | apply Bb20 | apply Bc20 | refine below_set ?_ GE307.out) | exact HB.out)⟩⟩
      ·replace c12 := Bool.eq_false_iff.mpr c12
       subst c12
       have H1 : (privitylaw10_validTranslation.j0 k true a0_0 l0_1 l0_2 a0_3 a0_4) = some r := by rw [if_neg (show ¬ (false = true) by decide)] at H; exact H
       clear H
       have H := H1
       clear H1
       have H' := Ak20 H
       clear H
       have hcz20_0 : w3.cell? ⟨gb307, 0, none⟩ = some (.int .u64 a0_0) := (blk_cell BK307.out 0).trans rfl
       have hcz20_1 : w3.cell? ⟨gb307, 1, none⟩ = some (.slice A0_1 l0_1.length c0_1) := (blk_cell BK307.out 1).trans rfl
       have hcz20_2 : w3.cell? ⟨gb307, 2, none⟩ = some (.slice A0_2 l0_2.length c0_2) := (blk_cell BK307.out 2).trans rfl
       have hcz20_3 : w3.cell? ⟨gb307, 3, none⟩ = some (.int .u64 a0_3) := (blk_cell BK307.out 3).trans rfl
       have hcz20_4 : w3.cell? ⟨gb307, 4, none⟩ = some (.int .u64 a0_4) := (blk_cell BK307.out 4).trans rfl
       have hfz20_0 := blk_frozen BK307.out 0
       have hfz20_1 := blk_frozen BK307.out 1
       have hfz20_2 := blk_frozen BK307.out 2
       have hfz20_3 := blk_frozen BK307.out 3
       have hfz20_4 := blk_frozen BK307.out 4
       go_wp2_with (first | ((with_reducible refine gate_callee (f := 6) rfl ?_); refine goesL_ (some 8) rfl rfl Try.func6 (by kernel_rfl) rfl #[.int .u64 a0_0, .slice A0_1 l0_1.length c0_1, .int .i64 6] rfl (by (try simp only [List.map_toArray, List.map_cons, List.map_nil]); first | done | rfl | (simp only [List.length_drop, List.length_take]; rfl)) ?_; (with_reducible refine (privityref10_Fair.calls k a0_0 _ _ l0_1 6 true _ ?side1 ?side2 A4.out).mono ?_); (case side1 => repeat (first | exact (Kd.C_below HR0_1.out HB.out) | (with_reducible refine Kd.C_alloc ?_ _) | (with_reducible refine Kd.C_drewN ?_ _) | (with_reducible refine Kd.C_drew ?_))); (case side2 => exact HC0_1.out); rintro e w21 ⟨rfl, hb⟩; refine ⟨_, rfl, ?_⟩; have n0_ := Ak20 (blk_below (g := gb307) (o := .cells #[.int .u64 a0_0, .slice A0_1 l0_1.length c0_1, .slice A0_2 l0_2.length c0_2, .int .u64 a0_3, .int .u64 a0_4] 34 (0, 0)) (by (with_reducible repeat (first | refine blk_drewN ?_ _ | refine blk_drew ?_ | refine blk_alloc ?_ _)); exact BK307.out) hb); have n1_ := Ak20 (below_step (by repeat (first | (with_reducible first | exact HB.out | apply Ba20 | apply Bb20 | apply Bc20 | refine below_set ?_ GE307.out) | exact HB.out)) hb); clear BK307; clear HB; have BK307 := n0_; have HB := n1_; clear n0_ n1_; (try clear hb); (try clear hb2); (try clear hk); (try clear hi); have hcz22_0 : w21.cell? ⟨gb307, 0, none⟩ = some (.int .u64 a0_0) := (blk_cell BK307.out 0).trans rfl; have hcz22_1 : w21.cell? ⟨gb307, 1, none⟩ = some (.slice A0_1 l0_1.length c0_1) := (blk_cell BK307.out 1).trans rfl; have hcz22_2 : w21.cell? ⟨gb307, 2, none⟩ = some (.slice A0_2 l0_2.length c0_2) := (blk_cell BK307.out 2).trans rfl; have hcz22_3 : w21.cell? ⟨gb307, 3, none⟩ = some (.int .u64 a0_3) := (blk_cell BK307.out 3).trans rfl; have hcz22_4 : w21.cell? ⟨gb307, 4, none⟩ = some (.int .u64 a0_4) := (blk_cell BK307.out 4).trans rfl; have hfz22_0 := blk_frozen BK307.out 0; have hfz22_1 := blk_frozen BK307.out 1; have hfz22_2 := blk_frozen BK307.out 2; have hfz22_3 := blk_frozen BK307.out 3; have hfz22_4 := blk_frozen BK307.out 4) | (go_at_call 22; (with_reducible refine (privityref10_IsSymmetric.calls k _ _ l0_1 true _ ?side1 ?side2 A6.out).mono ?_); (case side1 => repeat (first | exact (Kd.C_below HR0_1.out HB.out) | (with_reducible refine Kd.C_alloc ?_ _) | (with_reducible refine Kd.C_drewN ?_ _) | (with_reducible refine Kd.C_drew ?_))); (case side2 => exact HC0_1.out); rintro e w' ⟨rfl, ⟨nd, rfl⟩⟩) | (go_at_call 30; (with_reducible refine (privityref06_Below.calls k a0_0 _ _ l0_2 6 true _ ?side1 ?side2 A8.out).mono ?_); (case side1 => repeat (first | exact (Kd.C_below HR0_2.out (by repeat (first | (with_reducible first | exact HB.out | apply Ba20 | apply Bb20 | apply Bc20 | refine below_set ?_ GE307.out) | exact HB.out))) | (with_reducible refine Kd.C_alloc ?_ _) | (with_reducible refine Kd.C_drewN ?_ _) | (with_reducible refine Kd.C_drew ?_))); (case side2 => exact HC0_2.out); rintro e w' ⟨rfl, ⟨nd, rfl⟩⟩) | (go_at_call 31; (with_reducible refine (privityref10_Unlike.calls k _ _ l0_2 false _ ?side1 ?side2 A11.out).mono ?_); (case side1 => repeat (first | exact (Kd.C_below HR0_2.out (by repeat (first | (with_reducible first | exact HB.out | apply Ba20 | apply Bb20 | apply Bc20 | refine below_set ?_ GE307.out) | exact HB.out))) | (with_reducible refine Kd.C_alloc ?_ _) | (with_reducible refine Kd.C_drewN ?_ _) | (with_reducible refine Kd.C_drew ?_))); (case side2 => exact HC0_2.out); rintro e w' ⟨rfl, ⟨nd, rfl⟩⟩))
       go_meet
       case rel => exact ⟨_, (true), (by first | rfl | (simp; done) | (simp [*]; done)), H', ⟨by first | omega | exact Nat.le_refl _⟩, ⟨by (with_reducible repeat (first | refine blk_drewN ?_ _ | refine blk_drew ?_ | refine blk_alloc ?_ _)); exact BK307.out⟩, ⟨by repeat (first | (with_reducible first | exact HB.out | apply Ba20 | apply Bb20 | apply Bc20 | refine below_set ?_ GE307.out) | exact HB.out)⟩⟩
     ·rw [if_neg c10] at H
      have c10b0 : ((l0_2.length : Int) == (wrap64 ((l0_1.length : Int) - 1))) = false := beq_eq_false_iff_ne.mpr c10
      have c10b1 : ((l0_2.length : Int) != (wrap64 ((l0_1.length : Int) - 1))) = true := bne_iff_ne.mpr c10
      (first | rw [c10b0] | (simp only [i64_w, i32_w]; rw [c10b0]) | skip)
      have H' := Ak20 H
      clear H
      have hcz23_0 : w3.cell? ⟨gb307, 0, none⟩ = some (.int .u64 a0_0) := (blk_cell BK307.out 0).trans rfl
      have hcz23_1 : w3.cell? ⟨gb307, 1, none⟩ = some (.slice A0_1 l0_1.length c0_1) := (blk_cell BK307.out 1).trans rfl
      have hcz23_2 : w3.cell? ⟨gb307, 2, none⟩ = some (.slice A0_2 l0_2.length c0_2) := (blk_cell BK307.out 2).trans rfl
      have hcz23_3 : w3.cell? ⟨gb307, 3, none⟩ = some (.int .u64 a0_3) := (blk_cell BK307.out 3).trans rfl
      have hcz23_4 : w3.cell? ⟨gb307, 4, none⟩ = some (.int .u64 a0_4) := (blk_cell BK307.out 4).trans rfl
      have hfz23_0 := blk_frozen BK307.out 0
      have hfz23_1 := blk_frozen BK307.out 1
      have hfz23_2 := blk_frozen BK307.out 2
      have hfz23_3 := blk_frozen BK307.out 3
      have hfz23_4 := blk_frozen BK307.out 4
      go_wp2_with (first | ((with_reducible refine gate_callee (f := 6) rfl ?_); refine goesL_ (some 8) rfl rfl Try.func6 (by kernel_rfl) rfl #[.int .u64 a0_0, .slice A0_1 l0_1.length c0_1, .int .i64 6] rfl (by (try simp only [List.map_toArray, List.map_cons, List.map_nil]); first | done | rfl | (simp only [List.length_drop, List.length_take]; rfl)) ?_; (with_reducible refine (privityref10_Fair.calls k a0_0 _ _ l0_1 6 true _ ?side1 ?side2 A4.out).mono ?_); (case side1 => repeat (first | exact (Kd.C_below HR0_1.out HB.out) | (with_reducible refine Kd.C_alloc ?_ _) | (with_reducible refine Kd.C_drewN ?_ _) | (with_reducible refine Kd.C_drew ?_))); (case side2 => exact HC0_1.out); rintro e w24 ⟨rfl, hb⟩; refine ⟨_, rfl, ?_⟩; have n0_ := Ak20 (blk_below (g := gb307) (o := .cells #[.int .u64 a0_0, .slice A0_1 l0_1.length c0_1, .slice A0_2 l0_2.length c0_2, .int .u64 a0_3, .int .u64 a0_4] 34 (0, 0)) (by (with_reducible repeat (first | refine blk_drewN ?_ _ | refine blk_drew ?_ | refine blk_alloc ?_ _)); exact BK307.out) hb); have n1_ := Ak20 (below_step (by repeat (first | (with_reducible first | exact HB.out | apply Ba20 | apply Bb20 | apply Bc20 | refine below_set ?_ GE307.out) | exact HB.out)) hb); clear BK307; clear HB; have BK307 := n0_; have HB := n1_; clear n0_ n1_; (try clear hb); (try clear hb2); (try clear hk); (try clear hi); have hcz25_0 : w24.cell? ⟨gb307, 0, none⟩ = some (.int .u64 a0_0) := (blk_cell BK307.out 0).trans rfl; have hcz25_1 : w24.cell? ⟨gb307, 1, none⟩ = some (.slice A0_1 l0_1.length c0_1) := (blk_cell BK307.out 1).trans rfl; have hcz25_2 : w24.cell? ⟨gb307, 2, none⟩ = some (.slice A0_2 l0_2.length c0_2) := (blk_cell BK307.out 2).trans rfl; have hcz25_3 : w24.cell? ⟨gb307, 3, none⟩ = some (.int .u64 a0_3) := (blk_cell BK307.out 3).trans rfl; have hcz25_4 : w24.cell? ⟨gb307, 4, none⟩ = some (.int .u64 a0_4) := (blk_cell BK307.out 4).trans rfl; have hfz25_0 := blk_frozen BK307.out 0; have hfz25_1 := blk_frozen BK307.out 1; have hfz25_2 := blk_frozen BK307.out 2; have hfz25_3 := blk_frozen BK307.out 3; have hfz25_4 := blk_frozen BK307.out 4) | (go_at_call 22; (with_reducible refine (privityref10_IsSymmetric.calls k _ _ l0_1 true _ ?side1 ?side2 A6.out).mono ?_); (case side1 => repeat (first | exact (Kd.C_below HR0_1.out HB.out) | (with_reducible refine Kd.C_alloc ?_ _) | (with_reducible refine Kd.C_drewN ?_ _) | (with_reducible refine Kd.C_drew ?_))); (case side2 => exact HC0_1.out); rintro e w' ⟨rfl, ⟨nd, rfl⟩⟩) | (go_at_call 30; (with_reducible refine (privityref06_Below.calls k a0_0 _ _ l0_2 6 true _ ?side1 ?side2 A8.out).mono ?_); (case side1 => repeat (first | exact (Kd.C_below HR0_2.out (by repeat (first | (with_reducible first | exact HB.out | apply Ba20 | apply Bb20 | apply Bc20 | refine below_set ?_ GE307.out) | exact HB.out))) | (with_reducible refine Kd.C_alloc ?_ _) | (with_reducible refine Kd.C_drewN ?_ _) | (with_reducible refine Kd.C_drew ?_))); (case side2 => exact HC0_2.out); rintro e w' ⟨rfl, ⟨nd, rfl⟩⟩))
      go_meet
      case rel => exact ⟨_, (true), (by first | rfl | (simp; done) | (simp [*]; done)), H', ⟨by first | omega | exact Nat.le_refl _⟩, ⟨by (with_reducible repeat (first | refine blk_drewN ?_ _ | refine blk_drew ?_ | refine blk_alloc ?_ _)); exact BK307.out⟩, ⟨by repeat (first | (with_reducible first | exact HB.out | apply Ba20 | apply Bb20 | apply Bc20 | refine below_set ?_ GE307.out) | exact HB.out)⟩⟩
    ·replace c9 := Bool.eq_false_iff.mpr c9
     subst c9
     have H1 : (privitylaw10_validTranslation.j0 k true a0_0 l0_1 l0_2 a0_3 a0_4) = some r := by rw [if_neg (show ¬ (false = true) by decide)] at H; exact H
     clear H
     have H := H1
     clear H1
     have H' := Ak20 H
     clear H
     have hcz26_0 : w3.cell? ⟨gb307, 0, none⟩ = some (.int .u64 a0_0) := (blk_cell BK307.out 0).trans rfl
     have hcz26_1 : w3.cell? ⟨gb307, 1, none⟩ = some (.slice A0_1 l0_1.length c0_1) := (blk_cell BK307.out 1).trans rfl
     have hcz26_2 : w3.cell? ⟨gb307, 2, none⟩ = some (.slice A0_2 l0_2.length c0_2) := (blk_cell BK307.out 2).trans rfl
     have hcz26_3 : w3.cell? ⟨gb307, 3, none⟩ = some (.int .u64 a0_3) := (blk_cell BK307.out 3).trans rfl
     have hcz26_4 : w3.cell? ⟨gb307, 4, none⟩ = some (.int .u64 a0_4) := (blk_cell BK307.out 4).trans rfl
     have hfz26_0 := blk_frozen BK307.out 0
     have hfz26_1 := blk_frozen BK307.out 1
     have hfz26_2 := blk_frozen BK307.out 2
     have hfz26_3 := blk_frozen BK307.out 3
     have hfz26_4 := blk_frozen BK307.out 4
     go_wp2_with (first | ((with_reducible refine gate_callee (f := 6) rfl ?_); refine goesL_ (some 8) rfl rfl Try.func6 (by kernel_rfl) rfl #[.int .u64 a0_0, .slice A0_1 l0_1.length c0_1, .int .i64 6] rfl (by (try simp only [List.map_toArray, List.map_cons, List.map_nil]); first | done | rfl | (simp only [List.length_drop, List.length_take]; rfl)) ?_; (with_reducible refine (privityref10_Fair.calls k a0_0 _ _ l0_1 6 true _ ?side1 ?side2 A4.out).mono ?_); (case side1 => repeat (first | exact (Kd.C_below HR0_1.out HB.out) | (with_reducible refine Kd.C_alloc ?_ _) | (with_reducible refine Kd.C_drewN ?_ _) | (with_reducible refine Kd.C_drew ?_))); (case side2 => exact HC0_1.out); rintro e w27 ⟨rfl, hb⟩; refine ⟨_, rfl, ?_⟩; have n0_ := Ak20 (blk_below (g := gb307) (o := .cells #[.int .u64 a0_0, .slice A0_1 l0_1.length c0_1, .slice A0_2 l0_2.length c0_2, .int .u64 a0_3, .int .u64 a0_4] 34 (0, 0)) (by (with_reducible repeat (first | refine blk_drewN ?_ _ | refine blk_drew ?_ | refine blk_alloc ?_ _)); exact BK307.out) hb); have n1_ := Ak20 (below_step (by repeat (first | (with_reducible first | exact HB.out | apply Ba20 | apply Bb20 | apply Bc20 | refine below_set ?_ GE307.out) | exact HB.out)) hb); clear BK307; clear HB; have BK307 := n0_; have HB := n1_; clear n0_ n1_; (try clear hb); (try clear hb2); (try clear hk); (try clear hi); have hcz28_0 : w27.cell? ⟨gb307, 0, none⟩ = some (.int .u64 a0_0) := (blk_cell BK307.out 0).trans rfl; have hcz28_1 : w27.cell? ⟨gb307, 1, none⟩ = some (.slice A0_1 l0_1.length c0_1) := (blk_cell BK307.out 1).trans rfl; have hcz28_2 : w27.cell? ⟨gb307, 2, none⟩ = some (.slice A0_2 l0_2.length c0_2) := (blk_cell BK307.out 2).trans rfl; have hcz28_3 : w27.cell? ⟨gb307, 3, none⟩ = some (.int .u64 a0_3) := (blk_cell BK307.out 3).trans rfl; have hcz28_4 : w27.cell? ⟨gb307, 4, none⟩ = some (.int .u64 a0_4) := (blk_cell BK307.out 4).trans rfl; have hfz28_0 := blk_frozen BK307.out 0; have hfz28_1 := blk_frozen BK307.out 1; have hfz28_2 := blk_frozen BK307.out 2; have hfz28_3 := blk_frozen BK307.out 3; have hfz28_4 := blk_frozen BK307.out 4) | (go_at_call 22; (with_reducible refine (privityref10_IsSymmetric.calls k _ _ l0_1 true _ ?side1 ?side2 A6.out).mono ?_); (case side1 => repeat (first | exact (Kd.C_below HR0_1.out HB.out) | (with_reducible refine Kd.C_alloc ?_ _) | (with_reducible refine Kd.C_drewN ?_ _) | (with_reducible refine Kd.C_drew ?_))); (case side2 => exact HC0_1.out); rintro e w' ⟨rfl, ⟨nd, rfl⟩⟩) | (go_at_call 30; (with_reducible refine (privityref06_Below.calls k a0_0 _ _ l0_2 6 false _ ?side1 ?side2 A8.out).mono ?_); (case side1 => repeat (first | exact (Kd.C_below HR0_2.out (by repeat (first | (with_reducible first | exact HB.out | apply Ba20 | apply Bb20 | apply Bc20 | refine below_set ?_ GE307.out) | exact HB.out))) | (with_reducible refine Kd.C_alloc ?_ _) | (with_reducible refine Kd.C_drewN ?_ _) | (with_reducible refine Kd.C_drew ?_))); (case side2 => exact HC0_2.out); rintro e w' ⟨rfl, ⟨nd, rfl⟩⟩))
     go_meet
     case rel => exact ⟨_, (true), (by first | rfl | (simp; done) | (simp [*]; done)), H', ⟨by first | omega | exact Nat.le_refl _⟩, ⟨by (with_reducible repeat (first | refine blk_drewN ?_ _ | refine blk_drew ?_ | refine blk_alloc ?_ _)); exact BK307.out⟩, ⟨by repeat (first | (with_reducible first | exact HB.out | apply Ba20 | apply Bb20 | apply Bc20 | refine below_set ?_ GE307.out) | exact HB.out)⟩⟩
   ·replace c7 := Bool.eq_false_iff.mpr c7
    subst c7
    have H1 : (privitylaw10_validTranslation.j0 k true a0_0 l0_1 l0_2 a0_3 a0_4) = some r := by rw [if_neg (show ¬ (false = true) by decide)] at H; exact H
    clear H
    have H := H1
    clear H1
    have H' := Ak20 H
    clear H
    have hcz29_0 : w3.cell? ⟨gb307, 0, none⟩ = some (.int .u64 a0_0) := (blk_cell BK307.out 0).trans rfl
    have hcz29_1 : w3.cell? ⟨gb307, 1, none⟩ = some (.slice A0_1 l0_1.length c0_1) := (blk_cell BK307.out 1).trans rfl
    have hcz29_2 : w3.cell? ⟨gb307, 2, none⟩ = some (.slice A0_2 l0_2.length c0_2) := (blk_cell BK307.out 2).trans rfl
    have hcz29_3 : w3.cell? ⟨gb307, 3, none⟩ = some (.int .u64 a0_3) := (blk_cell BK307.out 3).trans rfl
    have hcz29_4 : w3.cell? ⟨gb307, 4, none⟩ = some (.int .u64 a0_4) := (blk_cell BK307.out 4).trans rfl
    have hfz29_0 := blk_frozen BK307.out 0
    have hfz29_1 := blk_frozen BK307.out 1
    have hfz29_2 := blk_frozen BK307.out 2
    have hfz29_3 := blk_frozen BK307.out 3
    have hfz29_4 := blk_frozen BK307.out 4
    go_wp2_with (first | ((with_reducible refine gate_callee (f := 6) rfl ?_); refine goesL_ (some 8) rfl rfl Try.func6 (by kernel_rfl) rfl #[.int .u64 a0_0, .slice A0_1 l0_1.length c0_1, .int .i64 6] rfl (by (try simp only [List.map_toArray, List.map_cons, List.map_nil]); first | done | rfl | (simp only [List.length_drop, List.length_take]; rfl)) ?_; (with_reducible refine (privityref10_Fair.calls k a0_0 _ _ l0_1 6 true _ ?side1 ?side2 A4.out).mono ?_); (case side1 => repeat (first | exact (Kd.C_below HR0_1.out HB.out) | (with_reducible refine Kd.C_alloc ?_ _) | (with_reducible refine Kd.C_drewN ?_ _) | (with_reducible refine Kd.C_drew ?_))); (case side2 => exact HC0_1.out); rintro e w30 ⟨rfl, hb⟩; refine ⟨_, rfl, ?_⟩; have n0_ := Ak20 (blk_below (g := gb307) (o := .cells #[.int .u64 a0_0, .slice A0_1 l0_1.length c0_1, .slice A0_2 l0_2.length c0_2, .int .u64 a0_3, .int .u64 a0_4] 34 (0, 0)) (by (with_reducible repeat (first | refine blk_drewN ?_ _ | refine blk_drew ?_ | refine blk_alloc ?_ _)); exact BK307.out) hb); have n1_ := Ak20 (below_step (by repeat (first | (with_reducible first | exact HB.out | apply Ba20 | apply Bb20 | apply Bc20 | refine below_set ?_ GE307.out) | exact HB.out)) hb); clear BK307; clear HB; have BK307 := n0_; have HB := n1_; clear n0_ n1_; (try clear hb); (try clear hb2); (try clear hk); (try clear hi); have hcz31_0 : w30.cell? ⟨gb307, 0, none⟩ = some (.int .u64 a0_0) := (blk_cell BK307.out 0).trans rfl; have hcz31_1 : w30.cell? ⟨gb307, 1, none⟩ = some (.slice A0_1 l0_1.length c0_1) := (blk_cell BK307.out 1).trans rfl; have hcz31_2 : w30.cell? ⟨gb307, 2, none⟩ = some (.slice A0_2 l0_2.length c0_2) := (blk_cell BK307.out 2).trans rfl; have hcz31_3 : w30.cell? ⟨gb307, 3, none⟩ = some (.int .u64 a0_3) := (blk_cell BK307.out 3).trans rfl; have hcz31_4 : w30.cell? ⟨gb307, 4, none⟩ = some (.int .u64 a0_4) := (blk_cell BK307.out 4).trans rfl; have hfz31_0 := blk_frozen BK307.out 0; have hfz31_1 := blk_frozen BK307.out 1; have hfz31_2 := blk_frozen BK307.out 2; have hfz31_3 := blk_frozen BK307.out 3; have hfz31_4 := blk_frozen BK307.out 4) | (go_at_call 22; (with_reducible refine (privityref10_IsSymmetric.calls k _ _ l0_1 false _ ?side1 ?side2 A6.out).mono ?_); (case side1 => repeat (first | exact (Kd.C_below HR0_1.out HB.out) | (with_reducible refine Kd.C_alloc ?_ _) | (with_reducible refine Kd.C_drewN ?_ _) | (with_reducible refine Kd.C_drew ?_))); (case side2 => exact HC0_1.out); rintro e w' ⟨rfl, ⟨nd, rfl⟩⟩))
    go_meet
    case rel => exact ⟨_, (true), (by first | rfl | (simp; done) | (simp [*]; done)), H', ⟨by first | omega | exact Nat.le_refl _⟩, ⟨by (with_reducible repeat (first | refine blk_drewN ?_ _ | refine blk_drew ?_ | refine blk_alloc ?_ _)); exact BK307.out⟩, ⟨by repeat (first | (with_reducible first | exact HB.out | apply Ba20 | apply Bb20 | apply Bc20 | refine below_set ?_ GE307.out) | exact HB.out)⟩⟩
  ·replace c5 := Bool.eq_false_iff.mpr c5
   subst c5
   have H1 : (privitylaw10_validTranslation.j0 k true a0_0 l0_1 l0_2 a0_3 a0_4) = some r := by rw [if_neg (show ¬ (false = true) by decide)] at H; exact H
   clear H
   have H := H1
   clear H1
   have H' := Ak20 H
   clear H
   have hcz32_0 : w3.cell? ⟨gb307, 0, none⟩ = some (.int .u64 a0_0) := (blk_cell BK307.out 0).trans rfl
   have hcz32_1 : w3.cell? ⟨gb307, 1, none⟩ = some (.slice A0_1 l0_1.length c0_1) := (blk_cell BK307.out 1).trans rfl
   have hcz32_2 : w3.cell? ⟨gb307, 2, none⟩ = some (.slice A0_2 l0_2.length c0_2) := (blk_cell BK307.out 2).trans rfl
   have hcz32_3 : w3.cell? ⟨gb307, 3, none⟩ = some (.int .u64 a0_3) := (blk_cell BK307.out 3).trans rfl
   have hcz32_4 : w3.cell? ⟨gb307, 4, none⟩ = some (.int .u64 a0_4) := (blk_cell BK307.out 4).trans rfl
   have hfz32_0 := blk_frozen BK307.out 0
   have hfz32_1 := blk_frozen BK307.out 1
   have hfz32_2 := blk_frozen BK307.out 2
   have hfz32_3 := blk_frozen BK307.out 3
   have hfz32_4 := blk_frozen BK307.out 4
   go_wp2_with (first | ((with_reducible refine gate_callee (f := 6) rfl ?_); refine goesL_ (some 8) rfl rfl Try.func6 (by kernel_rfl) rfl #[.int .u64 a0_0, .slice A0_1 l0_1.length c0_1, .int .i64 6] rfl (by (try simp only [List.map_toArray, List.map_cons, List.map_nil]); first | done | rfl | (simp only [List.length_drop, List.length_take]; rfl)) ?_; (with_reducible refine (privityref10_Fair.calls k a0_0 _ _ l0_1 6 false _ ?side1 ?side2 A4.out).mono ?_); (case side1 => repeat (first | exact (Kd.C_below HR0_1.out HB.out) | (with_reducible refine Kd.C_alloc ?_ _) | (with_reducible refine Kd.C_drewN ?_ _) | (with_reducible refine Kd.C_drew ?_))); (case side2 => exact HC0_1.out); rintro e w33 ⟨rfl, hb⟩; refine ⟨_, rfl, ?_⟩; have n0_ := Ak20 (blk_below (g := gb307) (o := .cells #[.int .u64 a0_0, .slice A0_1 l0_1.length c0_1, .slice A0_2 l0_2.length c0_2, .int .u64 a0_3, .int .u64 a0_4] 34 (0, 0)) (by (with_reducible repeat (first | refine blk_drewN ?_ _ | refine blk_drew ?_ | refine blk_alloc ?_ _)); exact BK307.out) hb); have n1_ := Ak20 (below_step (by repeat (first | (with_reducible first | exact HB.out | apply Ba20 | apply Bb20 | apply Bc20 | refine below_set ?_ GE307.out) | exact HB.out)) hb); clear BK307; clear HB; have BK307 := n0_; have HB := n1_; clear n0_ n1_; (try clear hb); (try clear hb2); (try clear hk); (try clear hi)))
   go_meet
   case rel => exact ⟨_, (true), (by first | rfl | (simp; done) | (simp [*]; done)), H', ⟨by first | omega | exact Nat.le_refl _⟩, ⟨by (with_reducible repeat (first | refine blk_drewN ?_ _ | refine blk_drew ?_ | refine blk_alloc ?_ _)); exact BK307.out⟩, ⟨by repeat (first | (with_reducible first | exact HB.out | apply Ba20 | apply Bb20 | apply Bc20 | refine below_set ?_ GE307.out) | exact HB.out)⟩⟩
 case rest =>
  clear HC2
  try clear c1
  try clear p2
  try clear c5
  try clear c6
  try clear p6
  try clear c7
  try clear c9
  try clear c10
  try clear c10b0
  try clear c10b1
  try clear c12
  try clear c13
  try clear c13b0
  try clear c14
  try clear hcz14_0
  try clear hcz14_1
  try clear hcz14_2
  try clear hcz14_3
  try clear hcz14_4
  try clear hcz16_0
  try clear hcz16_1
  try clear hcz16_2
  try clear hcz16_3
  try clear hcz16_4
  try clear hcz17_0
  try clear hcz17_1
  try clear hcz17_2
  try clear hcz17_3
  try clear hcz17_4
  try clear hcz19_0
  try clear hcz19_1
  try clear hcz19_2
  try clear hcz19_3
  try clear hcz19_4
  try clear hcz20_0
  try clear hcz20_1
  try clear hcz20_2
  try clear hcz20_3
  try clear hcz20_4
  try clear hcz22_0
  try clear hcz22_1
  try clear hcz22_2
  try clear hcz22_3
  try clear hcz22_4
  try clear hcz23_0
  try clear hcz23_1
  try clear hcz23_2
  try clear hcz23_3
  try clear hcz23_4
  try clear hcz25_0
  try clear hcz25_1
  try clear hcz25_2
  try clear hcz25_3
  try clear hcz25_4
  try clear hcz26_0
  try clear hcz26_1
  try clear hcz26_2
  try clear hcz26_3
  try clear hcz26_4
  try clear hcz28_0
  try clear hcz28_1
  try clear hcz28_2
  try clear hcz28_3
  try clear hcz28_4
  try clear hcz29_0
  try clear hcz29_1
  try clear hcz29_2
  try clear hcz29_3
  try clear hcz29_4
  try clear hcz31_0
  try clear hcz31_1
  try clear hcz31_2
  try clear hcz31_3
  try clear hcz31_4
  try clear hcz32_0
  try clear hcz32_1
  try clear hcz32_2
  try clear hcz32_3
  try clear hcz32_4
  try clear hfz14_0
  try clear hfz14_1
  try clear hfz14_2
  try clear hfz14_3
  try clear hfz14_4
  try clear hfz16_0
  try clear hfz16_1
  try clear hfz16_2
  try clear hfz16_3
  try clear hfz16_4
  try clear hfz17_0
  try clear hfz17_1
  try clear hfz17_2
  try clear hfz17_3
  try clear hfz17_4
  try clear hfz19_0
  try clear hfz19_1
  try clear hfz19_2
  try clear hfz19_3
  try clear hfz19_4
  try clear hfz20_0
  try clear hfz20_1
  try clear hfz20_2
  try clear hfz20_3
  try clear hfz20_4
  try clear hfz22_0
  try clear hfz22_1
  try clear hfz22_2
  try clear hfz22_3
  try clear hfz22_4
  try clear hfz23_0
  try clear hfz23_1
  try clear hfz23_2
  try clear hfz23_3
  try clear hfz23_4
  try clear hfz25_0
  try clear hfz25_1
  try clear hfz25_2
  try clear hfz25_3
  try clear hfz25_4
  try clear hfz26_0
  try clear hfz26_1
  try clear hfz26_2
  try clear hfz26_3
  try clear hfz26_4
  try clear hfz28_0
  try clear hfz28_1
  try clear hfz28_2
  try clear hfz28_3
  try clear hfz28_4
  try clear hfz29_0
  try clear hfz29_1
  try clear hfz29_2
  try clear hfz29_3
  try clear hfz29_4
  try clear hfz31_0
  try clear hfz31_1
  try clear hfz31_2
  try clear hfz31_3
  try clear hfz31_4
  try clear hfz32_0
  try clear hfz32_1
  try clear hfz32_2
  try clear hfz32_3
  try clear hfz32_4
  obtain ⟨kq, x53_1, rfl, HA, HJ1, BK307, HB⟩ := hcut
  cases kq with
  | zero => exact absurd HA.out (by simp [privitylaw10_validTranslation.j0])
  | succ kj1 =>
   have H := HA.out
   clear HA
   simp only [privitylaw10_validTranslation.j0] at H
   by_cases c34 : x53_1 = true
   ·subst c34
    have H1 : (some false) = some r := by rw [if_pos rfl] at H; exact H
    clear H
    have H := H1
    clear H1
    obtain rfl := Option.some.inj H
    go_wp2
    go_ret
    exact ⟨by first | rfl | (simp [errW_none, errW_some] <;> rfl) | (simp [*, errW_none, errW_some] <;> rfl), by repeat (first | (with_reducible first | exact HB.out | apply Ba20 | apply Bb20 | apply Bc20 | refine below_set ?_ GE307.out) | exact HB.out)⟩
   ·replace c34 := Bool.eq_false_iff.mpr c34
    subst c34
    have H1 : (privitylaw10_validTranslation.l0 kj1 0 a0_0 l0_1 l0_2 a0_3 a0_4) = some r := by rw [if_neg (show ¬ (false = true) by decide)] at H; exact H
    clear H
    have H := H1
    clear H1
    have H' := Ak20 H
    clear H
    go_wp2
    go_loopg [3] kj1 (fun kq v3 w' => ∃ (x3_2 : Int), v3 = .int .i64 x3_2 ∧ Aside0 (privitylaw10_validTranslation.l0 kq x3_2 a0_0 l0_1 l0_2 a0_3 a0_4 = some r) ∧ Aside0 (kq ≤ kj1) ∧ Aside0 (w'.heap[gb307]? = some (.cells #[.int .u64 a0_0, (.slice A0_1 l0_1.length c0_1), (.slice A0_2 l0_2.length c0_2), .int .u64 a0_3, .int .u64 a0_4] 34 (0, 0))) ∧ Aside0 (Below w.heap.size w w'))
    case atStart => exact ⟨(0), (by first | rfl | (simp; done) | (simp [*]; done)), H', ⟨Nat.le_refl _⟩, ⟨by (with_reducible repeat (first | refine blk_drewN ?_ _ | refine blk_drew ?_ | refine blk_alloc ?_ _)); exact BK307.out⟩, ⟨by repeat (first | (with_reducible first | exact HB.out | apply Ba20 | apply Bb20 | apply Bc20 | refine below_set ?_ GE307.out) | exact HB.out)⟩⟩
    case round =>
     clear H'
     try clear c1
     try clear p2
     try clear c3
     try clear c5
     try clear c6
     try clear p6
     try clear c7
     try clear c9
     try clear c10
     try clear c10b0
     try clear c10b1
     try clear c12
     try clear c13
     try clear c13b0
     try clear c14
     try clear c34
     try clear hcz14_0
     try clear hcz14_1
     try clear hcz14_2
     try clear hcz14_3
     try clear hcz14_4
     try clear hcz16_0
     try clear hcz16_1
     try clear hcz16_2
     try clear hcz16_3
     try clear hcz16_4
     try clear hcz17_0
     try clear hcz17_1
     try clear hcz17_2
     try clear hcz17_3
     try clear hcz17_4
     try clear hcz19_0
     try clear hcz19_1
     try clear hcz19_2
     try clear hcz19_3
     try clear hcz19_4
     try clear hcz20_0
     try clear hcz20_1
     try clear hcz20_2
     try clear hcz20_3
     try clear hcz20_4
     try clear hcz22_0
     try clear hcz22_1
     try clear hcz22_2
     try clear hcz22_3
     try clear hcz22_4
     try clear hcz23_0
     try clear hcz23_1
     try clear hcz23_2
     try clear hcz23_3
     try clear hcz23_4
     try clear hcz25_0
     try clear hcz25_1
     try clear hcz25_2
     try clear hcz25_3
     try clear hcz25_4
     try clear hcz26_0
     try clear hcz26_1
     try clear hcz26_2
     try clear hcz26_3
     try clear hcz26_4
     try clear hcz28_0
     try clear hcz28_1
     try clear hcz28_2
     try clear hcz28_3
     try clear hcz28_4
     try clear hcz29_0
     try clear hcz29_1
     try clear hcz29_2
     try clear hcz29_3
     try clear hcz29_4
     try clear hcz31_0
     try clear hcz31_1
     try clear hcz31_2
     try clear hcz31_3
     try clear hcz31_4
     try clear hcz32_0
     try clear hcz32_1
     try clear hcz32_2
     try clear hcz32_3
     try clear hcz32_4
     try clear hfz14_0
     try clear hfz14_1
     try clear hfz14_2
     try clear hfz14_3
     try clear hfz14_4
     try clear hfz16_0
     try clear hfz16_1
     try clear hfz16_2
     try clear hfz16_3
     try clear hfz16_4
     try clear hfz17_0
     try clear hfz17_1
     try clear hfz17_2
     try clear hfz17_3
     try clear hfz17_4
     try clear hfz19_0
     try clear hfz19_1
     try clear hfz19_2
     try clear hfz19_3
     try clear hfz19_4
     try clear hfz20_0
     try clear hfz20_1
     try clear hfz20_2
     try clear hfz20_3
     try clear hfz20_4
     try clear hfz22_0
     try clear hfz22_1
     try clear hfz22_2
     try clear hfz22_3
     try clear hfz22_4
     try clear hfz23_0
     try clear hfz23_1
     try clear hfz23_2
     try clear hfz23_3
     try clear hfz23_4
     try clear hfz25_0
     try clear hfz25_1
     try clear hfz25_2
     try clear hfz25_3
     try clear hfz25_4
     try clear hfz26_0
     try clear hfz26_1
     try clear hfz26_2
     try clear hfz26_3
     try clear hfz26_4
     try clear hfz28_0
     try clear hfz28_1
     try clear hfz28_2
     try clear hfz28_3
     try clear hfz28_4
     try clear hfz29_0
     try clear hfz29_1
     try clear hfz29_2
     try clear hfz29_3
     try clear hfz29_4
     try clear hfz31_0
     try clear hfz31_1
     try clear hfz31_2
     try clear hfz31_3
     try clear hfz31_4
     try clear hfz32_0
     try clear hfz32_1
     try clear hfz32_2
     try clear hfz32_3
     try clear hfz32_4
     try clear p2
     try clear p6
     obtain ⟨x3_2, rfl, HA, HK2, BK307, HB⟩ := hrel
     cases gk with
     | zero => exact absurd HA.out (by simp [privitylaw10_validTranslation.l0])
     | succ k2 =>
      have H := HA.out
      clear HA
      simp only [privitylaw10_validTranslation.l0] at H
      by_cases c35 : x3_2 < (l0_2.length : Int)
      ·rw [if_pos c35] at H
       have c35b0 : decide (x3_2 < (l0_2.length : Int)) = true := decide_eq_true c35
       clear c35
       by_cases c36 : 0 ≤ x3_2
       ·rw [if_pos c36] at H
        have c36b0 : decide (0 ≤ x3_2) = true := decide_eq_true c36
        clear c36
        by_cases c37 : (rd l0_2 x3_2) = 0
        ·rw [if_pos c37] at H
         have c37b0 : ((rd l0_2 x3_2) == 0) = true := beq_iff_eq.mpr c37
         have c37b1 : ((rd l0_2 x3_2) != 0) = false := bne_eq_false_iff_eq.mpr c37
         clear c37
         obtain rfl := Option.some.inj H
         have hcz38_0 : wr.cell? ⟨gb307, 0, none⟩ = some (.int .u64 a0_0) := (blk_cell BK307.out 0).trans rfl
         have hcz38_1 : wr.cell? ⟨gb307, 1, none⟩ = some (.slice A0_1 l0_1.length c0_1) := (blk_cell BK307.out 1).trans rfl
         have hcz38_2 : wr.cell? ⟨gb307, 2, none⟩ = some (.slice A0_2 l0_2.length c0_2) := (blk_cell BK307.out 2).trans rfl
         have hcz38_3 : wr.cell? ⟨gb307, 3, none⟩ = some (.int .u64 a0_3) := (blk_cell BK307.out 3).trans rfl
         have hcz38_4 : wr.cell? ⟨gb307, 4, none⟩ = some (.int .u64 a0_4) := (blk_cell BK307.out 4).trans rfl
         have hfz38_0 := blk_frozen BK307.out 0
         have hfz38_1 := blk_frozen BK307.out 1
         have hfz38_2 := blk_frozen BK307.out 2
         have hfz38_3 := blk_frozen BK307.out 3
         have hfz38_4 := blk_frozen BK307.out 4
         have p312 : 0 ≤ (x3_2 : Int) := of_decide_eq_true (by first | (with_reducible assumption) | assumption)
         have q312 : x3_2 < (l0_2.length : Int) := of_decide_eq_true (by first | (with_reducible assumption) | assumption)
         obtain ⟨ad312, e312, hx312_0⟩ := Kd.at_int HR0_2.out x3_2 p312 q312
         cases e312
         replace hx312_0 := (HB.out.cell (World.block_lt_of_cell? w _ hx312_0)).trans hx312_0
         replace p312 := eq_true p312
         replace q312 := eq_true q312
         go_wp2
         go_ret
         exact ⟨by first | rfl | (simp [errW_none, errW_some] <;> rfl) | (simp [*, errW_none, errW_some] <;> rfl), by repeat (first | (with_reducible first | exact HB.out | apply Ba20 | apply Bb20 | apply Bc20 | refine below_set ?_ GE307.out) | exact HB.out)⟩
        ·rw [if_neg c37] at H
         have c37b0 : ((rd l0_2 x3_2) == 0) = false := beq_eq_false_iff_ne.mpr c37
         have c37b1 : ((rd l0_2 x3_2) != 0) = true := bne_iff_ne.mpr c37
         have H' := Ak20 H
         clear H
         have hcz39_0 : wr.cell? ⟨gb307, 0, none⟩ = some (.int .u64 a0_0) := (blk_cell BK307.out 0).trans rfl
         have hcz39_1 : wr.cell? ⟨gb307, 1, none⟩ = some (.slice A0_1 l0_1.length c0_1) := (blk_cell BK307.out 1).trans rfl
         have hcz39_2 : wr.cell? ⟨gb307, 2, none⟩ = some (.slice A0_2 l0_2.length c0_2) := (blk_cell BK307.out 2).trans rfl
         have hcz39_3 : wr.cell? ⟨gb307, 3, none⟩ = some (.int .u64 a0_3) := (blk_cell BK307.out 3).trans rfl
         have hcz39_4 : wr.cell? ⟨gb307, 4, none⟩ = some (.int .u64 a0_4) := (blk_cell BK307.out 4).trans rfl
         have hfz39_0 := blk_frozen BK307.out 0
         have hfz39_1 := blk_frozen BK307.out 1
         have hfz39_2 := blk_frozen BK307.out 2
         have hfz39_3 := blk_frozen BK307.out 3
         have hfz39_4 := blk_frozen BK307.out 4
         have p312 : 0 ≤ (x3_2 : Int) := of_decide_eq_true (by first | (with_reducible assumption) | assumption)
         have q312 : x3_2 < (l0_2.length : Int) := of_decide_eq_true (by first | (with_reducible assumption) | assumption)
         obtain ⟨ad312, e312, hx312_0⟩ := Kd.at_int HR0_2.out x3_2 p312 q312
         cases e312
         replace hx312_0 := (HB.out.cell (World.block_lt_of_cell? w _ hx312_0)).trans hx312_0
         replace p312 := eq_true p312
         replace q312 := eq_true q312
         go_wp2
         go_roundg k2
         case measure => have := HJ1.out; have := HK2.out; omega
         case rel => exact ⟨(wrap64 (x3_2 + 1)), (by first | rfl | (simp; done) | (simp [*]; done)), H', ⟨by have := HJ1.out; have := HK2.out; omega⟩, ⟨by (with_reducible repeat (first | refine blk_drewN ?_ _ | refine blk_drew ?_ | refine blk_alloc ?_ _)); exact BK307.out⟩, ⟨by repeat (first | (with_reducible first | exact HB.out | apply Ba20 | apply Bb20 | apply Bc20 | refine below_set ?_ GE307.out) | exact HB.out)⟩⟩
       ·rw [if_neg c36] at H
        exact absurd H (by simp)
      ·rw [if_neg c35] at H
       have c35b0 : decide (x3_2 < (l0_2.length : Int)) = false := decide_eq_false c35
       clear c35
       obtain rfl := Option.some.inj H
       have hcz40_0 : wr.cell? ⟨gb307, 0, none⟩ = some (.int .u64 a0_0) := (blk_cell BK307.out 0).trans rfl
       have hcz40_1 : wr.cell? ⟨gb307, 1, none⟩ = some (.slice A0_1 l0_1.length c0_1) := (blk_cell BK307.out 1).trans rfl
       have hcz40_2 : wr.cell? ⟨gb307, 2, none⟩ = some (.slice A0_2 l0_2.length c0_2) := (blk_cell BK307.out 2).trans rfl
       have hcz40_3 : wr.cell? ⟨gb307, 3, none⟩ = some (.int .u64 a0_3) := (blk_cell BK307.out 3).trans rfl
       have hcz40_4 : wr.cell? ⟨gb307, 4, none⟩ = some (.int .u64 a0_4) := (blk_cell BK307.out 4).trans rfl
       have hfz40_0 := blk_frozen BK307.out 0
       have hfz40_1 := blk_frozen BK307.out 1
       have hfz40_2 := blk_frozen BK307.out 2
       have hfz40_3 := blk_frozen BK307.out 3
       have hfz40_4 := blk_frozen BK307.out 4
       go_wp2
       go_ret
       exact ⟨by first | rfl | (simp [errW_none, errW_some] <;> rfl) | (simp [*, errW_none, errW_some] <;> rfl), by repeat (first | (with_reducible first | exact HB.out | apply Ba20 | apply Bb20 | apply Bc20 | refine below_set ?_ GE307.out) | exact HB.out)⟩

end Go.Proofs.Ytgjcmcokkbdflaa.F
