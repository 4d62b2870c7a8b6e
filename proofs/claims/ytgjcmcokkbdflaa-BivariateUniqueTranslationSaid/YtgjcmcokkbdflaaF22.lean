-- Written by a program of this claim's session: functions of the Go program as Lean functions, with proofs that the Go code comes to them.
import Derived.Test.YtgjcmcokkbdflaaG1
import Derived.Test.YtgjcmcokkbdflaaG2
namespace Go.Proofs.Ytgjcmcokkbdflaa.F
open Go.RowKit Go.Proofs.YtgjcmcokkbdflaaW.PrintWords Go.Proofs.YtgjcmcokkbdflaaW.PrintLast Go.Proofs.YtgjcmcokkbdflaaW.PrintMore
attribute [local go_sem] max2_int min2_int max_two min_two max_three min_three max_four min_four   -- for this text's walks alone
set_option linter.unusedVariables false
set_option linter.unusedSimpArgs false
theorem Ra22 {α : Type} {d : Kd α} {e : Nat} {w : World} {base : Nat} {ok : Nat → Prop} {v : Value} {xs : List α} (h : d.R e w base ok v xs) (o : Obj) : d.R e (w.alloc o) base ok v xs := Kd.R_alloc h o
theorem Rb22 {α : Type} {d : Kd α} {e : Nat} {w : World} {base : Nat} {ok : Nat → Prop} {v : Value} {xs : List α} (h : d.R e w base ok v xs) (m : Nat) : d.R e (w.drewN m) base ok v xs := Kd.R_drewN h m
theorem Rc22 {α : Type} {d : Kd α} {e : Nat} {w : World} {base : Nat} {ok : Nat → Prop} {v : Value} {xs : List α} (h : d.R e w base ok v xs) : d.R e w.drew base ok v xs := Kd.R_drew h
theorem Ba22 {w W : World} (h : Below w.heap.size w W) (o : Obj) : Below w.heap.size w (W.alloc o) := below_alloc h o
theorem Bb22 {B : Nat} {w W : World} (h : Below B w W) (n : Nat) : Below B w (W.drewN n) := pw_below_drewN h n
theorem Bc22 {base : Nat} {w W : World} (h : Below base w W) : Below base w W.drew := below_drew1 h
theorem Ak22 {p : Prop} (h : p) : Aside0 p := Aside0.mk h

/-! ### privityref10_Vanish: function 15 -/
mutual
def privityref10_Vanish.l0 : Nat → Int → List Int → List Int → Int → Option (List Int)
 | 0, _, _, _, _ => none
 | k + 1, x0, x1, x5, x6 => if x6 < (x1.length : Int) then (if 0 ≤ x6 then ((privityref01_Inverse.f x0 (rd x1 x6)).bind fun bt317 => ((privityref01_Sub.f x0 0 bt317.1).bind fun t319 => ((some (([] : List Int) : List Int)).bind fun y320 => (if y320.length + x5.length < 17592186044416 then ((some (y320 ++ x5 : List Int)).bind fun y323 => (if y323.length < 17592186044416 then (privityref10_Vanish.l1 k x0 x1 x5 x6 t319 (y323 ++ [0]) 0) else (none))) else (none))))) else (none)) else (some x5)
def privityref10_Vanish.l1 : Nat → Int → List Int → List Int → Int → Int → List Int → Int → Option (List Int)
 | 0, _, _, _, _, _, _, _ => none
 | k + 1, x0, x1, x5, x6, x9, x10, x11 => if x11 < (x5.length : Int) then (if 0 ≤ (wrap64 (x11 + 1)) then (if (wrap64 (x11 + 1)) < (x10.length : Int) then (if 0 ≤ x11 then ((privityref01_Mul.f x0 x9 (rd x5 x11)).bind fun t331 => ((privityref01_Add.f x0 (rd x10 (wrap64 (x11 + 1))) t331).bind fun t332 => (privityref10_Vanish.l1 k x0 x1 x5 x6 x9 (x10.set ((wrap64 (x11 + 1)) : Int).toNat t332) (wrap64 (x11 + 1))))) else (none)) else (none)) else (none)) else (privityref10_Vanish.l0 k x0 x1 x10 (wrap64 (x6 + 1)))
end
def privityref10_Vanish.f (k : Nat) (a0 : Int) (l1 : List Int) : Option (List Int) := privityref10_Vanish.l0 k a0 l1 (([1] : List Int)) 0
theorem privityref10_Vanish.mono_l : ∀ k, (∀ y0 y1 y2 y3, LeO (privityref10_Vanish.l0 k y0 y1 y2 y3) (privityref10_Vanish.l0 (k + 1) y0 y1 y2 y3)) ∧ (∀ y0 y1 y2 y3 y4 y5 y6, LeO (privityref10_Vanish.l1 k y0 y1 y2 y3 y4 y5 y6) (privityref10_Vanish.l1 (k + 1) y0 y1 y2 y3 y4 y5 y6))
 | 0 => ⟨fun _ _ _ _ r h => by simp [privityref10_Vanish.l0] at h, fun _ _ _ _ _ _ _ r h => by simp [privityref10_Vanish.l1] at h⟩
 | k + 1 => by
  obtain ⟨ih0, ih1⟩ := privityref10_Vanish.mono_l k
  refine ⟨?_, ?_⟩
  ·intro y0 y1 y2 y3
   unfold privityref10_Vanish.l0
   repeat' first
   | (with_reducible exact ih0 _ _ _ _)
   | (with_reducible exact ih1 _ _ _ _ _ _ _)
   | (with_reducible exact LeO.refl _)
   | (with_reducible exact LeO.none _)
   | (with_reducible refine LeO.ite ?_ ?_)
   | (with_reducible refine LeO.bind ?_ (fun _ => ?_))
   | exact ih0 _ _ _ _
   | exact ih1 _ _ _ _ _ _ _
   | exact LeO.none _
   | refine LeO.ite ?_ ?_
   | refine LeO.bind ?_ (fun _ => ?_)
  ·intro y0 y1 y2 y3 y4 y5 y6
   unfold privityref10_Vanish.l1
   repeat' first
   | (with_reducible exact ih0 _ _ _ _)
   | (with_reducible exact ih1 _ _ _ _ _ _ _)
   | (with_reducible exact LeO.refl _)
   | (with_reducible exact LeO.none _)
   | (with_reducible refine LeO.ite ?_ ?_)
   | (with_reducible refine LeO.bind ?_ (fun _ => ?_))
   | exact ih0 _ _ _ _
   | exact ih1 _ _ _ _ _ _ _
   | exact LeO.none _
   | refine LeO.ite ?_ ?_
   | refine LeO.bind ?_ (fun _ => ?_)
theorem privityref10_Vanish.mono : ∀ a0 a1 k, LeO (privityref10_Vanish.f k a0 a1) (privityref10_Vanish.f (k + 1) a0 a1) := by
 intro a0 a1 k
 obtain ⟨ih0, ih1⟩ := privityref10_Vanish.mono_l k
 unfold privityref10_Vanish.f
 repeat' first
   | (with_reducible exact ih0 _ _ _ _)
   | (with_reducible exact ih1 _ _ _ _ _ _ _)
   | (with_reducible exact LeO.refl _)
   | (with_reducible exact LeO.none _)
   | (with_reducible refine LeO.ite ?_ ?_)
   | (with_reducible refine LeO.bind ?_ (fun _ => ?_))
   | exact ih0 _ _ _ _
   | exact ih1 _ _ _ _ _ _ _
   | exact LeO.none _
   | refine LeO.ite ?_ ?_
   | refine LeO.bind ?_ (fun _ => ?_)
def privityref10_Vanish.T12 : Bool × List (List Nat × List Nat) := (true, [([], []), ([], []), ([1], [1]), ([], []), ([], []), ([], []), ([5], [5]), ([4, 6], [4, 6]), ([7], [7]), ([], []), ([], []), ([], []), ([], []), ([11, 12], [11, 12]), ([13], [13]), ([9, 10, 14], [9, 10, 14]), ([3, 8, 15, 15], [3, 8, 15]), ([0, 2, 0, 1, 2, 3, 4, 5, 6, 7, 8, 9, 10, 11, 12, 13, 14, 15, 16], [0, 2]), ([17, 16, 16, 0, 1, 2, 3, 4, 5, 6, 7, 8, 9, 10, 11, 12, 13, 14, 15, 16], [16, 17])])
def privityref10_Vanish.B12 : List Nat := [0, 0, 2, 0, 0, 0, 32, 112, 240, 0, 0, 0, 0, 6144, 14336, 32256, 65528, 131071, 262143]
theorem privityref10_Vanish.tab12 : rtab .any (opsOf Try.f15 12) = privityref10_Vanish.T12 := by kernel_rfl
theorem privityref10_Vanish.bits12 : waitsOk privityref10_Vanish.T12.2 privityref10_Vanish.B12 = true := by kernel_rfl
set_option maxHeartbeats 8000000 in
set_option maxRecDepth 100000 in
theorem privityref10_Vanish.calls (k : Nat) (a0 : Int) (A1 : Option Addr) (c1 : Nat) (l1 : List Int) (r : List Int) (w : World) (hr1 : Kd.C (Kd.int .u64) w A1 l1.length l1) (hc1 : l1.length ≤ c1) (h : privityref10_Vanish.f k a0 l1 = some r) :
  Calls Try.prog 15 #[.int .u64 a0, .slice A1 l1.length c1] w fun e w' => ∃ v0_ : Value, e = .returned (v0_) ∧ Kd.R (Kd.int .u64) 22 w' w.heap.size (fun _ => True) v0_ r ∧ Below w.heap.size w w' := by
 have HR1 := Ak22 hr1
 have HC1 := Ak22 hc1
 clear hr1 hc1
 have HB := Ak22 (Below.refl w.heap.size w)
 have H : (privityref10_Vanish.l0 k a0 l1 (([1] : List Int)) 0) = some r := h
 clear h
 obtain ⟨y313, hy313⟩ : ∃ y_ : List Int, y_ = (([1] : List Int)) := ⟨_, rfl⟩
 replace H : (privityref10_Vanish.l0 k a0 l1 y313 0) = some r := by first | (rw [hy313]; with_reducible exact H) | (have H2_ := (Option.bind_some _ _).symm.trans H; rw [hy313]; with_reducible exact H2_) | (have H2_ := (Option.bind_some _ _).symm.trans H; with_reducible exact H2_) | with_reducible exact H | (rw [hy313]; exact H) | exact H
 have Ny313 := Ak22 hy313
 clear hy313
 have H' := Ak22 H
 clear H
 go_enter Try.func15, Try.ntmps15
 go_wp2_with (first | ((with_reducible refine gate_dst (N := 12) rfl ?_); refine Kd.R_lit (Kd.int .u64) _ 22 ?hg (N := 12) ?hd (xs := ([1] : List Int)) (inner := [.int .u64 1]) (ok := fun _ => True) (okp := fun _ => True) ?hr ?hp (fun _ hk => hk) trivial (Below.refl _ _) (Nat.le_refl _) (by simp) ?_; (case hd => rfl); (case hg => rfl); (case hr => first | (go_simp; done) | (go_simp; rfl)); (case hp => exact (Reps.one (show Kd.M (Kd.int .u64) _ _ _ 1 [.int .u64 1] from rfl) (Reps.none _ _))); intro v314 w3 ho4 hb hg_ hnew_; clear hg_ hnew_; (first | rw [← Ny313.out] at ho4 | (simp only [Int.reduceToNat] at ho4; rw [← Ny313.out] at ho4)); have n0_ := Ak22 (Kd.R_lower ho4 (below_size (by repeat (first | (with_reducible first | exact HB.out | apply Ba22 | apply Bb22 | apply Bc22) | exact HB.out)))); have n1_ := Ak22 (below_step (by repeat (first | (with_reducible first | exact HB.out | apply Ba22 | apply Bb22 | apply Bc22) | exact HB.out)) hb); clear HB; have HO315 := n0_; have HB := n1_; clear n0_ n1_; clear hb ho4))
 go_loopg [5, 6] k (fun kq v5 v6 w' => ∃ (x5_1 : List Int) (x6_1 : Int), v6 = .int .i64 x6_1 ∧ Aside0 (privityref10_Vanish.l0 kq a0 l1 x5_1 x6_1 = some r) ∧ Aside0 (kq ≤ k) ∧ Aside0 (Kd.R (Kd.int .u64) 22 w' w.heap.size (fun _ => True) v5 x5_1) ∧ Aside0 (Below w.heap.size w w'))
 case atStart => exact ⟨(y313), (0), (by first | rfl | (simp; done) | (simp [*]; done)), H', ⟨Nat.le_refl _⟩, ⟨by (with_reducible repeat (first | apply Ra22 | apply Rb22 | apply Rc22)); exact HO315.out⟩, ⟨by repeat (first | (with_reducible first | exact HB.out | apply Ba22 | apply Bb22 | apply Bc22) | exact HB.out)⟩⟩
 case round =>
  clear H'
  try clear c1
  try clear p2
  obtain ⟨x5_1, x6_1, rfl, HA, HK1, HO_5, HB⟩ := hrel
  cases gk with
  | zero => exact absurd HA.out (by simp [privityref10_Vanish.l0])
  | succ k1 =>
   have H := HA.out
   clear HA
   simp only [privityref10_Vanish.l0] at H
   by_cases c5 : x6_1 < (l1.length : Int)
   ·rw [if_pos c5] at H
    have c5b0 : decide (x6_1 < (l1.length : Int)) = true := decide_eq_true c5
    clear c5
    by_cases c6 : 0 ≤ x6_1
    ·rw [if_pos c6] at H
     have c6b0 : decide (0 ≤ x6_1) = true := decide_eq_true c6
     clear c6
     replace H := Option.bind_eq_some_iff.mp H
     obtain ⟨⟨t317, t318⟩, A70, H⟩ := H
     replace H : ((privityref01_Sub.f a0 0 t317).bind fun t319 => ((some (([] : List Int) : List Int)).bind fun y320 => (if y320.length + x5_1.length < 17592186044416 then ((some (y320 ++ x5_1 : List Int)).bind fun y323 => (if y323.length < 17592186044416 then (privityref10_Vanish.l1 k1 a0 l1 x5_1 x6_1 t319 (y323 ++ [0]) 0) else (none))) else (none)))) = some r := H
     have A7 := Ak22 A70
     clear A70
     replace H := Option.bind_eq_some_iff.mp H
     obtain ⟨t319, A80, H⟩ := H
     replace H : ((some (([] : List Int) : List Int)).bind fun y320 => (if y320.length + x5_1.length < 17592186044416 then ((some (y320 ++ x5_1 : List Int)).bind fun y323 => (if y323.length < 17592186044416 then (privityref10_Vanish.l1 k1 a0 l1 x5_1 x6_1 t319 (y323 ++ [0]) 0) else (none))) else (none))) = some r := H
     have A8 := Ak22 A80
     clear A80
     obtain ⟨y320, hy320⟩ : ∃ y_ : List Int, y_ = (([] : List Int)) := ⟨_, rfl⟩
     replace H : (if y320.length + x5_1.length < 17592186044416 then ((some (y320 ++ x5_1 : List Int)).bind fun y323 => (if y323.length < 17592186044416 then (privityref10_Vanish.l1 k1 a0 l1 x5_1 x6_1 t319 (y323 ++ [0]) 0) else (none))) else (none)) = some r := by first | (rw [hy320]; with_reducible exact H) | (have H2_ := (Option.bind_some _ _).symm.trans H; rw [hy320]; with_reducible exact H2_) | (have H2_ := (Option.bind_some _ _).symm.trans H; with_reducible exact H2_) | with_reducible exact H | (rw [hy320]; exact H) | exact H
     have Ny320 := Ak22 hy320
     clear hy320
     by_cases c9 : y320.length + x5_1.length < 17592186044416
     ·rw [if_pos c9] at H
      have LMc9 := Ak22 c9
      clear c9
      obtain ⟨y323, hy323⟩ : ∃ y_ : List Int, y_ = (y320 ++ x5_1) := ⟨_, rfl⟩
      replace H : (if y323.length < 17592186044416 then (privityref10_Vanish.l1 k1 a0 l1 x5_1 x6_1 t319 (y323 ++ [0]) 0) else (none)) = some r := by first | (rw [hy323]; with_reducible exact H) | (have H2_ := (Option.bind_some _ _).symm.trans H; rw [hy323]; with_reducible exact H2_) | (have H2_ := (Option.bind_some _ _).symm.trans H; with_reducible exact H2_) | with_reducible exact H | (rw [hy323]; exact H) | exact H
      have Ny323 := Ak22 hy323
      clear hy323
      by_cases c10 : y323.length < 17592186044416
      ·rw [if_pos c10] at H
       have LMc10 := Ak22 c10
       clear c10
       obtain ⟨y326, hy326⟩ : ∃ y_ : List Int, y_ = (y323 ++ [0]) := ⟨_, rfl⟩
       replace H : (privityref10_Vanish.l1 k1 a0 l1 x5_1 x6_1 t319 y326 0) = some r := by first | (rw [hy326]; with_reducible exact H) | (have H2_ := (Option.bind_some _ _).symm.trans H; rw [hy326]; with_reducible exact H2_) | (have H2_ := (Option.bind_some _ _).symm.trans H; with_reducible exact H2_) | with_reducible exact H | (rw [hy326]; exact H) | exact H
       have Ny326 := Ak22 hy326
       clear hy326
       have H' := Ak22 H
       clear H
       have p316 : 0 ≤ (x6_1 : Int) := of_decide_eq_true (by first | (with_reducible assumption) | assumption)
       have q316 : x6_1 < (l1.length : Int) := of_decide_eq_true (by first | (with_reducible assumption) | assumption)
       obtain ⟨ad316, e316, hx316_0⟩ := Kd.at_int HR1.out x6_1 p316 q316
       cases e316
       replace hx316_0 := (HB.out.cell (World.block_lt_of_cell? w _ hx316_0)).trans hx316_0
       replace p316 := eq_true p316
       replace q316 := eq_true q316
       go_wp2_with (first | ((with_reducible refine gate_callee (f := 32) rfl ?_); refine goesL_ (some 25) rfl rfl Try.func32 (by kernel_rfl) rfl #[.int .u64 a0, .int .u64 (rd l1 x6_1)] rfl (by (try simp only [List.map_toArray, List.map_cons, List.map_nil]); first | done | rfl | (simp only [List.length_drop, List.length_take]; rfl)) ?_; (with_reducible refine (privityref01_Inverse.calls a0 (rd l1 x6_1) t317 t318 _ A7.out).mono ?_); rintro e w' ⟨rfl, ⟨nd, rfl⟩⟩; refine ⟨_, rfl, ?_⟩) | ((with_reducible refine gate_callee (f := 33) rfl ?_); refine goesL_ (some 30) rfl rfl Try.func33 (by kernel_rfl) rfl #[.int .u64 a0, .int .u64 0, .int .u64 t317] rfl (by (try simp only [List.map_toArray, List.map_cons, List.map_nil]); first | done | rfl | (simp only [List.length_drop, List.length_take]; rfl)) ?_; (with_reducible refine (privityref01_Sub.calls a0 0 t317 t319 _ A8.out).mono ?_); rintro e w' ⟨rfl, ⟨nd, rfl⟩⟩; refine ⟨_, rfl, ?_⟩) | ((with_reducible refine gate_dst (N := 31) rfl ?_); refine Kd.R_lit (Kd.int .u64) _ 22 ?hg (N := 31) ?hd (xs := ([] : List Int)) (inner := []) (ok := fun _ => True) (okp := fun _ => True) ?hr ?hp (fun _ hk => hk) trivial (Below.refl _ _) (Nat.le_refl _) (by simp) ?_; (case hd => rfl); (case hg => rfl); (case hr => first | (go_simp; done) | (go_simp; rfl)); (case hp => exact (Reps.none _ _)); intro v321 w11 ho12 hb hg_ hnew_; clear hg_ hnew_; (first | rw [← Ny320.out] at ho12 | (simp only [Int.reduceToNat] at ho12; rw [← Ny320.out] at ho12)); have n0_ := Ak22 (Kd.R_elder' (by (with_reducible repeat (first | apply Ra22 | apply Rb22 | apply Rc22)); exact HO_5.out) (Kd.R_base ho12) hb); have n1_ := Ak22 (Kd.R_lower (Kd.R_new' ho12 (Kd.R_lt (by (with_reducible repeat (first | apply Ra22 | apply Rb22 | apply Rc22)); exact HO_5.out))) (below_size (by repeat (first | (with_reducible first | exact HB.out | apply Ba22 | apply Bb22 | apply Bc22) | exact HB.out)))); have n2_ := Ak22 (below_step (by repeat (first | (with_reducible first | exact HB.out | apply Ba22 | apply Bb22 | apply Bc22) | exact HB.out)) hb); clear HO_5; clear HB; have HO_5 := n0_; have HO322 := n1_; have HB := n2_; clear n0_ n1_ n2_; clear hb ho12; obtain ⟨Ao14, co14, eo14⟩ := Kd.R_slice HO_5.out; subst eo14) | ((with_reducible refine gate_builtin (b := .append) (xs := #[.tmp 31, .tmp 32]) rfl ?_); at_builtin; refine Kd.R_append_rows (Kd.int .u64) (w0 := w) w.heap.size rfl (.tmp 31) (.tmp 32) 28 22 (.int .u64 0) 8 rfl Try.underlying28 info22 rfl (by decide) (by omega) v321 y320 x5_1 _ _ _ (fun k_ => some k_ ≠ (.slice Ao14 x5_1.length co14 : Value).ownBlock) (fun _ => False) rfl rfl ?aO ?aR (fun _ _ h => h) (fun _ h => h.elim) ?aF ?aB ?aS ?aL ?_; (case aR => repeat (first | exact (Kd.R_reads' HO_5.out).2.2 | (with_reducible refine Kd.C_alloc ?_ _) | (with_reducible refine Kd.C_drewN ?_ _) | (with_reducible refine Kd.C_drew ?_))); (case aB => exact (by repeat (first | (with_reducible first | exact HB.out | apply Ba22 | apply Bb22 | apply Bc22) | exact HB.out))); (case aF => exact (fun k_ hk => Kd.fresh' (Kd.R_lt (by (with_reducible repeat (first | apply Ra22 | apply Rb22 | apply Rc22)); exact HO_5.out)) k_ hk)); (case aO => exact (by (with_reducible repeat (first | apply Ra22 | apply Rb22 | apply Rc22)); exact Kd.R_mono HO322.out (fun _ hk => hk.2))); (case aS => exact (below_size (by repeat (first | (with_reducible first | exact HB.out | apply Ba22 | apply Bb22 | apply Bc22) | exact HB.out)))); (case aL => have := LMc9.out; omega); intro v324 w13 ho hb hg hat; rw [← Ny323.out] at ho; have n0_ := Ak22 (Kd.R_after (ok := (fun _ => True)) (by (with_reducible repeat (first | apply Ra22 | apply Rb22 | apply Rc22)); exact HO_5.out) hg hat); have n1_ := Ak22 (hb); have n2_ := Ak22 (ho); clear HO_5; clear HB; clear HO322; have HO_5 := n0_; have HB := n1_; have HO325 := n2_; clear n0_ n1_ n2_; clear ho hb hg hat) | ((with_reducible refine gate_builtin (b := .append) (xs := #[.tmp 34, .tmp 35]) rfl ?_); at_builtin; refine Kd.R_append (Kd.int .u64) (w0 := w) w.heap.size rfl (.tmp 34) (.tmp 35) 28 22 (.int .u64 0) 8 rfl Try.underlying28 info22 rfl (by decide) (by omega) v324 y323 0 [.int .u64 0] (fun k_ => some k_ ≠ (.slice Ao14 x5_1.length co14 : Value).ownBlock) (fun _ => False) rfl rfl ?aP (fun _ hk => hk.elim) ?aF ?aO ?aB ?aS ?aL ?_; (case aP => exact rfl); (case aB => exact (by repeat (first | (with_reducible first | exact HB.out | apply Ba22 | apply Bb22 | apply Bc22) | exact HB.out))); (case aF => exact (fun k_ hk => Kd.fresh' (Kd.R_lt (by (with_reducible repeat (first | apply Ra22 | apply Rb22 | apply Rc22)); exact HO_5.out)) k_ hk)); (case aO => exact (by (with_reducible repeat (first | apply Ra22 | apply Rb22 | apply Rc22)); exact HO325.out)); (case aS => exact (below_size (by repeat (first | (with_reducible first | exact HB.out | apply Ba22 | apply Bb22 | apply Bc22) | exact HB.out)))); (case aL => have := LMc10.out; omega); intro v327 w15 ho hb hg hat; rw [← Ny326.out] at ho; have n0_ := Ak22 (Kd.R_after (ok := (fun _ => True)) (by (with_reducible repeat (first | apply Ra22 | apply Rb22 | apply Rc22)); exact HO_5.out) hg hat); have n1_ := Ak22 (hb); have n2_ := Ak22 (ho); clear HO_5; clear HB; clear HO325; have HO_5 := n0_; have HB := n1_; have HO328 := n2_; clear n0_ n1_ n2_; clear ho hb hg hat))
       go_loopg [11] k1 (fun kq v11 w' => ∃ (x10_2 : List Int) (x11_2 : Int), v11 = .int .i64 x11_2 ∧ Aside0 (privityref10_Vanish.l1 kq a0 l1 x5_1 x6_1 t319 x10_2 x11_2 = some r) ∧ Aside0 (kq ≤ k1) ∧ Aside0 (Kd.R (Kd.int .u64) 22 w' w.heap.size (fun k_ => some k_ ≠ (v327 : Value).ownBlock) (.slice Ao14 x5_1.length co14) x5_1) ∧ Aside0 (Kd.R (Kd.int .u64) 22 w' w.heap.size (fun k_ => some k_ ≠ ((.slice Ao14 x5_1.length co14) : Value).ownBlock) v327 x10_2) ∧ Aside0 (Below w.heap.size w w'))
       case atStart => exact ⟨(y326), (0), (by first | rfl | (simp; done) | (simp [*]; done)), H', ⟨Nat.le_refl _⟩, ⟨by (with_reducible repeat (first | apply Ra22 | apply Rb22 | apply Rc22)); exact Kd.R_mono HO_5.out (fun _ hk => hk.2)⟩, ⟨by (with_reducible repeat (first | apply Ra22 | apply Rb22 | apply Rc22)); exact HO328.out⟩, ⟨by repeat (first | (with_reducible first | exact HB.out | apply Ba22 | apply Bb22 | apply Bc22) | exact HB.out)⟩⟩
       case round =>
        clear H'
        try clear c1
        try clear p2
        try clear c3
        try clear p3
        try clear q3
        try clear hx3
        try clear c5
        try clear c5b0
        try clear c6
        try clear c6b0
        try clear c9
        try clear c10
        try clear c15
        try clear hx316_0
        try clear p2
        try clear p316
        try clear q316
        obtain ⟨x10_2, x11_2, rfl, HA, HK2, HO_5, HO_10, HB⟩ := hrel
        cases gk with
        | zero => exact absurd HA.out (by simp [privityref10_Vanish.l1])
        | succ k2 =>
         have H := HA.out
         clear HA
         simp only [privityref10_Vanish.l1] at H
         by_cases c16 : x11_2 < (x5_1.length : Int)
         ·rw [if_pos c16] at H
          have c16b0 : decide (x11_2 < (x5_1.length : Int)) = true := decide_eq_true c16
          clear c16
          obtain ⟨ji17, hji17⟩ : ∃ j_ : Int, (wrap64 (x11_2 + 1)) = j_ := ⟨_, rfl⟩
          replace H : (if 0 ≤ (ji17) then (if (ji17) < (x10_2.length : Int) then (if 0 ≤ x11_2 then ((privityref01_Mul.f a0 t319 (rd x5_1 x11_2)).bind fun t331 => ((privityref01_Add.f a0 (rd x10_2 (ji17)) t331).bind fun t332 => (privityref10_Vanish.l1 k2 a0 l1 x5_1 x6_1 t319 (x10_2.set ((ji17) : Int).toNat t332) ji17))) else (none)) else (none)) else (none)) = some r := by first | (rw [hji17] at H; exact H) | (simp only [hji17] at H ⊢; exact H)
          have hji17w : (IntKind.i64.wrap (x11_2 + 1)) = ji17 := (i64_w _).trans hji17
          by_cases c18 : 0 ≤ (ji17)
          ·rw [if_pos c18] at H
           have c18b0 : decide (0 ≤ (ji17)) = true := decide_eq_true c18
           clear c18
           by_cases c19 : (ji17) < (x10_2.length : Int)
           ·rw [if_pos c19] at H
            have c19b0 : decide ((ji17) < (x10_2.length : Int)) = true := decide_eq_true c19
            clear c19
            by_cases c20 : 0 ≤ x11_2
            ·rw [if_pos c20] at H
             have c20b0 : decide (0 ≤ x11_2) = true := decide_eq_true c20
             clear c20
             replace H := Option.bind_eq_some_iff.mp H
             obtain ⟨t331, A210, H⟩ := H
             replace H : ((privityref01_Add.f a0 (rd x10_2 (ji17)) t331).bind fun t332 => (privityref10_Vanish.l1 k2 a0 l1 x5_1 x6_1 t319 (x10_2.set ((ji17) : Int).toNat t332) ji17)) = some r := H
             have A21 := Ak22 A210
             clear A210
             replace H := Option.bind_eq_some_iff.mp H
             obtain ⟨t332, A220, H⟩ := H
             replace H : (privityref10_Vanish.l1 k2 a0 l1 x5_1 x6_1 t319 (x10_2.set ((ji17) : Int).toNat t332) ji17) = some r := H
             have A22 := Ak22 A220
             clear A220
             obtain ⟨y333, hy333⟩ : ∃ y_ : List Int, y_ = (x10_2.set ((ji17) : Int).toNat t332) := ⟨_, rfl⟩
             replace H : (privityref10_Vanish.l1 k2 a0 l1 x5_1 x6_1 t319 y333 ji17) = some r := by first | (rw [hy333]; with_reducible exact H) | (have H2_ := (Option.bind_some _ _).symm.trans H; rw [hy333]; with_reducible exact H2_) | (have H2_ := (Option.bind_some _ _).symm.trans H; with_reducible exact H2_) | with_reducible exact H | (rw [hy333]; exact H) | exact H
             have Ny333 := Ak22 hy333
             clear hy333
             have H' := Ak22 H
             clear H
             try go_wp2
             have n0_ := Ak22 (Kd.R_drew HO_5.out)
             have n1_ := Ak22 (Kd.R_drew HO_10.out)
             have n2_ := Ak22 (below_drew1 HB.out)
             clear HO_5
             clear HO_10
             clear HB
             have HO_5 := n0_
             have HO_10 := n1_
             have HB := n2_
             clear n0_ n1_ n2_
             obtain ⟨Ao25, co25, eo25⟩ := Kd.R_slice HO_10.out
             (first | subst eo25 | (injection eo25 with f1_ f2_ f3_; have f4_ := f1_.symm; have f5_ := f3_.symm; clear f1_ f2_ f3_; subst f4_; subst f5_))
             have p329 : 0 ≤ ((ji17) : Int) := of_decide_eq_true (by first | (with_reducible assumption) | assumption)
             have q329 : (ji17) < (x10_2.length : Int) := of_decide_eq_true (by first | (with_reducible assumption) | assumption)
             obtain ⟨ad329, e329, hx329_0⟩ := Kd.at_int (Kd.R_reads' HO_10.out).2.2 (ji17) p329 q329
             cases e329
             replace p329 := eq_true p329
             replace q329 := eq_true q329
             have p330 : 0 ≤ (x11_2 : Int) := of_decide_eq_true (by first | (with_reducible assumption) | assumption)
             have q330 : x11_2 < (x5_1.length : Int) := of_decide_eq_true (by first | (with_reducible assumption) | assumption)
             obtain ⟨ad330, e330, hx330_0⟩ := Kd.at_int (Kd.R_reads' HO_5.out).2.2 x11_2 p330 q330
             cases e330
             replace p330 := eq_true p330
             replace q330 := eq_true q330
             refine start_ (n := 19) (S := fun w' => w'.cell? (ad329.add ((ji17)).toNat) = some (.int .u64 (rd x10_2 (ji17))) ∧ w'.cell? (ad330.add (x11_2).toNat) = some (.int .u64 (rd x5_1 x11_2))) (ds := [18]) #[false, false, false, false, false, false, false, false, false, false, false, false, false, false, false, false, false, false, false] (by kernel_rfl) rfl rfl ⟨hx329_0, hx330_0⟩ (fun hHeld => ?_); refine with_tabW privityref10_Vanish.tab12 privityref10_Vanish.bits12 (fun HT_ HW_ => ?_)
             generalize wr.drew = w24 at HO_5 HO_10 HB hx329_0 hx330_0 hHeld ⊢
             refine pure_ (i := 0) (N := some 43) (v := ?_) (a' := ?_) #[true, false, false, false, false, false, false, false, false, false, false, false, false, false, false, false, false, false, false] rfl rfl (any_of HT_.out (by kernel_rfl)) (fun _ _ _ h => h) (Or.inl ⟨by rfl, ?_⟩) ?_ ?_
             rotate_left
             ·intro w'
              go_simp
              with_reducible rfl
             rotate_left
             ·simp only [Act.put, List.setIfInBounds_toArray, List.set_cons_zero, List.set_cons_succ, i64_w, i32_w]
              rfl
             refine pure_ (i := 1) (N := some 44) (v := ?_) (a' := ?_) #[true, true, false, false, false, false, false, false, false, false, false, false, false, false, false, false, false, false, false] rfl rfl (any_of HT_.out (by kernel_rfl)) (fun _ _ _ h => h) (Or.inl ⟨by rfl, ?_⟩) ?_ ?_
             rotate_left
             ·intro w'
              go_simp
              with_reducible rfl
             rotate_left
             ·simp only [Act.put, List.setIfInBounds_toArray, List.set_cons_zero, List.set_cons_succ, i64_w, i32_w]
              rfl
             refine pure_ (i := 2) (N := some 45) (v := ?_) (a' := ?_) #[true, true, true, false, false, false, false, false, false, false, false, false, false, false, false, false, false, false, false] rfl rfl (any_of HT_.out (by kernel_rfl)) (fun _ _ _ h => h) (Or.inl ⟨by rfl, ?_⟩) ?_ ?_
             rotate_left
             ·intro w'
              go_simp
              with_reducible rfl
             rotate_left
             ·simp only [Act.put, List.setIfInBounds_toArray, List.set_cons_zero, List.set_cons_succ, i64_w, i32_w]
              rfl
             refine pure_ (i := 3) (N := some 46) (v := ?_) (a' := ?_) #[true, true, true, true, false, false, false, false, false, false, false, false, false, false, false, false, false, false, false] rfl rfl (any_of HT_.out (by kernel_rfl)) (fun _ _ _ h => h) (Or.inl ⟨by rfl, ?_⟩) ?_ ?_
             rotate_left
             ·intro w'
              go_simp
              with_reducible rfl
             rotate_left
             ·simp only [Act.put, List.setIfInBounds_toArray, List.set_cons_zero, List.set_cons_succ, i64_w, i32_w]
              rfl
             refine pure_ (i := 4) (N := some 47) (v := ?_) (a' := ?_) #[true, true, true, true, true, false, false, false, false, false, false, false, false, false, false, false, false, false, false] rfl rfl (any_of HT_.out (by kernel_rfl)) (fun _ _ _ h => h) (Or.inl ⟨by rfl, ?_⟩) ?_ ?_
             rotate_left
             ·intro w'
              go_simp
              with_reducible rfl
             rotate_left
             ·simp only [Act.put, List.setIfInBounds_toArray, List.set_cons_zero, List.set_cons_succ, i64_w, i32_w]
              rfl
             refine pure_ (i := 5) (N := some 48) (v := ?_) (a' := ?_) #[true, true, true, true, true, true, false, false, false, false, false, false, false, false, false, false, false, false, false] rfl rfl (any_of HT_.out (by kernel_rfl)) (fun _ _ _ h => h) (Or.inl ⟨by rfl, ?_⟩) ?_ ?_
             rotate_left
             ·intro w'
              go_simp
              with_reducible rfl
             rotate_left
             ·simp only [Act.put, List.setIfInBounds_toArray, List.set_cons_zero, List.set_cons_succ, i64_w, i32_w]
              rfl
             refine pure_ (i := 6) (N := some 49) (v := ?_) (a' := ?_) #[true, true, true, true, true, true, true, false, false, false, false, false, false, false, false, false, false, false, false] rfl rfl (any_of HT_.out (by kernel_rfl)) (fun _ _ _ h => h) (Or.inl ⟨by rfl, ?_⟩) ?_ ?_
             rotate_left
             ·intro w'
              go_simp
              with_reducible rfl
             rotate_left
             ·simp only [Act.put, List.setIfInBounds_toArray, List.set_cons_zero, List.set_cons_succ, i64_w, i32_w]
              rfl
             refine pure_ (i := 7) (N := some 50) (v := ?_) (a' := ?_) #[true, true, true, true, true, true, true, true, false, false, false, false, false, false, false, false, false, false, false] rfl rfl (any_of HT_.out (by kernel_rfl)) (fun _ _ _ h => h) (Or.inl ⟨by rfl, ?_⟩) ?_ ?_
             rotate_left
             ·intro w'
              go_simp
              with_reducible rfl
             rotate_left
             ·simp only [Act.put, List.setIfInBounds_toArray, List.set_cons_zero, List.set_cons_succ, i64_w, i32_w]
              rfl
             refine pure_ (i := 9) (N := some 52) (v := ?_) (a' := ?_) #[true, true, true, true, true, true, true, true, false, true, false, false, false, false, false, false, false, false, false] rfl rfl (any_of HT_.out (by kernel_rfl)) (fun _ _ _ h => h) (Or.inl ⟨by rfl, ?_⟩) ?_ ?_
             rotate_left
             ·intro w'
              go_simp
              with_reducible rfl
             rotate_left
             ·simp only [Act.put, List.setIfInBounds_toArray, List.set_cons_zero, List.set_cons_succ, i64_w, i32_w]
              rfl
             refine pure_ (i := 10) (N := some 53) (v := ?_) (a' := ?_) #[true, true, true, true, true, true, true, true, false, true, true, false, false, false, false, false, false, false, false] rfl rfl (any_of HT_.out (by kernel_rfl)) (fun _ _ _ h => h) (Or.inl ⟨by rfl, ?_⟩) ?_ ?_
             rotate_left
             ·intro w'
              go_simp
              with_reducible rfl
             rotate_left
             ·simp only [Act.put, List.setIfInBounds_toArray, List.set_cons_zero, List.set_cons_succ, i64_w, i32_w]
              rfl
             refine pure_ (i := 11) (N := some 54) (v := ?_) (a' := ?_) #[true, true, true, true, true, true, true, true, false, true, true, true, false, false, false, false, false, false, false] rfl rfl (any_of HT_.out (by kernel_rfl)) (fun _ _ _ h => h) (Or.inl ⟨by rfl, ?_⟩) ?_ ?_
             rotate_left
             ·intro w'
              go_simp
              with_reducible rfl
             rotate_left
             ·simp only [Act.put, List.setIfInBounds_toArray, List.set_cons_zero, List.set_cons_succ, i64_w, i32_w]
              rfl
             refine pure_ (i := 12) (N := some 55) (v := ?_) (a' := ?_) #[true, true, true, true, true, true, true, true, false, true, true, true, true, false, false, false, false, false, false] rfl rfl (any_of HT_.out (by kernel_rfl)) (fun _ _ _ h => h) (Or.inl ⟨by rfl, ?_⟩) ?_ ?_
             rotate_left
             ·intro w'
              go_simp
              with_reducible rfl
             rotate_left
             ·simp only [Act.put, List.setIfInBounds_toArray, List.set_cons_zero, List.set_cons_succ, i64_w, i32_w]
              rfl
             refine pure_ (i := 13) (N := some 56) (v := ?_) (a' := ?_) #[true, true, true, true, true, true, true, true, false, true, true, true, true, true, false, false, false, false, false] rfl rfl (any_of HT_.out (by kernel_rfl)) (fun _ _ _ h => h) (Or.inl ⟨by rfl, ?_⟩) ?_ ?_
             rotate_left
             ·intro w'
              go_simp
              with_reducible rfl
             rotate_left
             ·simp only [Act.put, List.setIfInBounds_toArray, List.set_cons_zero, List.set_cons_succ, i64_w, i32_w]
              rfl
             refine take_ (i := 8) (N := some 51) (v := ?_) (a' := ?_) #[true, true, true, true, true, true, true, true, true, true, true, true, true, true, false, false, false, false, false] rfl rfl (take_ofW HT_.out HW_.out (by kernel_rfl)) (fun _ _ _ h => h) (Or.inl ⟨by rfl, ?_⟩) hHeld ?_ ?_
             rotate_left
             ·rintro w' ⟨s0, s1⟩
              go_simp
              with_reducible rfl
             rotate_left
             ·simp only [Act.put, List.setIfInBounds_toArray, List.set_cons_zero, List.set_cons_succ, i64_w, i32_w]
              rfl
             refine take_ (i := 14) (N := some 57) (v := ?_) (a' := ?_) #[true, true, true, true, true, true, true, true, true, true, true, true, true, true, true, false, false, false, false] rfl rfl (take_ofW HT_.out HW_.out (by kernel_rfl)) (fun _ _ _ h => h) (Or.inl ⟨by rfl, ?_⟩) hHeld ?_ ?_
             rotate_left
             ·rintro w' ⟨s0, s1⟩
              go_simp
              with_reducible rfl
             rotate_left
             ·simp only [Act.put, List.setIfInBounds_toArray, List.set_cons_zero, List.set_cons_succ, i64_w, i32_w]
              rfl
             refine one_ (i := 15) (N := some 58) #[true, true, true, true, true, true, true, true, true, true, true, true, true, true, true, true, false, false, false] rfl rfl (one_of HT_.out (by kernel_rfl)) (by decide) (fun K hK => ?_)
             refine goes_ Try.func35 (by kernel_rfl) rfl #[.int .u64 a0, .int .u64 t319, .int .u64 (rd x5_1 x11_2)] (by rfl) rfl rfl (by (try simp only [List.map_toArray, List.map_cons, List.map_nil]); first | done | rfl | (simp only [List.length_drop, List.length_take]; rfl)) ?_
             with_reducible refine (privityref01_Mul.calls a0 t319 (rd x5_1 x11_2) t331 _ A21.out).mono ?_
             rintro e w' ⟨rfl, ⟨nd, rfl⟩⟩
             refine ⟨_, rfl, ?_⟩
             refine hK.out _ _ ⟨hHeld.1, hHeld.2⟩ (fun hHeld => ?_)
             clear hK K
             refine norm_ (a' := ?_) ?_ ?_
             rotate_left
             ·show Act.put _ (some 58) _ = _
              simp only [Act.put, List.setIfInBounds_toArray, List.set_cons_zero, List.set_cons_succ, i64_w, i32_w]
              rfl
             refine one_ (i := 16) (N := some 59) #[true, true, true, true, true, true, true, true, true, true, true, true, true, true, true, true, true, false, false] rfl rfl (one_of HT_.out (by kernel_rfl)) (by decide) (fun K hK => ?_)
             refine goes_ Try.func34 (by kernel_rfl) rfl #[.int .u64 a0, .int .u64 (rd x10_2 (ji17)), .int .u64 t331] (by rfl) rfl rfl (by (try simp only [List.map_toArray, List.map_cons, List.map_nil]); first | done | (simp only [hji17]; rfl) | rfl | (simp only [List.length_drop, List.length_take]; rfl)) ?_
             with_reducible refine (privityref01_Add.calls a0 (rd x10_2 (ji17)) t331 t332 _ A22.out).mono ?_
             rintro e w' ⟨rfl, ⟨nd, rfl⟩⟩
             refine ⟨_, rfl, ?_⟩
             have p23 : 0 ≤ ((ji17) : Int) := of_decide_eq_true (by first | (with_reducible assumption) | assumption)
             have q23 : ((ji17) : Int) < ((x10_2.length : Int) : Int) := of_decide_eq_true (by first | (with_reducible assumption) | assumption)
             obtain ⟨go23, co23, eo23, gb23, gl23, cl23, HG23⟩ := Kd.R_form HO_10.out (by omega)
             (first | cases eo23 | (injection eo23 with ea_ en_ ec_; (first | subst ea_ | (injection ea_ with ea_; subst ea_)); subst ec_; clear en_))
             have GB23 := Ak22 gb23
             have GG23 := Ak22 HG23
             clear gb23 gl23 HG23
             (first | simp only [add_plain] at hx329_0 | skip)
             obtain ⟨hx23_0, hf23_0⟩ := Kd.R_celln 0 HO_10.out ((ji17) : Int) p23 q23
             replace p23 := eq_true p23
             replace q23 := eq_true q23
             have HP26 := Kd.R_putn HO_10.out ((ji17) : Int) t332
             rw [← Ny333.out] at HP26
             have HQ26 := Ak22 HP26
             clear HP26
             refine hK.out _ _ ⟨hHeld.1, hHeld.2⟩ (fun hHeld => ?_)
             clear hK K
             refine norm_ (a' := ?_) ?_ ?_
             rotate_left
             ·show Act.put _ (some 59) _ = _
              simp only [Act.put, List.setIfInBounds_toArray, List.set_cons_zero, List.set_cons_succ, i64_w, i32_w]
              rfl
             refine pure_ (i := 17) (N := some 60) (v := ?_) (a' := ?_) #[true, true, true, true, true, true, true, true, true, true, true, true, true, true, true, true, true, true, false] rfl rfl (any_of HT_.out (by kernel_rfl)) (fun _ _ _ h => h) (Or.inl ⟨by rfl, ?_⟩) ?_ ?_
             rotate_left
             ·intro w'
              go_simp
              with_reducible rfl
             rotate_left
             ·simp only [Act.put, List.setIfInBounds_toArray, List.set_cons_zero, List.set_cons_succ, i64_w, i32_w]
              rfl
             refine last_ (i := 18) (N := none) #[true, true, true, true, true, true, true, true, true, true, true, true, true, true, true, true, true, true, true] rfl rfl (one_of HT_.out (by kernel_rfl)) (by decide) (fun K hK => ?_)
             refine skip_ (w1 := ?_) (by rfl) rfl ?_ ?_
             rotate_left
             ·go_simp
              rfl
             refine hK.out _ _ ?_
             clear hK K
             refine done_ (done_of HT_.out (by kernel_rfl)) ?_
             try go_wp2
             go_roundg k2
             case measure => have := HK1.out; have := HK2.out; omega
             case rel => exact ⟨(y333), (ji17), (by first | rfl | (simp; done) | (simp only [← hji17] <;> (first | rfl | simp)) | (simp [*]; done)), H', ⟨by have := HK1.out; have := HK2.out; omega⟩, ⟨by (with_reducible repeat (first | apply Ra22 | apply Rb22 | apply Rc22)); exact Kd.R_mono (Kd.R_far (p := ⟨go23, ((ji17) : Int).toNat, none⟩) (Kd.R_mono HO_5.out (fun k_ hk => (⟨hk, fun e_ => hk (by rw [e_]; rfl)⟩ : _ ∧ k_ ≠ go23))) (fun _ hk => hk.2) (.int .u64 t332)) (fun _ hk => hk.1)⟩, ⟨by (with_reducible repeat (first | apply Ra22 | apply Rb22 | apply Rc22)); exact HQ26.out⟩, ⟨by repeat (first | (with_reducible first | exact HB.out | apply Ba22 | apply Bb22 | apply Bc22 | refine below_set ?_ GB23.out) | exact HB.out)⟩⟩
            ·rw [if_neg c20] at H
             exact absurd H (by simp)
           ·rw [if_neg c19] at H
            exact absurd H (by simp)
          ·rw [if_neg c18] at H
           exact absurd H (by simp)
         ·rw [if_neg c16] at H
          have c16b0 : decide (x11_2 < (x5_1.length : Int)) = false := decide_eq_false c16
          clear c16
          have H' := Ak22 H
          clear H
          go_wp2
          go_roundg k2
          case measure => have := HK1.out; have := HK2.out; omega
          case rel => exact ⟨(x10_2), (wrap64 (x6_1 + 1)), (by first | rfl | (simp; done) | (simp [*]; done)), H', ⟨by have := HK1.out; have := HK2.out; omega⟩, ⟨by (with_reducible repeat (first | apply Ra22 | apply Rb22 | apply Rc22)); exact Kd.R_mono HO_10.out (fun _ hk => trivial)⟩, ⟨by repeat (first | (with_reducible first | exact HB.out | apply Ba22 | apply Bb22 | apply Bc22) | exact HB.out)⟩⟩
      ·rw [if_neg c10] at H
       exact absurd H (by simp)
     ·rw [if_neg c9] at H
      exact absurd H (by simp)
    ·rw [if_neg c6] at H
     exact absurd H (by simp)
   ·rw [if_neg c5] at H
    have c5b0 : decide (x6_1 < (l1.length : Int)) = false := decide_eq_false c5
    clear c5
    obtain rfl := Option.some.inj H
    go_wp2
    go_ret
    exact ⟨_, by first | rfl | (simp [errW_none, errW_some] <;> rfl) | (simp [*, errW_none, errW_some] <;> rfl), by (with_reducible repeat (first | apply Ra22 | apply Rb22 | apply Rc22)); exact HO_5.out, by repeat (first | (with_reducible first | exact HB.out | apply Ba22 | apply Bb22 | apply Bc22) | exact HB.out)⟩

end Go.Proofs.Ytgjcmcokkbdflaa.F
