/-
A part of this claim's proof (Spec): lemmas that the text of the law stands on.
-/
import Derived.Test.YtiokpaknhbfenaaInterpo
import Derived.Test.YtiokpaknhbfenaaRef04
import Derived.Test.YtiokpaknhbfenaaWMore
set_option linter.unusedVariables false
set_option linter.unusedSimpArgs false
namespace Go.Proofs.Ytiokpaknhbfenaa
open Go.RowKit Go.Proofs.YtiokpaknhbfenaaW.PrintWords
/-! ### what the functions of the field come to, over whole numbers -/
def okp (p : Int) : Bool := p == 31 || p == 127 || p == 8191 || p == 131071 || p == 524287 || p == 2147483647 || p == 2305843009213693951
def inr (p a : Int) : Bool := decide (0 ≤ a) && decide (a < p)
theorem okp_sup {p : Int} (h : okp p = true) : ∃ m : Nat, p = ((m + 1 : Nat) : Int) ∧ Sup (m + 1) := by
  refine ⟨p.toNat - 1, ?_, ?_⟩
  · simp only [okp, Bool.or_eq_true, beq_iff_eq] at h; omega
  · unfold Sup; simp only [okp, Bool.or_eq_true, beq_iff_eq] at h; omega
theorem sup_okp {m : Nat} (h : Sup (m + 1)) : okp ((m + 1 : Nat) : Int) = true := by
  unfold Sup at h; simp only [okp, Bool.or_eq_true, beq_iff_eq]; omega
theorem inr_fin {m : Nat} {a : Int} (h : inr ((m + 1 : Nat) : Int) a = true) : ∃ x : Fin (m + 1), a = ((x.val : Nat) : Int) := by
  simp only [inr, Bool.and_eq_true, decide_eq_true_eq] at h
  exact ⟨⟨a.toNat, by omega⟩, by show a = ((a.toNat : Nat) : Int); omega⟩
theorem fin_inr {m : Nat} (x : Fin (m + 1)) : inr ((m + 1 : Nat) : Int) ((x.val : Nat) : Int) = true := by
  have := x.isLt
  simp only [inr, Bool.and_eq_true, decide_eq_true_eq]; omega
def fAdd (p a b : Int) : Option Int := if okp p && inr p a && inr p b then some ((a + b) % p) else none
def fSub (p a b : Int) : Option Int := if okp p && inr p a && inr p b then some ((a - b) % p) else none
def fMul (p a b : Int) : Option Int := if okp p && inr p a && inr p b then some ((a * b) % p) else none
def fNeg (p a : Int) : Option Int := if okp p && inr p a then some ((-a) % p) else none
def fInv (p a : Int) : Option (Int × Int) := if okp p && inr p a then some (((powNat p.toNat a.toNat (p.toNat - 2) : Nat) : Int), if a = 0 then 8 else 0) else none
theorem fAdd_eq {m : Nat} (hs : Sup (m + 1)) (x y : Fin (m + 1)) : fAdd ((m + 1 : Nat) : Int) ((x.val : Nat) : Int) ((y.val : Nat) : Int) = some (((x + y).val : Nat) : Int) := by
  unfold fAdd; rw [sup_okp hs, fin_inr, fin_inr]; simp [Fin.val_add]
theorem fMul_eq {m : Nat} (hs : Sup (m + 1)) (x y : Fin (m + 1)) : fMul ((m + 1 : Nat) : Int) ((x.val : Nat) : Int) ((y.val : Nat) : Int) = some (((x * y).val : Nat) : Int) := by
  unfold fMul; rw [sup_okp hs, fin_inr, fin_inr]; simp [Fin.val_mul]
theorem fSub_eq {m : Nat} (hs : Sup (m + 1)) (x y : Fin (m + 1)) : fSub ((m + 1 : Nat) : Int) ((x.val : Nat) : Int) ((y.val : Nat) : Int) = some (((x - y).val : Nat) : Int) := by
  unfold fSub; rw [sup_okp hs, fin_inr, fin_inr]
  have := y.isLt
  have h : ((((m + 1 - y.val) + x.val : Nat) : Int)) = (x.val : Int) - (y.val : Int) + ((m + 1 : Nat) : Int) := by omega
  simp only [Bool.and_self, if_true, Fin.sub_def, Int.natCast_emod, h, Int.add_emod_right]
theorem fNeg_eq {m : Nat} (hs : Sup (m + 1)) (x : Fin (m + 1)) : fNeg ((m + 1 : Nat) : Int) ((x.val : Nat) : Int) = some (((-x).val : Nat) : Int) := by
  unfold fNeg; rw [sup_okp hs, fin_inr]
  have := x.isLt
  have h : (((m + 1 - x.val : Nat) : Int)) = -(x.val : Int) + ((m + 1 : Nat) : Int) := by omega
  simp only [Bool.and_self, if_true, Fin.neg_def, Int.natCast_emod, h, Int.add_emod_right]
theorem fInv_eq {m : Nat} (hs : Sup (m + 1)) (x : Fin (m + 1)) : fInv ((m + 1 : Nat) : Int) ((x.val : Nat) : Int) = some ((((finv x).val : Nat) : Int), invErr x) := by
  unfold fInv; rw [sup_okp hs, fin_inr]
  have hl := hs.lt
  simp only [Bool.and_self, if_true, Int.toNat_natCast]
  rw [powNat_eq x (m + 1 - 2) (by omega)]
  unfold finv invErr
  by_cases h : x = 0
  · subst h; simp
  · have : ¬ ((x.val : Nat) : Int) = 0 := fun e => h (Fin.ext (by rw [zero_val]; omega))
    simp [h, this]
theorem of_fun2 {p a b r : Int} {F : Int → Int → Int → Option Int} (hF : F p a b = some r) (hg : F p a b ≠ none → okp p = true ∧ inr p a = true ∧ inr p b = true) :
    ∃ (m : Nat) (x y : Fin (m + 1)), Sup (m + 1) ∧ p = ((m + 1 : Nat) : Int) ∧ a = ((x.val : Nat) : Int) ∧ b = ((y.val : Nat) : Int) := by
  obtain ⟨h1, h2, h3⟩ := hg (by rw [hF]; simp)
  obtain ⟨m, rfl, hs⟩ := okp_sup h1
  obtain ⟨x, rfl⟩ := inr_fin h2
  obtain ⟨y, rfl⟩ := inr_fin h3
  exact ⟨m, x, y, hs, rfl, rfl, rfl⟩
theorem of_fun1 {p a : Int} {β : Type} {r : β} {F : Int → Int → Option β} (hF : F p a = some r) (hg : F p a ≠ none → okp p = true ∧ inr p a = true) :
    ∃ (m : Nat) (x : Fin (m + 1)), Sup (m + 1) ∧ p = ((m + 1 : Nat) : Int) ∧ a = ((x.val : Nat) : Int) := by
  obtain ⟨h1, h2⟩ := hg (by rw [hF]; simp)
  obtain ⟨m, rfl, hs⟩ := okp_sup h1
  obtain ⟨x, rfl⟩ := inr_fin h2
  exact ⟨m, x, hs, rfl, rfl⟩
theorem gate3 {c1 c2 c3 : Bool} {β : Type} {v : β} (h : (if (c1 && c2 && c3) = true then some v else none) ≠ none) : c1 = true ∧ c2 = true ∧ c3 = true := by
  cases c1 <;> cases c2 <;> cases c3 <;> simp_all
theorem gate2 {c1 c2 : Bool} {β : Type} {v : β} (h : (if (c1 && c2) = true then some v else none) ≠ none) : c1 = true ∧ c2 = true := by
  cases c1 <;> cases c2 <;> simp_all
theorem fAdd_calls (p a b r : Int) (w : World) (h : fAdd p a b = some r) : Calls Try.prog 38 #[.int .u64 p, .int .u64 a, .int .u64 b] w fun e w' => e = .returned (.int .u64 r) ∧ Drawn0 w w' := by
  obtain ⟨m, x, y, hs, rfl, rfl, rfl⟩ := of_fun2 h gate3
  rw [fAdd_eq hs] at h; injection h with h; subst h
  refine (add_calls hs (x := x) (y := y) rfl rfl w).mono ?_
  rintro e w' ⟨rfl, rfl⟩; exact ⟨rfl, Drawn0.refl _⟩
theorem fMul_calls (p a b r : Int) (w : World) (h : fMul p a b = some r) : Calls Try.prog 42 #[.int .u64 p, .int .u64 a, .int .u64 b] w fun e w' => e = .returned (.int .u64 r) ∧ Drawn0 w w' := by
  obtain ⟨m, x, y, hs, rfl, rfl, rfl⟩ := of_fun2 h gate3
  rw [fMul_eq hs] at h; injection h with h; subst h
  refine (mul_calls hs (x := x) (y := y) rfl rfl w).mono ?_
  rintro e w' ⟨rfl, rfl⟩; exact ⟨rfl, Drawn0.refl _⟩
theorem fSub_calls (p a b r : Int) (w : World) (h : fSub p a b = some r) : Calls Try.prog 40 #[.int .u64 p, .int .u64 a, .int .u64 b] w fun e w' => e = .returned (.int .u64 r) ∧ Drawn0 w w' := by
  obtain ⟨m, x, y, hs, rfl, rfl, rfl⟩ := of_fun2 h gate3
  rw [fSub_eq hs] at h; injection h with h; subst h
  refine (sub_calls hs (x := x) (y := y) rfl rfl w).mono ?_
  rintro e w' ⟨rfl, rfl⟩; exact ⟨rfl, Drawn0.refl _⟩
theorem fNeg_calls (p a r : Int) (w : World) (h : fNeg p a = some r) : Calls Try.prog 51 #[.int .u64 p, .int .u64 a] w fun e w' => e = .returned (.int .u64 r) ∧ Drawn0 w w' := by
  obtain ⟨m, x, hs, rfl, rfl⟩ := of_fun1 h gate2
  rw [fNeg_eq hs] at h; injection h with h; subst h
  refine (neg_calls hs (x := x) rfl w).mono ?_
  rintro e w' ⟨rfl, rfl⟩; exact ⟨rfl, Drawn0.refl _⟩
theorem fInv_calls (p a r1 r2 : Int) (w : World) (h : fInv p a = some (r1, r2)) : Calls Try.prog 71 #[.int .u64 p, .int .u64 a] w fun e w' => e = .returned (.tuple #[.int .u64 r1, .int .i64 r2]) ∧ Drawn0 w w' := by
  obtain ⟨m, x, hs, rfl, rfl⟩ := of_fun1 h gate2
  rw [fInv_eq hs] at h; injection h with h; injection h with h1 h2; subst h1 h2
  refine (inv_calls hs (x := x) rfl w).mono ?_
  rintro e w' ⟨rfl, rfl⟩; exact ⟨rfl, Drawn0.refl _⟩
theorem rfAdd_calls (p a b r : Int) (w : World) (h : fAdd p a b = some r) : Calls Try.prog 39 #[.int .u64 p, .int .u64 a, .int .u64 b] w fun e w' => e = .returned (.int .u64 r) ∧ Drawn0 w w' := by
  obtain ⟨m, x, y, hs, rfl, rfl, rfl⟩ := of_fun2 h gate3
  rw [fAdd_eq hs] at h; injection h with h; subst h
  refine (rAdd_calls hs (x := x) (y := y) rfl rfl w).mono ?_
  rintro e w' ⟨rfl, rfl⟩; exact ⟨rfl, Drawn0.refl _⟩
theorem rfMul_calls (p a b r : Int) (w : World) (h : fMul p a b = some r) : Calls Try.prog 43 #[.int .u64 p, .int .u64 a, .int .u64 b] w fun e w' => e = .returned (.int .u64 r) ∧ Drawn0 w w' := by
  obtain ⟨m, x, y, hs, rfl, rfl, rfl⟩ := of_fun2 h gate3
  rw [fMul_eq hs] at h; injection h with h; subst h
  refine (rMul_calls hs (x := x) (y := y) rfl rfl w).mono ?_
  rintro e w' ⟨rfl, rfl⟩; exact ⟨rfl, Drawn0.refl _⟩
theorem rfSub_calls (p a b r : Int) (w : World) (h : fSub p a b = some r) : Calls Try.prog 75 #[.int .u64 p, .int .u64 a, .int .u64 b] w fun e w' => e = .returned (.int .u64 r) ∧ Drawn0 w w' := by
  obtain ⟨m, x, y, hs, rfl, rfl, rfl⟩ := of_fun2 h gate3
  rw [fSub_eq hs] at h; injection h with h; subst h
  refine (rSub_calls hs (x := x) (y := y) rfl rfl w).mono ?_
  rintro e w' ⟨rfl, rfl⟩; exact ⟨rfl, Drawn0.refl _⟩
theorem rfNeg_calls (p a r : Int) (w : World) (h : fNeg p a = some r) : Calls Try.prog 77 #[.int .u64 p, .int .u64 a] w fun e w' => e = .returned (.int .u64 r) ∧ Drawn0 w w' := by
  obtain ⟨m, x, hs, rfl, rfl⟩ := of_fun1 h gate2
  rw [fNeg_eq hs] at h; injection h with h; subst h
  refine (rNeg_calls hs (x := x) rfl w).mono ?_
  rintro e w' ⟨rfl, rfl⟩; exact ⟨rfl, Drawn0.refl _⟩
theorem rfInv_calls (p a r1 r2 : Int) (w : World) (h : fInv p a = some (r1, r2)) : Calls Try.prog 74 #[.int .u64 p, .int .u64 a] w fun e w' => e = .returned (.tuple #[.int .u64 r1, .int .i64 r2]) ∧ Drawn0 w w' := by
  obtain ⟨m, x, hs, rfl, rfl⟩ := of_fun1 h gate2
  rw [fInv_eq hs] at h; injection h with h; injection h with h1 h2; subst h1 h2
  refine (rInv_calls hs (x := x) rfl w).mono ?_
  rintro e w' ⟨rfl, rfl⟩; exact ⟨rfl, Drawn0.refl _⟩
/-! ### lists -/
def oF {n : Nat} (l : List (Fin n)) : List Int := l.map fun x => ((x.val : Nat) : Int)
def tF (m : Nat) (l : List Int) : List (Fin (m + 1)) := l.map fun x => Fin.ofNat (m + 1) x.toNat
theorem tF_oF {m : Nat} (l : List (Fin (m + 1))) : tF m (oF l) = l := by
  unfold tF oF
  rw [List.map_map]
  conv => rhs; rw [← List.map_id l]
  refine List.map_congr_left fun x _ => ?_
  simp [Fin.ofNat, Nat.mod_eq_of_lt x.isLt]
theorem all_oF {m : Nat} {l : List Int} (h : l.all (inr ((m + 1 : Nat) : Int)) = true) : ∃ ys : List (Fin (m + 1)), l = oF ys := by
  induction l with
  | nil => exact ⟨[], rfl⟩
  | cons a l ih =>
    rw [List.all_cons, Bool.and_eq_true] at h
    obtain ⟨x, rfl⟩ := inr_fin h.1
    obtain ⟨ys, rfl⟩ := ih h.2
    exact ⟨x :: ys, rfl⟩
theorem oF_all {m : Nat} (ys : List (Fin (m + 1))) : (oF ys).all (inr ((m + 1 : Nat) : Int)) = true := by
  rw [List.all_eq_true]
  intro a ha
  obtain ⟨x, _, rfl⟩ := List.mem_map.1 ha
  exact fin_inr x
theorem slF_of_C {m : Nat} {w : World} {A : Option Addr} {c : Nat} {ys : List (Fin (m + 1))} (h : Kd.C (Kd.int .u64) w A (oF ys).length (oF ys)) (hc : (oF ys).length ≤ c) : SlF w (.slice A (oF ys).length c) ys := by
  have hl : (oF ys).length = ys.length := by simp [oF]
  have h2 := Kd.reads_of_C (d := (0 : Int)) h
  refine ⟨A, c, by rw [hl], by omega, fun i hi => ?_⟩
  obtain ⟨ad, he, hcell⟩ := h2.2.2 (by omega)
  refine ⟨ad, _, he, hcell i (by omega), ?_⟩
  simp [RF, oF, hi]
theorem R_of_F {m : Nat} {e : Nat} {w : World} {B : Nat} {v : Value} {f : List (Fin (m + 1))} (h : w.ownsRow B e 1 v f.length (encF f)) : Kd.R (Kd.int .u64) e w B (fun _ => True) v (oF f) := by
  refine Kd.R_of_own ?_ (fun _ _ => trivial)
  simpa [oF, encF, encs, List.map_map, Function.comp_def] using h
/-! ### trimming words -/
def oU (l : List Nat) : List Int := l.map fun (x : Nat) => (x : Int)
def rtrimI (l : List Int) : Option (List Int) := if (l.all (fun x => decide (0 ≤ x)) && decide (l.length ≤ 1000000)) = true then some (oU (utrim (l.map (·.toNat)))) else none
theorem oU_toNat (l : List Nat) : (oU l).map (·.toNat) = l := by
  unfold oU
  rw [List.map_map]
  conv => rhs; rw [← List.map_id l]
  exact List.map_congr_left fun x _ => by simp
theorem all_oU {l : List Int} (h : l.all (fun x => decide (0 ≤ x)) = true) : ∃ ys : List Nat, l = oU ys := by
  induction l with
  | nil => exact ⟨[], rfl⟩
  | cons a l ih =>
    rw [List.all_cons, Bool.and_eq_true, decide_eq_true_eq] at h
    obtain ⟨ys, rfl⟩ := ih h.2
    refine ⟨a.toNat :: ys, ?_⟩
    show a :: oU ys = ((a.toNat : Nat) : Int) :: oU ys
    rw [Int.toNat_of_nonneg h.1]
theorem oF_oU {n : Nat} (f : List (Fin n)) : oF f = oU (f.map (·.val)) := by simp [oF, oU]
theorem rtrimI_eq {m : Nat} (f : List (Fin (m + 1))) (hl : f.length ≤ 1000000) : rtrimI (oF f) = some (oF (ptrim f)) := by
  unfold rtrimI
  have h1 : (oF f).all (fun x => decide (0 ≤ x)) = true := by
    rw [List.all_eq_true]
    intro a ha
    obtain ⟨x, _, rfl⟩ := List.mem_map.1 ha
    simp
  have h2 : (oF f).length = f.length := by simp [oF]
  rw [h1, h2, decide_eq_true hl]
  simp only [Bool.and_self, if_true]
  rw [oF_oU, oU_toNat, utrim_map, ← oF_oU]
theorem slU_of_C {w : World} {A : Option Addr} {c : Nat} {ys : List Nat} (h : Kd.C (Kd.int .u64) w A (oU ys).length (oU ys)) (hc : (oU ys).length ≤ c) : SlU w (.slice A (oU ys).length c) ys := by
  have hl : (oU ys).length = ys.length := by simp [oU]
  have h2 := Kd.reads_of_C (d := (0 : Int)) h
  refine ⟨A, c, by rw [hl], by omega, fun i hi => ?_⟩
  obtain ⟨ad, he, hcell⟩ := h2.2.2 (by omega)
  refine ⟨ad, _, he, hcell i (by omega), ?_⟩
  simp [RU, oU, hi]
theorem R_of_U {e : Nat} {w : World} {B : Nat} {v : Value} {f : List Nat} (h : w.ownsRow B e 1 v f.length (encU f)) : Kd.R (Kd.int .u64) e w B (fun _ => True) v (oU f) := by
  refine Kd.R_of_own ?_ (fun _ _ => trivial)
  simpa [oU, encU, encs, List.map_map, Function.comp_def] using h
theorem rtrimI_calls (A0 : Option Addr) (c0 : Nat) (l0 : List Int) (r : List Int) (w : World) (hr0 : Kd.C (Kd.int .u64) w A0 l0.length l0) (hc0 : l0.length ≤ c0) (h : rtrimI l0 = some r) :
    Calls Try.prog 73 #[.slice A0 l0.length c0] w fun e w' => ∃ v0_ : Value, e = .returned (v0_) ∧ Kd.R (Kd.int .u64) 22 w' w.heap.size (fun _ => True) v0_ r ∧ Below w.heap.size w w' := by
  have hg : (l0.all (fun x => decide (0 ≤ x)) && decide (l0.length ≤ 1000000)) = true := by
    by_cases hg : (l0.all (fun x => decide (0 ≤ x)) && decide (l0.length ≤ 1000000)) = true
    · exact hg
    · unfold rtrimI at h; rw [if_neg hg] at h; cases h
  unfold rtrimI at h
  rw [if_pos hg] at h
  simp only [Bool.and_eq_true, decide_eq_true_eq] at hg
  obtain ⟨ys, rfl⟩ := all_oU hg.1
  rw [oU_toNat] at h
  injection h with h; subst h
  have hl : ys.length ≤ 1000000 := by simpa [oU] using hg.2
  refine (rTrim_calls w (slU_of_C hr0 hc0) hl).mono ?_
  rintro e w' ⟨q, rfl, hq, hE⟩
  exact ⟨q, rfl, R_of_U hq, hE⟩
/-! ### interpolation -/
section
variable {m : Nat}
def lagW (xs : List (Fin (m + 1))) (z : Fin (m + 1)) : List (Fin (m + 1)) := (List.range xs.length).map fun i => evp z (xs.eraseIdx i) * finv (evp (xs.getD i 0) (xs.eraseIdx i))
def lagI (p : Int) (l : List Int) (z : Int) : Option (List Int × Int) :=
  if (okp p && l.all (inr p) && (inr p z && decide (l.length ≤ 12))) = true then
    (if (tF (p.toNat - 1) l).Nodup then some (oF (lagW (tF (p.toNat - 1) l) (Fin.ofNat _ z.toNat)), 0) else some ([], 1))
  else none
theorem lagI_eq {m : Nat} (hs : Sup (m + 1)) (xs : List (Fin (m + 1))) (z : Fin (m + 1)) (hl : xs.length ≤ 12) : lagI ((m + 1 : Nat) : Int) (oF xs) ((z.val : Nat) : Int) = if xs.Nodup then some (oF (lagW xs z), 0) else some ([], 1) := by
  unfold lagI
  have h1 : (oF xs).length = xs.length := by simp [oF]
  rw [sup_okp hs, oF_all, fin_inr, h1, decide_eq_true hl]
  simp only [Bool.and_self, if_true, Int.toNat_natCast, tF_oF]
  change (if xs.Nodup then some (oF (lagW xs (Fin.ofNat (m + 1) z.val)), (0 : Int)) else some ([], 1)) = _
  rw [show Fin.ofNat (m + 1) z.val = z from Fin.ext (Nat.mod_eq_of_lt z.isLt)]
def lagP (pts : List (Fin (m + 1) × Fin (m + 1))) : List (Fin (m + 1)) :=
  (List.range pts.length).foldl (fun f i => ptrim (padd f (ptrim (pscale ((pts.getD i (0, 0)).2 * finv (evp (pts.getD i (0, 0)).1 ((pts.map (·.1)).eraseIdx i))) (linF ((pts.map (·.1)).eraseIdx i)))))) []
theorem lagP_interp {m : Nat} (hs : Sup (m + 1)) (pts : List (Fin (m + 1) × Fin (m + 1))) (hn : (pts.map (·.1)).Nodup) : Interp pts (lagP pts) := by
  have key : ∀ k, k ≤ pts.length → Part pts k ((List.range k).foldl (fun f i => ptrim (padd f (ptrim (pscale ((pts.getD i (0, 0)).2 * finv (evp (pts.getD i (0, 0)).1 ((pts.map (·.1)).eraseIdx i))) (linF ((pts.map (·.1)).eraseIdx i)))))) []) := by
    intro k
    induction k with
    | zero => intro _; exact Part.zero pts
    | succ k ih =>
      intro hk
      have hlt : k < pts.length := by omega
      rw [List.range_succ, List.foldl_append, List.foldl_cons, List.foldl_nil]
      have hg : pts.getD k (0, 0) = pts[k] := by simp [hlt]
      rw [hg]
      have hel : ((pts.map (·.1)).eraseIdx k).length = pts.length - 1 := by rw [List.length_eraseIdx_of_lt (by simpa using hlt), List.length_map]
      have hlen := (linF_ev ((pts.map (·.1)).eraseIdx k) pts[k].1).2
      refine Part.step hs hn hlt (ih (by omega)) (c := pts[k].2 * finv (evp pts[k].1 ((pts.map (·.1)).eraseIdx k))) (fun z => ?_) ?_ ?_
      · rw [(ptrim_same _).ev, ev_pscale, (linF_ev _ z).1]
      · have := ptrim_length_le (pscale (pts[k].2 * finv (evp pts[k].1 ((pts.map (·.1)).eraseIdx k))) (linF ((pts.map (·.1)).eraseIdx k)))
        rw [length_pscale] at this
        omega
      · have := hs.inv (over_evp hs hn hlt)
        grind
  exact (key pts.length (Nat.le_refl _)).interp
def oP {n : Nat} (l : List (Fin n × Fin n)) : List (Int × Int) := l.map fun q => (((q.1.val : Nat) : Int), ((q.2.val : Nat) : Int))
def tP (m : Nat) (l : List (Int × Int)) : List (Fin (m + 1) × Fin (m + 1)) := l.map fun q => (Fin.ofNat (m + 1) q.1.toNat, Fin.ofNat (m + 1) q.2.toNat)
theorem tP_oP {m : Nat} (l : List (Fin (m + 1) × Fin (m + 1))) : tP m (oP l) = l := by
  unfold tP oP
  rw [List.map_map]
  conv => rhs; rw [← List.map_id l]
  refine List.map_congr_left fun x _ => ?_
  simp [Fin.ofNat, Nat.mod_eq_of_lt x.1.isLt, Nat.mod_eq_of_lt x.2.isLt]
theorem all_oP {m : Nat} {l : List (Int × Int)} (h : l.all (fun q => inr ((m + 1 : Nat) : Int) q.1 && inr ((m + 1 : Nat) : Int) q.2) = true) : ∃ ys : List (Fin (m + 1) × Fin (m + 1)), l = oP ys := by
  induction l with
  | nil => exact ⟨[], rfl⟩
  | cons a l ih =>
    rw [List.all_cons, Bool.and_eq_true, Bool.and_eq_true] at h
    obtain ⟨x, hx⟩ := inr_fin h.1.1
    obtain ⟨y, hy⟩ := inr_fin h.1.2
    obtain ⟨ys, rfl⟩ := ih h.2
    exact ⟨(x, y) :: ys, by obtain ⟨a1, a2⟩ := a; simp only at hx hy; subst hx hy; rfl⟩
theorem oP_all {m : Nat} (ys : List (Fin (m + 1) × Fin (m + 1))) : (oP ys).all (fun q => inr ((m + 1 : Nat) : Int) q.1 && inr ((m + 1 : Nat) : Int) q.2) = true := by
  rw [List.all_eq_true]
  intro a ha
  obtain ⟨x, _, rfl⟩ := List.mem_map.1 ha
  rw [fin_inr, fin_inr]; rfl
def polyI (p : Int) (l : List (Int × Int)) : Option (List Int × Int) :=
  if (okp p && l.all (fun q => inr p q.1 && inr p q.2) && decide (l.length ≤ 12)) = true then
    (if ((tP (p.toNat - 1) l).map (·.1)).Nodup then some (oF (lagP (tP (p.toNat - 1) l)), 0) else some ([], 1))
  else none
theorem polyI_eq {m : Nat} (hs : Sup (m + 1)) (pts : List (Fin (m + 1) × Fin (m + 1))) (hl : pts.length ≤ 12) : polyI ((m + 1 : Nat) : Int) (oP pts) = if (pts.map (·.1)).Nodup then some (oF (lagP pts), 0) else some ([], 1) := by
  unfold polyI
  have h1 : (oP pts).length = pts.length := by simp [oP]
  rw [sup_okp hs, oP_all, h1, decide_eq_true hl]
  simp only [Bool.and_self, if_true, Int.toNat_natCast, tP_oP]
  rfl
theorem polyI_calls (p : Int) (A : Option Addr) (c : Nat) (l : List (Int × Int)) (r1 : List Int) (r2 : Int) (w : World)
    (hr : ∀ i (h : i < l.length), ∃ ad, A = some ad ∧ w.cell? (ad.add (i * 2)) = some (.int .u64 l[i].1) ∧ w.cell? ⟨(ad.add (i * 2)).block, (ad.add (i * 2)).off + 1, none⟩ = some (.int .u64 l[i].2)) (hc : l.length ≤ c) (h : polyI p l = some (r1, r2)) :
    Calls Try.prog 34 #[.int .u64 p, .slice A l.length c] w fun e w' => ∃ v0_ : Value, e = .returned (.tuple #[v0_, .int .i64 r2]) ∧ Kd.R (Kd.int .u64) 22 w' w.heap.size (fun _ => True) v0_ r1 ∧ Below w.heap.size w w' := by
  have hg : (okp p && l.all (fun q => inr p q.1 && inr p q.2) && decide (l.length ≤ 12)) = true := by
    by_cases hg : (okp p && l.all (fun q => inr p q.1 && inr p q.2) && decide (l.length ≤ 12)) = true
    · exact hg
    · unfold polyI at h; rw [if_neg hg] at h; cases h
  simp only [Bool.and_eq_true, decide_eq_true_eq] at hg
  obtain ⟨⟨g1, g2⟩, g4⟩ := hg
  obtain ⟨m, rfl, hs⟩ := okp_sup g1
  obtain ⟨ys, rfl⟩ := all_oP g2
  have hl0 : (oP ys).length = ys.length := by simp [oP]
  have hl : ys.length ≤ 12 := by omega
  rw [polyI_eq hs ys hl] at h
  have hsl : SlP w (.slice A (oP ys).length c) ys := by
    refine ⟨A, c, by rw [hl0], by omega, fun i hi => ?_⟩
    obtain ⟨ad, q1, q2, q3⟩ := hr i (by omega)
    exact ⟨ad, q1, by rw [q2]; simp [oP], by rw [q3]; simp [oP]⟩
  by_cases hn : (ys.map (·.1)).Nodup
  · rw [if_pos hn] at h
    injection h with h; injection h with h1 h2; subst h1 h2
    refine (polynomial_ok hs w hsl hl hn).mono ?_
    rintro e w' ⟨r, rfl, ⟨q, f, rfl, hi, hq⟩, hE⟩
    have hu := Interp.unique hs.dom hn (lagP_interp hs ys hn) hi
    rw [hu]
    exact ⟨q, rfl, R_of_F hq, hE⟩
  · rw [if_neg hn] at h
    injection h with h; injection h with h1 h2; subst h1 h2
    refine (polynomial_err hs w hsl hl hn).mono ?_
    rintro e w' ⟨r, rfl, ⟨q, rfl, hq⟩, hE⟩
    exact ⟨q, rfl, R_of_F (m := m) (f := []) hq, hE⟩
end
end Go.Proofs.Ytiokpaknhbfenaa
