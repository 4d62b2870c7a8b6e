import Derived.Test.YtfddoegcbpinkaaPureB
import Derived.Test.YtfddoegcbpinkaaF2
import Derived.Test.YtfddoegcbpinkaaF3
import Derived.Test.YtfddoegcbpinkaaF2
set_option linter.unusedVariables false
set_option linter.unusedSimpArgs false
namespace Go.Proofs.Ytfddoegcbpinkaa.Pure
open Go.RowKit Go.Proofs.Ytfddoegcbpinkaa Go.Proofs.Ytfddoegcbpinkaa.F Go.Proofs.YtfddoegcbpinkaaW.PrintWords Go.Proofs.YtfddoegcbpinkaaW.PrintLast
variable {m : Nat}
/-! ### valid parameters -/
theorem wrap_small (x : Int) (h0 : 0 ≤ x) (h1 : x ≤ 9223372036854775807) : IntKind.u64.wrap x = x := by
  simp [IntKind.wrap, IntKind.bits, IntKind.signed]; omega
def validB (p n t : Int) : Bool := okp p && (decide (n ≥ 4) && (decide (n ≤ 13) && (decide (IntKind.u64.wrap n < p) && (decide (t ≥ 1) && (decide (t < n) && decide (wrap64 (3 * t) < n))))))
theorem valid_ev (p n t : Int) : Ev (fun k => privityref12_Valid.f k p n t) (validB p n t) := by
  unfold privityref12_Valid.f
  refine Ev.bind (supported_ev p) ?_
  unfold validB
  cases okp p
  · exact Ev.now _
  · refine Ev.congr (f := fun _ => some _) (fun k => ?_) (Ev.now _)
    simp only [Bool.true_and, if_true]
    by_cases h1 : n ≥ 4
    case neg => rw [if_neg h1, decide_eq_false h1]; rfl
    rw [if_pos h1, decide_eq_true h1, Bool.true_and]
    by_cases h2 : n ≤ 13
    case neg => rw [if_neg h2, decide_eq_false h2]; rfl
    rw [if_pos h2, decide_eq_true h2, Bool.true_and]
    by_cases h3 : IntKind.u64.wrap n < p
    case neg => rw [if_neg h3, decide_eq_false h3]; rfl
    rw [if_pos h3, decide_eq_true h3, Bool.true_and]
    by_cases h4 : t ≥ 1
    case neg => rw [if_neg h4, decide_eq_false h4]; rfl
    rw [if_pos h4, decide_eq_true h4, Bool.true_and]
    by_cases h5 : t < n
    case neg => rw [if_neg h5, decide_eq_false h5]; rfl
    rw [if_pos h5, decide_eq_true h5, Bool.true_and]
theorem valid_facts {p n t : Int} (h : validB p n t = true) : okp p = true ∧ 4 ≤ n ∧ n ≤ 13 ∧ n < p ∧ 1 ≤ t ∧ 3 * t < n := by
  simp only [validB, Bool.and_eq_true, decide_eq_true_eq] at h
  obtain ⟨h0, h1, h2, h3, h4, h5, h6⟩ := h
  rw [wrap_small n (by omega) (by omega)] at h3
  refine ⟨h0, h1, h2, h3, h4, ?_⟩
  unfold wrap64 at h6
  omega
def chk (n : Int) : Option Int → List Int → Bool
  | _, [] => true
  | pv, x :: xs => decide (1 ≤ x) && (decide (x ≤ n) && ((match pv with | none => true | some y => decide (y < x)) && chk n (some x) xs))
theorem chk_cons (n : Int) (pv : Option Int) (x : Int) (xs : List Int) : chk n pv (x :: xs) = (decide (1 ≤ x) && (decide (x ≤ n) && ((match pv with | none => true | some y => decide (y < x)) && chk n (some x) xs))) := by cases pv <;> rfl
def vcoB (p n t : Int) (l : List Int) : Bool := validB p n t && (decide ((l.length : Int) ≤ t) && chk n none l)
theorem vco_ev (p n t : Int) (l : List Int) : Ev (fun k => privityref12_ValidCoalition.f k p n t l) (vcoB p n t l) := by
  unfold privityref12_ValidCoalition.f
  refine Ev.bind (valid_ev p n t) ?_
  unfold vcoB
  have hj : Ev (fun k => privityref12_ValidCoalition.j0 k l true p n t) false := Ev.step (f := fun _ => some false) (fun k => by simp only [privityref12_ValidCoalition.j0]; rw [if_pos trivial]) (Ev.now _)
  cases hv : validB p n t
  · exact hj
  have hf := valid_facts hv
  simp only [if_true, Bool.true_and]
  by_cases hl : (l.length : Int) ≤ t
  case neg => rw [decide_eq_false hl, decide_eq_true (show (l.length : Int) > t by omega)]; exact hj
  rw [decide_eq_true hl, decide_eq_false (show ¬ (l.length : Int) > t by omega), Bool.true_and]
  have key : ∀ d i, i + d = l.length → Ev (fun k => privityref12_ValidCoalition.l0 k l (i : Int) p n t) (chk n (if i = 0 then none else some (l.getD (i - 1) 0)) (l.drop i)) := by
    intro d
    induction d with
    | zero =>
      intro i hi
      rw [List.drop_of_length_le (by omega)]
      refine Ev.step (f := fun _ => some true) (fun k => ?_) (Ev.now _)
      simp only [privityref12_ValidCoalition.l0]; rw [if_neg (by omega)]
    | succ d ih =>
      intro i hi
      have hlt : i < l.length := by omega
      have h := ih (i + 1) (by omega)
      rw [if_neg (by omega), show i + 1 - 1 = i by omega, show l.getD i 0 = l[i] by simp [hlt]] at h
      rw [List.drop_eq_getElem_cons hlt, chk_cons]
      have hrd : rd l (i : Int) = l[i] := rd_at hlt
      by_cases h1 : 1 ≤ l[i]
      case neg =>
        rw [decide_eq_false h1, Bool.false_and]
        refine Ev.step (f := fun _ => some false) (fun k => ?_) (Ev.now _)
        simp only [privityref12_ValidCoalition.l0]
        rw [if_pos (by omega), if_pos (by omega), hrd, if_pos (by omega)]
      by_cases h2 : l[i] ≤ n
      case neg =>
        rw [decide_eq_true h1, decide_eq_false h2, Bool.false_and, Bool.and_false]
        refine Ev.step (f := fun _ => some false) (fun k => ?_) (Ev.now _)
        simp only [privityref12_ValidCoalition.l0]
        rw [if_pos (by omega), if_pos (by omega), hrd, if_neg (by omega), if_pos (by omega)]
      rw [decide_eq_true h1, decide_eq_true h2, Bool.true_and, Bool.true_and]
      by_cases h0 : i = 0
      · rw [if_pos h0]
        simp only [Bool.true_and]
        refine Ev.step (fun k => ?_) h
        simp only [privityref12_ValidCoalition.l0]
        rw [if_pos (by omega), if_pos (by omega), hrd, if_neg (by omega), if_neg (by omega), if_neg (by omega), wrapS i (by omega)]
      · rw [if_neg h0]
        have hw : wrap64 ((i : Int) - 1) = ((i - 1 : Nat) : Int) := by unfold wrap64; omega
        have hp : rd l ((i - 1 : Nat) : Int) = l.getD (i - 1) 0 := by simp [rd]
        simp only []
        by_cases h3 : l.getD (i - 1) 0 < l[i]
        · rw [decide_eq_true h3, Bool.true_and]
          refine Ev.step (fun k => ?_) h
          simp only [privityref12_ValidCoalition.l0]
          rw [if_pos (by omega), if_pos (by omega), hrd, if_neg (by omega), if_neg (by omega), if_pos (by omega), hw, if_pos (by omega), if_pos (by omega), hp, if_neg (by omega), wrapS i (by omega)]
        · rw [decide_eq_false h3, Bool.false_and]
          refine Ev.step (f := fun _ => some false) (fun k => ?_) (Ev.now _)
          simp only [privityref12_ValidCoalition.l0]
          rw [if_pos (by omega), if_pos (by omega), hrd, if_neg (by omega), if_neg (by omega), if_pos (by omega), hw, if_pos (by omega), if_pos (by omega), hp, if_pos (by omega)]
  refine Ev.step (fun k => ?_) (key l.length 0 (by omega))
  simp only [privityref12_ValidCoalition.j0]
  rw [if_neg (by simp)]; rfl
theorem chk_gt {n : Int} : ∀ {l : List Int} {y : Int}, chk n (some y) l = true → ∀ x ∈ l, y < x
  | [], _, _, x, hx => by cases hx
  | a :: l, y, h, x, hx => by
    simp only [chk, Bool.and_eq_true, decide_eq_true_eq] at h
    rcases List.mem_cons.1 hx with rfl | hx
    · exact h.2.2.1
    · have := chk_gt h.2.2.2 x hx; omega
theorem chk_le {n : Int} : ∀ {l : List Int} {pv : Option Int}, chk n pv l = true → ∀ x ∈ l, 1 ≤ x ∧ x ≤ n
  | [], _, _, x, hx => by cases hx
  | a :: l, pv, h, x, hx => by
    simp only [chk, Bool.and_eq_true, decide_eq_true_eq] at h
    rcases List.mem_cons.1 hx with rfl | hx
    · exact ⟨h.1, h.2.1⟩
    · exact chk_le h.2.2.2 x hx
/-! ### the coalitions, one by one -/
def subs : Nat → Nat → List (List Int)
  | _, 0 => [[]]
  | a, d + 1 => subs (a + 1) d ++ (subs (a + 1) d).map (((a : Nat) : Int) :: ·)
theorem nil_subs : ∀ d a, [] ∈ subs a d
  | 0, _ => by simp [subs]
  | d + 1, a => by simp only [subs, List.mem_append]; exact .inl (nil_subs d (a + 1))
theorem chk_subs {n : Int} : ∀ d a (l : List Int) (pv : Option Int), chk n pv l = true → (∀ x ∈ l, ((a : Nat) : Int) ≤ x) → n < ((a + d : Nat) : Int) → l ∈ subs a d
  | d, a, [], _, _, _, _ => nil_subs d a
  | 0, a, x :: l, pv, h, hx, hn => by
    have h1 := (chk_le h x (List.mem_cons_self ..)).2
    have h2 := hx x (List.mem_cons_self ..)
    omega
  | d + 1, a, x :: l, pv, h, hx, hn => by
    have h2 := hx x (List.mem_cons_self ..)
    have h3 := h
    simp only [chk, Bool.and_eq_true, decide_eq_true_eq] at h3
    have hgt := chk_gt h3.2.2.2
    simp only [subs, List.mem_append, List.mem_map]
    by_cases hxa : x = (a : Int)
    · subst hxa
      exact .inr ⟨l, chk_subs d (a + 1) l _ h3.2.2.2 (fun y hy => by have := hgt y hy; omega) (by omega), rfl⟩
    · refine .inl (chk_subs d (a + 1) (x :: l) pv h (fun y hy => ?_) (by omega))
      rcases List.mem_cons.1 hy with rfl | hy
      · omega
      · have := hgt y hy; omega
def extOk (n t : Nat) (bad : List Int) : Bool := match extI n t bad with
  | some E => (E.length == t) && (E.all fun x => decide (1 ≤ x) && decide (x ≤ (n : Int))) && decide E.Nodup && bad.all (fun x => E.contains x)
  | none => false
set_option maxRecDepth 100000 in
theorem ext_small : ∀ n ∈ [4, 5, 6, 7], ∀ t ∈ [1, 2], ∀ bad ∈ subs 1 n, bad.length ≤ t → extOk n t bad = true := by decide +kernel
/-! ### the vanishing polynomial -/
def toS (pts : List (Fin (m + 1) × Fin (m + 1))) : List S87 := pts.map fun q => ⟨((q.1.val : Nat) : Int), ((q.2.val : Nat) : Int)⟩
theorem toS_len (pts : List (Fin (m + 1) × Fin (m + 1))) : (toS pts).length = pts.length := by simp [toS]
theorem toS_oP (pts : List (Fin (m + 1) × Fin (m + 1))) : ((toS pts).map fun s => (s.f0, s.f1)) = oP pts := by simp [toS, oP]
def zpts (E : List (Fin (m + 1))) : List (Fin (m + 1) × Fin (m + 1)) := (0, 1) :: E.map fun e => (e, 0)
structure Van (n t : Nat) (bad : List Int) (E Z : List (Fin (m + 1))) : Prop where
  ext : extI n t bad = some (oF E)
  len : E.length = t
  nodup : E.Nodup
  ne : ∀ e ∈ E, e ≠ 0
  mem : ∀ x ∈ bad, ∃ e ∈ E, x = ((e.val : Nat) : Int)
  zlen : Z.length = t + 1
  one : co Z 0 = 1
  zero : ∀ e ∈ E, ev Z e = 0
theorem ev_zero_co (f : List (Fin (m + 1))) : ev f 0 = co f 0 := by
  cases f with
  | nil => simp [ev_nil, co_nil]
  | cons a l => rw [ev_cons, co_cons_zero]; grind
theorem vanish_ev (hs : Sup (m + 1)) (n t : Nat) (bad : List Int) (hn : (n : Int) < ((m + 1 : Nat) : Int)) (ht : t ≤ 10) (ok : extOk n t bad = true) :
    ∃ E Z : List (Fin (m + 1)), Van n t bad E Z ∧ Ev (fun k => params_VanishingPolynomial.f k ((m + 1 : Nat) : Int) n t bad) (oF Z) := by
  unfold extOk at ok
  split at ok
  case h_2 => cases ok
  rename_i E0 hE0
  simp only [Bool.and_eq_true, beq_iff_eq, decide_eq_true_eq, List.all_eq_true] at ok
  obtain ⟨⟨⟨o1, o2⟩, o3⟩, o4⟩ := ok
  obtain ⟨E, rfl⟩ := all_oF (m := m) (l := E0) (by
    rw [List.all_eq_true]
    intro x hx
    have := o2 x hx
    simp only [inr, Bool.and_eq_true, decide_eq_true_eq]
    omega)
  rw [len_oF] at o1
  have hmem : ∀ e ∈ E, (((e.val : Nat) : Int)) ∈ oF E := fun e he => List.mem_map.2 ⟨e, he, rfl⟩
  have hne : ∀ e ∈ E, e ≠ 0 := fun e he h0 => by
    have := o2 _ (hmem e he)
    rw [h0, zero_val] at this
    omega
  have hnd : E.Nodup := by
    have h1 : (oF E).Nodup := o3
    unfold oF List.Nodup at h1
    rw [List.pairwise_map] at h1
    exact h1.imp fun h e => h (by rw [e])
  have hnp : ((zpts E).map (·.1)).Nodup := by
    have e : (zpts E).map (·.1) = 0 :: E := by simp [zpts, Function.comp_def]
    rw [e, List.nodup_cons]
    exact ⟨fun h0 => hne 0 h0 rfl, hnd⟩
  have hI := lagP_interp hs (zpts E) hnp
  have hz1 : ev (lagP (zpts E)) 0 = 1 := hI.val (0, 1) (by simp [zpts])
  have hz0 : ∀ e ∈ E, ev (lagP (zpts E)) e = 0 := fun e he => hI.val (e, 0) (by simp [zpts, he])
  have hlen : (lagP (zpts E)).length = t + 1 := by
    have h1 := hI.len
    have h2 : (zpts E).length = t + 1 := by simp [zpts, o1]
    by_cases h3 : (lagP (zpts E)).length ≤ E.length
    · exfalso
      have h4 := roots hs.dom E _ hnd h3 hz0
      have h5 : ev (lagP (zpts E)) 0 = 0 := by
        rw [ev_zero_co]
        unfold co
        rw [List.getD_eq_getElem?_getD]
        cases hq : (lagP (zpts E))[0]? with
        | none => rfl
        | some c => exact h4 c (List.mem_of_getElem? hq)
      rw [h5] at hz1
      exact hs.one_ne hz1.symm
    · omega
  refine ⟨E, lagP (zpts E), ⟨hE0, o1, hnd, hne, fun x hx => ?_, hlen, by rw [← ev_zero_co]; exact hz1, hz0⟩, ?_⟩
  · have h1 := o4 x hx
    have h2 : x ∈ oF E := by simpa using h1
    obtain ⟨e, he, h3⟩ := List.mem_map.1 h2
    exact ⟨e, he, h3.symm⟩
  unfold params_VanishingPolynomial.f params_ExtendCoalition.f
  rw [hE0]
  simp only [Option.bind_some]
  have key : ∀ d i, i + d = E.length → Ev (fun k => params_VanishingPolynomial.l0 k (toS (zpts (E.take i))) (oF E) ((oF E).length : Int) (i : Int) ((m + 1 : Nat) : Int) n t) (oF (lagP (zpts E))) := by
    intro d
    induction d with
    | zero =>
      intro i hi
      refine Ev.step (f := fun _ => some (oF (lagP (zpts E)))) (fun k => ?_) (Ev.now _)
      simp only [params_VanishingPolynomial.l0]
      rw [if_neg (by rw [len_oF]; omega), List.take_of_length_le (by omega)]
      unfold interpolate_Polynomial.f
      rw [toS_oP, polyI_eq hs _ (by simp [zpts]; omega), if_pos hnp]; rfl
    | succ d ih =>
      intro i hi
      have hlt : i < E.length := by omega
      refine Ev.step (fun k => ?_) (ih (i + 1) (by omega))
      simp only [params_VanishingPolynomial.l0]
      have hnew : toS (zpts (E.take (i + 1))) = toS (zpts (E.take i)) ++ [⟨((E[i].val : Nat) : Int), 0⟩] := by
        rw [List.take_succ_eq_append_getElem hlt]
        simp only [toS, zpts, List.map_cons, List.map_append, List.map_nil, List.cons_append]
        rfl
      rw [if_pos (by rw [len_oF]; omega), if_pos (by omega), if_pos (by rw [len_oF]; omega), if_pos (by rw [toS_len]; simp [zpts]; omega), rd_oF hlt, wrap_small _ (by omega) (by have := hs.lt; have := E[i].isLt; omega), wrapS i (by omega), hnew]
  have h0 := key E.length 0 (by omega)
  have e0 : toS (zpts (E.take 0)) = [⟨0, 1⟩] := by simp [toS, zpts, hs.one_val]
  rw [e0] at h0
  exact h0
end Go.Proofs.Ytfddoegcbpinkaa.Pure
