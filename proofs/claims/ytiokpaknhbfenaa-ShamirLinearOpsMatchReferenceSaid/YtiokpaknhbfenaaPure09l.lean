/-
A part of this claim's proof (Pure09l): lemmas that the text of the law stands on.
-/
import Derived.Test.YtiokpaknhbfenaaPureC
import Derived.Test.YtiokpaknhbfenaaPairs
import Derived.Test.YtiokpaknhbfenaaG2
import Derived.Test.YtiokpaknhbfenaaG1
import Derived.Test.YtiokpaknhbfenaaF7
set_option linter.unusedVariables false
set_option linter.unusedSimpArgs false
namespace Go.Proofs.Ytiokpaknhbfenaa.Pure
open Go.RowKit Go.Proofs.Ytiokpaknhbfenaa Go.Proofs.Ytiokpaknhbfenaa.F Go.Proofs.YtiokpaknhbfenaaW.PrintWords Go.Proofs.YtiokpaknhbfenaaW.PrintLast
theorem rdL_some {M : List (List Int)} {i : Nat} {x : List Int} (h : M[i]? = some x) : rd_L2 M (i : Int) = x := by simp [rd_L2, h]
theorem rdLL_some {M : List (List (List Int))} {i : Nat} {x : List (List Int)} (h : M[i]? = some x) : rd_L4 M (i : Int) = x := by simp [rd_L4, h]
theorem rd_some {M : List Int} {i : Nat} {x : Int} (h : M[i]? = some x) : rd M (i : Int) = x := by simp [rd, h]
theorem lt_of_some {α : Type} {M : List α} {i : Nat} {x : α} (h : M[i]? = some x) : i < M.length := (List.getElem?_eq_some_iff.1 h).1
theorem take_some {α : Type} {M : List α} {i : Nat} {x : α} (h : M[i]? = some x) : M.take i ++ [x] = M.take (i + 1) := by
  obtain ⟨hl, rfl⟩ := List.getElem?_eq_some_iff.1 h
  rw [List.take_succ_eq_append_getElem hl]
theorem zipG_of {α β : Type} {f : α → α → Option β} : ∀ {a b : List α}, a.length ≤ b.length → (∀ (i : Nat) x y, a[i]? = some x → b[i]? = some y → ∃ z, f x y = some z) → ∃ r, zipG f a b = some r
  | [], b, _, _ => ⟨[], rfl⟩
  | x :: a, [], h, _ => by simp at h
  | x :: a, y :: b, h, hf => by
    obtain ⟨z, hz⟩ := hf 0 x y rfl rfl
    obtain ⟨r, hr⟩ := zipG_of (a := a) (b := b) (by simpa using h) (fun i x y h1 h2 => hf (i + 1) x y (by simpa using h1) (by simpa using h2))
    exact ⟨z :: r, by simp [zipG, hz, hr]⟩
theorem zipG_eq {α β : Type} {f : α → α → Option β} {a b : List α} {r : List β} (hl : r.length = a.length) (hb : a.length ≤ b.length) (h : ∀ (i : Nat) x y z, a[i]? = some x → b[i]? = some y → r[i]? = some z → f x y = some z) : zipG f a b = some r := by
  obtain ⟨q, hq⟩ := zipG_of hb (f := f) (fun i x y h1 h2 => by
    have : i < r.length := by rw [hl]; exact lt_of_some h1
    exact ⟨r[i], h i x y _ h1 h2 (by simp [this])⟩)
  obtain ⟨q1, q2, q3⟩ := zipG_spec hq
  rw [hq]
  congr 1
  refine List.ext_getElem (by omega) fun i h1 h2 => ?_
  have h3 : i < a.length := by omega
  obtain ⟨y, z, e1, e2, e3⟩ := q3 i a[i] (by simp [h3])
  have h4 := h i a[i] y r[i] (by simp [h3]) e1 (by simp [h2])
  rw [e3] at h4
  rw [List.getElem?_eq_getElem h1] at e2
  rw [Option.some.inj e2]; exact Option.some.inj h4
theorem radd_ev {p : Int} {a b r : List (List Int)} (h : matZ (fAdd p) a b = some r) : Ev (fun k => privityref09_Add.f k p a b) r := by
  unfold matZ at h
  split at h
  case isFalse => cases h
  rename_i hl
  obtain ⟨z1, z2, z3⟩ := zipG_spec h
  have inner : ∀ (i : Nat) (x y z : List Int), a[i]? = some x → b[i]? = some y → rowZ (fAdd p) x y = some z → ∀ (X : List (List Int)) res, X.length ≤ 1000000 → Ev (fun k => privityref09_Add.l0 k p a b (X ++ [z]) ((i + 1 : Nat) : Int)) res →
      ∀ d j, j + d = x.length → Ev (fun k => privityref09_Add.l1 k p a b X (i : Int) (z.take j) (j : Int)) res := by
    intro i x y z hx hy hz X res hX hres
    unfold rowZ at hz
    split at hz
    case isFalse => cases hz
    rename_i hxl
    obtain ⟨y1, y2, y3⟩ := zipG_spec hz
    have hia := lt_of_some hx
    have hib := lt_of_some hy
    intro d
    induction d with
    | zero =>
      intro j hj
      refine Ev.step (fun k => ?_) hres
      simp only [privityref09_Add.l1]
      rw [rdL_some hx, if_pos (by omega), if_pos (by omega), if_neg (by omega), List.take_of_length_le (by omega), if_pos (by omega), wrapS i (by omega)]
    | succ d ih =>
      intro j hj
      obtain ⟨v, u, e1, e2, e3⟩ := y3 j x[j] (by simp)
      have hjy := lt_of_some e1
      refine Ev.step (fun k => ?_) (ih (j + 1) (by omega))
      simp only [privityref09_Add.l1]
      rw [rdL_some hx, rdL_some hy, rd_some (x := x[j]) (by simp), rd_some e1, if_pos (by omega), if_pos (by omega), if_pos (by omega), if_pos (by omega), if_pos (by omega), if_pos (by omega)]
      unfold privityref01_Add.f
      rw [e3]; simp only [Option.bind_some]
      rw [if_pos (by rw [List.length_take]; omega), wrapS j (by omega), take_some e2]
  have outer : ∀ d i, i + d = a.length → Ev (fun k => privityref09_Add.l0 k p a b (r.take i) (i : Int)) r := by
    intro d
    induction d with
    | zero =>
      intro i hi
      refine Ev.step (f := fun _ => some r) (fun k => ?_) (Ev.now _)
      simp only [privityref09_Add.l0]
      rw [if_neg (by omega), List.take_of_length_le (by omega)]
    | succ d ih =>
      intro i hi
      have hlt : i < a.length := by omega
      obtain ⟨y, z, e1, e2, e3⟩ := z3 i a[i] (by simp)
      have h0 := ih (i + 1) (by omega)
      rw [← take_some e2] at h0
      have h1 := inner i a[i] y z (by simp) e1 e3 (r.take i) r (by rw [List.length_take]; omega) h0 a[i].length 0 (by omega)
      refine Ev.step (fun k => ?_) h1
      simp only [privityref09_Add.l0]
      rw [if_pos (by omega)]; rfl
  exact outer a.length 0 (by omega)
theorem rscale_ev {p K : Int} {a r : List (List Int)} (h : matZ (fun x _ => fMul p K x) a a = some r) : Ev (fun k => privityref09_Scale.f k p K a) r := by
  unfold matZ at h
  split at h
  case isFalse => cases h
  rename_i hl
  obtain ⟨z1, z2, z3⟩ := zipG_spec h
  have inner : ∀ (i : Nat) (x z : List Int), a[i]? = some x → rowZ (fun x _ => fMul p K x) x x = some z → ∀ (X : List (List Int)) res, X.length ≤ 1000000 → Ev (fun k => privityref09_Scale.l0 k p K a (X ++ [z]) ((i + 1 : Nat) : Int)) res →
      ∀ d j, j + d = x.length → Ev (fun k => privityref09_Scale.l1 k p K a X (i : Int) (z.take j) (j : Int)) res := by
    intro i x z hx hz X res hX hres
    unfold rowZ at hz
    split at hz
    case isFalse => cases hz
    rename_i hxl
    obtain ⟨y1, y2, y3⟩ := zipG_spec hz
    have hia := lt_of_some hx
    intro d
    induction d with
    | zero =>
      intro j hj
      refine Ev.step (fun k => ?_) hres
      simp only [privityref09_Scale.l1]
      rw [rdL_some hx, if_pos (by omega), if_pos (by omega), if_neg (by omega), List.take_of_length_le (by omega), if_pos (by omega), wrapS i (by omega)]
    | succ d ih =>
      intro j hj
      obtain ⟨v, u, e1, e2, e3⟩ := y3 j x[j] (by simp)
      refine Ev.step (fun k => ?_) (ih (j + 1) (by omega))
      simp only [privityref09_Scale.l1]
      rw [rdL_some hx, rd_some (x := x[j]) (by simp), if_pos (by omega), if_pos (by omega), if_pos (by omega), if_pos (by omega)]
      unfold privityref01_Mul.f
      rw [e3]; simp only [Option.bind_some]
      rw [if_pos (by rw [List.length_take]; omega), wrapS j (by omega), take_some e2]
  have outer : ∀ d i, i + d = a.length → Ev (fun k => privityref09_Scale.l0 k p K a (r.take i) (i : Int)) r := by
    intro d
    induction d with
    | zero =>
      intro i hi
      refine Ev.step (f := fun _ => some r) (fun k => ?_) (Ev.now _)
      simp only [privityref09_Scale.l0]
      rw [if_neg (by omega), List.take_of_length_le (by omega)]
    | succ d ih =>
      intro i hi
      have hlt : i < a.length := by omega
      obtain ⟨y, z, e1, e2, e3⟩ := z3 i a[i] (by simp)
      have h0 := ih (i + 1) (by omega)
      rw [← take_some e2] at h0
      have hy : y = a[i] := by
        rw [List.getElem?_eq_getElem hlt] at e1
        exact (Option.some.inj e1).symm
      rw [hy] at e3
      have h1 := inner i a[i] z (by simp) e3 (r.take i) r (by rw [List.length_take]; omega) h0 a[i].length 0 (by omega)
      refine Ev.step (fun k => ?_) h1
      simp only [privityref09_Scale.l0]
      rw [if_pos (by omega)]; rfl
  exact outer a.length 0 (by omega)
/-! ### the subtraction -/
theorem sub_by (p a b : Int) (hp : okp p = true) (hb : inr p b = true) : ∃ c, fMul p (p - 1) b = some c ∧ ∀ d, fSub p a b = some d → fAdd p a c = some d := by
  have h0 : 31 ≤ p := by
    obtain ⟨m, rfl, hs⟩ := okp_sup hp
    have := hs.two_lt
    omega
  have h1 : inr p (p - 1) = true := by simp [inr]; omega
  refine ⟨((p - 1) * b) % p, by simp [fMul, hp, h1, hb], fun d hd => ?_⟩
  unfold fSub at hd
  split at hd
  case isFalse => cases hd
  rename_i hg
  injection hd with hd
  subst hd
  have ha : inr p a = true := by simp only [Bool.and_eq_true] at hg; exact hg.1.2
  have h2 : inr p ((p - 1) * b % p) = true := by
    simp only [inr, Bool.and_eq_true, decide_eq_true_eq]
    exact ⟨Int.emod_nonneg _ (by omega), Int.emod_lt_of_pos _ (by omega)⟩
  simp only [fAdd, hp, ha, h2, Bool.and_true, if_true]
  congr 1
  rw [Int.add_emod_emod, show a + (p - 1) * b = (a - b) + p * b by grind, Int.add_mul_emod_self_left]
theorem rsub_ev {p : Int} {a b r : List (List Int)} (hp : okp p = true) (hlb : b.length = a.length) (hbb : ∀ x ∈ b, x.length ≤ 1000000 ∧ ∀ y ∈ x, inr p y = true) (h : matZ (fSub p) a b = some r) : Ev (fun k => privityref09_Sub.f k p a b) r := by
  have h' := h
  unfold matZ at h
  split at h
  case isFalse => cases h
  rename_i hl
  obtain ⟨z1, z2, z3⟩ := zipG_spec h
  have h1 : IntKind.u64.wrap (p - 1) = p - 1 := by
    obtain ⟨m, rfl, hs⟩ := okp_sup hp
    have := hs.lt
    exact wrap_small _ (by omega) (by omega)
  obtain ⟨s, hs⟩ : ∃ s, matZ (fun x _ => fMul p (p - 1) x) b b = some s := by
    unfold matZ
    rw [if_pos (by omega)]
    refine zipG_of (Nat.le_refl _) fun i x y hx hy => ?_
    obtain rfl : x = y := by rw [hx] at hy; exact Option.some.inj hy
    have hm : x ∈ b := List.mem_of_getElem? hx
    unfold rowZ
    rw [if_pos (hbb x hm).1]
    refine zipG_of (Nat.le_refl _) fun j u v hu hv => ?_
    obtain ⟨c, hc, _⟩ := sub_by p 0 u hp ((hbb x hm).2 u (List.mem_of_getElem? hu))
    exact ⟨c, hc⟩
  have hs' := hs
  unfold matZ at hs
  rw [if_pos (by omega)] at hs
  obtain ⟨s1, s2, s3⟩ := zipG_spec hs
  have hadd : matZ (fAdd p) a s = some r := by
    unfold matZ
    rw [if_pos hl]
    refine zipG_eq z1 (by omega) fun i x y z hx hy hz => ?_
    obtain ⟨y', z', e1, e2, e3⟩ := z3 i x hx
    obtain rfl : z = z' := by rw [hz] at e2; exact Option.some.inj e2
    obtain ⟨y'', w, f1, f2, f3⟩ := s3 i y' e1
    obtain rfl : y' = y'' := by rw [e1] at f1; exact Option.some.inj f1
    obtain rfl : y = w := by rw [hy] at f2; exact Option.some.inj f2
    have hm := hbb y' (List.mem_of_getElem? e1)
    unfold rowZ at e3 f3 ⊢
    split at e3
    case isFalse => cases e3
    rename_i hxl
    rw [if_pos hm.1] at f3
    rw [if_pos hxl]
    obtain ⟨a1, a2, a3⟩ := zipG_spec e3
    obtain ⟨b1, b2, b3⟩ := zipG_spec f3
    refine zipG_eq a1 (by omega) fun j u v q hu hv hq => ?_
    obtain ⟨v', q', c1, c2, c3⟩ := a3 j u hu
    obtain rfl : q = q' := by rw [hq] at c2; exact Option.some.inj c2
    obtain ⟨v'', t, d1, d2, d3⟩ := b3 j v' c1
    obtain rfl : v = t := by rw [hv] at d2; exact Option.some.inj d2
    obtain ⟨c, g1, g2⟩ := sub_by p u v' hp (hm.2 v' (List.mem_of_getElem? c1))
    rw [g1] at d3
    obtain rfl := Option.some.inj d3
    exact g2 q c3
  unfold privityref09_Sub.f
  rw [h1]
  exact Ev.bind (rscale_ev hs') (Ev.bind (radd_ev hadd) (Ev.now _))
/-! ### constants -/
theorem const_ev (P N T K : Int) (hN : N ≤ 1000) (hT0 : 0 ≤ T) (hT : T ≤ 1000) : Ev (fun k => shamir_Constant.f k P N T K) (List.replicate N.toNat (K :: List.replicate T.toNat 0)) := by
  have e : wrap64 (T + 1) = T + 1 := by unfold wrap64; omega
  have key : ∀ d i, i + d = N.toNat → Ev (fun k => shamir_Constant.l0 k K (List.replicate i (K :: List.replicate T.toNat 0)) N (i : Int) P N T) (List.replicate N.toNat (K :: List.replicate T.toNat 0)) := by
    intro d
    induction d with
    | zero =>
      intro i hi
      refine Ev.step (f := fun _ => some (List.replicate i (K :: List.replicate T.toNat 0))) (fun k => ?_) ?_
      · simp only [shamir_Constant.l0]; rw [if_neg (by omega)]
      · rw [show i = N.toNat by omega]; exact Ev.now _
    | succ d ih =>
      intro i hi
      refine Ev.step (fun k => ?_) (ih (i + 1) (by omega))
      simp only [shamir_Constant.l0]
      rw [if_pos (by omega), e, if_pos (by omega), if_pos (by omega)]
      simp only [Option.bind_some]
      rw [if_pos (by simp; omega), if_pos (by simp; omega), wrapS i (by omega), show (T + 1).toNat = T.toNat + 1 by omega, List.replicate_succ, List.replicate_succ' (n := i)]
      rfl
  exact key N.toNat 0 (by omega)
theorem rconst_ev (P N T K : Int) (hN : N ≤ 1000) (hT0 : 0 ≤ T) (hT : T ≤ 1000) : Ev (fun k => privityref09_Constant.f k P N T K) (List.replicate N.toNat (K :: List.replicate T.toNat 0)) := by
  have e : wrap64 (T + 1) = T + 1 := by unfold wrap64; omega
  have key : ∀ d i, i + d = N.toNat → Ev (fun k => privityref09_Constant.l0 k K (List.replicate i (K :: List.replicate T.toNat 0)) (i : Int) P N T) (List.replicate N.toNat (K :: List.replicate T.toNat 0)) := by
    intro d
    induction d with
    | zero =>
      intro i hi
      refine Ev.step (f := fun _ => some (List.replicate i (K :: List.replicate T.toNat 0))) (fun k => ?_) ?_
      · simp only [privityref09_Constant.l0]; rw [if_neg (by omega)]
      · rw [show i = N.toNat by omega]; exact Ev.now _
    | succ d ih =>
      intro i hi
      refine Ev.step (fun k => ?_) (ih (i + 1) (by omega))
      simp only [privityref09_Constant.l0]
      rw [if_pos (by omega), e, if_pos (by omega), if_pos (by omega)]
      simp only [Option.bind_some]
      rw [if_pos (by simp; omega), if_pos (by simp; omega), wrapS i (by omega), show (T + 1).toNat = T.toNat + 1 by omega, List.replicate_succ, List.replicate_succ' (n := i)]
      rfl
  exact key N.toNat 0 (by omega)
/-! ### local shares -/
def hd (M : List (List Int)) (j : Nat) : Int := (M.getD j []).getD 0 0
def colsOf (P : List (List (List Int))) (n : Nat) : List (List Int) := (List.range n).map fun j => P.map fun M => hd M j
def colsSt (P : List (List (List Int))) (M : List (List Int)) (n i : Nat) : List (List Int) := (List.range n).map fun j => (P.map fun M => hd M j) ++ (if j < i then [hd M j] else [])
theorem colsSt_zero (P : List (List (List Int))) (M : List (List Int)) (n : Nat) : colsSt P M n 0 = colsOf P n := by simp [colsSt, colsOf]
theorem colsSt_all (P : List (List (List Int))) (M : List (List Int)) (n : Nat) : colsSt P M n n = colsOf (P ++ [M]) n := by
  unfold colsSt colsOf
  refine List.map_congr_left fun j hj => ?_
  rw [if_pos (List.mem_range.1 hj)]; simp
theorem colsSt_get (P : List (List (List Int))) (M : List (List Int)) (n i : Nat) (hi : i < n) : (colsSt P M n i)[i]? = some (P.map fun M => hd M i) := by simp [colsSt, hi]
theorem colsSt_set (P : List (List (List Int))) (M : List (List Int)) (n i : Nat) (hi : i < n) : (colsSt P M n i).set i ((P.map fun M => hd M i) ++ [hd M i]) = colsSt P M n (i + 1) := by
  unfold colsSt
  refine List.ext_getElem (by simp) fun j h1 h2 => ?_
  simp only [List.getElem_set, List.getElem_map, List.getElem_range]
  by_cases hji : i = j
  · subst hji; rw [if_pos rfl, if_pos (by omega)]
  · rw [if_neg hji]
    by_cases hlt : j < i
    · rw [if_pos hlt, if_pos (by omega)]
    · rw [if_neg hlt, if_neg (by omega)]
theorem hd_row {M : List (List Int)} {j : Nat} {x : List Int} (h : M[j]? = some x) : rd x 0 = hd M j := by simp [hd, rd, h]
theorem colsOf_len (P : List (List (List Int))) (n : Nat) : (colsOf P n).length = n := by simp [colsOf]
theorem local_ev (l : List (List (List Int))) (n : Nat) (h0 : 0 < l.length) (hl : l.length ≤ 1000) (hn : n ≤ 1000) (hM : ∀ M ∈ l, M.length = n ∧ ∀ r ∈ M, 0 < r.length) : Ev (fun k => shamir_LocalShares.f k l) (colsOf l n) := by
  have inner : ∀ i (hi : i < l.length) res, Ev (fun k => shamir_LocalShares.l0 k (colsOf (l.take (i + 1)) n) l (l.length : Int) ((i + 1 : Nat) : Int)) res →
      ∀ d j, j + d = n → Ev (fun k => shamir_LocalShares.l1 k (colsSt (l.take i) l[i] n j) l (l.length : Int) (i : Int) l[i] (l[i].length : Int) (j : Int)) res := by
    intro i hi res hres d
    have hm := hM l[i] (List.getElem_mem hi)
    induction d with
    | zero =>
      intro j hj
      refine Ev.step (fun k => ?_) hres
      simp only [shamir_LocalShares.l1]
      rw [if_neg (by omega), wrapS i (by omega), show j = n by omega, colsSt_all, List.take_succ_eq_append_getElem hi]
    | succ d ih =>
      intro j hj
      have hj2 : j < l[i].length := by omega
      have hr : l[i][j]? = some l[i][j] := by simp [hj2]
      have hp := hm.2 l[i][j] (List.getElem_mem hj2)
      have hs := colsSt_get (l.take i) l[i] n j (by omega)
      refine Ev.step (fun k => ?_) (ih (j + 1) (by omega))
      simp only [shamir_LocalShares.l1]
      rw [rdL_some hr, rdL_some hs, hd_row hr, if_pos (by omega), if_pos (by omega), if_pos (by omega), if_pos (by have := lt_of_some hs; omega), if_pos (by omega), if_pos (by rw [List.length_map, List.length_take]; omega), wrapS j (by omega), Int.toNat_natCast, colsSt_set _ _ _ _ (by omega)]
  have outer : ∀ d i, i + d = l.length → Ev (fun k => shamir_LocalShares.l0 k (colsOf (l.take i) n) l (l.length : Int) (i : Int)) (colsOf l n) := by
    intro d
    induction d with
    | zero =>
      intro i hi
      refine Ev.step (f := fun _ => some (colsOf l n)) (fun k => ?_) (Ev.now _)
      simp only [shamir_LocalShares.l0]
      rw [if_neg (by omega), List.take_of_length_le (by omega)]
    | succ d ih =>
      intro i hi
      have hlt : i < l.length := by omega
      have h1 := inner i hlt _ (ih (i + 1) (by omega)) n 0 (by omega)
      rw [colsSt_zero] at h1
      refine Ev.step (fun k => ?_) h1
      simp only [shamir_LocalShares.l0]
      rw [if_pos (by omega), if_pos (by omega), if_pos (by omega), rdLL_some (x := l[i]) (by simp)]; rfl
  have h := outer l.length 0 (by omega)
  have hf : rd_L4 l 0 = l[0] := rdLL_some (i := 0) (x := l[0]) (by simp)
  have hz : colsOf [] n = List.replicate n [] := by simp only [colsOf, List.map_nil]; rw [List.map_const', List.length_range]
  have hlen := (hM l[0] (List.getElem_mem h0)).1
  refine Ev.congr (fun k => ?_) h
  unfold shamir_LocalShares.f
  rw [if_neg (by omega), if_pos (by omega), hf, hlen, if_pos (by omega), if_pos (by omega), Int.toNat_natCast, List.take_zero, hz]; rfl
theorem rlocal_ev (l : List (List (List Int))) (n : Nat) (h0 : 0 < l.length) (hl : l.length ≤ 1000) (hn : n ≤ 1000) (hM : ∀ M ∈ l, M.length = n ∧ ∀ r ∈ M, 0 < r.length) : Ev (fun k => privityref09_LocalShares.f k l) (colsOf l n) := by
  have hf : rd_L4 l 0 = l[0] := rdLL_some (i := 0) (x := l[0]) (by simp)
  have hlen := (hM l[0] (List.getElem_mem h0)).1
  have inner : ∀ j (hj : j < n) (X : List (List Int)) res, X.length ≤ 1000000 → Ev (fun k => privityref09_LocalShares.l0 k l (X ++ [l.map fun M => hd M j]) ((j + 1 : Nat) : Int)) res →
      ∀ d i, i + d = l.length → Ev (fun k => privityref09_LocalShares.l1 k l X (j : Int) ((l.take i).map fun M => hd M j) (i : Int)) res := by
    intro j hj X res hX hres d
    induction d with
    | zero =>
      intro i hi
      refine Ev.step (fun k => ?_) hres
      simp only [privityref09_LocalShares.l1]
      rw [if_neg (by omega), if_pos (by omega), wrapS j (by omega), List.take_of_length_le (by omega)]
    | succ d ih =>
      intro i hi
      have hi2 : i < l.length := by omega
      have hm := hM l[i] (List.getElem_mem hi2)
      have hj2 : j < l[i].length := by omega
      have hr : l[i][j]? = some l[i][j] := by simp [hj2]
      have hp := hm.2 l[i][j] (List.getElem_mem hj2)
      refine Ev.step (fun k => ?_) (ih (i + 1) (by omega))
      simp only [privityref09_LocalShares.l1]
      rw [rdLL_some (x := l[i]) (by simp), rdL_some hr, hd_row hr, if_pos (by omega), if_pos (by omega), if_pos (by omega), if_pos (by omega), if_pos (by omega), if_pos (by rw [List.length_map, List.length_take]; omega), wrapS i (by omega), List.take_succ_eq_append_getElem hi2, List.map_append]; rfl
  have outer : ∀ d j, j + d = n → Ev (fun k => privityref09_LocalShares.l0 k l ((List.range j).map fun j => l.map fun M => hd M j) (j : Int)) (colsOf l n) := by
    intro d
    induction d with
    | zero =>
      intro j hj
      refine Ev.step (f := fun _ => some (colsOf l n)) (fun k => ?_) (Ev.now _)
      simp only [privityref09_LocalShares.l0]
      rw [if_pos (by omega), hf, if_neg (by omega), show j = n by omega]; rfl
    | succ d ih =>
      intro j hj
      have h := ih (j + 1) (by omega)
      rw [List.range_succ, List.map_append] at h
      have h1 := inner j (by omega) _ _ (by simp; omega) h l.length 0 (by omega)
      refine Ev.step (fun k => ?_) h1
      simp only [privityref09_LocalShares.l0]
      rw [if_pos (by omega), hf, if_pos (by omega)]; rfl
  have h := outer n 0 (by omega)
  refine Ev.congr (fun k => ?_) h
  unfold privityref09_LocalShares.f
  rw [if_neg (by omega)]; rfl
/-! ### comparisons, and the guards -/
theorem samerows_ev (a : List (List Int)) (hl : a.length ≤ 1000000) (hr : ∀ r ∈ a, r.length ≤ 1000000) : Ev (fun k => privityref05_SameRows.f k a a) true := by
  have key : ∀ d i, i + d = a.length → Ev (fun k => privityref05_SameRows.l0 k a a (i : Int)) true := by
    intro d
    induction d with
    | zero =>
      intro i hi
      refine Ev.step (f := fun _ => some true) (fun k => ?_) (Ev.now _)
      simp only [privityref05_SameRows.l0]
      rw [if_neg (by omega)]
    | succ d ih =>
      intro i hi
      have hlt : i < a.length := by omega
      have hs := same_ev a[i] (by have := hr a[i] (List.getElem_mem hlt); omega)
      refine Ev.step (f := fun k => (privityref05_Same.f k a[i] a[i]).bind fun t => if t = true then privityref05_SameRows.l0 k a a ((i + 1 : Nat) : Int) else some false) (fun k => ?_) (Ev.bind hs ?_)
      · simp only [privityref05_SameRows.l0]
        rw [if_pos (by omega), if_pos (by omega), if_pos (by omega), rdL_some (x := a[i]) (by simp), wrapS i (by omega)]
      · simp only [if_true]; exact ih (i + 1) (by omega)
  refine Ev.congr (fun k => ?_) (key a.length 0 (by omega))
  unfold privityref05_SameRows.f
  rw [if_pos rfl]; rfl
theorem rsame_ev (a : List (List Int)) (hl : a.length ≤ 1000000) (hr : ∀ r ∈ a, r.length ≤ 1000000) : Ev (fun k => privityref09_Same.f k a a) true := by
  unfold privityref09_Same.f
  exact Ev.bind (samerows_ev a hl hr) (Ev.now _)
theorem rows_ev (p : Int) (A : List (List Int)) (N L : Int) (hN : N ≤ 1000) (hL : L ≤ 1000) : ∃ b, Ev (fun k => privityref09_Rows.f k p A N L) b ∧ (b = true → (A.length : Int) = N ∧ ∀ r ∈ A, (r.length : Int) = L ∧ ∀ x ∈ r, x < p) := by
  by_cases hA : (A.length : Int) = N
  case neg => exact ⟨false, Ev.congr (fun k => by unfold privityref09_Rows.f; rw [if_neg hA]) (Ev.now false), fun h => by cases h⟩
  have key : ∀ d i, i + d = A.length → ∃ b, Ev (fun k => privityref09_Rows.l0 k p A N L (i : Int)) b ∧ (b = true → ∀ r ∈ A.drop i, (r.length : Int) = L ∧ ∀ x ∈ r, x < p) := by
    intro d
    induction d with
    | zero =>
      intro i hi
      refine ⟨true, Ev.step (f := fun _ => some true) (fun k => ?_) (Ev.now _), fun _ r hr => ?_⟩
      · simp only [privityref09_Rows.l0]; rw [if_neg (by omega)]
      · rw [List.drop_of_length_le (by omega)] at hr; cases hr
    | succ d ih =>
      intro i hi
      have hlt : i < A.length := by omega
      obtain ⟨b, h1, h2⟩ := ih (i + 1) (by omega)
      by_cases hl : (A[i].length : Int) = L
      · have hb := below_ev p A[i] (by omega)
        cases hc : A[i].all fun x => decide (x < p) with
        | false =>
          rw [hc] at hb
          refine ⟨false, Ev.step (f := fun k => (privityref05_Below.f k p A[i]).bind fun t => if t = true then privityref09_Rows.l0 k p A N L ((i + 1 : Nat) : Int) else some false) (fun k => ?_) (Ev.bind hb (Ev.now _)), fun h => by cases h⟩
          simp only [privityref09_Rows.l0]
          rw [rdL_some (x := A[i]) (by simp), if_pos (by omega), if_pos (by omega), if_pos (by omega), if_pos hl, wrapS i (by omega)]
        | true =>
          rw [hc] at hb
          refine ⟨b, Ev.step (f := fun k => (privityref05_Below.f k p A[i]).bind fun t => if t = true then privityref09_Rows.l0 k p A N L ((i + 1 : Nat) : Int) else some false) (fun k => ?_) (Ev.bind hb (by simp only [if_true]; exact h1)), fun h r hr => ?_⟩
          · simp only [privityref09_Rows.l0]
            rw [rdL_some (x := A[i]) (by simp), if_pos (by omega), if_pos (by omega), if_pos (by omega), if_pos hl, wrapS i (by omega)]
          · rw [List.drop_eq_getElem_cons hlt] at hr
            rcases List.mem_cons.1 hr with rfl | hr
            · refine ⟨hl, fun x hx => ?_⟩
              have := List.all_eq_true.1 hc x hx
              simpa using this
            · exact h2 h r hr
      · refine ⟨false, Ev.step (f := fun _ => some false) (fun k => ?_) (Ev.now _), fun h => by cases h⟩
        simp only [privityref09_Rows.l0]
        rw [rdL_some (x := A[i]) (by simp), if_pos (by omega), if_pos (by omega), if_pos (by omega), if_neg hl]
  obtain ⟨b, h1, h2⟩ := key A.length 0 (by omega)
  refine ⟨b, Ev.congr (fun k => ?_) h1, fun h => ⟨hA, fun r hr => h2 h r (by simpa using hr)⟩⟩
  unfold privityref09_Rows.f
  rw [if_pos hA]; rfl
theorem setups_some (P N T : Int) : ∃ b, privitylaw09_setups.f P N T = some b := by
  unfold privitylaw09_setups.f
  repeat (first | exact ⟨_, rfl⟩ | split)
set_option maxRecDepth 10000 in
theorem awake09l_ev : Ev (fun k => privitylaw09_awake.f k) true := Ev.of (fun k => privitylaw09_awake.mono k) (k := 60) (by decide +kernel)
structure Shape (p : Int) (A : List (List Int)) (n L : Nat) : Prop where
  len : A.length = n
  row : ∀ r ∈ A, r.length = L
  inr : ∀ r ∈ A, ∀ x ∈ r, inr p x = true
theorem matZ_ex {p : Int} {A B : List (List Int)} {n L : Nat} {f : Int → Int → Option Int} (hf : ∀ x y, inr p x = true → inr p y = true → ∃ z, f x y = some z) (hA : Shape p A n L) (hB : Shape p B n L) (hn : n ≤ 1000) (hL : L ≤ 1000) :
    ∃ r, matZ f A B = some r ∧ r.length = n ∧ ∀ q ∈ r, q.length = L := by
  obtain ⟨r, hr⟩ : ∃ r, matZ f A B = some r := by
    unfold matZ
    rw [if_pos (by rw [hA.len]; omega)]
    refine zipG_of (by rw [hA.len, hB.len]; exact Nat.le_refl _) fun i x y hx hy => ?_
    have mx := List.mem_of_getElem? hx
    have my := List.mem_of_getElem? hy
    unfold rowZ
    rw [if_pos (by rw [hA.row x mx]; omega)]
    refine zipG_of (by rw [hA.row x mx, hB.row y my]; exact Nat.le_refl _) fun j u v hu hv => ?_
    exact hf u v (hA.inr x mx u (List.mem_of_getElem? hu)) (hB.inr y my v (List.mem_of_getElem? hv))
  refine ⟨r, hr, ?_⟩
  have hr' := hr
  unfold matZ at hr
  rw [if_pos (by rw [hA.len]; omega)] at hr
  obtain ⟨z1, z2, z3⟩ := zipG_spec hr
  refine ⟨by rw [z1, hA.len], fun q hq => ?_⟩
  obtain ⟨i, hi, rfl⟩ := List.getElem_of_mem hq
  have hia : i < A.length := by omega
  obtain ⟨y, z, e1, e2, e3⟩ := z3 i A[i] (by simp [hia])
  rw [List.getElem?_eq_getElem hi] at e2
  obtain rfl := Option.some.inj e2
  unfold rowZ at e3
  have hrow := hA.row A[i] (List.getElem_mem hia)
  rw [if_pos (by omega)] at e3
  rw [(zipG_spec e3).1, hrow]
/-- what every call of the law's last line answers -/
structure Facts (p N T K : Int) (A B : List (List Int)) where
  (rA rS rK rC rL : List (List Int))
  a1 : matZ (fAdd p) A B = some rA
  a2 : ∃ k, privityref09_Add.f k p A B = some rA
  a3 : ∃ k, privityref09_Same.f k rA rA = some true
  s1 : matZ (fSub p) A B = some rS
  s2 : ∃ k, privityref09_Sub.f k p A B = some rS
  s3 : ∃ k, privityref09_Same.f k rS rS = some true
  k1 : matZ (fun x _ => fMul p K x) A A = some rK
  k2 : ∃ k, privityref09_Scale.f k p K A = some rK
  k3 : ∃ k, privityref09_Same.f k rK rK = some true
  c1 : ∃ k, shamir_Constant.f k p N T K = some rC
  c2 : ∃ k, privityref09_Constant.f k p N T K = some rC
  c3 : ∃ k, privityref09_Same.f k rC rC = some true
  l1 : ∃ k, shamir_LocalShares.f k [A, B, A] = some rL
  l2 : ∃ k, privityref09_LocalShares.f k [A, B, A] = some rL
  l3 : ∃ k, privityref05_SameRows.f k rL rL = some true
theorem facts (p N T K : Int) (A B : List (List Int)) (n L : Nat) (hp : okp p = true) (hK : inr p K = true) (hN : N ≤ 1000) (hT0 : 0 ≤ T) (hT : T ≤ 1000) (hA : Shape p A n L) (hB : Shape p B n L) (hn : n ≤ 1000) (hL : L ≤ 1000) (hL0 : 0 < L) : Nonempty (Facts p N T K A B) := by
  have small : ∀ {r : List (List Int)} {n L : Nat}, r.length = n → (∀ q ∈ r, q.length = L) → n ≤ 1000 → L ≤ 10000 → Ev (fun k => privityref09_Same.f k r r) true := fun h1 h2 h3 h4 => rsame_ev _ (by omega) (fun q hq => by rw [h2 q hq]; omega)
  obtain ⟨rA, a1, a2, a3⟩ := matZ_ex (f := fAdd p) (fun x y hx hy => ⟨_, by simp only [fAdd, hp, hx, hy, Bool.and_true, if_true]; rfl⟩) hA hB hn hL
  obtain ⟨rS, s1, s2, s3⟩ := matZ_ex (f := fSub p) (fun x y hx hy => ⟨_, by simp only [fSub, hp, hx, hy, Bool.and_true, if_true]; rfl⟩) hA hB hn hL
  obtain ⟨rK, k1, k2, k3⟩ := matZ_ex (f := fun x _ => fMul p K x) (fun x y hx hy => ⟨_, by simp only [fMul, hp, hx, hK, Bool.and_true, if_true]; rfl⟩) hA hA hn hL
  have hS := rsub_ev hp (by rw [hA.len, hB.len]) (fun x hx => ⟨by rw [hB.row x hx]; omega, hB.inr x hx⟩) s1
  have c1 := const_ev p N T K hN hT0 hT
  have c2 := rconst_ev p N T K hN hT0 hT
  have c3 := small (r := List.replicate N.toNat (K :: List.replicate T.toNat 0)) (n := N.toNat) (L := T.toNat + 1) (by simp) (fun q hq => by rw [(List.mem_replicate.1 hq).2]; simp) (by omega) (by omega)
  have hl : ∀ M ∈ [A, B, A], M.length = n ∧ ∀ r ∈ M, 0 < r.length := by
    intro M hM
    simp only [List.mem_cons, List.not_mem_nil, or_false] at hM
    rcases hM with rfl | rfl | rfl
    · exact ⟨hA.len, fun r hr => by rw [hA.row r hr]; exact hL0⟩
    · exact ⟨hB.len, fun r hr => by rw [hB.row r hr]; exact hL0⟩
    · exact ⟨hA.len, fun r hr => by rw [hA.row r hr]; exact hL0⟩
  have l1 := local_ev [A, B, A] n (by simp) (by simp) hn hl
  have l2 := rlocal_ev [A, B, A] n (by simp) (by simp) hn hl
  have l3 := samerows_ev (colsOf [A, B, A] n) (by rw [colsOf_len]; omega) (fun r hr => by
    obtain ⟨j, _, rfl⟩ := List.mem_map.1 hr
    simp)
  exact ⟨⟨rA, rS, rK, _, _, a1, Ev.rounds (radd_ev a1), Ev.rounds (small a2 a3 hn (by omega)), s1, Ev.rounds hS, Ev.rounds (small s2 s3 hn (by omega)), k1, Ev.rounds (rscale_ev k1), Ev.rounds (small k2 k3 hn (by omega)), Ev.rounds c1, Ev.rounds c2, Ev.rounds c3, Ev.rounds l1, Ev.rounds l2, Ev.rounds l3⟩⟩
end Go.Proofs.Ytiokpaknhbfenaa.Pure
