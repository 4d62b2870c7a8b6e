import Derived.Test.YtcagegpgalambaaSpec
import Derived.Test.YtcagegpgalambaaF5
section
set_option linter.unusedVariables false
set_option linter.unusedSimpArgs false
namespace Go.Proofs.Ytcagegpgalambaa.Pure
open Go.RowKit Go.Proofs.Ytcagegpgalambaa Go.Proofs.YtcagegpgalambaaW.PrintWords
theorem wrapS (i : Nat) (h : i ≤ 1000000000000) : wrap64 ((i : Int) + 1) = ((i + 1 : Nat) : Int) := by unfold wrap64; omega
theorem rd_at {l : List Int} {i : Nat} (h : i < l.length) : rd l (i : Int) = l[i] := by simp [rd, h]
theorem rd_oF {n : Nat} {xs : List (Fin n)} {i : Nat} (h : i < xs.length) : rd (oF xs) (i : Int) = ((xs[i].val : Nat) : Int) := by simp [rd, oF, h]
theorem len_oF {n : Nat} (xs : List (Fin n)) : (oF xs).length = xs.length := by simp [oF]
theorem oF_inj {n : Nat} {a b : List (Fin n)} (h : oF a = oF b) : a = b := by
  unfold oF at h
  exact (List.map_inj_right (fun x y hxy => Fin.ext (by omega))).1 h
theorem oF_append {n : Nat} (a b : List (Fin n)) : oF (a ++ b) = oF a ++ oF b := by simp [oF]
theorem oF_set {n : Nat} (l : List (Fin n)) (i : Nat) (x : Fin n) : (oF l).set i ((x.val : Nat) : Int) = oF (l.set i x) := by simp [oF, List.map_set]
theorem oF_replicate {m : Nat} (n : Nat) : List.replicate n (0 : Int) = oF (List.replicate n (0 : Fin (m + 1))) := by simp [oF]
theorem oF_take {n : Nat} (l : List (Fin n)) (k : Nat) : (oF l).take k = oF (l.take k) := by simp [oF, List.map_take]
theorem val_zero_iff {m : Nat} (x : Fin (m + 1)) : ((x.val : Nat) : Int) = 0 ↔ x = 0 := by
  constructor
  · intro h; exact Fin.ext (by rw [zero_val]; omega)
  · rintro rfl; rfl
end Go.Proofs.Ytcagegpgalambaa.Pure
end
section
set_option linter.unusedVariables false
set_option linter.unusedSimpArgs false
namespace Go.Proofs.Ytcagegpgalambaa
open Go.RowKit
/-- the Lagrange weights sum to 1 -/
theorem lagW_sum {m : Nat} (hs : Sup (m + 1)) (xs : List (Fin (m + 1))) (z : Fin (m + 1)) (hn : xs.Nodup) (hne : xs ≠ []) : (lagW xs z).foldl (fun s w => s + w) 0 = 1 := by
  have hm : (xs.map fun x => (x, (1 : Fin (m + 1)))).map (·.1) = xs := by simp [List.map_map, Function.comp_def]
  have hl : (xs.map fun x => (x, (1 : Fin (m + 1)))).length = xs.length := List.length_map _
  have hI := lagP_interp hs (xs.map fun x => (x, (1 : Fin (m + 1)))) (by rw [hm]; exact hn)
  have hone : Interp (xs.map fun x => (x, (1 : Fin (m + 1)))) [1] := by
    refine ⟨.inr ?_, ?_, fun q hq => ?_⟩
    · exact hs.one_ne
    · rw [hl]; cases xs with
      | nil => exact absurd rfl hne
      | cons a l => simp
    · obtain ⟨x, _, rfl⟩ := List.mem_map.1 hq
      simp only [ev_cons, ev_nil]; grind
  have hu := Interp.unique hs.dom (by rw [hm]; exact hn) hI hone
  have key : ∀ k, k ≤ xs.length → ev ((List.range k).foldl (fun f i => ptrim (padd f (ptrim (pscale (((xs.map fun x => (x, (1 : Fin (m + 1)))).getD i (0, 0)).2 * finv (evp ((xs.map fun x => (x, (1 : Fin (m + 1)))).getD i (0, 0)).1 (((xs.map fun x => (x, (1 : Fin (m + 1)))).map (·.1)).eraseIdx i))) (linF (((xs.map fun x => (x, (1 : Fin (m + 1)))).map (·.1)).eraseIdx i)))))) []) z =
      ((List.range k).map fun i => evp z (xs.eraseIdx i) * finv (evp (xs.getD i 0) (xs.eraseIdx i))).foldl (fun s w => s + w) 0 := by
    intro k
    induction k with
    | zero => intro _; rfl
    | succ k ih =>
      intro hk
      have hlt : k < xs.length := by omega
      rw [List.range_succ, List.foldl_append, List.map_append, List.foldl_append, List.foldl_cons, List.foldl_nil, List.map_cons, List.map_nil, List.foldl_cons, List.foldl_nil, ← ih (by omega), hm]
      have hg : (xs.map fun x => (x, (1 : Fin (m + 1)))).getD k (0, 0) = (xs[k], 1) := by simp [hlt]
      have hg2 : xs.getD k 0 = xs[k] := by simp [hlt]
      rw [hg, hg2, (ptrim_same _).ev, ev_padd, (ptrim_same _).ev, ev_pscale, (linF_ev _ z).1]
      grind
  have h1 := key xs.length (Nat.le_refl _)
  unfold lagP at hu
  rw [hl] at hu
  rw [hu] at h1
  unfold lagW
  rw [← h1]
  simp only [ev_cons, ev_nil]; grind
end Go.Proofs.Ytcagegpgalambaa
end
section
set_option linter.unusedVariables false
set_option linter.unusedSimpArgs false
namespace Go.Proofs.Ytcagegpgalambaa.Pure
open Go.RowKit Go.Proofs.Ytcagegpgalambaa Go.Proofs.Ytcagegpgalambaa.F Go.Proofs.YtcagegpgalambaaW.PrintWords Go.Proofs.YtcagegpgalambaaW.PrintLast
variable {m : Nat}
theorem trim_eq (f : List (Fin (m + 1))) (hl : f.length ≤ 1000000) : privityref04_Trim.f (oF f) = some (oF (ptrim f)) := rtrimI_eq f hl
theorem ptrim_of_zero (f : List (Fin (m + 1))) (h : ∀ i, co f i = 0) : ptrim f = [] := by
  rw [ptrim_take f 0 (Nat.zero_le _) (fun j _ => h j) (.inl rfl)]; rfl
theorem eval_ev (hs : Sup (m + 1)) (f : List (Fin (m + 1))) (x : Fin (m + 1)) (hl : f.length ≤ 1000000000) : Ev (fun k => privityref04_Eval.f k ((m + 1 : Nat) : Int) (oF f) ((x.val : Nat) : Int)) (((ev f x).val : Nat) : Int) := by
  have key : ∀ d i, i + d = f.length → ∀ s q : Fin (m + 1), Ev (fun k => privityref04_Eval.l0 k ((m + 1 : Nat) : Int) (oF f) ((x.val : Nat) : Int) ((s.val : Nat) : Int) ((q.val : Nat) : Int) (i : Int)) (((s + q * ev (f.drop i) x).val : Nat) : Int) := by
    intro d
    induction d with
    | zero =>
      intro i hi s q
      rw [List.drop_of_length_le (by omega), ev_nil, show s + q * 0 = s by grind]
      exact Ev.step (f := fun _ => some ((s.val : Nat) : Int)) (fun k => by simp only [privityref04_Eval.l0]; rw [if_neg (by rw [len_oF]; omega)]) (Ev.now _)
    | succ d ih =>
      intro i hi s q
      have hlt : i < f.length := by omega
      rw [List.drop_eq_getElem_cons hlt, ev_cons]
      have h := ih (i + 1) (by omega) (s + f[i] * q) (q * x)
      rw [show s + q * (f[i] + x * ev (f.drop (i + 1)) x) = s + f[i] * q + q * x * ev (f.drop (i + 1)) x by grind]
      refine Ev.step (f := fun k => privityref04_Eval.l0 k ((m + 1 : Nat) : Int) (oF f) ((x.val : Nat) : Int) (((s + f[i] * q).val : Nat) : Int) (((q * x).val : Nat) : Int) ((i + 1 : Nat) : Int)) (fun k => ?_) h
      simp only [privityref04_Eval.l0]
      rw [if_pos (by rw [len_oF]; omega), if_pos (by omega), rd_oF hlt]
      unfold privityref01_Mul.f privityref01_Add.f
      rw [fMul_eq hs]; simp only [Option.bind_some]
      rw [fAdd_eq hs]; simp only [Option.bind_some]
      rw [fMul_eq hs]; simp only [Option.bind_some]
      rw [wrapS i (by omega)]
  have h := key f.length 0 (by omega) 0 1
  rw [List.drop_zero, show (0 : Fin (m + 1)) + 1 * ev f x = ev f x by grind] at h
  refine Ev.congr (fun k => ?_) h
  unfold privityref04_Eval.f
  rw [hs.one_val]; rfl
theorem wrapN (i : Nat) (h : i ≤ 1000000000000) : wrap64 (i : Int) = (i : Int) := by unfold wrap64; omega
theorem wrapA (i j : Nat) (h : i + j ≤ 1000000000000) : wrap64 ((i : Int) + (j : Int)) = ((i + j : Nat) : Int) := by unfold wrap64; omega
theorem mul_ev (hs : Sup (m + 1)) (a b : List (Fin (m + 1))) (ha : a ≠ []) (hb : b ≠ []) (hla : a.length ≤ 1000) (hlb : b.length ≤ 1000) : Ev (fun k => privityref04_Mul.f k ((m + 1 : Nat) : Int) (oF a) (oF b)) (oF (ptrim (pmul a b))) := by
  have hpa : 0 < a.length := List.length_pos_iff.2 ha
  have hpb : 0 < b.length := List.length_pos_iff.2 hb
  have inner : ∀ i, i < a.length → ∀ d l, l + d = b.length → ∀ X : List (Fin (m + 1)), X.length = a.length + b.length - 1 → (∀ n, co X n = co (pmul (a.take i) b) n + (if i ≤ n ∧ n < i + l then co a i * co b (n - i) else 0)) →
      ∀ r, (∀ Y : List (Fin (m + 1)), Y.length = a.length + b.length - 1 → (∀ n, co Y n = co (pmul (a.take (i + 1)) b) n) → Ev (fun k => privityref04_Mul.l0 k ((m + 1 : Nat) : Int) (oF a) (oF b) (oF Y) ((i + 1 : Nat) : Int)) r) →
      Ev (fun k => privityref04_Mul.l1 k ((m + 1 : Nat) : Int) (oF a) (oF b) (oF X) (i : Int) (l : Int)) r := by
    intro i hi d
    induction d with
    | zero =>
      intro l hl X hX hco r hr
      refine Ev.step (f := fun k => privityref04_Mul.l0 k ((m + 1 : Nat) : Int) (oF a) (oF b) (oF X) ((i + 1 : Nat) : Int)) (fun k => ?_) (hr X hX fun n => ?_)
      · simp only [privityref04_Mul.l1]
        rw [if_neg (by rw [len_oF]; omega), wrapS i (by omega)]
      · rw [hco, co_pmul_succ a b i hi]
        by_cases h1 : n < i
        · rw [if_neg (by omega), if_pos h1]
        · rw [if_neg h1]
          by_cases h2 : n < i + b.length
          · rw [if_pos (by omega), co_getElem hi]
          · rw [if_neg (by omega), co_of_length_le (show b.length ≤ n - i by omega)]; grind
    | succ d ih =>
      intro l hl X hX hco r hr
      have hlt : l < b.length := by omega
      have hil : i + l < X.length := by omega
      refine Ev.step (f := fun k => privityref04_Mul.l1 k ((m + 1 : Nat) : Int) (oF a) (oF b) (oF (X.set (i + l) (X[i + l] + a[i] * b[l]))) (i : Int) ((l + 1 : Nat) : Int)) (fun k => ?_) (ih (l + 1) (by omega) (X.set (i + l) (X[i + l] + a[i] * b[l])) (by simpa using hX) (fun n => ?_) r hr)
      · simp only [privityref04_Mul.l1]
        rw [wrapA i l (by omega), if_pos (by rw [len_oF]; omega), if_pos (by omega), if_pos (by rw [len_oF]; omega), if_pos (by omega), if_pos (by rw [len_oF]; omega), if_pos (by omega), rd_oF hi, rd_oF hlt]
        unfold privityref01_Mul.f privityref01_Add.f
        rw [fMul_eq hs]; simp only [Option.bind_some]
        rw [rd_oF hil, fAdd_eq hs]; simp only [Option.bind_some]
        rw [wrapS l (by omega), Int.toNat_natCast, oF_set]
      · have hc : co (X.set (i + l) (X[i + l] + a[i] * b[l])) n = if n = i + l then X[i + l] + a[i] * b[l] else co X n := by
          unfold co
          simp only [List.getD_eq_getElem?_getD, List.getElem?_set]
          by_cases h : n = i + l
          · subst h; simp [hil]
          · simp [h, Ne.symm h]
        rw [hc]
        by_cases h : n = i + l
        · subst h
          have h0 := hco (i + l)
          rw [co_getElem hil, if_neg (by omega)] at h0
          rw [if_pos rfl, if_pos (by omega), h0, show i + l - i = l by omega, co_getElem hi, co_getElem hlt]; grind
        · rw [if_neg h, hco]
          by_cases h2 : i ≤ n ∧ n < i + l
          · rw [if_pos h2, if_pos (by omega)]
          · rw [if_neg h2, if_neg (by omega)]
  have outer : ∀ d i, i + d = a.length → ∀ X : List (Fin (m + 1)), X.length = a.length + b.length - 1 → (∀ n, co X n = co (pmul (a.take i) b) n) →
      Ev (fun k => privityref04_Mul.l0 k ((m + 1 : Nat) : Int) (oF a) (oF b) (oF X) (i : Int)) (oF (ptrim (pmul a b))) := by
    intro d
    induction d with
    | zero =>
      intro i hi X hX hco
      obtain rfl : i = a.length := by omega
      rw [List.take_length] at hco
      refine Ev.step (f := fun _ => some (oF (ptrim (pmul a b)))) (fun k => ?_) (Ev.now _)
      simp only [privityref04_Mul.l0]
      rw [if_neg (by rw [len_oF]; omega), trim_eq X (by omega), Option.bind_some, ptrim_congr hco]
    | succ d ih =>
      intro i hi X hX hco
      refine Ev.step (f := fun k => privityref04_Mul.l1 k ((m + 1 : Nat) : Int) (oF a) (oF b) (oF X) (i : Int) 0) (fun k => ?_) (inner i (by omega) b.length 0 (by omega) X hX (fun n => by rw [hco, if_neg (by omega)]; grind) _ fun Y hY hcoY => ih (i + 1) (by omega) Y hY hcoY)
      simp only [privityref04_Mul.l0]
      rw [if_pos (by rw [len_oF]; omega)]
  have h0 := outer a.length 0 (by omega) (List.replicate (a.length + b.length - 1) 0) (by simp) (fun n => by
    rw [List.take_zero]; simp only [pmul, co_nil]; unfold co; simp only [List.getD_eq_getElem?_getD, List.getElem?_replicate]; split <;> rfl)
  refine Ev.congr (fun k => ?_) (Ev.step (g := fun k => privityref04_Mul.j0 k ((m + 1 : Nat) : Int) (oF a) (oF b) false) (fun k => ?_) h0)
  · unfold privityref04_Mul.f
    rw [if_neg (by rw [len_oF]; omega)]
    congr 1
    rw [len_oF]; simp; omega
  · simp only [privityref04_Mul.j0]
    rw [if_neg (by simp), len_oF, len_oF, wrapA a.length b.length (by omega)]
    have e : wrap64 (((a.length + b.length : Nat) : Int) - 1) = ((a.length + b.length - 1 : Nat) : Int) := by unfold wrap64; omega
    rw [e, if_pos (by omega), if_pos (by rw [Int.toNat_natCast]; omega), Int.toNat_natCast, oF_replicate (m := m)]
    rfl
/-! ### the basis polynomials -/
structure Bas (xs : List (Fin (m + 1))) (i : Nat) (x : Fin (m + 1)) (k : Nat) (g : List (Fin (m + 1))) : Prop where
  ev : ∀ z, ev g z * evp x ((xs.take k).eraseIdx i) = evp z ((xs.take k).eraseIdx i)
  len : g.length ≤ k + 1
  small : g.length ≤ ((xs.take k).eraseIdx i).length + 1
theorem ne_of_ev {g : List (Fin (m + 1))} {c : Fin (m + 1)} (hs : Sup (m + 1)) {os : List (Fin (m + 1))} {z : Fin (m + 1)} (hz : z ∉ os) (h : ev g z * c = evp z os) : g ≠ [] := by
  rintro rfl
  have := evp_ne hs.dom hs.one_ne hz
  rw [ev_nil] at h
  exact this (by rw [← h]; grind)
theorem base_ev (hs : Sup (m + 1)) (xs : List (Fin (m + 1))) (hn : xs.Nodup) (hl : xs.length ≤ 12) (i : Nat) (hi : i < xs.length) :
    ∃ g, Bas xs i xs[i] xs.length g ∧ Ev (fun k => privityref05_base.f k ((m + 1 : Nat) : Int) (oF xs) (i : Int)) (oF g) := by
  have hmem : ∀ k, xs[i] ∉ (xs.take k).eraseIdx i := fun k h => by
    have h1 := not_mem_eraseIdx hn hi
    have h2 : (xs.take k).eraseIdx i ⊆ xs.eraseIdx i := by
      by_cases hk : k ≤ i
      · rw [List.eraseIdx_of_length_le (by rw [List.length_take]; omega)]
        intro y hy
        obtain ⟨j, hj, rfl⟩ := List.getElem_of_mem hy
        rw [List.getElem_take]
        rw [List.length_take] at hj
        exact mem_eraseIdx_of_ne (by omega) (by omega)
      · have : (xs.take k).eraseIdx i = (xs.eraseIdx i).take (k - 1) := by
          rw [List.eraseIdx_eq_take_drop_succ, List.eraseIdx_eq_take_drop_succ, List.take_take, Nat.min_eq_left (by omega), List.take_append, List.length_take, Nat.min_eq_left (by omega), List.take_take, Nat.min_eq_right (by omega), List.drop_take]
          congr 2
          omega
        rw [this]
        exact List.take_subset _ _
    exact h1 (h2 h)
  have key : ∀ d k, k + d = xs.length → ∀ g, Bas xs i xs[i] k g → ∃ g', Bas xs i xs[i] xs.length g' ∧ Ev (fun n => privityref05_base.l0 n ((m + 1 : Nat) : Int) (oF xs) (i : Int) (oF g) (k : Int)) (oF g') := by
    intro d
    induction d with
    | zero =>
      intro k hk g hg
      obtain rfl : k = xs.length := by omega
      exact ⟨g, hg, Ev.step (f := fun _ => some (oF g)) (fun n => by simp only [privityref05_base.l0]; rw [if_neg (by rw [len_oF]; omega)]) (Ev.now _)⟩
    | succ d ih =>
      intro k hk g hg
      have hlt : k < xs.length := by omega
      have hst := erase_step xs i k hlt
      by_cases hki : k = i
      · subst hki
        rw [if_pos rfl] at hst
        obtain ⟨g', h1, h2⟩ := ih (k + 1) (by omega) g ⟨fun z => by rw [hst]; exact hg.ev z, by have := hg.len; omega, by rw [hst]; exact hg.small⟩
        refine ⟨g', h1, Ev.step (fun n => ?_) h2⟩
        simp only [privityref05_base.l0]
        rw [if_pos (by rw [len_oF]; omega), if_pos trivial, wrapS k (by omega)]
      · rw [if_neg hki] at hst
        have hne : xs[i] - xs[k] ≠ 0 := fun e => hki ((List.getElem_inj hn).1 (show xs[k] = xs[i] by grind))
        have hinv := hs.inv hne
        obtain ⟨g', h1, h2⟩ := ih (k + 1) (by omega) (ptrim (pmul g [-xs[k] * finv (xs[i] - xs[k]), finv (xs[i] - xs[k])])) ⟨fun z => by
          have h3 := hg.ev z
          rw [hst, (ptrim_same _).ev, ev_pmul, evp_append, evp_append, evp_cons, evp_cons, evp_nil, evp_nil, ← h3]
          simp only [ev_cons, ev_nil]
          grind, by
          have h4 := ptrim_length_le (pmul g [-xs[k] * finv (xs[i] - xs[k]), finv (xs[i] - xs[k])])
          have h5 := length_pmul g [-xs[k] * finv (xs[i] - xs[k]), finv (xs[i] - xs[k])] (ne_of_ev hs (hmem k) (hg.ev xs[i])) (by simp)
          have h6 := hg.len
          simp at h5
          omega, by
          have h4 := ptrim_length_le (pmul g [-xs[k] * finv (xs[i] - xs[k]), finv (xs[i] - xs[k])])
          have h5 := length_pmul g [-xs[k] * finv (xs[i] - xs[k]), finv (xs[i] - xs[k])] (ne_of_ev hs (hmem k) (hg.ev xs[i])) (by simp)
          have h6 := hg.small
          rw [hst, List.length_append]
          simp at h5 ⊢
          omega⟩
        have hmul := mul_ev hs g [-xs[k] * finv (xs[i] - xs[k]), finv (xs[i] - xs[k])] (ne_of_ev hs (hmem k) (hg.ev xs[i])) (by simp) (by have := hg.len; omega) (by simp)
        refine ⟨g', h1, Ev.step (f := fun n => (privityref04_Mul.f n ((m + 1 : Nat) : Int) (oF g) (oF [-xs[k] * finv (xs[i] - xs[k]), finv (xs[i] - xs[k])])).bind fun t => privityref05_base.l0 n ((m + 1 : Nat) : Int) (oF xs) (i : Int) t ((k + 1 : Nat) : Int)) (fun n => ?_) (Ev.bind hmul h2)⟩
        simp only [privityref05_base.l0]
        rw [if_pos (by rw [len_oF]; omega), if_neg (by omega), if_pos (by omega), if_pos (by rw [len_oF]; omega), if_pos (by omega), rd_oF hi, rd_oF hlt]
        unfold privityref01_Sub.f privityref01_Inverse.f privityref01_Neg.f privityref01_Mul.f
        rw [fSub_eq hs]; simp only [Option.bind_some]
        rw [fInv_eq hs]; simp only [Option.bind_some]
        rw [fNeg_eq hs]; simp only [Option.bind_some]
        rw [fMul_eq hs]; simp only [Option.bind_some]
        rw [wrapS k (by omega)]
        rfl
  obtain ⟨g', h1, h2⟩ := key xs.length 0 (by omega) [1] ⟨fun z => by simp only [List.take_zero, List.eraseIdx_nil, evp_nil, ev_cons, ev_nil]; grind, by simp, by simp⟩
  refine ⟨g', h1, Ev.congr (fun n => ?_) h2⟩
  unfold privityref05_base.f
  congr 1
  simp [oF, hs.one_val]
end Go.Proofs.Ytcagegpgalambaa.Pure
end
section
set_option linter.unusedVariables false
set_option linter.unusedSimpArgs false
namespace Go.Proofs.Ytcagegpgalambaa.Pure
open Go.RowKit Go.Proofs.Ytcagegpgalambaa Go.Proofs.Ytcagegpgalambaa.F Go.Proofs.YtcagegpgalambaaW.PrintWords Go.Proofs.YtcagegpgalambaaW.PrintLast
variable {m : Nat}
theorem unlike_ev (xs : List (Fin (m + 1))) (hl : xs.length ≤ 1000000) : Ev (fun k => privityref05_Unlike.f k (oF xs)) (decide xs.Nodup) := by
  have hno : ∀ i j (hi : i < xs.length) (hj : j < i), xs[i] = xs[j] → decide xs.Nodup = false := fun i j hi hj h => by
    rw [decide_eq_false_iff_not]
    intro hn
    have := (List.getElem_inj hn).1 h
    omega
  have inner : ∀ i (hi : i < xs.length), Ev (fun k => privityref05_Unlike.l0 k (oF xs) ((i + 1 : Nat) : Int)) (decide xs.Nodup) ∨ (∃ j, ∃ hj : j < i, xs[i] = xs[j]) → ∀ d j (hjd : j + d = i), (∀ a, (ha : a < j) → xs[i] ≠ xs[a]'(by omega)) → Ev (fun k => privityref05_Unlike.l1 k (oF xs) (i : Int) (j : Int)) (decide xs.Nodup) := by
    intro i hi hnext d
    induction d with
    | zero =>
      intro j hj hd
      rcases hnext with h | ⟨a, ha, h⟩
      · refine Ev.step (fun k => ?_) h
        simp only [privityref05_Unlike.l1]
        rw [if_neg (by omega), wrapS i (by omega)]
      · exact absurd h (hd a (by omega))
    | succ d ih =>
      intro j hj hd
      have hjl : j < xs.length := by omega
      by_cases h : xs[i] = xs[j]
      · rw [hno i j hi (by omega) h]
        refine Ev.step (f := fun _ => some false) (fun k => ?_) (Ev.now _)
        simp only [privityref05_Unlike.l1]
        rw [if_pos (by omega), if_pos (by omega), if_pos (by rw [len_oF]; omega), if_pos (by omega), if_pos (by rw [len_oF]; omega), rd_oF hi, rd_oF hjl, if_pos (by rw [h])]
      · refine Ev.step (fun k => ?_) (ih (j + 1) (by omega) fun a ha => by
          by_cases haj : a = j
          · subst haj; exact h
          · exact hd a (by omega))
        simp only [privityref05_Unlike.l1]
        rw [if_pos (by omega), if_pos (by omega), if_pos (by rw [len_oF]; omega), if_pos (by omega), if_pos (by rw [len_oF]; omega), rd_oF hi, rd_oF hjl, if_neg (fun e => h (Fin.ext (by omega))), wrapS j (by omega)]
  have outer : ∀ d i (hid : i + d = xs.length), (∀ a b (hb : b < i) (hab : a < b), xs[b]'(by omega) ≠ xs[a]'(by omega)) → Ev (fun k => privityref05_Unlike.l0 k (oF xs) (i : Int)) (decide xs.Nodup) := by
    intro d
    induction d with
    | zero =>
      intro i hi hd
      have hn : xs.Nodup := by
        unfold List.Nodup
        rw [List.pairwise_iff_getElem]
        intro a b ha hb hab h
        exact hd a b (by omega) hab h.symm
      rw [decide_eq_true hn]
      refine Ev.step (f := fun _ => some true) (fun k => ?_) (Ev.now _)
      simp only [privityref05_Unlike.l0]
      rw [if_neg (by rw [len_oF]; omega)]
    | succ d ih =>
      intro i hi hd
      have hlt : i < xs.length := by omega
      refine Ev.step (f := fun k => privityref05_Unlike.l1 k (oF xs) (i : Int) 0) (fun k => ?_) (inner i hlt ?_ i 0 (by omega) fun a ha => by omega)
      · simp only [privityref05_Unlike.l0]
        rw [if_pos (by rw [len_oF]; omega)]
      · by_cases h : ∃ j, ∃ hj : j < i, xs[i] = xs[j]
        · exact .inr h
        · refine .inl (ih (i + 1) (by omega) fun a b hb hab => ?_)
          by_cases hbi : b = i
          · subst hbi; exact fun e => h ⟨a, hab, e⟩
          · exact hd a b (by omega) hab
  exact outer xs.length 0 (by omega) fun a b hb => by omega
theorem weights_ev (hs : Sup (m + 1)) (xs : List (Fin (m + 1))) (z : Fin (m + 1)) (hl : xs.length ≤ 12) :
    Ev (fun k => privityref05_LagrangeWeights.f k ((m + 1 : Nat) : Int) (oF xs) ((z.val : Nat) : Int)) (if xs.Nodup then (oF (lagW xs z), 0) else ([], 1)) := by
  have hun := unlike_ev xs (by omega)
  unfold privityref05_LagrangeWeights.f
  refine Ev.bind hun ?_
  by_cases hn : xs.Nodup
  · rw [if_pos hn, decide_eq_true hn]
    simp only [if_true]
    have key : ∀ d i, i + d = xs.length → Ev (fun k => privityref05_LagrangeWeights.l0 k ((m + 1 : Nat) : Int) (oF xs) ((z.val : Nat) : Int) (oF ((List.range i).map fun i => evp z (xs.eraseIdx i) * finv (evp (xs.getD i 0) (xs.eraseIdx i)))) (i : Int)) (oF (lagW xs z), (0 : Int)) := by
      intro d
      induction d with
      | zero =>
        intro i hi
        obtain rfl : i = xs.length := by omega
        refine Ev.step (f := fun _ => some (oF (lagW xs z), (0 : Int))) (fun k => ?_) (Ev.now _)
        simp only [privityref05_LagrangeWeights.l0]
        rw [if_neg (by rw [len_oF]; omega)]
        rfl
      | succ d ih =>
        intro i hi
        have hlt : i < xs.length := by omega
        obtain ⟨g, hg, hbe⟩ := base_ev hs xs hn hl i hlt
        have hee := eval_ev hs g z (by have := hg.len; omega)
        have hgz : ev g z = evp z (xs.eraseIdx i) * finv (evp (xs.getD i 0) (xs.eraseIdx i)) := by
          have h1 := hg.ev z
          rw [List.take_length] at h1
          have hx : xs.getD i 0 = xs[i] := by simp [hlt]
          rw [hx]
          have hne : evp xs[i] (xs.eraseIdx i) ≠ 0 := evp_ne hs.dom hs.one_ne (not_mem_eraseIdx hn hlt)
          have h2 := hs.inv hne
          grind
        have hnew : oF ((List.range (i + 1)).map fun i => evp z (xs.eraseIdx i) * finv (evp (xs.getD i 0) (xs.eraseIdx i))) = oF ((List.range i).map fun i => evp z (xs.eraseIdx i) * finv (evp (xs.getD i 0) (xs.eraseIdx i))) ++ [(((ev g z).val : Nat) : Int)] := by
          rw [List.range_succ, List.map_append, oF_append, List.map_cons, List.map_nil, hgz]; rfl
        have h3 := ih (i + 1) (by omega)
        rw [hnew] at h3
        refine Ev.step (f := fun k => (privityref05_base.f k ((m + 1 : Nat) : Int) (oF xs) (i : Int)).bind fun t => (privityref04_Eval.f k ((m + 1 : Nat) : Int) t ((z.val : Nat) : Int)).bind fun u => privityref05_LagrangeWeights.l0 k ((m + 1 : Nat) : Int) (oF xs) ((z.val : Nat) : Int) (oF ((List.range i).map fun i => evp z (xs.eraseIdx i) * finv (evp (xs.getD i 0) (xs.eraseIdx i))) ++ [u]) ((i + 1 : Nat) : Int)) (fun k => ?_) (Ev.bind hbe (Ev.bind hee h3))
        simp only [privityref05_LagrangeWeights.l0]
        have hll : (oF ((List.range i).map fun i => evp z (xs.eraseIdx i) * finv (evp (xs.getD i 0) (xs.eraseIdx i)))).length < 17592186044416 := by rw [len_oF, List.length_map, List.length_range]; omega
        rw [if_pos (by rw [len_oF]; omega), wrapS i (by omega)]
        simp only [if_pos hll]
    exact key xs.length 0 (by omega)
  · rw [if_neg hn, decide_eq_false hn]
    exact Ev.congr (fun k => by simp) (Ev.now _)
end Go.Proofs.Ytcagegpgalambaa.Pure
end
