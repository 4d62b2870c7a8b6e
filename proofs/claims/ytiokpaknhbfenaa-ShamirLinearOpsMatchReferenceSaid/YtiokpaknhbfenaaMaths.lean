/-
A part of this claim's proof (Maths): lemmas that the text of the law stands on.
-/
section
set_option linter.unusedVariables false
set_option linter.unusedSectionVars false
namespace Go.Proofs.Ytiokpaknhbfenaa

/-! ### powers -/
def fpow {p : Nat} [NeZero p] (a : Fin p) : Nat → Fin p
  | 0 => 1
  | n + 1 => a * fpow a n

theorem fpow_zero {p : Nat} [NeZero p] (a : Fin p) : fpow a 0 = 1 := rfl
theorem fpow_succ {p : Nat} [NeZero p] (a : Fin p) (n : Nat) : fpow a (n + 1) = a * fpow a n := rfl
theorem fpow_add {p : Nat} [NeZero p] (a : Fin p) (m n : Nat) : fpow a (m + n) = fpow a m * fpow a n := by
  induction m with
  | zero => rw [Nat.zero_add, fpow_zero]; grind
  | succ m ih => rw [Nat.succ_add, fpow_succ, ih, fpow_succ]; grind
theorem fpow_one_base {p : Nat} [NeZero p] (n : Nat) : fpow (1 : Fin p) n = 1 := by
  induction n with
  | zero => rfl
  | succ n ih => rw [fpow_succ, ih]; grind
theorem fpow_mul {p : Nat} [NeZero p] (a : Fin p) (m n : Nat) : fpow a (m * n) = fpow (fpow a m) n := by
  induction n with
  | zero => rfl
  | succ n ih => rw [Nat.mul_succ, fpow_add, ih, fpow_succ]; grind
theorem fpow_mul_base {p : Nat} [NeZero p] (a b : Fin p) (n : Nat) : fpow (a * b) n = fpow a n * fpow b n := by
  induction n with
  | zero => simp only [fpow_zero]; grind
  | succ n ih => simp only [fpow_succ, ih]; grind
theorem fpow_two_mul {p : Nat} [NeZero p] (a : Fin p) (n : Nat) : fpow a (2 * n) = fpow (a * a) n := by
  rw [fpow_mul]; congr 1; simp only [fpow_succ, fpow_zero]; grind

/-! ### powers by squaring, for the kernel -/
def powGo (p : Nat) : Nat → Nat → Nat → Nat → Nat
  | 0, _, _, r => r
  | f + 1, a, n, r => powGo p f (a * a % p) (n / 2) (if n % 2 = 1 then r * a % p else r)
def powNat (p a n : Nat) : Nat := powGo p 64 a n (1 % p)

theorem powGo_eq {p : Nat} [NeZero p] (f : Nat) : ∀ (a r : Fin p) (n : Nat), n < 2 ^ f → powGo p f a.val n r.val = (r * fpow a n).val := by
  induction f with
  | zero =>
    intro a r n h
    obtain rfl : n = 0 := by simpa using h
    have : r * fpow a 0 = r := by rw [fpow_zero]; grind
    rw [this]; rfl
  | succ f ih =>
    intro a r n h
    have h2 : n / 2 < 2 ^ f := by rw [Nat.pow_succ] at h; omega
    have ha : a.val * a.val % p = (a * a).val := by rw [Fin.val_mul]
    rw [powGo, ha]
    by_cases hn : n % 2 = 1
    · have hr : r.val * a.val % p = (r * a).val := by rw [Fin.val_mul]
      rw [if_pos hn, hr, ih _ _ _ h2]
      congr 1
      conv => rhs; rw [show n = 2 * (n / 2) + 1 by omega, fpow_succ, fpow_two_mul]
      grind
    · rw [if_neg hn, ih _ _ _ h2]
      congr 1
      conv => rhs; rw [show n = 2 * (n / 2) by omega, fpow_two_mul]

theorem powNat_eq {p : Nat} [NeZero p] (a : Fin p) (n : Nat) (h : n < 2 ^ 64) : powNat p a.val n = (fpow a n).val := by
  have := powGo_eq 64 a 1 n h
  rw [show ((1 : Fin p) * fpow a n) = fpow a n by grind] at this
  rw [← this]
  rfl

/-! ### the group of a generator -/
theorem one_gcd {p : Nat} [NeZero p] (g : Fin p) (a b : Nat) : fpow g a = 1 → fpow g b = 1 → fpow g (Nat.gcd a b) = 1 := by
  induction a, b using Nat.gcd.induction with
  | H0 n => intro _ h; simpa using h
  | H1 m n hm ih =>
    intro h1 h2
    rw [Nat.gcd_rec]
    refine ih ?_ h1
    have e : fpow g n = fpow g (m * (n / m)) * fpow g (n % m) := by rw [← fpow_add, Nat.div_add_mod]
    rw [fpow_mul, h1, fpow_one_base, h2] at e
    grind

theorem nodup_le (n : Nat) : ∀ l : List Nat, l.Nodup → (∀ x ∈ l, x < n) → l.length ≤ n := by
  induction n with
  | zero => intro l _ h; cases l with
    | nil => simp
    | cons a l => exact absurd (h a (by simp)) (by omega)
  | succ n ih =>
    intro l hl h
    by_cases hn : n ∈ l
    · have h1 := ih (l.erase n) (hl.erase n) (fun x hx => by
        have := h x (List.mem_of_mem_erase hx)
        have hne : x ≠ n := by rintro rfl; exact (hl.not_mem_erase) hx
        omega)
      have := List.length_erase_of_mem hn
      have : 0 < l.length := List.length_pos_of_mem hn
      omega
    · have h1 := ih l hl (fun x hx => by
        have := h x hx
        have hne : x ≠ n := by rintro rfl; exact hn hx
        omega)
      omega

/-- every residue but 0 is a power of g -/
theorem gen_all {p : Nat} [NeZero p] (hp : 3 ≤ p) (g : Fin p) (L : List Nat) (h1 : fpow g (p - 1) = 1)
    (hL : ∀ m, m ∣ p - 1 → m ≠ 1 → ∃ q ∈ L, q ∣ m) (hq : ∀ q ∈ L, fpow g ((p - 1) / q) ≠ 1) (a : Fin p) (ha : a ≠ 0) : ∃ k, a = fpow g k := by
  have one0 : (1 : Fin p) ≠ 0 := by
    intro h
    have h2 : 1 % p = 0 := congrArg Fin.val h
    rw [Nat.mod_eq_of_lt (by omega)] at h2
    omega
  have order : ∀ d, 0 < d → d < p - 1 → fpow g d ≠ 1 := by
    intro d h0 hd h
    have hg := one_gcd g d (p - 1) h h1
    have hc : Nat.gcd d (p - 1) ≤ d := Nat.gcd_le_left _ h0
    obtain ⟨m, hm⟩ := Nat.gcd_dvd_right d (p - 1)
    have hm1 : m ≠ 1 := by rintro rfl; omega
    obtain ⟨q, hqL, t, rfl⟩ := hL m ⟨Nat.gcd d (p - 1), by rw [Nat.mul_comm]; exact hm⟩ hm1
    have q0 : 0 < q := by rcases Nat.eq_zero_or_pos q with rfl | h; · simp at hm; omega
                          · exact h
    refine hq q hqL ?_
    have : (p - 1) / q = Nat.gcd d (p - 1) * t := by
      conv => lhs; rw [hm]
      rw [show Nat.gcd d (p - 1) * (q * t) = q * (Nat.gcd d (p - 1) * t) by rw [← Nat.mul_assoc, Nat.mul_comm _ q, Nat.mul_assoc], Nat.mul_div_cancel_left _ q0]
    rw [this, fpow_mul, hg, fpow_one_base]
  have inj : ∀ i j, i < j → j < p - 1 → fpow g i ≠ fpow g j := by
    intro i j hij hj h
    refine order (j - i) (by omega) (by omega) ?_
    have e1 : fpow g j = fpow g i * fpow g (j - i) := by rw [← fpow_add]; congr 1; omega
    have e2 : fpow g i * fpow g (p - 1 - i) = 1 := by rw [← fpow_add, ← h1]; congr 1; omega
    rw [← h] at e1
    grind
  have nz : ∀ i, i < p - 1 → fpow g i ≠ 0 := by
    intro i hi h
    have e2 : fpow g i * fpow g (p - 1 - i) = 1 := by rw [← fpow_add, ← h1]; congr 1; omega
    rw [h] at e2
    apply one0; rw [← e2]; grind
  refine Classical.byContradiction fun hno => ?_
  have hne : ∀ k, a ≠ fpow g k := fun k hk => hno ⟨k, hk⟩
  let l : List Nat := ((List.range (p - 1)).map fun i => (fpow g i).val - 1)
  have hv : ∀ x : Fin p, x ≠ 0 → 1 ≤ x.val := fun x hx => by
    rcases Nat.eq_zero_or_pos x.val with h | h
    · exact absurd (Fin.ext (by rw [h, Fin.val_zero])) hx
    · exact h
  have hl : l.Nodup := by
    rw [List.nodup_iff_pairwise_ne, List.pairwise_map]
    refine List.Pairwise.imp_of_mem ?_ List.pairwise_lt_range
    intro i j hi hj hij he
    have hi' := List.mem_range.1 hi
    have hj' := List.mem_range.1 hj
    refine inj i j hij hj' (Fin.ext ?_)
    have := hv _ (nz i hi'); have := hv _ (nz j hj'); omega
  have hb : ∀ x ∈ (a.val - 1) :: l, x < p - 1 := by
    intro x hx
    rcases List.mem_cons.1 hx with rfl | hx
    · have := a.isLt; have := hv a ha; omega
    · obtain ⟨i, hi, rfl⟩ := List.mem_map.1 hx
      have := (fpow g i).isLt; have := hv _ (nz i (List.mem_range.1 hi)); omega
  have hn : ((a.val - 1) :: l).Nodup := by
    rw [List.nodup_cons]
    refine ⟨fun hx => ?_, hl⟩
    obtain ⟨i, hi, he⟩ := List.mem_map.1 hx
    refine hne i (Fin.ext ?_)
    have := hv a ha; have := hv _ (nz i (List.mem_range.1 hi)); omega
  have := nodup_le (p - 1) _ hn hb
  simp [l] at this
  omega

theorem gen_fermat {p : Nat} [NeZero p] (hp : 3 ≤ p) (g : Fin p) (L : List Nat) (h1 : fpow g (p - 1) = 1)
    (hL : ∀ m, m ∣ p - 1 → m ≠ 1 → ∃ q ∈ L, q ∣ m) (hq : ∀ q ∈ L, fpow g ((p - 1) / q) ≠ 1) (a : Fin p) (ha : a ≠ 0) : fpow a (p - 2) * a = 1 := by
  obtain ⟨k, rfl⟩ := gen_all hp g L h1 hL hq a ha
  have e : fpow (fpow g k) (p - 2) * fpow g k = fpow (fpow g k) (p - 1) := by
    rw [show p - 1 = (p - 2) + 1 by omega, fpow_succ]; grind
  rw [e, ← fpow_mul, Nat.mul_comm, fpow_mul, h1, fpow_one_base]

/-! ### the seven primes -/
theorem coprime_mul_list (m : Nat) : ∀ l : List Nat, (∀ q ∈ l, Nat.gcd m q = 1) → Nat.gcd m (l.foldr (· * ·) 1) = 1 := by
  intro l
  induction l with
  | nil => intro _; simp
  | cons a l ih =>
    intro h
    rw [List.foldr_cons]
    exact Nat.Coprime.mul_right (h a (by simp)) (ih fun q hq => h q (List.mem_cons_of_mem _ hq))

def primeB (q : Nat) : Bool := q != 0 && (List.range (q + 1)).all fun d => (q % d != 0) || d == 1 || d == q
theorem primeB_dvd {q d : Nat} (h : primeB q = true) (hd : d ∣ q) : d = 1 ∨ d = q := by
  unfold primeB at h
  rw [Bool.and_eq_true, List.all_eq_true] at h
  obtain ⟨h0, h⟩ := h
  by_cases hq : q = 0
  · simp [hq] at h0
  · have h1 := h d (List.mem_range.2 (Nat.lt_succ_of_le (Nat.le_of_dvd (by omega) hd)))
    have h2 : q % d = 0 := Nat.mod_eq_zero_of_dvd hd
    simp [h2] at h1
    exact h1

theorem factor_of (n : Nat) (l : List Nat) (hn : l.foldr (· * ·) 1 = n) (hp : l.all primeB = true) (m : Nat) (hm : m ∣ n) (h1 : m ≠ 1) : ∃ q ∈ l, q ∣ m := by
  refine Classical.byContradiction fun hno => h1 ?_
  have hc : ∀ q ∈ l, Nat.gcd m q = 1 := by
    intro q hq
    rcases primeB_dvd (List.all_eq_true.1 hp q hq) (Nat.gcd_dvd_right m q) with h | h
    · exact h
    · exact absurd ⟨q, hq, by rw [← h]; exact Nat.gcd_dvd_left m q⟩ hno
  have := coprime_mul_list m l hc
  rw [hn, Nat.gcd_eq_left hm] at this
  exact this

theorem fermat_of {p : Nat} [NeZero p] (g : Nat) (l : List Nat) (h3 : 3 ≤ p) (h64 : p ≤ 2 ^ 64) (hg : g < p) (hn : l.foldr (· * ·) 1 = p - 1) (hp : l.all primeB = true)
    (h1 : powNat p g (p - 1) = 1) (hq : (l.all fun q => powNat p g ((p - 1) / q) != 1) = true) (a : Fin p) (ha : a ≠ 0) : fpow a (p - 2) * a = 1 := by
  have o1 : (1 : Fin p).val = 1 := Nat.mod_eq_of_lt (show 1 < p by omega)
  refine gen_fermat h3 ⟨g, hg⟩ l ?_ (fun m hm hm1 => factor_of (p - 1) l hn hp m hm hm1) ?_ a ha
  · apply Fin.ext; rw [← powNat_eq _ _ (by omega), o1]; exact h1
  · intro q hql he
    have h2 := List.all_eq_true.1 hq q hql
    have h3 : (fpow (⟨g, hg⟩ : Fin p) ((p - 1) / q)).val = 1 := by rw [he, o1]
    rw [← powNat_eq _ _ (Nat.lt_of_le_of_lt (Nat.div_le_self _ _) (by omega))] at h3
    simp [h3] at h2

/-- the primes of the program -/
def Sup (p : Nat) : Prop := p = 31 ∨ p = 127 ∨ p = 8191 ∨ p = 131071 ∨ p = 524287 ∨ p = 2147483647 ∨ p = 2305843009213693951

theorem Sup.fermat {p : Nat} [NeZero p] (h : Sup p) (a : Fin p) (ha : a ≠ 0) : fpow a (p - 2) * a = 1 := by
  rcases h with rfl | rfl | rfl | rfl | rfl | rfl | rfl
  · exact fermat_of 3 [2, 3, 5] (by decide) (by decide) (by decide) (by decide +kernel) (by decide +kernel) (by decide +kernel) (by decide +kernel) a ha
  · exact fermat_of 3 [2, 3, 3, 7] (by decide) (by decide) (by decide) (by decide +kernel) (by decide +kernel) (by decide +kernel) (by decide +kernel) a ha
  · exact fermat_of 17 [2, 3, 3, 5, 7, 13] (by decide) (by decide) (by decide) (by decide +kernel) (by decide +kernel) (by decide +kernel) (by decide +kernel) a ha
  · exact fermat_of 3 [2, 3, 5, 17, 257] (by decide) (by decide) (by decide) (by decide +kernel) (by decide +kernel) (by decide +kernel) (by decide +kernel) a ha
  · exact fermat_of 3 [2, 3, 3, 3, 7, 19, 73] (by decide) (by decide) (by decide) (by decide +kernel) (by decide +kernel) (by decide +kernel) (by decide +kernel) a ha
  · exact fermat_of 7 [2, 3, 3, 7, 11, 31, 151, 331] (by decide) (by decide) (by decide) (by decide +kernel) (by decide +kernel) (by decide +kernel) (by decide +kernel) a ha
  · exact fermat_of 37 [2, 3, 3, 5, 5, 7, 11, 13, 31, 41, 61, 151, 331, 1321] (by decide) (by decide) (by decide) (by decide +kernel) (by decide +kernel) (by decide +kernel) (by decide +kernel) a ha
end Go.Proofs.Ytiokpaknhbfenaa
end
section
set_option linter.unusedVariables false
set_option linter.unusedSectionVars false
namespace Go.Proofs.Ytiokpaknhbfenaa
section
variable {p : Nat} [NeZero p]

def ev (f : List (Fin p)) (x : Fin p) : Fin p :=
  match f with
  | [] => 0
  | a :: l => a + x * ev l x
def co (f : List (Fin p)) (i : Nat) : Fin p := f.getD i 0
def padd : List (Fin p) → List (Fin p) → List (Fin p)
  | [], b => b
  | a :: l, [] => a :: l
  | a :: l, b :: m => (a + b) :: padd l m
def pscale (k : Fin p) (f : List (Fin p)) : List (Fin p) := f.map (k * ·)
def pmul : List (Fin p) → List (Fin p) → List (Fin p)
  | [], _ => []
  | a :: l, b => padd (pscale a b) (0 :: pmul l b)

theorem ev_nil (x : Fin p) : ev [] x = 0 := rfl
theorem ev_cons (a : Fin p) (l : List (Fin p)) (x : Fin p) : ev (a :: l) x = a + x * ev l x := rfl
theorem ev_padd (a b : List (Fin p)) (x : Fin p) : ev (padd a b) x = ev a x + ev b x := by
  induction a generalizing b with
  | nil => simp only [padd, ev_nil]; grind
  | cons a l ih => cases b with
    | nil => simp only [padd, ev_nil]; grind
    | cons b m => simp only [padd, ev_cons, ih]; grind
theorem ev_pscale (k : Fin p) (f : List (Fin p)) (x : Fin p) : ev (pscale k f) x = k * ev f x := by
  induction f with
  | nil => simp only [pscale, List.map_nil, ev_nil]; grind
  | cons a l ih => simp only [pscale, List.map_cons, ev_cons] at *; rw [ih]; grind
theorem ev_pmul (a b : List (Fin p)) (x : Fin p) : ev (pmul a b) x = ev a x * ev b x := by
  induction a with
  | nil => simp only [pmul, ev_nil]; grind
  | cons a l ih => simp only [pmul, ev_padd, ev_pscale, ev_cons, ih]; grind
theorem co_nil (i : Nat) : co ([] : List (Fin p)) i = 0 := by simp [co]
theorem co_cons_zero (a : Fin p) (l : List (Fin p)) : co (a :: l) 0 = a := by simp [co]
theorem co_cons_succ (a : Fin p) (l : List (Fin p)) (i : Nat) : co (a :: l) (i + 1) = co l i := by simp [co]
theorem co_padd (a b : List (Fin p)) (i : Nat) : co (padd a b) i = co a i + co b i := by
  induction a generalizing b i with
  | nil => simp only [padd, co_nil]; grind
  | cons a l ih => cases b with
    | nil => simp only [padd, co_nil]; grind
    | cons b m => cases i with
      | zero => simp only [padd, co_cons_zero]
      | succ i => simp only [padd, co_cons_succ, ih]
theorem co_pscale (k : Fin p) (f : List (Fin p)) (i : Nat) : co (pscale k f) i = k * co f i := by
  induction f generalizing i with
  | nil => simp only [pscale, List.map_nil, co_nil]; grind
  | cons a l ih => cases i with
    | zero => simp [pscale, co]
    | succ i => simp only [pscale, List.map_cons, co_cons_succ]; exact ih i
theorem co_of_length_le {f : List (Fin p)} {i : Nat} (h : f.length ≤ i) : co f i = 0 := by
  unfold co; rw [List.getD_eq_getElem?_getD, List.getElem?_eq_none h]; rfl
theorem length_padd (a b : List (Fin p)) : (padd a b).length = max a.length b.length := by
  induction a generalizing b with
  | nil => simp [padd]
  | cons a l ih => cases b with
    | nil => simp [padd]
    | cons b m => simp [padd, ih, Nat.succ_max_succ]
theorem length_pscale (k : Fin p) (f : List (Fin p)) : (pscale k f).length = f.length := by simp [pscale]
theorem length_pmul (a b : List (Fin p)) (ha : a ≠ []) (hb : b ≠ []) : (pmul a b).length = a.length + b.length - 1 := by
  induction a with
  | nil => exact absurd rfl ha
  | cons a l ih =>
    have hb' : 0 < b.length := List.length_pos_iff.2 hb
    cases l with
    | nil => simp [pmul, length_padd, length_pscale]; omega
    | cons c l =>
      have := ih (by simp)
      simp only [pmul, length_padd, length_pscale, List.length_cons] at *
      omega

theorem fill_step {α : Type} (X : List α) (m : Nat) (z v : α) : (X ++ List.replicate (m + 1) z).set X.length v = (X ++ [v]) ++ List.replicate m z := by
  rw [List.set_append_right _ _ (Nat.le_refl _), Nat.sub_self, List.replicate_succ, List.set_cons_zero, List.append_assoc]; rfl
theorem fill_take {α β : Type} (F : α → β) (a : List α) (z : β) (j : Nat) (hj : j < a.length) (v : β) (hv : v = F a[j]) :
    ((a.take j).map F ++ List.replicate (a.length - j) z).set j v = (a.take (j + 1)).map F ++ List.replicate (a.length - (j + 1)) z := by
  obtain ⟨m, hm⟩ : ∃ m, a.length - j = m + 1 := ⟨a.length - j - 1, by omega⟩
  have hl : ((a.take j).map F).length = j := by simp; omega
  have := fill_step ((a.take j).map F) m z v
  rw [hl] at this
  rw [hm, this, show a.length - (j + 1) = m by omega, List.take_succ_eq_append_getElem hj, List.map_append, hv]; rfl

/-! ### same coefficients -/
def Same (f g : List (Fin p)) : Prop := ∀ i, co f i = co g i
theorem Same.ev {f g : List (Fin p)} (h : Same f g) (x : Fin p) : ev f x = ev g x := by
  induction f generalizing g with
  | nil =>
    induction g with
    | nil => rfl
    | cons b m ih =>
      have h0 := h 0
      have := ih (fun i => by have := h (i + 1); rw [co_cons_succ, co_nil] at this; rw [co_nil]; exact this)
      rw [co_nil, co_cons_zero] at h0
      rw [ev_cons, ← this, ← h0, ev_nil]; grind
  | cons a l ih =>
    cases g with
    | nil =>
      have h0 := h 0
      have := ih (g := []) (fun i => by have := h (i + 1); rw [co_cons_succ, co_nil] at this; rw [co_nil]; exact this)
      rw [co_nil, co_cons_zero] at h0
      rw [ev_cons, this, h0, ev_nil]; grind
    | cons b m =>
      have h0 := h 0
      rw [co_cons_zero, co_cons_zero] at h0
      rw [ev_cons, ev_cons, ih (g := m) (fun i => by have := h (i + 1); rwa [co_cons_succ, co_cons_succ] at this), h0]

theorem same_ext {f g : List (Fin p)} (hl : f.length = g.length) (h : Same f g) : f = g := by
  refine List.ext_getElem hl fun i h1 h2 => ?_
  have := h i
  simpa [co, h1, h2] using this

theorem Same.refl (f : List (Fin p)) : Same f f := fun _ => rfl
theorem Same.symm {f g : List (Fin p)} (h : Same f g) : Same g f := fun i => (h i).symm
theorem Same.trans {f g k : List (Fin p)} (h : Same f g) (h' : Same g k) : Same f k := fun i => (h i).trans (h' i)
theorem co_take_succ (f : List (Fin p)) (k i : Nat) (hk : k < f.length) : co (f.take (k + 1)) i = if i = k then co f k else co (f.take k) i := by
  have ht : ∀ m j, co (f.take m) j = if j < m then co f j else 0 := fun m j => by
    unfold co
    rw [List.getD_eq_getElem?_getD, List.getD_eq_getElem?_getD, List.getElem?_take]
    split <;> rfl
  rw [ht, ht]
  by_cases h : i = k
  · subst h; rw [if_pos (by omega), if_pos rfl]
  · rw [if_neg h]
    by_cases h2 : i < k
    · rw [if_pos h2, if_pos (by omega)]
    · rw [if_neg h2, if_neg (by omega)]

/-! ### trailing zeros -/
def ptrim : List (Fin p) → List (Fin p)
  | [] => []
  | a :: l => match ptrim l with
    | [] => if a = 0 then [] else [a]
    | b :: m => a :: b :: m
def Trimmed (f : List (Fin p)) : Prop := f = [] ∨ co f (f.length - 1) ≠ 0
theorem ptrim_same (f : List (Fin p)) : Same (ptrim f) f := by
  induction f with
  | nil => intro i; rfl
  | cons a l ih =>
    intro i
    unfold ptrim
    split
    · rename_i h
      rw [h] at ih
      have hz : ∀ j, co l j = 0 := fun j => by rw [← ih j, co_nil]
      split
      · rename_i ha
        cases i with
        | zero => rw [co_nil, co_cons_zero, ha]
        | succ i => rw [co_nil, co_cons_succ, hz]
      · cases i with
        | zero => simp only [co_cons_zero]
        | succ i => rw [co_cons_succ, co_cons_succ, co_nil, hz]
    · rename_i b m h
      cases i with
      | zero => simp only [co_cons_zero]
      | succ i => rw [co_cons_succ, co_cons_succ, ← h]; exact ih i
theorem ptrim_trimmed (f : List (Fin p)) : Trimmed (ptrim f) := by
  induction f with
  | nil => exact .inl rfl
  | cons a l ih =>
    unfold ptrim
    split
    · split
      · exact .inl rfl
      · rename_i h; exact .inr (by simpa [co] using h)
    · rename_i b m h
      rw [h] at ih
      rcases ih with h' | h'
      · exact absurd h' (by simp)
      · refine .inr ?_
        simpa [co] using h'
theorem ptrim_length_le (f : List (Fin p)) : (ptrim f).length ≤ f.length := by
  induction f with
  | nil => simp [ptrim]
  | cons a l ih =>
    unfold ptrim
    split
    · split <;> simp
    · rename_i b m h; rw [h] at ih; simp at *; omega
theorem trimmed_eq {f g : List (Fin p)} (hf : Trimmed f) (hg : Trimmed g) (h : Same f g) : f = g := by
  refine same_ext ?_ h
  have key : ∀ {f g : List (Fin p)}, Trimmed f → Same f g → f.length ≤ g.length := by
    intro f g hf h
    rcases hf with rfl | hf
    · simp
    · refine Classical.byContradiction fun hn => hf ?_
      rw [h, co_of_length_le (by omega)]
  exact Nat.le_antisymm (key hf h) (key hg (fun i => (h i).symm))
theorem ptrim_congr {f g : List (Fin p)} (h : Same f g) : ptrim f = ptrim g :=
  trimmed_eq (ptrim_trimmed f) (ptrim_trimmed g) fun i => by rw [ptrim_same f i, h i, ptrim_same g i]
theorem ptrim_of_trimmed {f : List (Fin p)} (h : Trimmed f) : ptrim f = f := trimmed_eq (ptrim_trimmed f) h (ptrim_same f)

theorem co_take (f : List (Fin p)) (k i : Nat) : co (f.take k) i = if i < k then co f i else 0 := by
  unfold co
  rw [List.getD_eq_getElem?_getD, List.getD_eq_getElem?_getD, List.getElem?_take]
  split <;> rfl
theorem ptrim_take (f : List (Fin p)) (k : Nat) (hk : k ≤ f.length) (hz : ∀ j, k ≤ j → co f j = 0) (h : k = 0 ∨ co f (k - 1) ≠ 0) : ptrim f = f.take k := by
  refine trimmed_eq (ptrim_trimmed f) ?_ fun i => ?_
  · rcases h with rfl | h
    · exact .inl (by simp)
    · by_cases h0 : k = 0
      · subst h0; exact .inl (by simp)
      · refine .inr ?_
        rw [List.length_take, Nat.min_eq_left hk, co_take, if_pos (by omega)]; exact h
  · rw [ptrim_same, co_take]
    split
    · rfl
    · exact hz i (by omega)
theorem co_getElem {f : List (Fin p)} {i : Nat} (h : i < f.length) : co f i = f[i] := by simp [co, h]

theorem co_pmul_succ (a b : List (Fin p)) (k : Nat) (hk : k < a.length) (n : Nat) :
    co (pmul (a.take (k + 1)) b) n = co (pmul (a.take k) b) n + (if n < k then 0 else a[k] * co b (n - k)) := by
  induction k generalizing a n with
  | zero =>
    cases a with
    | nil => simp at hk
    | cons x l =>
      simp only [List.take_succ_cons, List.take_zero, pmul, co_padd, co_pscale, co_nil, Nat.not_lt_zero, if_false, Nat.sub_zero, List.getElem_cons_zero]
      cases n with
      | zero => rw [co_cons_zero]; grind
      | succ n => rw [co_cons_succ, co_nil]; grind
  | succ k ih =>
    cases a with
    | nil => simp at hk
    | cons x l =>
      have hk' : k < l.length := by simpa using hk
      simp only [List.take_succ_cons, pmul, co_padd, List.getElem_cons_succ]
      cases n with
      | zero => rw [co_cons_zero, co_cons_zero, if_pos (by omega)]; grind
      | succ n =>
        rw [co_cons_succ, co_cons_succ, ih l hk' n, show n + 1 - (k + 1) = n - k by omega]
        by_cases h : n < k
        · rw [if_pos h, if_pos (by omega)]; grind
        · rw [if_neg h, if_neg (by omega)]; grind

/-! ### roots -/
def sdiv : List (Fin p) → Fin p → List (Fin p)
  | [], _ => []
  | _ :: l, r => if l = [] then [] else ev l r :: sdiv l r
theorem sdiv_length (f : List (Fin p)) (r : Fin p) : (sdiv f r).length = f.length - 1 := by
  induction f with
  | nil => rfl
  | cons a l ih =>
    unfold sdiv
    split
    · rename_i h; simp [h]
    · rename_i h
      have : 0 < l.length := List.length_pos_iff.2 h
      simp [ih]; omega
theorem ev_sdiv (f : List (Fin p)) (r x : Fin p) : ev f x = ev f r + (x - r) * ev (sdiv f r) x := by
  induction f with
  | nil => simp only [sdiv, ev_nil]; grind
  | cons a l ih =>
    unfold sdiv
    split
    · rename_i h; subst h; simp only [ev_cons, ev_nil]; grind
    · simp only [ev_cons]; grind
theorem zero_of_sdiv (f : List (Fin p)) (r : Fin p) (h : ev f r = 0) (hs : ∀ c ∈ sdiv f r, c = 0) : ∀ c ∈ f, c = 0 := by
  induction f with
  | nil => simp
  | cons a l ih =>
    unfold sdiv at hs
    by_cases hl : l = []
    · subst hl; intro c hc; simp at hc; subst hc; rw [ev_cons, ev_nil] at h; grind
    · rw [if_neg hl] at hs
      have h1 := hs (ev l r) (by simp)
      have h2 := ih h1 (fun c hc => hs c (List.mem_cons_of_mem _ hc))
      intro c hc
      rcases List.mem_cons.1 hc with rfl | hc
      · rw [ev_cons, h1] at h; grind
      · exact h2 c hc

/-- no zero divisors -/
def Dom (p : Nat) [NeZero p] : Prop := ∀ a b : Fin p, a * b = 0 → a = 0 ∨ b = 0

theorem roots (hD : Dom p) (xs : List (Fin p)) : ∀ f : List (Fin p), xs.Nodup → f.length ≤ xs.length → (∀ x ∈ xs, ev f x = 0) → ∀ c ∈ f, c = 0 := by
  induction xs with
  | nil => intro f _ h _; simp at h; simp [h]
  | cons r xs ih =>
    intro f hn hl h
    rw [List.nodup_cons] at hn
    refine zero_of_sdiv f r (h r (by simp)) (ih _ hn.2 (by rw [sdiv_length]; simp at hl; omega) fun x hx => ?_)
    have h1 := ev_sdiv f r x
    rw [h r (by simp), h x (List.mem_cons_of_mem _ hx)] at h1
    have h2 : (x - r) * ev (sdiv f r) x = 0 := by grind
    rcases hD _ _ h2 with h3 | h3
    · exact absurd (show r ∈ xs by rw [show r = x by grind]; exact hx) hn.1
    · exact h3

theorem same_of_roots (hD : Dom p) {f g : List (Fin p)} (xs : List (Fin p)) (hn : xs.Nodup) (hf : f.length ≤ xs.length) (hg : g.length ≤ xs.length)
    (h : ∀ x ∈ xs, ev f x = ev g x) : Same f g := by
  have hz := roots hD xs (padd f (pscale (-1) g)) hn (by rw [length_padd, length_pscale]; omega) (fun x hx => by rw [ev_padd, ev_pscale, h x hx]; grind)
  intro i
  have h1 : co (padd f (pscale (-1) g)) i = 0 := by
    by_cases hi : i < (padd f (pscale (-1) g)).length
    · unfold co; rw [List.getD_eq_getElem?_getD, List.getElem?_eq_getElem hi]; exact hz _ (List.getElem_mem hi)
    · exact co_of_length_le (by omega)
  rw [co_padd, co_pscale] at h1
  grind
end
end Go.Proofs.Ytiokpaknhbfenaa
end
section
set_option linter.unusedVariables false
set_option linter.unusedSectionVars false
namespace Go.Proofs.Ytiokpaknhbfenaa
section
variable {p : Nat} [NeZero p]

/-! ### the field -/
theorem Sup.two_lt {p : Nat} (h : Sup p) : 31 ≤ p := by unfold Sup at h; omega
theorem Sup.lt {p : Nat} (h : Sup p) : p ≤ 2305843009213693951 := by unfold Sup at h; omega
def finv (a : Fin p) : Fin p := fpow a (p - 2)
theorem Sup.inv (h : Sup p) {a : Fin p} (ha : a ≠ 0) : finv a * a = 1 := h.fermat a ha
theorem Sup.dom (h : Sup p) : Dom p := by
  intro a b hab
  by_cases ha : a = 0
  · exact .inl ha
  · have := h.inv ha
    right; grind
theorem Sup.one_ne (h : Sup p) : (1 : Fin p) ≠ 0 := by
  have := h.two_lt
  intro e
  have h2 : 1 % p = 0 := congrArg Fin.val e
  rw [Nat.mod_eq_of_lt (by omega)] at h2
  omega
theorem Sup.one_val (h : Sup p) : (1 : Fin p).val = 1 := Nat.mod_eq_of_lt (show 1 < p by have := h.two_lt; omega)
theorem zero_val : (0 : Fin p).val = 0 := rfl

/-! ### products -/
def evp (z : Fin p) (os : List (Fin p)) : Fin p := os.foldl (fun d o => d * (z - o)) 1
theorem evp_foldl (z : Fin p) (os : List (Fin p)) (c : Fin p) : os.foldl (fun d o => d * (z - o)) c = c * evp z os := by
  unfold evp
  induction os generalizing c with
  | nil => simp only [List.foldl_nil]; grind
  | cons o os ih => simp only [List.foldl_cons]; rw [ih, ih (1 * (z - o))]; grind
theorem evp_nil (z : Fin p) : evp z [] = 1 := rfl
theorem evp_cons (z o : Fin p) (os : List (Fin p)) : evp z (o :: os) = (z - o) * evp z os := by
  unfold evp; rw [List.foldl_cons, evp_foldl]; unfold evp; grind
theorem evp_append (z : Fin p) (a b : List (Fin p)) : evp z (a ++ b) = evp z a * evp z b := by
  induction a with
  | nil => rw [List.nil_append, evp_nil]; grind
  | cons o os ih => rw [List.cons_append, evp_cons, evp_cons, ih]; grind
theorem evp_zero {z : Fin p} {os : List (Fin p)} (h : z ∈ os) : evp z os = 0 := by
  induction os with
  | nil => cases h
  | cons o os ih =>
    rw [evp_cons]
    rcases List.mem_cons.1 h with rfl | h
    · grind
    · rw [ih h]; grind
theorem evp_ne (hD : Dom p) (h1 : (1 : Fin p) ≠ 0) {z : Fin p} {os : List (Fin p)} (h : z ∉ os) : evp z os ≠ 0 := by
  induction os with
  | nil => exact h1
  | cons o os ih =>
    rw [evp_cons]
    intro e
    rw [List.mem_cons, not_or] at h
    rcases hD _ _ e with e | e
    · exact h.1 (by grind)
    · exact ih h.2 e

/-! ### interpolation -/
structure Interp (pts : List (Fin p × Fin p)) (f : List (Fin p)) : Prop where
  trim : Trimmed f
  len : f.length ≤ pts.length
  val : ∀ q ∈ pts, ev f q.1 = q.2

theorem Interp.unique (hD : Dom p) {pts : List (Fin p × Fin p)} {f g : List (Fin p)} (hn : (pts.map (·.1)).Nodup) (hf : Interp pts f) (hg : Interp pts g) : f = g := by
  refine trimmed_eq hf.trim hg.trim (same_of_roots hD (pts.map (·.1)) hn (by simpa using hf.len) (by simpa using hg.len) fun x hx => ?_)
  obtain ⟨q, hq, rfl⟩ := List.mem_map.1 hx
  rw [hf.val q hq, hg.val q hq]

theorem mem_eraseIdx_of_ne {xs : List (Fin p)} {k j : Nat} (hj : j < xs.length) (hne : j ≠ k) : xs[j] ∈ xs.eraseIdx k := by
  rw [List.mem_eraseIdx_iff_getElem]
  exact ⟨j, hj, hne, rfl⟩
theorem not_mem_eraseIdx {xs : List (Fin p)} (hn : xs.Nodup) {k : Nat} (hk : k < xs.length) : xs[k] ∉ xs.eraseIdx k := by
  rw [List.mem_eraseIdx_iff_getElem]
  rintro ⟨j, hj, hne, he⟩
  exact hne ((List.getElem_inj hn).1 he)

/-- the partial sums of the Lagrange formula -/
structure Part (pts : List (Fin p × Fin p)) (k : Nat) (f : List (Fin p)) : Prop where
  trim : Trimmed f
  len : f.length ≤ pts.length
  val : ∀ j (h : j < pts.length), ev f pts[j].1 = if j < k then pts[j].2 else 0
theorem Part.zero (pts : List (Fin p × Fin p)) : Part pts 0 [] := ⟨.inl rfl, by simp, fun j h => by simp [ev]⟩
theorem Part.interp {pts : List (Fin p × Fin p)} {f : List (Fin p)} (h : Part pts pts.length f) : Interp pts f :=
  ⟨h.trim, h.len, fun q hq => by obtain ⟨j, hj, rfl⟩ := List.getElem_of_mem hq; rw [h.val j hj, if_pos hj]⟩
theorem Part.step (hs : Sup p) {pts : List (Fin p × Fin p)} (hn : (pts.map (·.1)).Nodup) {k : Nat} (hk : k < pts.length) {f g : List (Fin p)} {c : Fin p} (h : Part pts k f)
    (hg : ∀ z, ev g z = c * evp z ((pts.map (·.1)).eraseIdx k)) (hl : g.length ≤ pts.length) (hc : c * evp pts[k].1 ((pts.map (·.1)).eraseIdx k) = pts[k].2) :
    Part pts (k + 1) (ptrim (padd f g)) := by
  refine ⟨ptrim_trimmed _, Nat.le_trans (ptrim_length_le _) (by rw [length_padd]; have := h.len; omega), fun j hj => ?_⟩
  rw [(ptrim_same _).ev, ev_padd, h.val j hj, hg]
  by_cases hjk : j = k
  · subst hjk
    rw [if_neg (by omega), if_pos (by omega), hc]; grind
  · have hm : pts[j].1 ∈ (pts.map (·.1)).eraseIdx k := by
      have := mem_eraseIdx_of_ne (xs := pts.map (·.1)) (k := k) (j := j) (by simpa using hj) hjk
      simpa using this
    rw [evp_zero hm]
    by_cases h1 : j < k
    · rw [if_pos h1, if_pos (by omega)]; grind
    · rw [if_neg h1, if_neg (by omega)]; grind
theorem over_evp (hs : Sup p) {pts : List (Fin p × Fin p)} (hn : (pts.map (·.1)).Nodup) {k : Nat} (hk : k < pts.length) :
    evp pts[k].1 ((pts.map (·.1)).eraseIdx k) ≠ 0 := by
  have := not_mem_eraseIdx hn (k := k) (by simpa using hk)
  exact evp_ne hs.dom hs.one_ne (by simpa using this)

/-- the monic polynomial with the given roots -/
theorem ev_lin (f : List (Fin p)) (o z : Fin p) : ev (ptrim (pmul f [-o, 1])) z = ev f z * (z - o) := by
  rw [(ptrim_same _).ev, ev_pmul]; simp only [ev_cons, ev_nil]; grind
theorem length_lin (f : List (Fin p)) (o : Fin p) : (ptrim (pmul f [-o, 1])).length ≤ f.length + 1 := by
  refine Nat.le_trans (ptrim_length_le _) ?_
  cases f with
  | nil => simp [pmul]
  | cons a l => rw [length_pmul _ _ (by simp) (by simp)]; simp
end
end Go.Proofs.Ytiokpaknhbfenaa
end
