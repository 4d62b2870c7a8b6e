/-
A part of this claim's proof (Walk): lemmas that the text of the law stands on.
-/
import Derived.Still
import Derived.Deep.Draws
import Derived.Tactics
import Derived.Tactics2
import Derived.Test.YtiokpaknhbfenaaProg
import Derived.Test.YtiokpaknhbfenaaMaths
import Derived.WalkKit
import Derived.Lib.Hide
import Derived.Deep.LoopGhost
section
set_option linter.unusedVariables false
set_option linter.unusedSectionVars false
namespace Go.Proofs.Ytiokpaknhbfenaa
open Go

def upd (s : Nat → World) (k : Nat) (w : World) : Nat → World := fun i => if i = k then w else s i
theorem upd_ne {s : Nat → World} {k i : Nat} {w : World} (h : i ≠ k) : upd s k w i = s i := by simp [upd, h]
theorem upd_eq {s : Nat → World} {k : Nat} {w : World} : upd s k w k = w := by simp [upd]

section
variable (P : Program) (ops : Array Oper) (ms : List (Option (Nat × Nat))) (E : Nat → World → World → Prop) (Q : Act → World → Prop)

/-- w' comes of w by steps of the numbers between b and c -/
def Reach (b c : Nat) (w w' : World) : Prop :=
  ∀ R : World → World → Prop, (∀ x, R x x) → (∀ x y z, R x y → R y z → R x z) → (∀ k x y, b < k → k < c → E k x y → R x y) → R w w'

/-- an operation that yields v and leaves the world alone -/
def Steady (o : Oper) (a : Act) (w : World) (v : Value) : Prop := (execOp a.eval o).run P w = .ok (.value v) w
/-- an operation that may do whatever it likes, but ends -/
def actUpon (K : Value → World → Prop) : Result Next → Prop
  | .ok (.value v) w' => K v w'
  | .ok .skip w' => K undef w'
  | .ok (.enter f args) w' => Calls P f args w' fun e w'' => ∃ v, e = .returned v ∧ K v w''
  | _ => False
def Active (o : Oper) (a : Act) (w : World) (K : Value → World → Prop) : Prop := actUpon P K ((execOp a.eval o).run P w)

theorem Active.mono {P : Program} {o : Oper} {a : Act} {w : World} {K K' : Value → World → Prop} (h : Active P o a w K) (hk : ∀ v w', K v w' → K' v w') : Active P o a w K' := by
  unfold Active at *
  generalize (execOp a.eval o).run P w = r at *
  cases r with
  | ok n w' =>
    cases n <;> simp only [actUpon] at h ⊢ <;> first | exact hk _ _ h | exact h.mono fun e w'' ⟨v, he, hv⟩ => ⟨v, he, hk _ _ hv⟩
  | halt x w' => simp only [actUpon] at h
theorem Active.exists {P : Program} {o : Oper} {a : Act} {w : World} {K : Value → World → Prop} (h : Active P o a w K) : ∃ v w', K v w' := by
  unfold Active at *
  generalize (execOp a.eval o).run P w = r at *
  cases r with
  | ok n w' =>
    cases n <;> simp only [actUpon] at h <;> first
      | exact ⟨_, _, h⟩
      | (obtain ⟨e, w'', fr, ⟨v, he, hv⟩, _⟩ := h []; exact ⟨v, w'', hv⟩)
  | halt x w' => simp only [actUpon] at h
theorem Active.wp {P : Program} {o : Oper} {a : Act} {w : World} {K : Value → World → Prop} {K' : Act → World → Prop} {Q' : Exit → Act → World → Prop}
    (h : Active P o a w K) (hk : ∀ v w', K v w' → K' (a.put o.dst v) w') : o.wp P a w K' Q' := by
  unfold Active at h
  unfold Oper.wp
  generalize (execOp a.eval o).run P w = r at *
  cases r with
  | ok n w' =>
    cases n <;> simp only [actUpon] at h <;> simp only [Oper.upon] <;> first
      | exact hk _ _ h
      | exact h.mono fun e w'' ⟨v, he, hv⟩ => by subst he; exact hk _ _ hv
  | halt x w' => simp only [actUpon] at h

def lexOp (i : Nat) (K : (Nat → World) → Nat → Act → World → Prop) (s : Nat → World) (n : Nat) (a : Act) (w : World) : Prop :=
  match ops[i]?, ms[i]? with
  | some o, some (some (b, c)) =>
    if Region.wanted o (yielded ops a.tmps) = true then ∃ v, (∀ w', Reach E b c (s b) w' → Steady P o a w' v) ∧ K s n (a.put o.dst v) w
    else K s n (a.put o.dst undef) w
  | some o, some none =>
    if Region.wanted o (yielded ops a.tmps) = true then Active P o a w fun v w' => E (n + 1) w w' ∧ K (upd s (n + 1) w') (n + 1) (a.put o.dst v) w'
    else K (upd s (n + 1) w) (n + 1) (a.put o.dst undef) w
  | _, _ => False

def lexL : List Nat → (Nat → World) → Nat → Act → World → Prop
  | [], _, _, a, w => Q a w
  | i :: R, s, n, a, w => lexOp P ops ms E i (lexL R) s n a w
end

section
variable {P : Program} {ops : Array Oper} {ms : List (Option (Nat × Nat))} {E : Nat → World → World → Prop} {Q : Act → World → Prop}

theorem Reach.refl {b c : Nat} {w : World} : Reach E b c w w := fun _ h _ _ => h w
theorem Reach.mono {b b' c c' : Nat} {w w' : World} (h : Reach E b c w w') (hb : b' ≤ b) (hc : c ≤ c') : Reach E b' c' w w' :=
  fun R h1 h2 h3 => h R h1 h2 fun k x y hk hk' he => h3 k x y (by omega) (by omega) he
theorem Reach.step {b n : Nat} {w w1 w2 : World} (h : Reach E b (n + 1) w w1) (hb : b ≤ n) (he : E (n + 1) w1 w2) : Reach E b (n + 2) w w2 :=
  fun R h1 h2 h3 => h2 _ _ _ (h.mono (Nat.le_refl b) (show n + 1 ≤ n + 2 by omega) R h1 h2 h3) (h3 (n + 1) _ _ (by omega) (by omega) he)

theorem lexOp_mono {i : Nat} {K K' : (Nat → World) → Nat → Act → World → Prop} {s : Nat → World} {n : Nat} {a : Act} {w : World}
    (h : lexOp P ops ms E i K s n a w) (hk : ∀ s n a w, K s n a w → K' s n a w) : lexOp P ops ms E i K' s n a w := by
  unfold lexOp at *
  split <;> simp only [*] at h
  · split
    · rename_i hw; simp only [hw, if_true] at h; obtain ⟨v, h1, h2⟩ := h; exact ⟨v, h1, hk _ _ _ _ h2⟩
    · rename_i hw; simp only [hw] at h; exact hk _ _ _ _ h
  · split
    · rename_i hw; simp only [hw, if_true] at h; exact h.mono fun v w' ⟨h1, h2⟩ => ⟨h1, hk _ _ _ _ h2⟩
    · rename_i hw; simp only [hw] at h; exact hk _ _ _ _ h

theorem steady_put {oi oj : Oper} {a : Act} {v : Value} (hsj : ∀ cs b, oj.op ≠ .select cs b) (h1 : ∀ d, oi.dst = some d → d ∉ oj.looksAt ops) {w : World} {u : Value} :
    Steady P oj (a.put oi.dst v) w u ↔ Steady P oj a w u := by
  unfold Steady; rw [execOp_put oj hsj a oi.dst v h1]
theorem active_put {oi oj : Oper} {a : Act} {v : Value} (hsj : ∀ cs b, oj.op ≠ .select cs b) (h1 : ∀ d, oi.dst = some d → d ∉ oj.looksAt ops) {w : World} {K : Value → World → Prop} :
    Active P oj (a.put oi.dst v) w K ↔ Active P oj a w K := by
  unfold Active; rw [execOp_put oj hsj a oi.dst v h1]

/-- a steady operation may be taken first -/
theorem lexL_steady {j b c : Nat} {oj : Oper} (hsel : ∀ (j : Nat) (o : Oper) cs b, ops[j]? = some o → o.op ≠ .select cs b) (hj : ops[j]? = some oj) (hm : ms[j]? = some (some (b, c))) (l2 : List Nat) :
    ∀ (l1 : List Nat) (s : Nat → World) (n : Nat) (a : Act) (w : World), b ≤ n → n + (l1.filter fun i => ms[i]? == some none).length < c → (∀ k, k ≤ n → Reach E k (n + 1) (s k) w) →
      (∀ i ∈ l1, ∀ oi, ops[i]? = some oi → oi.apart ops oj = true) → lexL P ops ms E Q (l1 ++ j :: l2) s n a w → lexOp P ops ms E j (lexL P ops ms E Q (l1 ++ l2)) s n a w := by
  intro l1
  induction l1 with
  | nil => intro s n a w _ _ _ _ h; exact h
  | cons i l1 ih =>
    intro s n a w hb hc hs hap h
    have hap' : ∀ i ∈ l1, ∀ oi, ops[i]? = some oi → oi.apart ops oj = true := fun k hk => hap k (List.mem_cons_of_mem _ hk)
    simp only [List.cons_append, lexL] at h
    cases hoi : ops[i]? with
    | none => unfold lexOp at h; simp only [hoi] at h
    | some oi =>
      obtain ⟨h1, h2, h3⟩ := Oper.apart_spec (hap i (by simp) oi hoi)
      have hsi := fun cs b => hsel i oi cs b hoi
      have hsj := fun cs b => hsel j oj cs b hj
      cases hmi : ms[i]? with
      | none => unfold lexOp at h; simp only [hoi, hmi] at h
      | some mi =>
        cases mi with
        | some bi =>
          obtain ⟨bi, ci⟩ := bi
          have hc' : n + (l1.filter fun i => ms[i]? == some none).length < c := by
            rw [List.filter_cons, hmi] at hc; simpa using hc
          have key : ∀ v, lexL P ops ms E Q (l1 ++ j :: l2) s n (a.put oi.dst v) w → (Region.wanted oi (yielded ops a.tmps) = true → ∀ w', Reach E bi ci (s bi) w' → Steady P oi a w' v) →
              (Region.wanted oi (yielded ops a.tmps) = false → v = undef) → lexOp P ops ms E j (lexL P ops ms E Q (i :: l1 ++ l2)) s n a w := by
            intro v hv hst hun
            have h4 := ih s n (a.put oi.dst v) w hb hc' hs hap' hv
            unfold lexOp at h4 ⊢
            simp only [hj, hm] at h4 ⊢
            rw [wanted_put oj a oi.dst v h1] at h4
            have back : ∀ u, lexL P ops ms E Q (l1 ++ l2) s n ((a.put oi.dst v).put oj.dst u) w → lexL P ops ms E Q (i :: l1 ++ l2) s n (a.put oj.dst u) w := by
              intro u hu
              rw [Act.put_comm a v u h2] at hu
              simp only [List.cons_append, lexL]
              unfold lexOp
              simp only [hoi, hmi]
              rw [wanted_put oi a oj.dst u h3]
              split
              · rename_i hw; exact ⟨v, fun w' hw' => (steady_put (P := P) hsi h3).2 (hst hw w' hw'), hu⟩
              · rename_i hw; rw [hun (by simpa using hw)] at hu; exact hu
            split
            · rename_i hw
              simp only [hw, if_true] at h4
              obtain ⟨u, h5, h6⟩ := h4
              exact ⟨u, fun w' hw' => (steady_put (P := P) hsj h1).1 (h5 w' hw'), back u h6⟩
            · rename_i hw
              simp only [hw] at h4
              exact back undef h4
          unfold lexOp at h
          simp only [hoi, hmi] at h
          split at h
          · rename_i hw; obtain ⟨v, hv1, hv2⟩ := h; exact key v hv2 (fun _ => hv1) (fun hf => by rw [hw] at hf; cases hf)
          · rename_i hw; exact key undef h (fun ht => absurd ht hw) (fun _ => rfl)
        | none =>
          -- what is known of one outcome of i
          have hc' : n + 1 + (l1.filter fun i => ms[i]? == some none).length < c := by
            rw [List.filter_cons, hmi] at hc; simp at hc; omega
          have one : ∀ v w1, (∀ k, k ≤ n + 1 → Reach E k (n + 2) (upd s (n + 1) w1 k) w1) → lexL P ops ms E Q (l1 ++ j :: l2) (upd s (n + 1) w1) (n + 1) (a.put oi.dst v) w1 →
              (Region.wanted oj (yielded ops a.tmps) = true → ∃ u, (∀ w', Reach E b c (s b) w' → Steady P oj a w' u) ∧ lexL P ops ms E Q (l1 ++ l2) (upd s (n + 1) w1) (n + 1) ((a.put oj.dst u).put oi.dst v) w1) ∧
              (Region.wanted oj (yielded ops a.tmps) = false → lexL P ops ms E Q (l1 ++ l2) (upd s (n + 1) w1) (n + 1) ((a.put oj.dst undef).put oi.dst v) w1) := by
            intro v w1 hs' hv
            have h4 := ih (upd s (n + 1) w1) (n + 1) (a.put oi.dst v) w1 (by omega) hc' hs' hap' hv
            unfold lexOp at h4
            simp only [hj, hm] at h4
            rw [wanted_put oj a oi.dst v h1, upd_ne (show b ≠ n + 1 by omega)] at h4
            constructor
            · intro hw
              simp only [hw, if_true] at h4
              obtain ⟨u, h5, h6⟩ := h4
              exact ⟨u, fun w' hw' => (steady_put (P := P) hsj h1).1 (h5 w' hw'), by rw [← Act.put_comm a v u h2]; exact h6⟩
            · intro hw
              simp only [hw] at h4
              rw [← Act.put_comm a v undef h2]; exact h4
          have hwi : ∀ u, Region.wanted oi (yielded ops (a.put oj.dst u).tmps) = Region.wanted oi (yielded ops a.tmps) := fun u => wanted_put oi a oj.dst u h3
          have grow : ∀ w1, E (n + 1) w w1 → ∀ k, k ≤ n + 1 → Reach E k (n + 2) (upd s (n + 1) w1 k) w1 := fun w1 he k hk => by
            by_cases hkn : k = n + 1
            · rw [hkn, upd_eq]; exact Reach.refl
            · rw [upd_ne hkn]; exact (hs k (by omega)).step (by omega) he
          have same : ∀ k, k ≤ n + 1 → Reach E k (n + 2) (upd s (n + 1) w k) w := fun k hk => by
            by_cases hkn : k = n + 1
            · rw [hkn, upd_eq]; exact Reach.refl
            · rw [upd_ne hkn]; exact (hs k (by omega)).mono (Nat.le_refl _) (by omega)
          have hreach : Reach E b c (s b) w := (hs b hb).mono (Nat.le_refl _) (by omega)
          unfold lexOp at h
          simp only [hoi, hmi] at h
          by_cases hwi' : Region.wanted oi (yielded ops a.tmps) = true
          · simp only [hwi', if_true] at h
            unfold lexOp
            simp only [hj, hm]
            split
            · rename_i hw
              obtain ⟨v, w1, he, hv⟩ := h.exists
              obtain ⟨u, hu, _⟩ := (one v w1 (grow w1 he) hv).1 hw
              refine ⟨u, hu, ?_⟩
              simp only [List.cons_append, lexL]
              unfold lexOp
              simp only [hoi, hmi, hwi, hwi', if_true]
              rw [active_put hsi h3]
              refine h.mono fun v1 w2 ⟨he2, hv2⟩ => ⟨he2, ?_⟩
              obtain ⟨u', hu', hl'⟩ := (one v1 w2 (grow w2 he2) hv2).1 hw
              have e1 := hu w hreach
              have e2 := hu' w hreach
              unfold Steady at e1 e2
              rw [e1] at e2
              injection e2 with e2 _
              injection e2 with e2
              rw [e2]; exact hl'
            · rename_i hw
              simp only [List.cons_append, lexL]
              unfold lexOp
              simp only [hoi, hmi, hwi, hwi', if_true]
              rw [active_put hsi h3]
              exact h.mono fun v1 w2 ⟨he2, hv2⟩ => ⟨he2, (one v1 w2 (grow w2 he2) hv2).2 (by simpa using hw)⟩
          · simp only [hwi'] at h
            have h' := one undef w same h
            unfold lexOp
            simp only [hj, hm]
            have fin : ∀ u, lexL P ops ms E Q (l1 ++ l2) (upd s (n + 1) w) (n + 1) ((a.put oj.dst u).put oi.dst undef) w → lexL P ops ms E Q (i :: l1 ++ l2) s n (a.put oj.dst u) w := by
              intro u hu
              simp only [List.cons_append, lexL]
              unfold lexOp
              simp only [hoi, hmi, hwi, hwi']
              exact hu
            split
            · rename_i hw
              obtain ⟨u, hu, hl⟩ := h'.1 hw
              exact ⟨u, hu, fin u hl⟩
            · rename_i hw
              exact fin undef (h'.2 (by simpa using hw))

/-- an active operation behind steady ones may be taken first -/
theorem lexL_active {j : Nat} {oj : Oper} (hsel : ∀ (j : Nat) (o : Oper) cs b, ops[j]? = some o → o.op ≠ .select cs b) (hj : ops[j]? = some oj) (hm : ms[j]? = some none) (l2 : List Nat) :
    ∀ (l1 : List Nat) (s : Nat → World) (n : Nat) (a : Act) (w : World), (∀ i ∈ l1, ∃ b c, b ≤ n ∧ ms[i]? = some (some (b, c))) →
      (∀ i ∈ l1, ∀ oi, ops[i]? = some oi → oi.apart ops oj = true) → lexL P ops ms E Q (l1 ++ j :: l2) s n a w → lexOp P ops ms E j (lexL P ops ms E Q (l1 ++ l2)) s n a w := by
  intro l1
  induction l1 with
  | nil => intro s n a w _ _ h; exact h
  | cons i l1 ih =>
    intro s n a w hst hap h
    have ih' := fun s n a w h0 => ih s n a w h0 (fun k hk => hap k (List.mem_cons_of_mem _ hk))
    obtain ⟨b, c, hbn, hmi⟩ := hst i (by simp)
    have hst' : ∀ i ∈ l1, ∃ b c, b ≤ n ∧ ms[i]? = some (some (b, c)) := fun k hk => hst k (List.mem_cons_of_mem _ hk)
    simp only [List.cons_append, lexL] at h
    cases hoi : ops[i]? with
    | none => unfold lexOp at h; simp only [hoi] at h
    | some oi =>
      obtain ⟨h1, h2, h3⟩ := Oper.apart_spec (hap i (by simp) oi hoi)
      have hsi := fun cs b => hsel i oi cs b hoi
      have hsj := fun cs b => hsel j oj cs b hj
      have hwi : ∀ u, Region.wanted oi (yielded ops (a.put oj.dst u).tmps) = Region.wanted oi (yielded ops a.tmps) := fun u => wanted_put oi a oj.dst u h3
      have key : ∀ v, lexL P ops ms E Q (l1 ++ j :: l2) s n (a.put oi.dst v) w → (Region.wanted oi (yielded ops a.tmps) = true → ∀ w', Reach E b c (s b) w' → Steady P oi a w' v) →
          (Region.wanted oi (yielded ops a.tmps) = false → v = undef) → lexOp P ops ms E j (lexL P ops ms E Q (i :: l1 ++ l2)) s n a w := by
        intro v hv hsv hun
        have h4 := ih' s n (a.put oi.dst v) w hst' hv
        unfold lexOp at h4 ⊢
        simp only [hj, hm] at h4 ⊢
        rw [wanted_put oj a oi.dst v h1] at h4
        have back : ∀ u w', lexL P ops ms E Q (l1 ++ l2) (upd s (n + 1) w') (n + 1) ((a.put oi.dst v).put oj.dst u) w' → lexL P ops ms E Q (i :: l1 ++ l2) (upd s (n + 1) w') (n + 1) (a.put oj.dst u) w' := by
          intro u w' hu
          rw [Act.put_comm a v u h2] at hu
          simp only [List.cons_append, lexL]
          unfold lexOp
          simp only [hoi, hmi, hwi]
          split
          · rename_i hw; exact ⟨v, fun w' hw' => (steady_put (P := P) hsi h3).2 (hsv hw w' (by rw [upd_ne (by omega)] at hw'; exact hw')), hu⟩
          · rename_i hw; rw [hun (by simpa using hw)] at hu; exact hu
        split
        · rename_i hw
          simp only [hw, if_true] at h4
          rw [active_put hsj h1] at h4
          exact h4.mono fun u w' ⟨he, hl⟩ => ⟨he, back u w' hl⟩
        · rename_i hw
          simp only [hw] at h4
          exact back undef w h4
      unfold lexOp at h
      simp only [hoi, hmi] at h
      split at h
      · rename_i hw; obtain ⟨v, hv1, hv2⟩ := h; exact key v hv2 (fun _ => hv1) (fun hf => by rw [hw] at hf; cases hf)
      · rename_i hw; exact key undef h (fun ht => absurd ht hw) (fun _ => rfl)

def acts (ms : List (Option (Nat × Nat))) (j : Nat) : Nat := ((ms.take j).filter Option.isNone).length
def lev (ms : List (Option (Nat × Nat))) (j : Nat) : Nat := match ms[j]? with
  | some none => acts ms j + 1
  | some (some (b, _)) => b
  | none => 0
def lexOkAt (ops : Array Oper) (ms : List (Option (Nat × Nat))) (j : Nat) : Bool :=
  match ops[j]?, ms[j]? with
  | some o, some m =>
    (o.after.all fun e => decide (e.on < ops.size) && (!Region.binds .any e || decide (e.on < j))) &&
    ((match m with
      | none => acts ms j == 0 || o.after.any fun e => Region.binds .any e && decide (acts ms j ≤ lev ms e.on)
      | some (b, c) => decide (b ≤ acts ms j) && (b == 0 || o.after.any fun e => Region.binds .any e && decide (b ≤ lev ms e.on)) && decide (acts ms j < c) &&
        (decide (acts ms ops.size < c) || (List.range ops.size).any fun i => ms[i]? == some none && acts ms i + 1 == c && (match ops[i]? with | some oi => oi.after.any fun e => Region.binds .any e && e.on == j | none => false))) &&
    ((List.range j).all fun i => (o.after.any fun e => Region.binds .any e && e.on == i) || (match ops[i]? with | some oi => oi.apart ops o | none => true)))
  | _, _ => false
def lexOk (ops : Array Oper) (ms : List (Option (Nat × Nat))) : Bool := Region.noSelect ops && (List.range ops.size).all (lexOkAt ops ms)

theorem acts_mono (ms : List (Option (Nat × Nat))) {i j : Nat} (h : i ≤ j) : acts ms i ≤ acts ms j := by
  unfold acts
  obtain ⟨d, rfl⟩ : ∃ d, j = i + d := ⟨j - i, by omega⟩
  rw [List.take_add, List.filter_append, List.length_append]; omega
theorem acts_lt (ms : List (Option (Nat × Nat))) {i j : Nat} (h : i < j) (hi : ms[i]? = some none) : acts ms i < acts ms j := by
  refine Nat.lt_of_lt_of_le ?_ (acts_mono ms (show i + 1 ≤ j by omega))
  unfold acts
  obtain ⟨hl, he⟩ := List.getElem?_eq_some_iff.1 hi
  rw [List.take_succ_eq_append_getElem hl, List.filter_append, List.length_append, he]
  simp

theorem ops_all_iff {o : Oper} {f : Edge → Bool} : o.after.all f = true ↔ ∀ e ∈ o.after, f e = true := by
  rw [Array.all_eq_true_iff_forall_mem]
theorem ops_any_iff {o : Oper} {f : Edge → Bool} : o.after.any f = true ↔ ∃ e, e ∈ o.after ∧ f e = true := by
  rw [Array.any_eq_true]
  constructor
  · rintro ⟨i, hi, h⟩; exact ⟨_, Array.getElem_mem hi, h⟩
  · rintro ⟨e, he, h⟩; obtain ⟨i, hi, rfl⟩ := Array.getElem_of_mem he; exact ⟨i, hi, h⟩

theorem count_lt : ∀ (l : List Nat) (a b : Nat), l.Pairwise (· < ·) → (∀ x ∈ l, a ≤ x ∧ x < b) → a + l.length ≤ max a b
  | [], a, b, _, _ => by simp; omega
  | x :: l, a, b, hp, h => by
    have hx := h x (by simp)
    have := count_lt l (x + 1) b (List.pairwise_cons.1 hp).2 fun y hy => ⟨(List.pairwise_cons.1 hp).1 y hy, (h y (List.mem_cons_of_mem _ hy)).2⟩
    simp only [List.length_cons]
    omega

theorem lex_any (hok : lexOk ops ms = true) {Q' : Exit → Act → World → Prop} (hQ : ∀ a w, Q a w → Q' .normal a w) :
    ∀ (m : Nat) (R : List Nat) (listed : Array Bool) (s : Nat → World) (n : Nat) (a : Act) (w : World), R.length = m →
      (∀ i, i < ops.size → (listed.getD i true = false ↔ i ∈ R)) → listed.size = ops.size → R.Pairwise (· < ·) → (∀ i ∈ R, i < ops.size) →
      (∀ i, i < ops.size → i ∉ R → lev ms i ≤ n) → (∀ i ∈ R, ms[i]? = some none → n < lev ms i) → (∀ i, i < ops.size → i ∉ R → ∀ o, ops[i]? = some o → ∀ e ∈ o.after, Region.binds .any e = true → e.on ∉ R) → (∀ k, k ≤ n → Reach E k (n + 1) (s k) w) → n ≤ acts ms ops.size →
      lexL P ops ms E Q R s n a w → wpAny P .any ops Q' m listed a w := by
  unfold lexOk at hok
  rw [Bool.and_eq_true, List.all_eq_true] at hok
  obtain ⟨hns, hok⟩ := hok
  have hsel := Region.noSelect_spec hns
  intro m
  induction m with
  | zero =>
    intro R listed s n a w hlen hR hsz hso hlt hlev hact hdown hs hn_le h
    obtain rfl : R = [] := List.eq_nil_of_length_eq_zero hlen
    refine ⟨?_, hQ _ _ h⟩
    refine List.eq_nil_iff_forall_not_mem.2 fun j hj => ?_
    obtain ⟨h0, o, ho, _⟩ := mem_ready.1 hj
    have := (hR j (Array.getElem?_eq_some_iff.1 ho).1).1 h0
    cases this
  | succ m ih =>
    intro R listed s n a w hlen hR hsz hso hlt hlev hact hdown hs hn_le h
    have hun : ∀ i, listed.getD i false = true → i < ops.size → i ∉ R := fun i hi hil hm => by
      have h1 := (hR i hil).2 hm
      rw [← hsz] at hil
      simp only [Array.getD_eq_getD_getElem?, Array.getElem?_eq_getElem hil, Option.getD_some] at hi h1
      rw [hi] at h1; cases h1
    constructor
    · intro hnil
      cases R with
      | nil => simp at hlen
      | cons i R =>
        exfalso
        have hil := hlt i (by simp)
        have hk := hok i (List.mem_range.2 hil)
        unfold lexOkAt at hk
        have hoi : ops[i]? = some ops[i] := Array.getElem?_eq_getElem hil
        rw [hoi] at hk
        cases hmi : ms[i]? with
        | none => simp [hmi] at hk
        | some mi =>
          simp only [hmi, Bool.and_eq_true] at hk
          have : i ∈ Region.ready .any ops listed := by
            refine mem_ready.2 ⟨(hR i hil).2 (by simp), _, hoi, fun e he hbd => ?_⟩
            have hei := ops_all_iff.1 hk.1 e he
            rw [hbd] at hei
            have hei : e.on < ops.size ∧ e.on < i := by simpa using hei
            have hei := hei.2
            have hnot : e.on ∉ i :: R := by
              intro hm
              rcases List.mem_cons.1 hm with hm | hm
              · omega
              · have := (List.pairwise_cons.1 hso).1 _ hm; omega
            have hel : e.on < ops.size := by omega
            cases hb : listed.getD e.on true with
            | false => exact absurd ((hR _ hel).1 hb) hnot
            | true =>
              rw [← hsz] at hel
              simpa [hel] using hb
          rw [hnil] at this; cases this
    · intro j hj
      obtain ⟨hj0, oj, hoj, hedge⟩ := mem_ready.1 hj
      have hjl : j < ops.size := (Array.getElem?_eq_some_iff.1 hoj).1
      have hjR : j ∈ R := (hR j hjl).1 hj0
      obtain ⟨l1, l2, rfl⟩ := List.append_of_mem hjR
      have hso' := List.pairwise_append.1 hso
      have hl1 : ∀ i ∈ l1, i < j := fun i hi => hso'.2.2 i hi j (by simp)
      have hl2 : ∀ i ∈ l2, j < i := (List.pairwise_cons.1 hso'.2.1).1
      have hk := hok j (List.mem_range.2 hjl)
      unfold lexOkAt at hk
      rw [hoj] at hk
      cases hmj : ms[j]? with
      | none => simp [hmj] at hk
      | some mj =>
        simp only [hmj, Bool.and_eq_true] at hk
        obtain ⟨hbefore, hmark, hapart⟩ := hk
        have hon : ∀ e ∈ oj.after, e.on < ops.size := fun e he => by
          have h1 := ops_all_iff.1 hbefore e he
          rw [Bool.and_eq_true] at h1
          exact of_decide_eq_true h1.1
        have hap : ∀ i ∈ l1, ∀ oi, ops[i]? = some oi → oi.apart ops oj = true := by
          intro i hi oi hoi
          have h1 := List.all_eq_true.1 hapart i (List.mem_range.2 (hl1 i hi))
          rw [Bool.or_eq_true] at h1
          rcases h1 with h1 | h1
          · exfalso
            obtain ⟨e, he, h2⟩ := ops_any_iff.1 h1
            rw [Bool.and_eq_true] at h2
            have h3 : e.on = i := by simpa using h2.2
            exact hun i (h3 ▸ hedge e he h2.1) (h3 ▸ hon e he) (by simp [hi])
          · simpa [hoi] using h1
        have hwait : ∀ k, (oj.after.any fun e => Region.binds .any e && decide (k ≤ lev ms e.on)) = true → k ≤ n := by
          intro k hk
          obtain ⟨e, he, h2⟩ := ops_any_iff.1 hk
          rw [Bool.and_eq_true] at h2
          have h3 : k ≤ lev ms e.on := by simpa using h2.2
          exact Nat.le_trans h3 (hlev _ (hon e he) (hun _ (hedge e he h2.1) (hon e he)))
        have hlen' : (l1 ++ l2).length = m := by simp at hlen ⊢; omega
        have hmem : ∀ i, i ∈ l1 ++ l2 ↔ i ∈ l1 ++ j :: l2 ∧ i ≠ j := by
          intro i
          simp only [List.mem_append, List.mem_cons]
          constructor
          · rintro (hi | hi)
            · exact ⟨.inl hi, by have := hl1 i hi; omega⟩
            · exact ⟨.inr (.inr hi), by have := hl2 i hi; omega⟩
          · rintro ⟨hi | hi | hi, hne⟩
            · exact .inl hi
            · exact absurd hi hne
            · exact .inr hi
        have hR' : ∀ i, i < ops.size → ((listed.setIfInBounds j true).getD i true = false ↔ i ∈ l1 ++ l2) := by
          intro i hi
          rw [hmem]
          by_cases hij : i = j
          · subst hij
            have : i < listed.size := by omega
            simp [this]
          · rw [getD_set_ne true (Ne.symm hij), hR i hi]
            exact ⟨fun h => ⟨h, hij⟩, fun h => h.1⟩
        have hso2 : (l1 ++ l2).Pairwise (· < ·) := hso.sublist (by simp)
        have hlt2 : ∀ i ∈ l1 ++ l2, i < ops.size := fun i hi => hlt i ((hmem i).1 hi).1
        have hdown2 : ∀ i, i < ops.size → i ∉ l1 ++ l2 → ∀ o, ops[i]? = some o → ∀ e ∈ o.after, Region.binds .any e = true → e.on ∉ l1 ++ l2 := by
          intro i hi hn o ho e he hb hm
          by_cases hij : i = j
          · subst hij
            rw [hoj] at ho
            injection ho with ho
            subst ho
            exact hun _ (hedge e he hb) (hon e he) ((hmem _).1 hm).1
          · exact hdown i hi (fun hm' => hn ((hmem i).2 ⟨hm', hij⟩)) o ho e he hb ((hmem _).1 hm).1
        have hcount : n + (l1.filter fun i => ms[i]? == some none).length ≤ max n (acts ms j) := by
          have h1 : ((l1.filter fun i => ms[i]? == some none).map (acts ms)).Pairwise (· < ·) := by
            rw [List.pairwise_map]
            refine List.Pairwise.imp_of_mem ?_ (hso'.1.filter _)
            intro x y hx hy hxy
            have := (List.mem_filter.1 hx).2
            exact acts_lt ms hxy (by simpa using this)
          have h2 := count_lt _ n (acts ms j) h1 (fun x hx => by
            obtain ⟨i, hi, rfl⟩ := List.mem_map.1 hx
            obtain ⟨hi1, hi2⟩ := List.mem_filter.1 hi
            have hi2 : ms[i]? = some none := by simpa using hi2
            have h3 := hact i (by simp [hi1]) hi2
            simp only [lev, hi2] at h3
            exact ⟨by omega, acts_lt ms (hl1 i hi1) hi2⟩)
          simpa using h2
        cases mj with
        | some bc =>
          obtain ⟨b, c⟩ := bc
          simp only [Bool.and_eq_true] at hmark
          obtain ⟨⟨⟨hm1, hm2⟩, hm3⟩, hm4⟩ := hmark
          have hm3 : acts ms j < c := by simpa using hm3
          have hnc : n < c := by
            refine Classical.byContradiction fun hge => ?_
            rw [Bool.or_eq_true] at hm4
            have hnall : ∀ i, i < ops.size → ms[i]? = some none → acts ms i + 1 ≤ n → i ∉ l1 ++ j :: l2 := fun i hi hmi hle hm => by
              have := hact i hm hmi
              simp only [lev, hmi] at this
              omega
            rcases hm4 with h0 | h0
            · have h0 : acts ms ops.size < c := by simpa using h0
              -- more actives were carried out than there are
              have : n ≤ acts ms ops.size := hn_le
              omega
            · obtain ⟨i, hi, h1⟩ := List.any_eq_true.1 h0
              have hi := List.mem_range.1 hi
              simp only [Bool.and_eq_true] at h1
              obtain ⟨⟨h2, h3⟩, h4⟩ := h1
              have h2 : ms[i]? = some none := by simpa using h2
              have h3 : acts ms i + 1 = c := by simpa using h3
              rw [Array.getElem?_eq_getElem hi] at h4
              obtain ⟨e, he, h5⟩ := ops_any_iff.1 h4
              rw [Bool.and_eq_true] at h5
              have h6 : e.on = j := by simpa using h5.2
              exact hdown i hi (hnall i hi h2 (by omega)) _ (Array.getElem?_eq_getElem hi) e he h5.1 (by rw [h6]; simp)
          have hbn : b ≤ n := by
            rw [Bool.or_eq_true] at hm2
            rcases hm2 with h0 | h0
            · have : b = 0 := by simpa using h0
              omega
            · exact hwait b h0
          have h5 := lexL_steady hsel hoj hmj l2 l1 s n a w hbn (by omega) hs hap h
          have hlev2 : ∀ i, i < ops.size → i ∉ l1 ++ l2 → lev ms i ≤ n := fun i hi hn => by
            by_cases hij : i = j
            · subst hij; simp only [lev, hmj]; exact hbn
            · exact hlev i hi fun hm => hn ((hmem i).2 ⟨hm, hij⟩)
          have recu := fun a' => ih (l1 ++ l2) (listed.setIfInBounds j true) s n a' w hlen' hR' (by simpa using hsz) hso2 hlt2 hlev2 (fun i hi => hact i ((hmem i).1 hi).1) hdown2 hs hn_le
          unfold lexOp at h5
          simp only [hoj, hmj] at h5
          unfold wpOp
          simp only [hoj]
          split
          · rename_i hw
            simp only [hw, if_true] at h5
            obtain ⟨v, h6, h7⟩ := h5
            refine .inl ?_
            have h8 := h6 w ((hs b hbn).mono (Nat.le_refl _) (by omega))
            unfold Steady at h8
            unfold Oper.wp
            rw [h8]
            exact recu _ h7
          · rename_i hw
            simp only [hw] at h5
            exact recu _ h5
        | none =>
          have hkn : lev ms j = acts ms j + 1 := by simp only [lev, hmj]
          have hn1 : acts ms j ≤ n := by
            rw [Bool.or_eq_true] at hmark
            rcases hmark with h0 | h0
            · have : acts ms j = 0 := by simpa using h0
              omega
            · exact hwait _ h0
          have hnj := hact j hjR hmj
          have hst : ∀ i ∈ l1, ∃ b c, b ≤ n ∧ ms[i]? = some (some (b, c)) := by
            intro i hi
            have hil := hlt i (by simp [hi])
            have hk := hok i (List.mem_range.2 hil)
            unfold lexOkAt at hk
            rw [Array.getElem?_eq_getElem hil] at hk
            cases hmi : ms[i]? with
            | none => simp [hmi] at hk
            | some mi =>
              cases mi with
              | none =>
                have h1 := hact i (by simp [hi]) hmi
                have h2 := acts_lt ms (hl1 i hi) hmi
                simp only [lev, hmi] at h1
                omega
              | some bc =>
                obtain ⟨b, c⟩ := bc
                simp only [hmi, Bool.and_eq_true] at hk
                have h1 : b ≤ acts ms i := by simpa using hk.2.1.1.1.1
                have h2 := acts_mono ms (Nat.le_of_lt (hl1 i hi))
                exact ⟨b, c, by omega, rfl⟩
          have h5 := lexL_active hsel hoj hmj l2 l1 s n a w hst hap h
          have hlev2 : ∀ i, i < ops.size → i ∉ l1 ++ l2 → lev ms i ≤ n + 1 := fun i hi hn => by
            by_cases hij : i = j
            · subst hij; omega
            · have := hlev i hi fun hm => hn ((hmem i).2 ⟨hm, hij⟩)
              omega
          have hact2 : ∀ i ∈ l1 ++ l2, ms[i]? = some none → n + 1 < lev ms i := by
            intro i hi hmi
            have h1 := hact i ((hmem i).1 hi).1 hmi
            have h2 := ((hmem i).1 hi).2
            simp only [lev, hmi] at h1 ⊢
            rcases List.mem_append.1 hi with h3 | h3
            · obtain ⟨b, c, _, hb⟩ := hst i h3
              rw [hmi] at hb; cases hb
            · have := acts_lt ms (hl2 i h3) hmj
              omega
          have hn_le2 : n + 1 ≤ acts ms ops.size := by
            have := acts_lt ms hjl hmj
            simp only [lev, hmj] at hnj
            omega
          have recu := fun a' w' (hs' : ∀ k, k ≤ n + 1 → Reach E k (n + 2) (upd s (n + 1) w' k) w') => ih (l1 ++ l2) (listed.setIfInBounds j true) (upd s (n + 1) w') (n + 1) a' w' hlen' hR' (by simpa using hsz) hso2 hlt2 hlev2 hact2 hdown2 hs' hn_le2
          have grow : ∀ w', E (n + 1) w w' → ∀ k, k ≤ n + 1 → Reach E k (n + 2) (upd s (n + 1) w' k) w' := fun w' he k hk => by
            by_cases hkn : k = n + 1
            · rw [hkn, upd_eq]; exact Reach.refl
            · rw [upd_ne hkn]; exact (hs k (by omega)).step (by omega) he
          have same : ∀ k, k ≤ n + 1 → Reach E k (n + 2) (upd s (n + 1) w k) w := fun k hk => by
            by_cases hkn : k = n + 1
            · rw [hkn, upd_eq]; exact Reach.refl
            · rw [upd_ne hkn]; exact (hs k (by omega)).mono (Nat.le_refl _) (by omega)
          unfold lexOp at h5
          simp only [hoj, hmj] at h5
          unfold wpOp
          simp only [hoj]
          split
          · rename_i hw
            simp only [hw, if_true] at h5
            exact .inl (h5.wp fun v w' ⟨he, hl⟩ => recu _ w' (grow w' he) hl)
          · rename_i hw
            simp only [hw] at h5
            exact recu _ w same h5

/-- the lexical walk over a region's operations as they are written -/
def wpLex (P : Program) (ops : Array Oper) (E : Nat → World → World → Prop) (Q : Act → World → Prop) : List Oper → List (Option (Nat × Nat)) → (Nat → World) → Nat → Act → World → Prop
  | [], _, _, _, a, w => Q a w
  | _ :: _, [], _, _, _, _ => False
  | o :: l, some (b, c) :: m, s, n, a, w =>
    if Region.wanted o (yielded ops a.tmps) = true then ∃ v, (∀ w', Reach E b c (s b) w' → Steady P o a w' v) ∧ wpLex P ops E Q l m s n (a.put o.dst v) w
    else wpLex P ops E Q l m s n (a.put o.dst undef) w
  | o :: l, none :: m, s, n, a, w =>
    if Region.wanted o (yielded ops a.tmps) = true then Active P o a w fun v w' => E (n + 1) w w' ∧ wpLex P ops E Q l m (upd s (n + 1) w') (n + 1) (a.put o.dst v) w'
    else wpLex P ops E Q l m (upd s (n + 1) w) (n + 1) (a.put o.dst undef) w

theorem lexL_of_wpLex : ∀ (l : List Oper) (m : List (Option (Nat × Nat))) (k : Nat) (s : Nat → World) (n : Nat) (a : Act) (w : World), (∀ j, l[j]? = ops[k + j]?) → (∀ j, m[j]? = ms[k + j]?) →
    wpLex P ops E Q l m s n a w → lexL P ops ms E Q (List.range' k l.length) s n a w
  | [], _, _, _, _, _, _, _, _, h => by simpa [lexL, wpLex] using h
  | _ :: _, [], _, _, _, _, _, _, _, h => by simp [wpLex] at h
  | o :: l, mk :: m, k, s, n, a, w, hl, hm, h => by
    have h0 : ops[k]? = some o := by simpa using (hl 0).symm
    have h1 : ms[k]? = some mk := by simpa using (hm 0).symm
    have recu := fun s n a w => lexL_of_wpLex l m (k + 1) s n a w (fun j => by have := hl (j + 1); simpa [Nat.add_assoc, Nat.add_comm 1 j] using this) (fun j => by have := hm (j + 1); simpa [Nat.add_assoc, Nat.add_comm 1 j] using this)
    simp only [List.length_cons, List.range'_succ, lexL]
    unfold lexOp
    simp only [h0, h1]
    cases mk with
    | some bc =>
      obtain ⟨b, c⟩ := bc
      simp only [wpLex] at h ⊢
      split
      · rename_i hw; simp only [hw, if_true] at h; obtain ⟨v, h2, h3⟩ := h; exact ⟨v, h2, recu _ _ _ _ h3⟩
      · rename_i hw; simp only [hw] at h; exact recu _ _ _ _ h
    | none =>
      simp only [wpLex] at h ⊢
      split
      · rename_i hw; simp only [hw, if_true] at h; exact h.mono fun v w' ⟨h2, h3⟩ => ⟨h2, recu _ _ _ _ h3⟩
      · rename_i hw; simp only [hw] at h; exact recu _ _ _ _ h

theorem wp_region_lex0 {id : Nat} {Q : Exit → Act → World → Prop} {a : Act} {w : World} {l : List Oper} (E : Nat → World → World → Prop) (m : List (Option (Nat × Nat))) (hm : P.follows .mixedOrders = true) (hok : lexOk l.toArray m = true)
    (h : wpLex P l.toArray E (fun a' w' => Q .normal a' w') l m (fun _ => w.drew) 0 a w.drew) : (Code.region id l.toArray true).wp P Q a w := by
  refine wp_region_any hm ?_
  have hsz : (l.toArray).size = l.length := by simp
  have h1 := lexL_of_wpLex (ops := l.toArray) (ms := m) l m 0 (fun _ => w.drew) 0 a _ (by simp) (by simp) h
  rw [hsz]
  have hgt : ∀ i, i < l.length → (Array.replicate l.length false).getD i true = false := fun i hi => by simp [hi]
  have hmem : ∀ i, i < l.length → i ∈ List.range' 0 l.length := fun i hi => by simp [List.mem_range'_1]; exact hi
  refine lex_any (E := E) hok (Q := fun a' w' => Q .normal a' w') (fun _ _ h => h) l.length _ _ (fun _ => w.drew) 0 a _ (by simp) ?_ (by simp) List.pairwise_lt_range' ?_ ?_ ?_ ?_ ?_ (by omega) h1
  · intro i hi; rw [hsz] at hi; exact ⟨fun _ => hmem i hi, fun _ => hgt i hi⟩
  · intro i hi; rw [hsz]; simpa [List.mem_range'_1] using hi
  · intro i hi hn; rw [hsz] at hi; exact absurd (hmem i hi) hn
  · intro i _ hmi; simp only [lev, hmi]; omega
  · intro i hi hn; rw [hsz] at hi; exact absurd (hmem i hi) hn
  · intro k _; exact Reach.refl

/-! one operation at a time -/
/-- the walk's goal: nothing looks into it -/
structure Lx (P : Program) (ops : Array Oper) (E : Nat → World → World → Prop) (Q : Act → World → Prop) (l : List Oper) (m : List (Option (Nat × Nat))) (s : Nat → World) (n : Nat) (a : Act) (w : World) : Prop where
  out : wpLex P ops E Q l m s n a w
theorem wp_region_lex {id : Nat} {Q : Exit → Act → World → Prop} {a : Act} {w : World} {l : List Oper} (E : Nat → World → World → Prop) (m : List (Option (Nat × Nat))) (hm : P.follows .mixedOrders = true) (hok : lexOk l.toArray m = true)
    (h : Lx P l.toArray E (fun a' w' => Q .normal a' w') l m (fun _ => w.drew) 0 a w.drew) : (Code.region id l.toArray true).wp P Q a w := wp_region_lex0 E m hm hok h.out
theorem lex_nil {m : List (Option (Nat × Nat))} {s : Nat → World} {n : Nat} {a : Act} {w : World} (h : Q a w) : Lx P ops E Q [] m s n a w := ⟨h⟩
theorem lex_steady {o : Oper} {l : List Oper} {b c : Nat} {m : List (Option (Nat × Nat))} {s : Nat → World} {n : Nat} {a : Act} {w : World}
    (h : ∀ K : Act → Prop, (∀ a, Lx P ops E Q l m s n a w → K a) → if Region.wanted o (yielded ops a.tmps) = true then ∃ v, (∀ w', Reach E b c (s b) w' → Steady P o a w' v) ∧ K (a.put o.dst v) else K (a.put o.dst undef)) :
    Lx P ops E Q (o :: l) (some (b, c) :: m) s n a w := ⟨h (fun a => wpLex P ops E Q l m s n a w) (fun _ h => h.out)⟩
theorem lex_active {o : Oper} {l : List Oper} {m : List (Option (Nat × Nat))} {s : Nat → World} {n : Nat} {a : Act} {w : World}
    (h : ∀ K : (Nat → World) → Act → World → Prop, (∀ s a w, Lx P ops E Q l m s (n + 1) a w → K s a w) → if Region.wanted o (yielded ops a.tmps) = true then Active P o a w fun v w' => E (n + 1) w w' ∧ K (upd s (n + 1) w') (a.put o.dst v) w' else K (upd s (n + 1) w) (a.put o.dst undef) w) :
    Lx P ops E Q (o :: l) (none :: m) s n a w := ⟨h (fun s a w => wpLex P ops E Q l m s (n + 1) a w) (fun _ _ _ h => h.out)⟩
end
end Go.Proofs.Ytiokpaknhbfenaa
end
section
set_option linter.unusedVariables false
set_option linter.unusedSectionVars false
namespace Go.Proofs.Ytiokpaknhbfenaa
open Go.RowKit
attribute [go_sem] Steady Active actUpon

/-- a fact that the walk does not see -/
structure Hd (P : Prop) : Prop where
  out : P

/-! ### worlds that only grow -/
def Ext (w w' : World) : Prop := Below w.heap.size w w'
theorem Ext.refl (w : World) : Ext w w := Below.refl _ _
theorem Ext.trans {a b c : World} (h : Ext a b) (k : Ext b c) : Ext a c := Below.trans h (Below.mono k h.size)
theorem Ext.drew (w : World) : Ext w { w with drawn := w.drawn + 1 } := Below.drew (Below.refl _ _)
theorem Ext.drewN (w : World) (n : Nat) : Ext w (w.drewN n) := ⟨rfl, rfl, rfl, Nat.le_refl _, fun _ _ => rfl⟩
theorem Ext.size {w w' : World} (h : Ext w w') : w.heap.size ≤ w'.heap.size := Below.size h
theorem Ext.cell {w w' : World} (h : Ext w w') {a : Addr} {v : Value} (hc : w.cell? a = some v) : w'.cell? a = some v :=
  (Below.cell h (World.block_lt_of_cell? w a hc)).trans hc
theorem Ext.alloc {a w : World} (h : Ext a w) (o : Obj) : Ext a (w.alloc o) := Below.alloc h h.size o
theorem Ext.of_alloc (w : World) (o : Obj) : Ext w (w.alloc o) := (Ext.refl w).alloc o
theorem Ext.grown {a w w' : World} {row : Option Nat} (h : Ext a w) (hg : w.grownBy w' row) (hr : ∀ k, row = some k → a.heap.size ≤ k) : Ext a w' := Below.grown h hg h.size hr
theorem Ext.of_grown {w w' : World} (hg : w.grownBy w' none) : Ext w w' := ⟨hg.os, hg.tape, hg.output, hg.size, fun k hk => hg.block k hk (by simp)⟩
theorem Ext.setCell {a w : World} (h : Ext a w) {q : Addr} (hp : a.heap.size ≤ q.block) (u : Value) : Ext a (w.setCell q u) := Below.setCell h hp u

/-- a call that returns v and leaves the world alone -/
def Just (v : Value) (w : World) (e : Ending) (w' : World) : Prop := e = .returned v ∧ w' = w
/-- a call that returns what R says of it and only makes memory -/
def Rets (w : World) (R : World → Value → Prop) (e : Ending) (w' : World) : Prop := ∃ v, e = .returned v ∧ R w' v ∧ Ext w w'

theorem ret_int {k : IntKind} {a b : Int} (h : a = b) : Ending.returned (.int k a) = .returned (.int k b) := by rw [h]

/-! ### slices that are read -/
def Sl {α : Type} (R : World → Value → α → Prop) (w : World) (v : Value) (xs : List α) : Prop :=
  ∃ A c, v = .slice A xs.length c ∧ xs.length ≤ c ∧ ∀ i (h : i < xs.length), ∃ ad u, A = some ad ∧ w.cell? (ad.add i) = some u ∧ R w u xs[i]
theorem Sl.ext {α : Type} {R : World → Value → α → Prop} {w w' : World} {v : Value} {xs : List α} (h : Sl R w v xs) (he : Ext w w') (hR : ∀ u x, R w u x → R w' u x) : Sl R w' v xs := by
  obtain ⟨A, c, rfl, h1, h3⟩ := h
  exact ⟨A, c, rfl, h1, fun i hi => let ⟨ad, u, ha, hc, hr⟩ := h3 i hi; ⟨ad, u, ha, he.cell hc, hR _ _ hr⟩⟩

def RU (w : World) (v : Value) (x : Nat) : Prop := v = .int .u64 (x : Nat)
def RI (w : World) (v : Value) (x : Int) : Prop := v = .int .i64 x
def RB (w : World) (v : Value) (x : Bool) : Prop := v = .bool x
def RF {p : Nat} (w : World) (v : Value) (x : Fin p) : Prop := v = .int .u64 (x.val : Nat)
def SlU := Sl RU
def SlI := Sl RI
def SlF {p : Nat} := Sl (RF (p := p))
theorem SlU.ext {w w' : World} {v : Value} {xs : List Nat} (h : SlU w v xs) (he : Ext w w') : SlU w' v xs := Sl.ext h he fun _ _ h => h
theorem SlI.ext {w w' : World} {v : Value} {xs : List Int} (h : SlI w v xs) (he : Ext w w') : SlI w' v xs := Sl.ext h he fun _ _ h => h
theorem SlF.ext {p : Nat} {w w' : World} {v : Value} {xs : List (Fin p)} (h : SlF w v xs) (he : Ext w w') : SlF w' v xs := Sl.ext h he fun _ _ h => h
theorem SlF.at {p : Nat} {w : World} {v : Value} {xs : List (Fin p)} (h : SlF w v xs) :
    ∃ A c, v = .slice A xs.length c ∧ xs.length ≤ c ∧ ∀ i (h : i < xs.length), ∃ ad, A = some ad ∧ w.cell? (ad.add i) = some (.int .u64 (xs[i].val : Nat)) := by
  obtain ⟨A, c, rfl, h1, h3⟩ := h
  exact ⟨A, c, rfl, h1, fun i hi => let ⟨ad, u, ha, hc, hr⟩ := h3 i hi; ⟨ad, ha, by rw [hc, hr]⟩⟩
theorem SlU.at {w : World} {v : Value} {xs : List Nat} (h : SlU w v xs) :
    ∃ A c, v = .slice A xs.length c ∧ xs.length ≤ c ∧ ∀ i (h : i < xs.length), ∃ ad, A = some ad ∧ w.cell? (ad.add i) = some (.int .u64 (xs[i] : Nat)) := by
  obtain ⟨A, c, rfl, h1, h3⟩ := h
  exact ⟨A, c, rfl, h1, fun i hi => let ⟨ad, u, ha, hc, hr⟩ := h3 i hi; ⟨ad, ha, by rw [hc, hr]⟩⟩
theorem SlI.at {w : World} {v : Value} {xs : List Int} (h : SlI w v xs) :
    ∃ A c, v = .slice A xs.length c ∧ xs.length ≤ c ∧ ∀ i (h : i < xs.length), ∃ ad, A = some ad ∧ w.cell? (ad.add i) = some (.int .i64 xs[i]) := by
  obtain ⟨A, c, rfl, h1, h3⟩ := h
  exact ⟨A, c, rfl, h1, fun i hi => let ⟨ad, u, ha, hc, hr⟩ := h3 i hi; ⟨ad, ha, by rw [hc, hr]⟩⟩
theorem SlF.of_U {p : Nat} {w : World} {v : Value} {xs : List Nat} (h : SlU w v xs) (hx : ∀ x ∈ xs, x < p) : ∃ ys : List (Fin p), ys.map (·.val) = xs ∧ SlF w v ys := by
  refine ⟨xs.attach.map fun x => ⟨x.1, hx x.1 x.2⟩, by simp [List.map_map, Function.comp_def], ?_⟩
  obtain ⟨A, c, rfl, h1, h3⟩ := h
  refine ⟨A, c, by simp, by simpa using h1, fun i hi => ?_⟩
  obtain ⟨ad, u, ha, hc, hr⟩ := h3 i (by simpa using hi)
  exact ⟨ad, u, ha, hc, by simpa [RF, RU] using hr⟩

/-! ### rows of a call's own -/
def encF {p : Nat} (xs : List (Fin p)) : List Value := xs.map fun x => Value.int .u64 (x.val : Nat)
def encU (xs : List Nat) : List Value := xs.map fun x => Value.int .u64 (x : Nat)
def encI (xs : List Int) : List Value := xs.map fun x => Value.int .i64 x
theorem own_sl {α : Type} {R : World → Value → α → Prop} {w : World} {base : Nat} {e : TypeId} {v : Value} {us : List Value} {xs : List α} (h : w.ownsRow base e 1 v xs.length us)
    (hR : ∀ i (h : i < xs.length), ∃ u, us[i]? = some u ∧ R w u xs[i]) : Sl R w v xs := by
  obtain ⟨h1, h2⟩ := h
  rcases h2 with ⟨rfl, hn⟩ | ⟨g, cap, cur, rfl, hb, hg, hn, hm, hs, ht⟩
  · exact ⟨none, 0, by rw [hn], by omega, fun i hi => by omega⟩
  · refine ⟨_, cap, rfl, hn, fun i hi => ?_⟩
    obtain ⟨u, hu, hr⟩ := hR i hi
    refine ⟨_, u, rfl, ?_, hr⟩
    exact World.ownsRow.cells (base := base) (e := e) (size := 1) (n := xs.length) (xs := us) ⟨h1, .inr ⟨g, cap, cur, rfl, hb, hg, hn, hm, hs, ht⟩⟩ rfl i u hu
theorem own_slF {p : Nat} {w : World} {base : Nat} {e : TypeId} {v : Value} {xs : List (Fin p)} (h : w.ownsRow base e 1 v xs.length (encF xs)) : SlF w v xs :=
  own_sl h fun i hi => ⟨.int .u64 (xs[i].val : Nat), by simp [encF, hi], rfl⟩
theorem own_slU {w : World} {base : Nat} {e : TypeId} {v : Value} {xs : List Nat} (h : w.ownsRow base e 1 v xs.length (encU xs)) : SlU w v xs :=
  own_sl h fun i hi => ⟨.int .u64 (xs[i] : Nat), by simp [encU, hi], rfl⟩
theorem own_slI {w : World} {base : Nat} {e : TypeId} {v : Value} {xs : List Int} (h : w.ownsRow base e 1 v xs.length (encI xs)) : SlI w v xs :=
  own_sl h fun i hi => ⟨.int .i64 xs[i], by simp [encI, hi], rfl⟩

/-- the steps' relation in a region: the first c0 - 1 active operations only make memory -/
def EW (c0 : Nat) (k : Nat) (x y : World) : Prop := k < c0 → Ext x y
theorem reach_ext {c0 b c : Nat} {w w' : World} (h : Reach (EW c0) b c w w') (hc : c ≤ c0) : Ext w w' :=
  h Ext Ext.refl (fun _ _ _ h k => Ext.trans h k) fun k x y _ hk he => he (by omega)

theorem info_parts {P : Program} {t : TypeId} {z : Option Value} {s b : Nat} (h : (P.info? t).map (fun i => (i.zero, i.size, i.bytes)) = some (z, s, b)) : ∃ i, P.info? t = some i ∧ i.zero = z ∧ i.size = s ∧ i.bytes = b := by
  cases hi : P.info? t with
  | none => rw [hi] at h; simp at h
  | some i =>
    rw [hi] at h
    simp at h
    exact ⟨i, rfl, h.1, h.2.1, h.2.2⟩
end Go.Proofs.Ytiokpaknhbfenaa
end
section
set_option linter.unusedVariables false
namespace Go.Proofs.Ytiokpaknhbfenaa
open Go.RowKit

/-! ### slice types -/
structure SliceTy (t e : TypeId) (size bytes : Nat) (z : Value) : Prop where
  und : Try.prog.underlying t = some (.slice e)
  info : ∃ i, Try.prog.info? e = some i ∧ i.zero = some z ∧ i.size = size ∧ i.bytes = bytes
  zs : z.cells.size = size
  pos : 0 < size
  by8 : bytes ≤ 200
theorem tyU : SliceTy 23 22 1 8 (.int .u64 0) := ⟨Try.underlying23, info_parts (by kernel_rfl), rfl, by omega, by omega⟩
theorem tyM : SliceTy 40 23 1 24 (.slice none 0 0) := ⟨Try.underlying40, info_parts (by kernel_rfl), rfl, by omega, by omega⟩

/-- what is appended: m elements that lie at x -/
def Src (w : World) (size : Nat) (x : Value) (m : Nat) (news : List Value) : Prop :=
  ∃ A c, x = .slice A m c ∧ (A = none → m = 0) ∧ news.length = m * size ∧ (∀ u ∈ news, u.oneCell' = true) ∧ ∀ ad, A = some ad → ∀ j u, news[j]? = some u → w.cell? (ad.add j) = some u
theorem Src.nil (w : World) (size : Nat) : Src w size (.slice none 0 0) 0 [] := ⟨none, 0, rfl, fun _ => rfl, by simp, by simp, fun _ h => by cases h⟩
theorem Src.ext {w w' : World} {size : Nat} {x : Value} {m : Nat} {news : List Value} (h : Src w size x m news) (he : Ext w w') : Src w' size x m news := by
  obtain ⟨A, c, h1, h2, h3, h4, h5⟩ := h
  exact ⟨A, c, h1, h2, h3, h4, fun ad ha j u hu => he.cell (h5 ad ha j u hu)⟩
/-- a new block of one cell -/
theorem Src.one (w : World) (u : Value) (e : TypeId) (h : u.oneCell' = true) : Src (w.alloc (.cells #[u] e)) 1 (.slice (some ⟨w.heap.size, 0, none⟩) 1 1) 1 [u] := by
  refine ⟨_, _, rfl, (fun h => by cases h), by simp, by simpa using h, ?_⟩
  intro ad ha j v hj
  injection ha with ha
  subst ha
  cases j with
  | zero =>
    simp at hj; subst hj
    have hadd : (⟨w.heap.size, 0, none⟩ : Addr).add 0 = ⟨w.heap.size, 0, none⟩ := by unfold Addr.add; split <;> simp_all
    rw [hadd, cell_of_row (w.alloc (.cells #[u] e)) w.heap.size 0 #[u] e (0, 0) (heap_alloc_new w _)]
    rfl
  | succ j => simp at hj
/-- the elements of a slice that is read -/
theorem Src.of_sl {α : Type} {R : World → Value → α → Prop} {w : World} {v : Value} {xs : List α} {us : List Value} (h : Sl R w v xs) (hl : us.length = xs.length)
    (h1 : ∀ u ∈ us, u.oneCell' = true) (hu : ∀ i (hi : i < xs.length) u, R w u xs[i] → us[i]? = some u) : Src w 1 v xs.length us := by
  obtain ⟨A, c, rfl, h2, h4⟩ := h
  refine ⟨A, c, rfl, fun ha => ?_, by simpa using hl, h1, ?_⟩
  · subst ha
    rcases Nat.eq_zero_or_pos xs.length with h | h
    · exact h
    · obtain ⟨ad, u, h, _⟩ := h4 0 h; cases h
  · intro ad ha j u hj
    subst ha
    have hjl : j < xs.length := by rw [← hl]; exact (List.getElem?_eq_some_iff.1 hj).1
    obtain ⟨ad', u', ha', hc, hr⟩ := h4 j hjl
    injection ha' with ha'
    subst ha'
    rw [hu j hjl u' hr] at hj
    injection hj with hj
    rw [← hj]; exact hc
theorem Src.of_slF {p : Nat} {w : World} {v : Value} {xs : List (Fin p)} (h : SlF w v xs) : Src w 1 v xs.length (encF xs) :=
  Src.of_sl h (by simp [encF]) (by simp [encF, Value.oneCell']) fun i hi u hr => by simp [encF, hi]; exact hr.symm
theorem Src.of_slU {w : World} {v : Value} {xs : List Nat} (h : SlU w v xs) : Src w 1 v xs.length (encU xs) :=
  Src.of_sl h (by simp [encU]) (by simp [encU, Value.oneCell']) fun i hi u hr => by simp [encU, hi]; exact hr.symm

theorem encF_append {p : Nat} (a b : List (Fin p)) : encF (a ++ b) = encF a ++ encF b := by simp [encF]
theorem encF_length {p : Nat} (a : List (Fin p)) : (encF a).length = a.length := by simp [encF]
theorem encF_set {p : Nat} (a : List (Fin p)) (i : Nat) (x : Fin p) : (encF a).set i (.int .u64 (x.val : Nat)) = encF (a.set i x) := by simp [encF, List.map_set]
theorem encF_replicate {p : Nat} [NeZero p] (n : Nat) : List.replicate n (Value.int .u64 0) = encF (List.replicate n (0 : Fin p)) := by simp [encF]
theorem encU_append (a b : List Nat) : encU (a ++ b) = encU a ++ encU b := by simp [encU]
theorem encI_append (a b : List Int) : encI (a ++ b) = encI a ++ encI b := by simp [encI]
/-- rows of another type lie elsewhere -/
theorem own_ne {w : World} {base : Nat} {e : TypeId} {size : Nat} {v : Value} {n : Nat} {xs : List Value} (h : w.ownsRow base e size v n xs) {g : Nat} {cs : Array Value} {T : TypeId} {fr : Nat × Nat}
    (hg : w.heap[g]? = some (.cells cs T fr)) (hne : T ≠ e) : v.ownBlock = none ∨ v.ownBlock ≠ some g := by
  rcases h.2 with ⟨rfl, _⟩ | ⟨k, cap, cur, rfl, _, hk, _⟩
  · exact .inl rfl
  · refine .inr fun hkg => ?_
    have : k = g := by simpa [Value.ownBlock] using hkg
    subst this
    rw [hk] at hg
    injection hg with hg
    injection hg with _ ht _
    exact hne ht.symm
theorem own_mono {w : World} {base base' : Nat} {e : TypeId} {size : Nat} {v : Value} {n : Nat} {xs : List Value} (h : w.ownsRow base e size v n xs) (hb : base' ≤ base) : w.ownsRow base' e size v n xs := by
  refine ⟨h.1, ?_⟩
  rcases h.2 with h2 | ⟨g, cap, cur, h1, h2, h3⟩
  · exact .inl h2
  · exact .inr ⟨g, cap, cur, h1, by omega, h3⟩
theorem own_ext {w w' : World} {base : Nat} {e : TypeId} {size : Nat} {v : Value} {n : Nat} {xs : List Value} (h : w.ownsRow base e size v n xs) (he : Ext w w') : w'.ownsRow base e size v n xs :=
  h.kept (row := none) ⟨he.os, he.tape, he.output, he.size, fun k hk _ => Below.block he k hk⟩ (by cases v.ownBlock <;> simp)
theorem grown_setCell (w : World) (a : Addr) (u : Value) : w.grownBy (w.setCell a u) (some a.block) :=
  ⟨rfl, rfl, rfl, by simp [World.setCell], fun k _ hk => heap_setCell_other w a k u (fun e => hk (by simp [e]))⟩

/-! ### append -/
theorem run_append_nothing {P : Program} (w : World) (base : Nat) (t ty e : TypeId) (i : TypeInfo) (size c : Nat) (ht : P.underlying t = some (.slice e)) (hi : P.info? e = some i)
    (v : Value) (n : Nat) (xs : List Value) (hown : w.ownsRow base e size v n xs) :
    (Builtin.append_ #[t, t] ty #[v, .slice none 0 c]).run P w = .ok v w := by
  rcases hown.2 with ⟨rfl, rfl⟩ | ⟨g, cap, cur, rfl, _, _, hnc, _⟩
  · simp [Builtin.append_, run_underlying ht, sizeOf, typeInfo, hi, Builtin.lenOf, Builtin.firstCells]
  · simp [Builtin.append_, run_underlying ht, sizeOf, typeInfo, hi, Builtin.lenOf, Builtin.firstCells, hnc, storeCells]
theorem run_app {t e : TypeId} {size bytes : Nat} {z : Value} (T : SliceTy t e size bytes z) (base : Nat) {w : World} {v : Value} {n : Nat} {xs : List Value} (hown : w.ownsRow base e size v n xs) {x : Value} {m : Nat} {news : List Value}
    (hsrc : Src w size x m news) (hn : n + m ≤ 100000000) (hbase : base ≤ w.heap.size) (ty : TypeId) :
    ∃ v' w', (Builtin.append_ #[t, t] ty #[v, x]).run Try.prog w = .ok v' w' ∧ w'.ownsRow base e size v' (n + m) (xs ++ news) ∧ w.grownBy w' v.ownBlock := by
  obtain ⟨i, hi, hz, hs, hb⟩ := T.info
  obtain ⟨A, c, rfl, h2, h3, h4, h5⟩ := hsrc
  have hbytes : (n + m) * bytes ≤ 140737488355328 := by
    calc (n + m) * bytes ≤ 100000000 * 200 := Nat.mul_le_mul hn T.by8
      _ ≤ 140737488355328 := by omega
  cases A with
  | none =>
    obtain rfl := h2 rfl
    have : news = [] := List.eq_nil_of_length_eq_zero (by omega)
    subst this
    refine ⟨v, w, run_append_nothing w base t ty e i size c T.und hi v n xs hown, by simpa using hown, ⟨rfl, rfl, rfl, Nat.le_refl _, fun _ _ _ => rfl⟩⟩
  | some ad =>
    obtain ⟨v', w', h6, h7, h8, _⟩ := run_append_own (P := Try.prog) w base t ty e i z size bytes T.und hi hz hs hb T.zs T.pos v n xs hown ad m c news h3 (h5 ad rfl) h4 (by unfold maxLen; omega) hbytes hbase
    exact ⟨v', w', h6, h7, h8⟩

/-- the walk stands still -/
def Hold (P : Prop) : Prop := P
theorem hold_append {P : Program} {ops : Array Oper} {rest : List Oper} {o : Oper} {a : Act} {Q : Exit → Act → World → Prop} {w : World} {xs : Array Operand} {ts : Array TypeId}
    (ho : o.op = .call { callee := .builtin .append, args := xs, argTypes := ts }) (h : Hold (wpList P ops Q (o :: rest) a w)) : wpList P ops Q (o :: rest) a w := h
theorem hold_make {P : Program} {ops : Array Oper} {rest : List Oper} {o : Oper} {a : Act} {Q : Exit → Act → World → Prop} {w : World} {t : TypeId} {x y : Operand}
    (ho : o.op = .makeSlice t x y) (h : Hold (wpList P ops Q (o :: rest) a w)) : wpList P ops Q (o :: rest) a w := h
theorem hold_store {P : Program} {ops : Array Oper} {rest : List Oper} {o : Oper} {a : Act} {Q : Exit → Act → World → Prop} {w : World} {t : TypeId} {x y : Operand}
    (ho : o.op = .store t x y) (h : Hold (wpList P ops Q (o :: rest) a w)) : wpList P ops Q (o :: rest) a w := h

theorem wpl_append {t e : TypeId} {size bytes : Nat} {z : Value} (T : SliceTy t e size bytes z) (base : Nat) {ops : Array Oper} {rest : List Oper} {o : Oper} {a : Act} {Q : Exit → Act → World → Prop} {w : World} {s x : Operand}
    {v xv : Value} {n m : Nat} {xs news : List Value}
    (hown : w.ownsRow base e size v n xs) (hsrc : Src w size xv m news) (hgd : o.guard = none) (ho : o.op = .call { callee := .builtin .append, args := #[s, x], argTypes := #[t, t] }) (hs : a.eval s = v) (hx : a.eval x = xv) (hn : n + m ≤ 100000000) (hbase : base ≤ w.heap.size)
    (h : ∀ v' w', w'.ownsRow base e size v' (n + m) (xs ++ news) → w.grownBy w' v.ownBlock → wpList Try.prog ops Q rest (a.put o.dst v') w') : Hold (wpList Try.prog ops Q (o :: rest) a w) :=
  wpList_plain hgd fun K hK => by
    obtain ⟨v', w', hr, h2, h3⟩ := run_app T base hown hsrc hn hbase o.type
    unfold Oper.wp execOp
    simp only [ho, resolve, invoke, builtin, Sem.run_bind, Sem.run_pure, Result.andThen_ok, List.map_toArray, List.map_cons, List.map_nil, hs, hx, hr]
    exact hK _ _ (h v' w' h2 h3)
theorem lex_append {t e : TypeId} {size bytes : Nat} {z : Value} (T : SliceTy t e size bytes z) (base : Nat) {ops : Array Oper} {rest : List Oper} {ms : List (Option (Nat × Nat))} {E : Nat → World → World → Prop} {o : Oper} {a : Act} {Q : Act → World → Prop} {st : Nat → World} {k : Nat} {w : World} {s x : Operand}
    {v xv : Value} {n m : Nat} {xs news : List Value}
    (hown : w.ownsRow base e size v n xs) (hsrc : Src w size xv m news) (hgd : o.guard = none) (ho : o.op = .call { callee := .builtin .append, args := #[s, x], argTypes := #[t, t] }) (hs : a.eval s = v) (hx : a.eval x = xv) (hn : n + m ≤ 100000000) (hbase : base ≤ w.heap.size)
    (h : ∀ v' w', w'.ownsRow base e size v' (n + m) (xs ++ news) → w.grownBy w' v.ownBlock → E (k + 1) w w' ∧ Lx Try.prog ops E Q rest ms (upd st (k + 1) w') (k + 1) (a.put o.dst v') w') :
    Lx Try.prog ops E Q (o :: rest) (none :: ms) st k a w := ⟨by
  obtain ⟨v', w', hr, h2, h3⟩ := run_app T base hown hsrc hn hbase o.type
  have hw : Region.wanted o (yielded ops a.tmps) = true := by unfold Region.wanted; rw [hgd]
  have h : ∀ v' w', w'.ownsRow base e size v' (n + m) (xs ++ news) → w.grownBy w' v.ownBlock → E (k + 1) w w' ∧ wpLex Try.prog ops E Q rest ms (upd st (k + 1) w') (k + 1) (a.put o.dst v') w' := fun v' w' h1 h2 => ⟨(h v' w' h1 h2).1, (h v' w' h1 h2).2.out⟩
  simp only [wpLex, hw, if_true]
  unfold Active execOp
  simp only [ho, resolve, invoke, builtin, Sem.run_bind, Sem.run_pure, Result.andThen_ok, List.map_toArray, List.map_cons, List.map_nil, hs, hx, hr]
  exact h v' w' h2 h3⟩

/-! ### make -/
theorem wpl_make {t e : TypeId} {bytes : Nat} {z : Value} (T : SliceTy t e 1 bytes z) (hz1 : z.cells = #[z]) (base : Nat) {ops : Array Oper} {rest : List Oper} {o : Oper} {a : Act} {Q : Exit → Act → World → Prop} {w : World} {x y : Operand}
    (hgd : o.guard = none) (ho : o.op = .makeSlice t x y) {kl kc : IntKind} (n : Nat) (hx : a.eval x = .int kl (n : Int)) (hy : a.eval y = .int kc (n : Int)) (hn : n ≤ 100000000) (hbase : base ≤ w.heap.size)
    (h : ∀ w', w'.ownsRow base e 1 (.slice (some ⟨w.heap.size, 0, none⟩) n n) n (List.replicate n z) → Ext w w' → wpList Try.prog ops Q rest (a.put o.dst (.slice (some ⟨w.heap.size, 0, none⟩) n n)) w') : Hold (wpList Try.prog ops Q (o :: rest) a w) :=
  wpList_plain hgd fun K hK => by
    obtain ⟨i, hi, hz, hs, hb⟩ := T.info
    have hbytes : i.bytes * n ≤ 281474976710656 := by
      rw [hb]
      calc bytes * n ≤ 200 * 100000000 := Nat.mul_le_mul T.by8 hn
        _ ≤ 281474976710656 := by omega
    obtain ⟨w', hr, h2, h3⟩ := run_make_full (P := Try.prog) w base t e i z 1 T.und hi hz hs kl kc n hbytes (by unfold maxLen; omega) hbase
    rw [hz1, Nat.mul_one, toList_madeCells_one] at h2
    unfold Oper.wp execOp
    simp only [ho, hx, hy, Sem.run_bind, hr, Result.andThen_ok]
    exact hK _ _ (h w' h2 ⟨h3.os, h3.tape, h3.output, h3.size, fun k hk => h3.block k hk (by simp)⟩)

/-! ### a store into a row of the call's own -/
theorem run_own_store {w : World} {base : Nat} {e : TypeId} {g cap n : Nat} {xs : List Value} (hown : w.ownsRow base e 1 (.slice (some ⟨g, 0, none⟩) n cap) n xs) (j : Nat) (hj : j < n) (u : Value) (hu : u.oneCell' = true) :
    w.cell? ⟨g, j, none⟩ = some (xs.getD j undef) ∧ w.frozen? ⟨g, j, none⟩ = false ∧ (w.setCell ⟨g, j, none⟩ u).ownsRow base e 1 (.slice (some ⟨g, 0, none⟩) n cap) n (xs.set j u) ∧ w.grownBy (w.setCell ⟨g, j, none⟩ u) (some g) := by
  have hl := hown.1
  refine ⟨?_, World.ownsRow.frozenAt hown j, World.ownsRow.stored hown j u⟩
  have hj' : j < xs.length := by omega
  have h := World.ownsRow.cells hown (g := g) rfl j (xs.getD j undef) (by simp [hj'])
  have hadd : (⟨g, 0, none⟩ : Addr).add j = ⟨g, j, none⟩ := by unfold Addr.add; split <;> simp_all
  rwa [hadd] at h
end Go.Proofs.Ytiokpaknhbfenaa
end
