/-
A part of this claim's proof (Ref04): lemmas that the text of the law stands on.
-/
import Derived.Test.YtiokpaknhbfenaaPolyGo
set_option linter.unusedVariables false
set_option linter.unusedSimpArgs false
namespace Go.Proofs.Ytiokpaknhbfenaa
open Go.RowKit
def utrim : List Nat → List Nat
  | [] => []
  | a :: l => match utrim l with
    | [] => if a = 0 then [] else [a]
    | b :: m => a :: b :: m
theorem utrim_take (xs : List Nat) : ∀ k, k ≤ xs.length → (∀ j, k ≤ j → xs.getD j 0 = 0) → (k = 0 ∨ xs.getD (k - 1) 0 ≠ 0) → utrim xs = xs.take k := by
  induction xs with
  | nil => intro k hk _ _; simp [utrim]
  | cons a l ih =>
    intro k hk hz hl
    cases k with
    | zero =>
      have h1 := ih 0 (Nat.zero_le _) (fun j _ => by have := hz (j + 1) (Nat.zero_le _); simpa using this) (.inl rfl)
      have h2 := hz 0 (Nat.le_refl _)
      simp at h2
      unfold utrim; rw [h1]; simp [h2]
    | succ k =>
      have hz' : ∀ j, k ≤ j → l.getD j 0 = 0 := fun j hj => by have := hz (j + 1) (by omega); simpa using this
      have hk' : k ≤ l.length := by simpa using hk
      cases k with
      | zero =>
        have h1 := ih 0 (Nat.zero_le _) hz' (.inl rfl)
        have h2 : a ≠ 0 := by rcases hl with h | h; · omega
                              · simpa using h
        unfold utrim; rw [h1]; simp [h2]
      | succ k =>
        have h1 := ih (k + 1) hk' hz' (.inr (by rcases hl with h | h; · omega
                                                · simpa using h))
        unfold utrim; rw [h1]
        cases l with
        | nil => simp at hk'
        | cons b l => simp
theorem utrim_map {n : Nat} [NeZero n] (f : List (Fin n)) : utrim (f.map (·.val)) = (ptrim f).map (·.val) := by
  induction f with
  | nil => rfl
  | cons a l ih =>
    rw [List.map_cons]
    unfold utrim ptrim
    rw [ih]
    cases h : ptrim l with
    | nil =>
      by_cases ha : a = 0
      · subst ha; simp [zero_val]
      · have : a.val ≠ 0 := fun e => ha (Fin.ext (by rw [zero_val]; exact e))
        simp [ha, this]
    | cons b t => simp
theorem utrim_length_le (xs : List Nat) : (utrim xs).length ≤ xs.length := by
  induction xs with
  | nil => simp [utrim]
  | cons a l ih =>
    unfold utrim
    split
    · split <;> simp
    · rename_i b t h; rw [h] at ih; simp at ih ⊢; omega
set_option maxRecDepth 4000 in
set_option maxHeartbeats 1000000 in
theorem rTrim_calls {v : Value} {xs : List Nat} (w : World) (hf : SlU w v xs) (hlen : xs.length ≤ 1000000) :
    Calls Try.prog 73 #[v] w (Rets w fun w' r => w'.ownsRow w.heap.size 22 1 r (utrim xs).length (encU (utrim xs))) := by
  obtain ⟨A, c, rfl, hc, hcell⟩ := hf.at
  have HC := Hd.mk hcell
  have HF := Hd.mk hf
  clear hf hcell
  go_enter Try.func73, Try.ntmps73
  go_wp2_with fail
  go_loop [3] (fun i => ∃ k : Nat, k ≤ xs.length ∧ i = .int .i64 (k : Int) ∧ Hd (∀ j, k ≤ j → xs.getD j 0 = 0)) (fun i => (intOf i).toNat)
  case atStart => exact ⟨xs.length, Nat.le_refl _, rfl, ⟨fun j hj => by simp [hj]⟩⟩
  case round =>
    obtain ⟨k, hk, rfl, hz⟩ := hrel
    have hend : (k = 0 ∨ xs.getD (k - 1) 0 ≠ 0) → Hd (utrim xs = xs.take k) := fun h => ⟨utrim_take xs k hk hz.out h⟩
    have hsrc : Hd (Src (w.alloc (.cells #[] 22)) 1 (.slice A k c) k (encU (xs.take k))) := ⟨by
      refine ⟨A, c, rfl, fun h => ?_, by simp [encU]; omega, fun u hu => by (obtain ⟨x, _, rfl⟩ := List.mem_map.1 hu; rfl), fun ad ha j u hu => ?_⟩
      · subst h
        rcases Nat.eq_zero_or_pos k with h | h
        · exact h
        · obtain ⟨ad, h, _⟩ := HC.out 0 (by omega); cases h
      · subst ha
        have hjl : j < k := by have := (List.getElem?_eq_some_iff.1 hu).1; simp [encU] at this; omega
        obtain ⟨ad', h1, h2⟩ := HC.out j (by omega)
        injection h1 with h1
        subst h1
        have := (Ext.of_alloc w (.cells #[] 22)).cell h2
        rw [this, ← hu]
        simp [encU, hjl, show j < xs.length by omega]⟩
    have hown0 : (w.alloc (.cells #[] 22)).ownsRow w.heap.size 22 1 (.slice (some ⟨w.heap.size, 0, none⟩) 0 0) 0 [] := World.ownsRow_lit w #[] 0 (Nat.le_refl _) (by unfold maxLen; omega) (by simp)
    have hlt : (xs.take k).length = k := by rw [List.length_take]; omega
    by_cases h0 : k = 0
    · subst h0
      have he := hend (.inl rfl)
      go_wp2_with (with_reducible first | refine hold_append rfl ?_ | refine hold_make rfl ?_)
      refine wpl_append tyU w.heap.size hown0 hsrc.out (by rfl) (by rfl) (by rfl) (by rfl) (by omega) ((by simp)) ?_
      intro v1 w1 hown hg
      rw [Nat.zero_add, List.nil_append] at hown
      have hE := (Ext.of_alloc w (.cells #[] 22)).grown hg (fun q hq => by simp [Value.ownBlock] at hq; omega)
      go_wp2_with fail
      go_ret
      exact ⟨_, rfl, by rw [he.out, hlt]; exact hown, hE⟩
    · obtain ⟨k, rfl⟩ : ∃ j, k = j + 1 := ⟨k - 1, by omega⟩
      clear h0
      obtain ⟨ad, rfl, hcj⟩ := HC.out k (by omega)
      have hg : xs.getD k 0 = xs[k]'(by omega) := by simp [show k < xs.length by omega]
      have hcase : ((((xs[k]'(by omega) : Nat) : Int) == 0) = true ∧ Hd (∀ j, k ≤ j → xs.getD j 0 = 0)) ∨ ((((xs[k]'(by omega) : Nat) : Int) == 0) = false ∧ Hd (utrim xs = xs.take (k + 1))) := by
        by_cases h : xs[k]'(by omega) = 0
        · refine .inl ⟨by simp [h], ⟨fun j hj => ?_⟩⟩
          by_cases hjk : j = k
          · subst hjk; rw [hg]; exact h
          · exact hz.out j (by omega)
        · exact .inr ⟨by simp; omega, hend (.inr (by rw [Nat.add_sub_cancel, hg]; exact h))⟩
      have hin1 : (0 : Int) < (k : Int) + 1 := by omega
      have hin2 : (k : Int) + 1 - 1 = (k : Int) := by omega
      have hin3 : (0 : Int) ≤ (k : Int) := by omega
      have hin4 : (k : Int) < (xs.length : Int) := by omega
      have hin5 : decide ((0 : Int) < (k : Int) + 1) = true := by simp <;> omega
      generalize xs[k]'(by omega) = y at *
      rcases hcase with ⟨hb, hz2⟩ | ⟨hb, he⟩
      · go_wp2_with fail
        go_round
        case rel => exact ⟨k, by omega, by go_num, hz2⟩
        case measure => simp [intOf] <;> omega
      · go_wp2_with (with_reducible first | refine hold_append rfl ?_ | refine hold_make rfl ?_)
        refine wpl_append tyU w.heap.size hown0 hsrc.out (by rfl) (by rfl) (by rfl) (by rfl) (by omega) ((by simp)) ?_
        intro v1 w1 hown hgr
        rw [Nat.zero_add, List.nil_append] at hown
        have hE := (Ext.of_alloc w (.cells #[] 22)).grown hgr (fun q hq => by simp [Value.ownBlock] at hq; omega)
        go_wp2_with fail
        go_ret
        exact ⟨_, rfl, by rw [he.out, hlt]; exact hown, hE⟩
end Go.Proofs.Ytiokpaknhbfenaa
