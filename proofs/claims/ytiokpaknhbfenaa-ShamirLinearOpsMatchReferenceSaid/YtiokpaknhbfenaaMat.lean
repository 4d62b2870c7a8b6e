/-
A part of this claim's proof (Mat): lemmas that the text of the law stands on.
-/
import Derived.Test.YtiokpaknhbfenaaInterpo
import Derived.Test.YtiokpaknhbfenaaWWords
import Derived.Test.YtiokpaknhbfenaaWApart
set_option linter.unusedVariables false
set_option linter.unusedSimpArgs false
namespace Go.Proofs.Ytiokpaknhbfenaa
open Go.RowKit
/-! ### a matrix of the call's own -/
def encZ (xs : List Int) : List Value := xs.map fun x => Value.int .u64 x
theorem encZ_set (l : List Int) (i : Nat) (x : Int) : (encZ l).set i (.int .u64 x) = encZ (l.set i x) := by simp [encZ, List.map_set]
theorem encZ_replicate (n : Nat) : List.replicate n (Value.int .u64 0) = encZ (List.replicate n 0) := by simp [encZ]
theorem own_setCell_ne2 {w : World} {base : Nat} {e : TypeId} {size : Nat} {v : Value} {n : Nat} {xs : List Value} (h : w.ownsRow base e size v n xs) {g j : Nat} (hne : ∀ q, v.ownBlock = some q → q ≠ g) (u : Value) : (w.setCell ⟨g, j, none⟩ u).ownsRow base e size v n xs := by
  refine h.kept (grown_setCell w ⟨g, j, none⟩ u) ?_
  cases hv : v.ownBlock with
  | none => exact .inl rfl
  | some q => exact .inr fun e => hne q hv (by simpa using e)
/-- The outer row (block g) has n places; the first k hold rows (block b i) of n words M i. -/
structure Mt (w : World) (B g n k : Nat) (b : Nat → Nat) (M : Nat → List Int) : Prop where
  outer : w.ownsRow B 23 1 (.slice (some ⟨g, 0, none⟩) n n) n ((List.range n).map fun i => if i < k then .slice (some ⟨b i, 0, none⟩) n n else .slice none 0 0)
  row : ∀ i, i < k → w.ownsRow B 22 1 (.slice (some ⟨b i, 0, none⟩) n n) n (encZ (M i))
  apart : ∀ i j, i < j → j < k → b i ≠ b j
  sep : ∀ i, i < k → b i ≠ g
theorem Mt.base {w : World} {B g n k : Nat} {b : Nat → Nat} {M : Nat → List Int} (h : Mt w B g n k b M) : B ≤ g ∧ g < w.heap.size := h.outer.lt g rfl
theorem Mt.base_row {w : World} {B g n k : Nat} {b : Nat → Nat} {M : Nat → List Int} (h : Mt w B g n k b M) {i : Nat} (hi : i < k) : B ≤ b i ∧ b i < w.heap.size := (h.row i hi).lt _ rfl
theorem Mt.ext {w w' : World} {B g n k : Nat} {b : Nat → Nat} {M : Nat → List Int} (h : Mt w B g n k b M) (he : Ext w w') : Mt w' B g n k b M :=
  ⟨own_ext h.outer he, fun i hi => own_ext (h.row i hi) he, h.apart, h.sep⟩
theorem Mt.cell {w : World} {B g n k : Nat} {b : Nat → Nat} {M : Nat → List Int} (h : Mt w B g n k b M) {i : Nat} (hi : i < k) (hn : i < n) : w.cell? ⟨g, i, none⟩ = some (.slice (some ⟨b i, 0, none⟩) n n) := by
  have h1 := (run_own_store h.outer i hn (.int .u64 0) rfl).1
  rw [h1]
  simp [hn, hi]
theorem Mt.get {w : World} {B g n k : Nat} {b : Nat → Nat} {M : Nat → List Int} (h : Mt w B g n k b M) {i j : Nat} (hi : i < k) (hj : j < n) : w.cell? ⟨b i, j, none⟩ = some (.int .u64 ((M i).getD j 0)) := by
  have h0 := h.row i hi
  have hl : (M i).length = n := by have := h0.1; simpa [encZ] using this
  have h1 := (run_own_store h0 j hj (.int .u64 0) rfl).1
  rw [h1]
  simp [encZ, hl, hj]
theorem Mt.frz {w : World} {B g n k : Nat} {b : Nat → Nat} {M : Nat → List Int} (h : Mt w B g n k b M) {i j : Nat} (hi : i < k) (hj : j < n) : w.frozen? ⟨b i, j, none⟩ = false := (run_own_store (h.row i hi) j hj (.int .u64 0) rfl).2.1
theorem Mt.set {w : World} {B g n k : Nat} {b : Nat → Nat} {M : Nat → List Int} (h : Mt w B g n k b M) {i j : Nat} (hi : i < k) (hj : j < n) (x : Int) :
    Mt (w.setCell ⟨b i, j, none⟩ (.int .u64 x)) B g n k b (fun r => if r = i then (M i).set j x else M r) := by
  refine ⟨own_setCell_ne2 h.outer (fun q hq => ?_) _, fun r hr => ?_, h.apart, h.sep⟩
  · have : g = q := by simpa [Value.ownBlock] using hq
    subst this
    exact (h.sep i hi).symm
  · by_cases hri : r = i
    · subst hri
      rw [if_pos rfl]
      have h1 := (run_own_store (h.row r hr) j hj (.int .u64 x) rfl).2.2.1
      rwa [encZ_set] at h1
    · rw [if_neg hri]
      refine own_setCell_ne2 (h.row r hr) (fun q hq => ?_) _
      have : b r = q := by simpa [Value.ownBlock] using hq
      subst this
      rcases Nat.lt_or_gt_of_ne hri with h1 | h1
      · exact h.apart r i h1 hi
      · exact (h.apart i r h1 hr).symm
/-- A new row, put into place k. -/
theorem Mt.push {w w1 : World} {B g n k : Nat} {b : Nat → Nat} {M : Nat → List Int} (h : Mt w B g n k b M) (he : Ext w w1) {q : Nat} {xs : List Int} (hq : w.heap.size ≤ q) (hr : w1.ownsRow B 22 1 (.slice (some ⟨q, 0, none⟩) n n) n (encZ xs)) (hk : k < n) :
    Mt (w1.setCell ⟨g, k, none⟩ (.slice (some ⟨q, 0, none⟩) n n)) B g n (k + 1) (fun i => if i = k then q else b i) (fun i => if i = k then xs else M i) := by
  have hg := h.base
  have h1 := h.ext he
  refine ⟨?_, fun i hi => ?_, fun i j hij hj => ?_, fun i hi => ?_⟩
  · have h2 := (run_own_store h1.outer k hk (.slice (some ⟨q, 0, none⟩) n n) rfl).2.2.1
    have e : ((List.range n).map fun i => if i < k + 1 then (Value.slice (some ⟨if i = k then q else b i, 0, none⟩) n n) else .slice none 0 0) = (((List.range n).map fun i => if i < k then (Value.slice (some ⟨b i, 0, none⟩) n n) else .slice none 0 0)).set k (.slice (some ⟨q, 0, none⟩) n n) := by
      refine List.ext_getElem (by simp) fun i h3 h4 => ?_
      simp only [List.getElem_map, List.getElem_range, List.getElem_set]
      by_cases hik : i = k
      · subst hik; simp
      · rw [if_neg hik, if_neg (Ne.symm hik)]
        by_cases hlt : i < k
        · rw [if_pos (by omega), if_pos hlt]
        · rw [if_neg (by omega), if_neg hlt]
    rw [e]
    exact h2
  · by_cases hik : i = k
    · subst hik
      simp only [if_true]
      exact own_setCell_ne2 hr (fun r hr' => by
        have : q = r := by simpa [Value.ownBlock] using hr'
        omega) _
    · simp only [if_neg hik]
      have hi2 : i < k := by omega
      exact own_setCell_ne2 (h1.row i hi2) (fun r hr' => by
        have : b i = r := by simpa [Value.ownBlock] using hr'
        have := h.sep i hi2
        omega) _
  · have hi' : i ≠ k := by omega
    simp only [if_neg hi']
    by_cases hjk : j = k
    · rw [if_pos hjk]
      have := (h.base_row (i := i) (by omega)).2
      omega
    · rw [if_neg hjk]; exact h.apart i j hij (by omega)
  · by_cases hik : i = k
    · simp only [if_pos hik]; omega
    · simp only [if_neg hik]; exact h.sep i (by omega)
theorem Mt.start {w1 : World} {B g n : Nat} (hr : w1.ownsRow B 23 1 (.slice (some ⟨g, 0, none⟩) n n) n (List.replicate n (.slice none 0 0))) : Mt w1 B g n 0 (fun _ => 0) (fun _ => []) := by
  refine ⟨?_, fun i hi => absurd hi (Nat.not_lt_zero _), fun i j h1 h2 => absurd h2 (Nat.not_lt_zero _), fun i hi => absurd hi (Nat.not_lt_zero _)⟩
  have e : ((List.range n).map fun i => if i < 0 then (Value.slice (some ⟨0, 0, none⟩) n n) else .slice none 0 0) = List.replicate n (.slice none 0 0) := by
    refine List.ext_getElem (by simp) fun i h3 h4 => ?_
    simp
  rw [e]; exact hr
open Go.Proofs.YtiokpaknhbfenaaW.PrintWords in
theorem Mt.R {w : World} {B g n : Nat} {b : Nat → Nat} {M : Nat → List Int} (h : Mt w B g n n b M) :
    Kd.R (Kd.slice 22 (Kd.int .u64)) 23 w B (fun _ => True) (.slice (some ⟨g, 0, none⟩) n n) ((List.range n).map M) := by
  refine ⟨fun _ _ => trivial, (List.range n).map (fun i => if i < n then Value.slice (some ⟨b i, 0, none⟩) n n else .slice none 0 0), ?_, by simp [Kd.slice], fun j p hj => ?_⟩
  · have h1 := h.outer
    rw [List.length_map, List.length_range]
    exact h1
  · obtain ⟨hjl, rfl⟩ := List.getElem?_eq_some_iff.1 hj
    have hjn : j < n := by simpa using hjl
    have h0 := h.row j hjn
    have hl : (M j).length = n := by have := h0.1; simpa [encZ] using this
    refine ⟨.slice (some ⟨b j, 0, none⟩) n n, ?_, ?_⟩
    · simp only [Kd.slice, Nat.mul_one]
      rw [List.drop_eq_getElem_cons (by simpa using hjn)]
      simp [hjn]
    · have h2 : (M j).length = n := hl
      have h3 : Kd.R (Kd.int .u64) 22 w B (fun k => True ∧ some k ≠ (Value.slice (some ⟨g, 0, none⟩) n n).ownBlock) (.slice (some ⟨b j, 0, none⟩) n n) (M j) := by
        refine Kd.R_of_own ?_ (fun k hk => ?_)
        · rw [h2]; simpa [encZ, encs] using h0
        · have : b j = k := by simpa [Value.ownBlock] using hk
          subst this
          exact ⟨trivial, fun e => h.sep j hjn (by simpa [Value.ownBlock] using e)⟩
      simpa using h3
open Go.Proofs.YtiokpaknhbfenaaW.PrintWords in
open Classical in
theorem Mt.S {w : World} {B g n : Nat} {b : Nat → Nat} {M : Nat → List Int} (h : Mt w B g n n b M) :
    Kd.S (Kd.slice 22 (Kd.int .u64)) 23 w B (fun _ => True) (.slice (some ⟨g, 0, none⟩) n n) ((List.range n).map M) := by
  have hf : ∃ f : Nat → Nat, ∀ i, i < n → f (b i) = i := by
    refine ⟨fun q => if hq : ∃ i, i < n ∧ b i = q then Classical.choose hq else 0, fun i hi => ?_⟩
    have hq : ∃ i', i' < n ∧ b i' = b i := ⟨i, hi, rfl⟩
    simp only [dif_pos hq]
    obtain ⟨h1, h2⟩ := Classical.choose_spec hq
    rcases Nat.lt_trichotomy (Classical.choose hq) i with h3 | h3 | h3
    · exact absurd h2 (h.apart _ _ h3 hi)
    · exact h3
    · exact absurd h2.symm (h.apart _ _ h3 h1)
  obtain ⟨f, hf⟩ := hf
  refine ⟨f, fun _ _ => trivial, (List.range n).map (fun i => if i < n then Value.slice (some ⟨b i, 0, none⟩) n n else .slice none 0 0), ?_, by simp [Kd.slice, Kd.tag], fun j p hj => ?_⟩
  · have h1 := h.outer
    rw [List.length_zipIdx, List.length_map, List.length_range]
    exact h1
  · have hjn : j < n := by
      have := (List.getElem?_eq_some_iff.1 hj).1
      simpa using this
    have hp : p = (M j, j) := by
      have h1 : ((List.range n).map M)[j]? = some (M j) := by simp [hjn]
      have h2 := Kd.zip_at h1
      rw [h2] at hj
      exact (Option.some.inj hj).symm
    subst hp
    have h0 := h.row j hjn
    have hl : (M j).length = n := by have := h0.1; simpa [encZ] using this
    refine ⟨.slice (some ⟨b j, 0, none⟩) n n, ?_, ?_⟩
    · simp only [Kd.slice, Kd.tag, Nat.mul_one]
      rw [List.drop_eq_getElem_cons (by simpa using hjn)]
      simp [hjn]
    · refine Kd.R_of_own ?_ (fun k hk => ?_)
      · rw [hl]; simpa [encZ, encs] using h0
      · have : b j = k := by simpa [Value.ownBlock] using hk
        subst this
        exact ⟨⟨trivial, fun e => h.sep j hjn (by simpa [Value.ownBlock] using e)⟩, hf j hjn⟩
end Go.Proofs.Ytiokpaknhbfenaa
