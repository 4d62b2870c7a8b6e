/-
What a law's argument, however deep, tells: each value that the statement reads at a type is a thing of that type's kind.
-/
import Derived.Test.YtiokpaknhbfenaaWWords
import Derived.OpenShut
import Derived.ChangeOld
import Derived.ShutString
namespace Go.Proofs.Ytiokpaknhbfenaa.Open
open Go.ChangeShapes Go.WideShapes Go.RowKit Go.Proofs.YtiokpaknhbfenaaW.PrintWords
/-- What is read of a value of type t tells a thing of kind d that is ok. -/
def Opn {α : Type} (P : Program) (t : TypeId) (d : Kd α) (ok : α → Prop) : Prop :=
  ∀ (H : Type) (enc : TypeId × Value → H) (w : World) (base : Nat) (spare : Nat → Bool) (held : Bool) (fuel : Nat) (cs : List Value) (x : DataW H × List MemPlace), DataW.trod enc P w base spare held fuel t cs = some x → ∃ y, d.K w y cs ∧ ok y
/-- The same of a struct's fields from an offset on. -/
def OpnF {α : Type} (P : Program) (fs : List Field) (off : Nat) (d : Kd α) (ok : α → Prop) : Prop :=
  ∀ (H : Type) (enc : TypeId × Value → H) (w : World) (base : Nat) (spare : Nat → Bool) (held : Bool) (fuel : Nat) (cs : List Value), cs.length = off + d.sz →
    (∀ (i : Nat) (f : Field), fs[i]? = some f → ∃ x, DataW.trod enc P w base spare held fuel f.type ((cs.drop f.offset).take (P.cellsOf f.type)) = some x) → ∃ y, d.K w y (cs.drop off) ∧ ok y
variable {α β : Type} {P : Program} {t e : TypeId}
theorem opn_int {k : IntKind} (ht : P.underlying t = some (.int k)) : Opn P t (Kd.int k) (fun n => (Lit.int k n).wf = true) := by
  intro H enc w base spare held fuel cs x h
  obtain ⟨n, rfl, _, hw⟩ := DataW.trod_int ht h
  exact ⟨n, rfl, hw⟩
theorem opn_bool (ht : P.underlying t = some .bool) : Opn P t Kd.bool (fun _ => True) := by
  intro H enc w base spare held fuel cs x h
  obtain ⟨b, rfl, _⟩ := DataW.trod_bool ht h
  exact ⟨b, rfl, trivial⟩
theorem opn_slice {e' : Nat} {d : Kd α} {ok : α → Prop} (ht : P.underlying t = some (.slice e)) (hc : P.cellsOf e = d.sz) (o : Opn P e d ok) : Opn P t (Kd.slice e' d) (fun l => l.length ≤ maxLen ∧ ∀ x ∈ l, ok x) := by
  intro H enc w base spare held fuel cs x h
  rcases DataW.trod_slice ht h with ⟨rfl, _⟩ | ⟨a, len, cap, elems, rest, n, _, rfl, rfl, hb, hl, hm, hlen, hel, _, _⟩
  · exact ⟨[], ⟨none, 0, rfl, Nat.le_refl _, rfl, Nat.zero_le _, fun h => absurd h (Nat.lt_irrefl _)⟩, by simp, by simp⟩
  · have each : ∀ i : Fin len, ∃ z : α, (∃ c, c.length = d.sz ∧ d.K w z c ∧ ∀ j u, c[j]? = some u → w.cell? (a.add (i.val * d.sz + j)) = some u) ∧ ok z := by
      intro i
      have h1 := hel i.val i.isLt
      have h2 : elems[i.val]? = some elems[i.val] := List.getElem?_eq_getElem (by omega)
      rw [h2, Option.bind_eq_some_iff] at h1
      obtain ⟨c, h3, h4⟩ := h1
      obtain ⟨z, hk, hok⟩ := o H enc w base spare held n c _ h4
      refine ⟨z, ⟨c, d.K_len hk, hk, fun j u hj => ?_⟩, hok⟩
      have h5 := World.cells?_some h3
      have hj2 : j < c.length := (List.getElem?_eq_some_iff.1 hj).1
      have hj3 : j < P.cellsOf e := by rw [hc, ← d.K_len hk]; exact hj2
      have h6 := h5.2.2 j hj3
      rw [hj] at h6
      rw [Addr.add_add, hc] at h6
      exact h6
    obtain ⟨f, hf⟩ := Classical.axiomOfChoice each
    refine ⟨List.ofFn f, ⟨some a, cap, by simp, by simpa using hl, by simp, ?_, fun hn => ⟨a, rfl, fun j p hj => ?_⟩⟩, by simp; omega, ?_⟩
    · have : maxLen ≤ 9223372036854775807 := by decide
      simp; omega
    · obtain ⟨hjl, rfl⟩ := List.getElem?_eq_some_iff.1 hj
      have hjn : j < len := by simpa using hjl
      simp only [List.getElem_ofFn]
      exact (hf ⟨j, hjn⟩).1
    · intro z hz
      obtain ⟨i, rfl⟩ := (List.mem_ofFn ..).1 hz
      exact (hf i).2
theorem opnF_last {f : Field} {off : Nat} {d : Kd α} {ok : α → Prop} (ho : f.offset = off) (hc : P.cellsOf f.type = d.sz) (o : Opn P f.type d ok) : OpnF P [f] off d ok := by
  intro H enc w base spare held fuel cs hl h
  obtain ⟨x, hx⟩ := h 0 f rfl
  obtain ⟨y, hk, hy⟩ := o H enc w base spare held fuel _ _ hx
  refine ⟨y, ?_, hy⟩
  rw [ho, hc, List.take_of_length_le (by simp; omega)] at hk
  exact hk
theorem opnF_cons {f : Field} {fs : List Field} {off : Nat} {a : Kd α} {b : Kd β} {oka : α → Prop} {okb : β → Prop} (ho : f.offset = off) (hc : P.cellsOf f.type = a.sz) (o : Opn P f.type a oka) (os : OpnF P fs (off + a.sz) b okb) : OpnF P (f :: fs) off (Kd.pair a b) (fun x => oka x.1 ∧ okb x.2) := by
  intro H enc w base spare held fuel cs hl h
  obtain ⟨x, hx⟩ := h 0 f rfl
  obtain ⟨y, hk, hy⟩ := o H enc w base spare held fuel _ _ hx
  obtain ⟨z, hk2, hz⟩ := os H enc w base spare held fuel cs (by rw [hl]; simp [Kd.pair]; omega) (fun i g hg => h (i + 1) g hg)
  refine ⟨(y, z), ⟨(cs.drop off).take a.sz, cs.drop (off + a.sz), ?_, ?_, hk2⟩, hy, hz⟩
  · rw [← List.drop_drop, List.take_append_drop]
  · rw [ho, hc] at hk; exact hk
theorem opn_struct {fs : Array Field} {d : Kd α} {ok : α → Prop} (ht : P.underlying t = some (.struct fs)) (hc : P.cellsOf t = d.sz) (o : OpnF P fs.toList 0 d ok) (f : β → α) (g : α → β) (hfg : ∀ x, f (g x) = x) : Opn P t (Kd.iso d f) (fun y => ok (f y)) := by
  intro H enc w base spare held fuel cs x h
  obtain ⟨xs, n, _, _, hl, hlen, hf⟩ := DataW.trod_struct ht h
  obtain ⟨y, hk, hy⟩ := o H enc w base spare held n cs (by rw [hl, hc]; omega) (fun i fl hfl => by
    have h1 := hf i fl (by simpa using hfl)
    have h2 : i < xs.length := by rw [hlen]; have := (List.getElem?_eq_some_iff.1 hfl).1; simpa using this
    rw [List.getElem?_eq_getElem h2] at h1
    exact ⟨_, h1⟩)
  refine ⟨g y, ?_, by show ok (f (g y)); rw [hfg]; exact hy⟩
  show d.K w (f (g y)) cs
  rw [hfg]
  exact hk
/-- A struct as its fields in line. -/
theorem opn_fields {fs : Array Field} {d : Kd α} {ok : α → Prop} (ht : P.underlying t = some (.struct fs)) (hc : P.cellsOf t = d.sz) (o : OpnF P fs.toList 0 d ok) : Opn P t d ok := by
  intro H enc w base spare held fuel cs x h
  obtain ⟨xs, n, _, _, hl, hlen, hf⟩ := DataW.trod_struct ht h
  exact o H enc w base spare held n cs (by rw [hl, hc]; omega) (fun i fl hfl => by
    have h1 := hf i fl (by simpa using hfl)
    have h2 : i < xs.length := by rw [hlen]; have := (List.getElem?_eq_some_iff.1 hfl).1; simpa using this
    rw [List.getElem?_eq_getElem h2] at h1
    exact ⟨_, h1⟩)
theorem opn_imp {d : Kd α} {ok ok' : α → Prop} (h : ∀ x, ok x → ok' x) (o : Opn P t d ok) : Opn P t d ok' := by
  intro H enc w base spare held fuel cs x hx
  obtain ⟨y, hk, hy⟩ := o H enc w base spare held fuel cs x hx
  exact ⟨y, hk, h y hy⟩
/-- A slice as a parameter. -/
theorem opn_arg {H : Type} {enc : TypeId × Value → H} {w : World} {base : Nat} {spare : Nat → Bool} {held : Bool} {e' : Nat} {d : Kd α} {ok : List α → Prop} {a : Option Addr} {len cap : Nat} {dd : DataW H} {ps : List MemPlace} (o : Opn P t (Kd.slice e' d) ok)
    (h : DataW.Trod enc P w base spare held t (.slice a len cap) dd ps) : ∃ l : List α, l.length = len ∧ len ≤ cap ∧ d.C w a l.length l ∧ ok l := by
  obtain ⟨fuel, hf⟩ := h
  obtain ⟨y, ⟨A, c, he, hl, hC⟩, hy⟩ := o H enc w base spare held fuel _ _ hf
  simp [Value.cells] at he
  obtain ⟨rfl, rfl, rfl⟩ := he
  exact ⟨y, rfl, hl, hC, hy⟩
/-- A struct as a parameter: its cells. -/
theorem opn_agg {H : Type} {enc : TypeId × Value → H} {w : World} {base : Nat} {spare : Nat → Bool} {held : Bool} {d : Kd α} {ok : α → Prop} {cs : Array Value} {dd : DataW H} {ps : List MemPlace} (o : Opn P t d ok)
    (h : DataW.Trod enc P w base spare held t (.agg cs) dd ps) : ∃ y : α, d.K w y cs.toList ∧ ok y := by
  obtain ⟨fuel, hf⟩ := h
  exact o H enc w base spare held fuel _ _ hf
theorem opn_arr2 {d : Kd α} {ok : α → Prop} (ht : P.underlying t = some (.array 2 e)) (hc : P.cellsOf e = d.sz) (hs : P.cellsOf t = 2 * d.sz) (o : Opn P e d ok) : Opn P t (Kd.pair d d) (fun x => ok x.1 ∧ ok x.2) := by
  intro H enc w base spare held fuel cs x h
  obtain ⟨xs, n, _, _, hl, hlen, hf⟩ := DataW.trod_array ht h
  have h0 := hf 0 (by omega)
  have h1 := hf 1 (by omega)
  rw [List.getElem?_eq_getElem (by omega)] at h0 h1
  obtain ⟨y, hk, hy⟩ := o H enc w base spare held n _ _ h0
  obtain ⟨z, hk2, hz⟩ := o H enc w base spare held n _ _ h1
  refine ⟨(y, z), ⟨cs.take d.sz, cs.drop d.sz, (List.take_append_drop ..).symm, ?_, ?_⟩, hy, hz⟩
  · rw [hc, Nat.zero_mul, List.drop_zero] at hk; exact hk
  · rw [hc, Nat.one_mul, List.take_of_length_le (by simp; omega)] at hk2; exact hk2
theorem okWide_array {n : Nat} {r : Reach} {base : Nat} {w : World} {v : Value} (ht : P.underlying t = some (.array n e)) (h : Value.okWide P w r base t v) : ∃ cs, v = .agg cs ∧ cs.size = P.cellsOf t := by
  simp only [Value.okWide, ht] at h
  obtain ⟨cs, h1, h2, _⟩ := h
  exact ⟨cs, h1, h2⟩
end Go.Proofs.Ytiokpaknhbfenaa.Open
