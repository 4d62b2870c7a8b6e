/-
A part of this claim's proof (Placed): lemmas that the text of the law stands on.
-/
import Derived.Test.YtiokpaknhbfenaaSpec
import Derived.MapKept
import Derived.Carry
set_option linter.unusedVariables false
set_option linter.unusedSimpArgs false
namespace Go.Proofs.Ytiokpaknhbfenaa
open Go.RowKit Go.MapKept Go.Proofs.YtiokpaknhbfenaaW.PrintWords
/-! ### a set of words: a map of the call's own -/
structure Seen (w : World) (g : Nat) (L : List Int) : Prop where
  ex : ∃ es clock, w.heap[g]? = some (.map es clock) ∧ es.toList.map (·.key) = L.map (Value.int .u64) ∧ ∀ e ∈ es.toList, e.val = .bool true
theorem Seen.lt {w : World} {g : Nat} {L : List Int} (h : Seen w g L) : g < w.heap.size := by
  obtain ⟨es, c, h1, _⟩ := h.ex
  exact (Array.getElem?_eq_some_iff.1 h1).1
theorem Seen.ext {w w' : World} {g : Nat} {L : List Int} (h : Seen w g L) (he : Ext w w') : Seen w' g L := by
  obtain ⟨es, c, h1, h2⟩ := h.ex
  exact ⟨es, c, by rw [Below.block he g h.lt]; exact h1, h2⟩
theorem Seen.keys {es : Array MapEntry} {L : List Int} (h : es.toList.map (·.key) = L.map (Value.int .u64)) : ∀ e ∈ es.toList, ∃ y, y ∈ L ∧ e.key = .int .u64 y := by
  intro e he
  have h1 : e.key ∈ es.toList.map (·.key) := List.mem_map.2 ⟨e, he, rfl⟩
  rw [h] at h1
  obtain ⟨y, hy, h2⟩ := List.mem_map.1 h1
  exact ⟨y, hy, h2.symm⟩
theorem Seen.find {w : World} {g : Nat} {L : List Int} (h : Seen w g L) (x : Int) :
    (Instr.lookup 69 (.map (some g)) (.int .u64 x) false).run Try.prog w = .ok (.bool (decide (x ∈ L))) w := by
  obtain ⟨es, c, h1, h2, h3⟩ := h.ex
  have hk : ∀ e ∈ es.toList, IsKey (.int .u64) e.key := fun e he => by
    obtain ⟨y, _, h4⟩ := Seen.keys h2 e he
    rw [h4]; rfl
  have hz : (zeroValue 4).run Try.prog w = .ok (.bool false) w := by
    obtain ⟨i, hi, hz0, _⟩ := info_parts (P := Try.prog) (t := 4) (z := some (.bool false)) (s := 1) (b := 1) (by kernel_rfl)
    simp [zeroValue, typeInfo, hi, hz0]
  rcases findNow_spec (d := .int .u64) (k := .int .u64 x) rfl es.toList 0 hk with ⟨q1, q2⟩ | ⟨j, e, q1, q2, q3⟩
  · have hn : x ∉ L := fun hx => by
      have h4 : Value.int .u64 x ∈ es.toList.map (·.key) := by rw [h2]; exact List.mem_map.2 ⟨x, hx, rfl⟩
      obtain ⟨e, he, h5⟩ := List.mem_map.1 h4
      exact q2 e he h5
    rw [decide_eq_false hn]
    simp [Instr.lookup, run_underlying Try.underlying69, MapKept.run_getObj_map h1, MapKept.run_checkKey (k := .int .u64 x) Try.underlying22 rfl, MapKept.run_findKey Try.underlying22 q1, hz, Result.andThen]
  · have hm : e ∈ es.toList := List.mem_of_getElem? q2
    have hin : x ∈ L := by
      obtain ⟨y, hy, h4⟩ := Seen.keys h2 e hm
      rw [q3] at h4
      injection h4 with _ h4
      rw [h4]; exact hy
    rw [decide_eq_true hin]
    simp [Instr.lookup, run_underlying Try.underlying69, MapKept.run_getObj_map h1, MapKept.run_checkKey (k := .int .u64 x) Try.underlying22 rfl, MapKept.run_findKey Try.underlying22 q1, h3 e hm, Result.andThen]
theorem Seen.add {w : World} {g : Nat} {L : List Int} (h : Seen w g L) (x : Int) (hx : x ∉ L) :
    ∃ w', (Instr.mapUpdate 69 (.map (some g)) (.int .u64 x) (.bool true)).run Try.prog w = .ok () w' ∧ Seen w' g (L ++ [x]) ∧ ∀ a : World, Ext a w → a.heap.size ≤ g → Ext a w' := by
  obtain ⟨es, c, h1, h2, h3⟩ := h.ex
  have hk : ∀ e ∈ es.toList, IsKey (.int .u64) e.key := fun e he => by
    obtain ⟨y, _, h4⟩ := Seen.keys h2 e he
    rw [h4]; rfl
  have q1 : Instr.findNow (.int .u64) (.int .u64 x) es.toList 0 = some none := by
    rcases findNow_spec (d := .int .u64) (k := .int .u64 x) rfl es.toList 0 hk with ⟨q1, q2⟩ | ⟨j, e, q1, q2, q3⟩
    · exact q1
    · exfalso
      have hm : e ∈ es.toList := List.mem_of_getElem? q2
      obtain ⟨y, hy, h4⟩ := Seen.keys h2 e hm
      rw [q3] at h4
      injection h4 with _ h4
      exact hx (by rw [h4]; exact hy)
  refine ⟨{ w with heap := w.heap.setIfInBounds g (.map (es.push { key := .int .u64 x, val := .bool true, born := c }) (c + 1)) }, ?_, ⟨es.push { key := .int .u64 x, val := .bool true, born := c }, c + 1, (heap_set h1).1, ?_, ?_⟩, fun a ha hg => ⟨ha.os, ha.tape, ha.output, ?_, fun k hk => ?_⟩⟩
  · simp [Instr.mapUpdate, run_underlying Try.underlying69, MapKept.run_getObj_map h1, MapKept.run_checkKey (k := .int .u64 x) Try.underlying22 rfl, MapKept.run_findKey Try.underlying22 q1, MapKept.run_setObj_map _ h1, Result.andThen]
  · simp [h2]
  · intro e he
    rw [Array.toList_push, List.mem_append, List.mem_singleton] at he
    rcases he with he | rfl
    · exact h3 e he
    · rfl
  · show a.heap.size ≤ (w.heap.setIfInBounds g _).size
    rw [Array.size_setIfInBounds]; exact ha.size
  · show (w.heap.setIfInBounds g _)[k]? = _
    rw [(heap_set h1).2 k (by omega)]
    exact Below.block ha k hk
theorem Seen.start (w : World) : Seen (w.alloc (.map #[] 0)) w.heap.size [] := ⟨#[], 0, heap_alloc_new w _, rfl, by simp⟩
set_option maxRecDepth 4000 in
set_option maxHeartbeats 1000000 in
theorem placed_walk (w : World) {A : Option Addr} {c : Nat} {xs ys : List Int} {n : Nat} (hx : xs.length = n) (hc : n ≤ c) (hn : n ≤ 1000000)
    (h0 : ∀ i, i < n → ∃ ad, A = some ad ∧ w.cell? (ad.add (i * 2)) = some (.int .u64 (xs.getD i 0)) ∧ w.cell? ⟨(ad.add (i * 2)).block, (ad.add (i * 2)).off + 1, none⟩ = some (.int .u64 (ys.getD i 0))) :
    Calls Try.prog 33 #[.slice A n c] w fun e w' => e = .returned (.bool (decide ((0 :: xs).Nodup))) ∧ Ext w w' := by
  have H0 := Hd.mk h0
  obtain ⟨w1, hup, hs1, he1⟩ := (Seen.start w).add 0 (by simp)
  have hE1 := Hd.mk (he1 w (Ext.of_alloc w _) (Nat.le_refl _))
  have HS1 := Hd.mk hs1
  have HX := Hd.mk hx
  have hmk : (Instr.makeMap 69 none).run Try.prog w = .ok (.map (some w.heap.size)) (w.alloc (.map #[] 0)) := run_makeMap _ _
  clear h0 hs1 he1 hx
  go_enter Try.func33, Try.ntmps33
  go_wp2_with fail
  clear hmk hup
  go_loopw [10] (fun vi wr => ∃ (k : Nat), k ≤ n ∧ vi = .int .i64 (k : Nat) ∧ Hd (Seen wr w.heap.size (0 :: xs.take k)) ∧ Hd (Ext w wr) ∧ Hd ((0 :: xs.take k).Nodup)) (fun i _ => n - (intOf i).toNat)
  case atStart => exact ⟨0, by omega, rfl, HS1, hE1, ⟨by simp⟩⟩
  case round =>
    clear HS1 hE1
    obtain ⟨k, hk, rfl, HS, HE, HN⟩ := hrel
    by_cases hlt : k < n
    · obtain ⟨ad, rfl, hcx, hcy⟩ := H0.out k hlt
      have hcx := HE.out.cell hcx
      have hcy := HE.out.cell hcy
      have hxk : xs[k]? = some (xs.getD k 0) := by
        have : k < xs.length := by rw [HX.out]; exact hlt
        simp [this]
      have htk : Hd (xs.take (k + 1) = xs.take k ++ [xs.getD k 0]) := ⟨by
        obtain ⟨hl, he⟩ := List.getElem?_eq_some_iff.1 hxk
        rw [List.take_succ_eq_append_getElem hl, he]⟩
      have hmem : Hd (xs.getD k 0 ∈ 0 :: xs.take k → ¬ (0 :: xs).Nodup) := ⟨fun h1 h2 => by
        have h3 : (0 :: xs) = (0 :: xs.take k) ++ xs.drop k := by simp
        rw [h3, List.nodup_append] at h2
        have h4 : xs.getD k 0 ∈ xs.drop k := by
          rw [List.mem_iff_getElem?]
          exact ⟨0, by rw [List.getElem?_drop]; simpa using hxk⟩
        exact h2.2.2 _ h1 _ h4 rfl⟩
      generalize xs.getD k 0 = X at *
      generalize ys.getD k 0 = Y at *
      have eA := Ext.of_alloc wr (.cells #[.int .u64 X, .int .u64 Y] 57)
      have hs2 := HS.out.ext eA
      have hlk := hs2.find X
      by_cases hX : X ∈ 0 :: xs.take k
      · rw [decide_eq_true hX] at hlk
        have hr : Hd (decide ((0 :: xs).Nodup) = false) := ⟨decide_eq_false (hmem.out hX)⟩
        have hE2 := Hd.mk (HE.out.trans eA)
        clear hs2 eA hxk
        go_wp2_with fail
        go_ret
        exact ⟨by rw [hr.out]; rfl, hE2.out⟩
      · rw [decide_eq_false hX] at hlk
        obtain ⟨W2, hup, hs3, he3⟩ := hs2.add X hX
        have hE2 := Hd.mk (he3 w (HE.out.trans eA) (by have := hs2.lt; have h9 : w.heap.size ≤ w.heap.size := Nat.le_refl _; exact h9))
        have HS3 := Hd.mk hs3
        have hnd : Hd ((0 :: xs.take (k + 1)).Nodup) := ⟨by
          rw [htk.out, ← List.cons_append, List.nodup_append]
          refine ⟨HN.out, by simp, fun a ha b hb => ?_⟩
          rw [List.mem_singleton] at hb
          subst hb
          exact fun e => hX (by rw [← e]; exact ha)⟩
        have HS4 : Hd (Seen W2 w.heap.size (0 :: xs.take (k + 1))) := ⟨by rw [htk.out]; exact HS3.out⟩
        clear hs2 hs3 he3 eA hxk HS3
        go_wp2_with fail
        go_roundw
        case rel => exact ⟨k + 1, by omega, by go_num, HS4, hE2, hnd⟩
        case measure => simp [intOf] <;> omega
    · obtain rfl : k = n := by omega
      have hr : Hd (decide ((0 :: xs).Nodup) = true) := ⟨decide_eq_true (by
        have h1 := HN.out
        rwa [List.take_of_length_le (by rw [HX.out]; omega)] at h1)⟩
      go_wp2_with fail
      go_ret
      exact ⟨by rw [hr.out]; rfl, HE.out⟩
def placedI (l : List Int) : Option Bool := if l.length ≤ 1000000 then some (decide ((0 :: l).Nodup)) else none
end Go.Proofs.Ytiokpaknhbfenaa
