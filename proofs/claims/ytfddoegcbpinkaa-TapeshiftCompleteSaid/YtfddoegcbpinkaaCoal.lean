import Derived.Test.YtfddoegcbpinkaaSpec43
import Derived.Great.BuildSlice
set_option linter.unusedVariables false
set_option linter.unusedSimpArgs false
namespace Go.Proofs.Ytfddoegcbpinkaa
open Go.RowKit Go.Proofs.YtfddoegcbpinkaaW.PrintWords
/-- The marks of a coalition. -/
def marks (l : List Int) : List Bool := (List.range 14).map fun i => decide (((i : Nat) : Int) ∈ l)
def encB (l : List Bool) : Array Value := (l.map Value.bool).toArray
theorem marks_length (l : List Int) : (marks l).length = 14 := by simp [marks]
theorem marks_get (l : List Int) (i : Nat) (h : i < 14) : (marks l)[i]? = some (decide (((i : Nat) : Int) ∈ l)) := by simp [marks, h]
theorem encB_get (l : List Bool) (i : Nat) (b : Bool) (h : l[i]? = some b) : (encB l)[i]? = some (.bool b) := by simp [encB, h]
theorem encB_set (l : List Bool) (i : Nat) (b : Bool) : (encB l).setIfInBounds i (.bool b) = encB (l.set i b) := by simp [encB, List.map_set]
theorem marks_snoc (l : List Int) (k : Nat) (hk : k < 14) : marks (l ++ [((k : Nat) : Int)]) = (marks l).set k true := by
  refine List.ext_getElem (by simp [marks]) fun i h1 h2 => ?_
  have hi : i < 14 := by simpa [marks] using h1
  simp only [marks, List.getElem_map, List.getElem_range, List.getElem_set, List.mem_append, List.mem_singleton]
  by_cases h : k = i
  · subst h; simp
  · rw [if_neg h]
    have : ¬ ((i : Int) = (k : Int)) := by omega
    simp [this]
theorem ext_setRow {a w : World} (h : Ext a w) {g : Nat} (hg : a.heap.size ≤ g) (cs : Array Value) : Ext a (w.setRow g cs) :=
  ⟨h.os, h.tape, h.output, by rw [size_setRow]; exact h.size, fun k hk => by rw [setRow_other _ _ _ _ (by omega)]; exact Below.block h k hk⟩
theorem hold_load {P : Program} {ops : Array Oper} {rest : List Oper} {o : Oper} {a : Act} {Q : Exit → Act → World → Prop} {w : World} (t : TypeId) {x : Operand}
    (ho : o.op = .load t x) (h : Hold (wpList P ops Q (o :: rest) a w)) : wpList P ops Q (o :: rest) a w := h
theorem unhold {p : Prop} (h : p) : Hold p := h
set_option maxRecDepth 4000 in
set_option maxHeartbeats 1000000 in
theorem members_calls (w : World) {A : Option Addr} {c : Nat} {l : List Int} (h0 : ∀ i, i < l.length → ∃ ad, A = some ad ∧ w.cell? (ad.add i) = some (.int .i64 (l.getD i 0))) (hc : l.length ≤ c) (hl : l.length ≤ 100) (hr : ∀ x ∈ l, 0 ≤ x ∧ x ≤ 13) :
    Calls Try.prog 81 #[.slice A l.length c] w fun e w' => e = .returned (.agg (encB (marks l))) ∧ Ext w w' := by
  have H0 := Hd.mk h0
  have HR := Hd.mk hr
  have hnew := Hd.mk (heap_alloc_new w (.cells (encB (marks [])) 95))
  have hE0 := Hd.mk (Ext.of_alloc w (.cells (encB (marks [])) 95))
  clear h0 hr
  go_enter Try.func81, Try.ntmps81
  go_wp2_with fail
  go_loopw [7] (fun vi wr => ∃ (k : Nat), k ≤ l.length ∧ vi = .int .i64 (k : Nat) ∧ wr.heap[w.heap.size]? = some (.cells (encB (marks (l.take k))) 95 (0, 0)) ∧ Ext w wr) (fun i _ => l.length - (intOf i).toNat)
  case atStart => exact ⟨0, by omega, rfl, hnew.out, hE0.out⟩
  case round =>
    clear hnew hE0
    obtain ⟨k, hk, rfl, hh, hE⟩ := hrel
    by_cases hlt : k < l.length
    · obtain ⟨ad, rfl, hcx⟩ := H0.out k hlt
      have hcx := hE.cell hcx
      obtain ⟨x, hx, hx1⟩ : ∃ x : Nat, l.getD k 0 = (x : Int) ∧ x ≤ 13 := by
        have h1 := HR.out (l.getD k 0) (by simp [hlt])
        exact ⟨(l.getD k 0).toNat, by omega, by omega⟩
      have hnew : Hd (marks (l.take (k + 1)) = (marks (l.take k)).set x true) := ⟨by
        rw [List.take_succ_eq_append_getElem hlt, ← marks_snoc _ _ (by omega), ← hx]
        simp [hlt]⟩
      rw [hx] at hcx
      have e1 : wr.cell? ⟨w.heap.size, x, none⟩ = some (.bool (decide ((x : Int) ∈ l.take k))) := by
        rw [cell_of_row wr _ _ _ _ _ hh]; exact encB_get _ _ _ (marks_get _ _ (by omega))
      have f1 := frozen_of_row wr w.heap.size x _ _ hh
      have hh2 := heap_setCell_same wr w.heap.size x _ _ (.bool true) hh
      rw [encB_set, ← hnew.out] at hh2
      have hE2 := hE.setCell (q := ⟨w.heap.size, x, none⟩) (Nat.le_refl _) (.bool true)
      have HH := Hd.mk hh2
      have HE := Hd.mk hE2
      clear hh hE hh2 hE2 hx
      have r0 : (0 : Int) ≤ (x : Int) := by omega
      have r1 : (x : Int) < 14 := by omega
      have r2 : x < 14 := by omega
      go_wp2_with fail
      go_roundw
      case rel => exact ⟨k + 1, by omega, by go_num, HH.out, HE.out⟩
      case measure => simp [intOf] <;> omega
    · obtain rfl : k = l.length := by omega
      rw [List.take_length] at hh
      have HH := Hd.mk hh
      clear hh
      go_wp2_with (with_reducible first | refine hold_load 95 rfl ?_)
      have hi95 : (Try.prog.info? 95).map (·.size) = some (encB (marks l)).size := by
        have h1 : (Try.prog.info? 95).map (·.size) = some 14 := by kernel_rfl
        rw [h1]; simp [encB, marks]
      have hone : (encB (marks l)).all (·.oneCell') = true := by simp [encB, Value.oneCell']
      refine wpList_load_row (by rfl) 95 _ (by rfl) w.heap.size (by rfl) 95 (encB (marks l)) (0, 0) _ HH.out Try.underlying95 rfl hi95 ?_
      go_wp2_with (with_reducible first | refine hold_store (t := 95) rfl ?_)
      refine wpList_store_row (by rfl) 95 _ _ (by rfl) w.heap.size (encB (marks l)) (by rfl) (by rfl) 95 (encB (marks l)) HH.out hi95 rfl hone ?_
      go_wp2_with fail
      have hrow := setRow_heap wr w.heap.size (encB (marks l)) (encB (marks l)) 95 (0, 0) HH.out
      exact ⟨rfl, _, results_cell_row (p := 2) (ty := 95) rfl _ _ w.heap.size 95 (encB (marks l)) (0, 0) _ rfl hrow Try.underlying95 rfl hi95, rfl, ext_setRow hE (Nat.le_refl _) _⟩
theorem tyI : SliceTy 25 3 1 8 (.int .i64 0) := ⟨Try.underlying25, info_parts (by kernel_rfl), rfl, by omega, by omega⟩
theorem set_get_other {ms : List Bool} {k i : Nat} (h : i ≠ k) (b : Bool) : (ms.set k b)[i]? = ms[i]? := by rw [List.getElem?_set_ne (Ne.symm h)]
theorem ext_step (n : Nat) (t : Int) (bad : List Int) (k : Nat) (s : Int × List Int) (h : k ≤ n) : (List.range' k (n + 1 - k)).foldl (extStep t bad) s = (List.range' (k + 1) (n + 1 - (k + 1))).foldl (extStep t bad) (extStep t bad s k) := by
  rw [show n + 1 - k = (n + 1 - (k + 1)) + 1 by omega, List.range'_succ, List.foldl_cons]
set_option maxRecDepth 4000 in
set_option maxHeartbeats 1000000 in
theorem extend_calls (w : World) {p t : Int} {n : Nat} {A : Option Addr} {c : Nat} {l : List Int} (h0 : ∀ i, i < l.length → ∃ ad, A = some ad ∧ w.cell? (ad.add i) = some (.int .i64 (l.getD i 0))) (hc : l.length ≤ c) (hl : l.length ≤ 100) (hr : ∀ x ∈ l, 0 ≤ x ∧ x ≤ 13) (hn : n ≤ 13) :
    Calls Try.prog 72 #[.agg #[.int .u64 p, .int .i64 (n : Nat), .int .i64 t], .slice A l.length c] w fun e w' => ∃ v : Value, e = .returned v ∧ w'.ownsRow w.heap.size 3 1 v ((List.range' 1 n).foldl (extStep t l) ((l.length : Nat), [])).2.length (encI ((List.range' 1 n).foldl (extStep t l) ((l.length : Nat), [])).2) ∧ Ext w w' := by
  have hn0 := heap_alloc_new w (.cells #[.int .u64 p, .int .i64 (n : Nat), .int .i64 t] 24)
  have e0 := Ext.of_alloc w (.cells #[.int .u64 p, .int .i64 (n : Nat), .int .i64 t] 24)
  have s0 : (w.alloc (.cells #[.int .u64 p, .int .i64 (n : Nat), .int .i64 t] 24)).heap.size = w.heap.size + 1 := by show (w.heap.push _).size = _; rw [Array.size_push]
  have hmem := members_calls (w.alloc (.cells #[.int .u64 p, .int .i64 (n : Nat), .int .i64 t] 24)) (fun i hi => by
    obtain ⟨ad, q1, q2⟩ := h0 i hi
    exact ⟨ad, q1, e0.cell q2⟩) hc hl hr
  have HM := Hd.mk hmem
  have HN := Hd.mk hn0
  have HE := Hd.mk e0
  have HS := Hd.mk s0
  have HI : Hd (∀ s, (List.range' 1 (n + 1 - 1)).foldl (extStep t l) s = (List.range' 1 n).foldl (extStep t l) s) := ⟨fun s => by rw [Nat.add_sub_cancel]⟩
  clear h0 hr hn0 e0 s0 hmem
  go_enter Try.func72, Try.ntmps72
  go_wp2_with fail
  refine HM.out.mono ?_
  rintro e w1 ⟨rfl, hE1⟩
  have hg0 := (Below.block hE1 w.heap.size (by rw [HS.out]; omega)).trans HN.out
  have hsz1 : w.heap.size + 1 ≤ w1.heap.size := by rw [← HS.out]; exact hE1.size
  have hE2 := HE.out.trans hE1
  have HG := Hd.mk hg0
  have HE2 := Hd.mk hE2
  clear HM HN HE HS hE1 hg0 hE2
  go_wp2_with (with_reducible first | refine hold_store (t := 95) rfl ?_)
  have hi95 : (Try.prog.info? 95).map (·.size) = some (encB (marks l)).size := by
    have h1 : (Try.prog.info? 95).map (·.size) = some 14 := by kernel_rfl
    rw [h1]; simp [encB, marks]
  have hone : (encB (marks l)).all (·.oneCell') = true := by simp [encB, Value.oneCell']
  have hnew := heap_alloc_new w1 (.cells (encB (marks [])) 95)
  refine wpList_store_row (by rfl) 95 _ _ (by rfl) w1.heap.size (encB (marks l)) (by rfl) (by rfl) 95 (encB (marks [])) hnew hi95 (by simp [encB, marks]) hone ?_
  have hrow := setRow_heap _ w1.heap.size (encB (marks [])) (encB (marks l)) 95 (0, 0) hnew
  have hE3 := ext_setRow ((HE2.out).trans (Ext.of_alloc w1 (.cells (encB (marks [])) 95))) (g := w1.heap.size) (by omega) (encB (marks l))
  have hg1 : ((w1.alloc (.cells (encB (marks [])) 95)).setRow w1.heap.size (encB (marks l))).heap[w.heap.size]? = some (.cells #[.int .u64 p, .int .i64 (n : Nat), .int .i64 t] 24 (0, 0)) := by
    rw [setRow_other _ _ _ _ (by omega), heap_alloc_old _ _ (by omega)]; exact HG.out
  have HR := Hd.mk hrow
  have HE3 := Hd.mk hE3
  have HG1 := Hd.mk hg1
  clear HG HE2 hrow hE3 hg1 hnew hi95 hone
  generalize w1.heap.size = g at *
  go_wp2_with fail
  go_loopw [8, 7, 6] (fun vi vo vc wr => ∃ (k : Nat) (r : Value) (cnt : Int) (out : List Int) (ms : List Bool), 1 ≤ k ∧ k ≤ n + 1 ∧ vi = .int .i64 (k : Nat) ∧ vo = r ∧ vc = .int .i64 cnt ∧ wr.ownsRow w.heap.size 3 1 r out.length (encI out) ∧ wr.heap[w.heap.size]? = some (.cells #[.int .u64 p, .int .i64 (n : Nat), .int .i64 t] 24 (0, 0)) ∧ wr.heap[g]? = some (.cells (encB ms) 95 (0, 0)) ∧ Ext w wr ∧ Hd ((List.range' k (n + 1 - k)).foldl (extStep t l) (cnt, out) = (List.range' 1 n).foldl (extStep t l) ((l.length : Nat), [])) ∧ Hd (∀ i, k ≤ i → i < 14 → ms[i]? = some (decide (((i : Nat) : Int) ∈ l))) ∧ 0 ≤ cnt ∧ cnt ≤ 100 + k ∧ out.length < k) (fun i _ _ _ => n + 1 - (intOf i).toNat)
  case atStart => exact ⟨1, _, ((l.length : Nat) : Int), [], marks l, by omega, by omega, rfl, rfl, rfl, World.ownsRow_nil _ _ _ _, HG1.out, HR.out, HE3.out, ⟨HI.out _⟩, ⟨fun i _ hi => marks_get l i hi⟩, by omega, by omega, by simp⟩
  case round =>
    clear HG1 HR HE3 HI
    obtain ⟨k, r, cnt, out, ms, hk1, hk2, rfl, rfl, rfl, hown, hb, hg, hE, hfin, hms, hc0, hc1, hol⟩ := hrel
    have b1 : wr.cell? ⟨w.heap.size, 1, none⟩ = some (.int .i64 (n : Nat)) := by rw [cell_of_row wr _ _ _ _ _ hb]; rfl
    have b2 : wr.cell? ⟨w.heap.size, 2, none⟩ = some (.int .i64 t) := by rw [cell_of_row wr _ _ _ _ _ hb]; rfl
    by_cases hlt : k ≤ n
    · have r0 : (0 : Int) ≤ (k : Int) := by omega
      have r1 : (k : Int) < 14 := by omega
      have r2 : k < 14 := by omega
      have e1 : wr.cell? ⟨g, k, none⟩ = some (.bool (decide ((k : Int) ∈ l))) := by
        rw [cell_of_row wr _ _ _ _ _ hg]; exact encB_get _ _ _ (hms.out k (Nat.le_refl _) r2)
      have f1 := frozen_of_row wr g k _ _ hg
      have hgb : g ≠ w.heap.size := by omega
      by_cases hmem : (k : Int) ∈ l
      · have hstep : Hd ((List.range' (k + 1) (n + 1 - (k + 1))).foldl (extStep t l) (cnt, out ++ [(k : Int)]) = (List.range' 1 n).foldl (extStep t l) ((l.length : Nat), [])) := ⟨by
          rw [← hfin.out, ext_step n t l k _ hlt]; unfold extStep; rw [if_pos hmem]⟩
        rw [decide_eq_true hmem] at e1
        have hsrc := Src.one wr (.int .i64 (k : Nat)) 3 rfl
        have eA := Ext.of_alloc wr (.cells #[.int .i64 (k : Nat)] 3)
        have hbA := (heap_alloc_old wr (.cells #[.int .i64 (k : Nat)] 3) (Array.getElem?_eq_some_iff.1 hb).1).trans hb
        have hgA := (heap_alloc_old wr (.cells #[.int .i64 (k : Nat)] 3) (Array.getElem?_eq_some_iff.1 hg).1).trans hg
        have howA := own_ext hown eA
        have HBA := Hd.mk hbA
        have HGA := Hd.mk hgA
        have HSR := Hd.mk hsrc
        have HEA := Hd.mk (hE.trans eA)
        clear hb hg hsrc hbA hgA hE eA hown
        go_wp2_with (with_reducible first | refine hold_append rfl ?_ | refine hold_make rfl ?_)
        refine wpl_append tyI w.heap.size howA HSR.out (by rfl) (by rfl) (by rfl) (by rfl) (by omega) ((by have := HEA.out.size; omega)) ?_
        intro v1 w2 hown1 hg1
        have hr1 : ∀ q, u7.ownBlock = some q → q ≠ g ∧ q ≠ w.heap.size := fun q hq => by
          have h1 := own_ne howA HGA.out (by decide)
          have h2 := own_ne howA HBA.out (by decide)
          rw [hq] at h1 h2
          exact ⟨fun e => (h1.resolve_left (by simp)) (by rw [e]), fun e => (h2.resolve_left (by simp)) (by rw [e])⟩
        have hb2 := (hg1.block w.heap.size (Array.getElem?_eq_some_iff.1 HBA.out).1 (fun e => (hr1 _ e.symm).2 rfl)).trans HBA.out
        have hg2 := (hg1.block g (Array.getElem?_eq_some_iff.1 HGA.out).1 (fun e => (hr1 _ e.symm).1 rfl)).trans HGA.out
        have hE2 := HEA.out.grown hg1 (fun q hq => (howA.lt q hq).1)
        have hown2 : w2.ownsRow w.heap.size 3 1 v1 (out ++ [(k : Int)]).length (encI (out ++ [(k : Int)])) := by
          rw [encI_append, List.length_append]; exact hown1
        have HO := Hd.mk hown2
        have HB2 := Hd.mk hb2
        have HG2 := Hd.mk hg2
        have HE2 := Hd.mk hE2
        clear hown1 hg1 hr1 hb2 hg2 hE2 hown2 howA HBA HGA HSR HEA e1 f1 b1 b2
        go_wp2_with fail
        go_roundw
        case rel => exact ⟨k + 1, _, cnt, _, ms, by omega, by omega, by go_num, rfl, rfl, HO.out, HB2.out, HG2.out, HE2.out, hstep, ⟨fun i h1 h2 => hms.out i (by omega) h2⟩, hc0, by omega, by simp; omega⟩
        case measure => simp [intOf] <;> omega
      · rw [decide_eq_false hmem] at e1
        by_cases hct : cnt < t
        · have hstep : Hd ((List.range' (k + 1) (n + 1 - (k + 1))).foldl (extStep t l) (cnt + 1, out ++ [(k : Int)]) = (List.range' 1 n).foldl (extStep t l) ((l.length : Nat), [])) := ⟨by
            rw [← hfin.out, ext_step n t l k _ hlt]; unfold extStep; rw [if_neg hmem, if_pos hct]⟩
          have hq1 : ∀ q, u7.ownBlock = some q → q ≠ g := fun q hq => by
            have h1 := own_ne hown hg (by decide)
            rw [hq] at h1
            exact fun e => (h1.resolve_left (by simp)) (by rw [e])
          have hownS := own_setCell_ne2 (j := k) hown hq1 (.bool true)
          have hES := hE.setCell (q := ⟨g, k, none⟩) (by show w.heap.size ≤ g; omega) (.bool true)
          have hgS := heap_setCell_same wr g k _ _ (.bool true) hg
          rw [encB_set] at hgS
          have hbS := (heap_setCell_other wr ⟨g, k, none⟩ w.heap.size (.bool true) (by show w.heap.size ≠ g; omega)).trans hb
          have e2 : (wr.setCell ⟨g, k, none⟩ (.bool true)).cell? ⟨g, k, none⟩ = some (.bool true) := by
            rw [cell_of_row _ _ _ _ _ _ hgS]
            refine encB_get _ _ _ ?_
            have hkl : k < ms.length := (List.getElem?_eq_some_iff.1 (hms.out k (Nat.le_refl _) r2)).1
            simp [hkl]
          have hsrc := Src.one (wr.setCell ⟨g, k, none⟩ (.bool true)) (.int .i64 (k : Nat)) 3 rfl
          have hss : (wr.setCell ⟨g, k, none⟩ (.bool true)).heap.size = wr.heap.size := by simp [World.setCell]
          rw [hss] at hsrc
          clear hss
          have eA := Ext.of_alloc (wr.setCell ⟨g, k, none⟩ (.bool true)) (.cells #[.int .i64 (k : Nat)] 3)
          have hbA := (heap_alloc_old (wr.setCell ⟨g, k, none⟩ (.bool true)) (.cells #[.int .i64 (k : Nat)] 3) (Array.getElem?_eq_some_iff.1 hbS).1).trans hbS
          have hgA := (heap_alloc_old (wr.setCell ⟨g, k, none⟩ (.bool true)) (.cells #[.int .i64 (k : Nat)] 3) (Array.getElem?_eq_some_iff.1 hgS).1).trans hgS
          have howA := own_ext hownS eA
          have HBA := Hd.mk hbA
          have HGA := Hd.mk hgA
          have HSR := Hd.mk hsrc
          have HEA := Hd.mk (hES.trans eA)
          clear hb hg hsrc hbA hgA hE eA hown hownS hES hgS hbS hq1
          go_wp2_with (with_reducible first | refine hold_append rfl ?_ | refine hold_make rfl ?_)
          refine wpl_append tyI w.heap.size howA HSR.out (by rfl) (by rfl) (by rfl) (by rfl) (by omega) ((by have := HEA.out.size; omega)) ?_
          intro v1 w2 hown1 hg1
          have hr1 : ∀ q, u7.ownBlock = some q → q ≠ g ∧ q ≠ w.heap.size := fun q hq => by
            have h1 := own_ne howA HGA.out (by decide)
            have h2 := own_ne howA HBA.out (by decide)
            rw [hq] at h1 h2
            exact ⟨fun e => (h1.resolve_left (by simp)) (by rw [e]), fun e => (h2.resolve_left (by simp)) (by rw [e])⟩
          have hb2 := (hg1.block w.heap.size (Array.getElem?_eq_some_iff.1 HBA.out).1 (fun e => (hr1 _ e.symm).2 rfl)).trans HBA.out
          have hg2 := (hg1.block g (Array.getElem?_eq_some_iff.1 HGA.out).1 (fun e => (hr1 _ e.symm).1 rfl)).trans HGA.out
          have hE2 := HEA.out.grown hg1 (fun q hq => (howA.lt q hq).1)
          have hown2 : w2.ownsRow w.heap.size 3 1 v1 (out ++ [(k : Int)]).length (encI (out ++ [(k : Int)])) := by
            rw [encI_append, List.length_append]; exact hown1
          have HO := Hd.mk hown2
          have HB2 := Hd.mk hb2
          have HG2 := Hd.mk hg2
          have HE2 := Hd.mk hE2
          clear hown1 hg1 hr1 hb2 hg2 hE2 hown2 howA HBA HGA HSR HEA e1 f1 b1 b2 e2
          go_wp2_with fail
          go_roundw
          case rel => exact ⟨k + 1, _, cnt + 1, _, ms.set k true, by omega, by omega, by go_num, rfl, by go_num, HO.out, HB2.out, HG2.out, HE2.out, hstep, ⟨fun i h1 h2 => by rw [set_get_other (by omega)]; exact hms.out i (by omega) h2⟩, by omega, by omega, by simp; omega⟩
          case measure => simp [intOf] <;> omega
        · have hstep : Hd ((List.range' (k + 1) (n + 1 - (k + 1))).foldl (extStep t l) (cnt, out) = (List.range' 1 n).foldl (extStep t l) ((l.length : Nat), [])) := ⟨by
            rw [← hfin.out, ext_step n t l k _ hlt]; unfold extStep; rw [if_neg hmem, if_neg hct]⟩
          have HO := Hd.mk hown
          have HB := Hd.mk hb
          have HG := Hd.mk hg
          have HE := Hd.mk hE
          clear hown hb hg hE
          go_wp2_with fail
          go_roundw
          case rel => exact ⟨k + 1, _, cnt, _, ms, by omega, by omega, by go_num, rfl, rfl, HO.out, HB.out, HG.out, HE.out, hstep, ⟨fun i h1 h2 => hms.out i (by omega) h2⟩, hc0, by omega, by omega⟩
          case measure => simp [intOf] <;> omega
    · have hk3 : k = n + 1 := by omega
      have hf : Hd ((List.range' 1 n).foldl (extStep t l) ((l.length : Nat), []) = (cnt, out)) := ⟨by rw [← hfin.out, hk3, Nat.sub_self]; rfl⟩
      have HO := Hd.mk hown
      have HE := Hd.mk hE
      clear hown hb hg hE
      go_wp2_with fail
      go_ret
      exact ⟨_, rfl, by rw [hf.out]; exact HO.out, HE.out⟩
theorem extI_calls (p n t : Int) (A : Option Addr) (c : Nat) (l : List Int) (r : List Int) (w : World) (hr : Kd.C (Kd.int .i64) w A l.length l) (hc : l.length ≤ c) (h : extI n t l = some r) :
    Calls Try.prog 72 #[.agg #[.int .u64 p, .int .i64 n, .int .i64 t], .slice A l.length c] w fun e w' => ∃ v0_ : Value, e = .returned v0_ ∧ Kd.R (Kd.int .i64) 3 w' w.heap.size (fun _ => True) v0_ r ∧ Below w.heap.size w w' := by
  unfold extI at h
  split at h
  case isFalse => cases h
  rename_i hg
  obtain ⟨g1, g2, g3, g4⟩ := hg
  injection h with h
  subst h
  obtain ⟨m, rfl⟩ := Int.eq_ofNat_of_zero_le g2
  rw [List.all_eq_true] at g1
  refine (extend_calls w (p := p) (t := t) (n := m) (fun i hi => ?_) hc g4 (fun x hx => ?_) (by omega)).mono ?_
  · obtain ⟨ad, q1, q2⟩ := Kd.at_int hr (i : Int) (by omega) (by omega)
    refine ⟨ad, q1, ?_⟩
    simpa [rd] using q2
  · have := g1 x hx
    simpa using this
  · rintro e w' ⟨v, rfl, ho, hE⟩
    refine ⟨v, rfl, Kd.R_of_own ?_ (fun _ _ => trivial), hE⟩
    simpa [encI, encs] using ho
theorem cloneI_calls (A : Option Addr) (c : Nat) (l r : List Int) (w : World) (hr : Kd.C (Kd.int .u64) w A l.length l) (hc : l.length ≤ c) (h : cloneI l = some r) :
    Calls Try.prog 51 #[.slice A l.length c] w fun e w' => ∃ v0_ : Value, e = .returned v0_ ∧ Kd.R (Kd.int .u64) 22 w' w.heap.size (fun _ => True) v0_ r ∧ Below w.heap.size w w' := by
  unfold cloneI at h
  split at h
  case isFalse => cases h
  rename_i hg
  injection h with h
  subst h
  have hs : Src w 1 (.slice A l.length c) l.length (l.map (Value.int .u64)) := by
    refine ⟨A, c, rfl, fun hA => ?_, by simp, ?_, fun ad hA j u hj => ?_⟩
    · subst hA
      by_cases h0 : 0 < l.length
      · obtain ⟨ad, q1, _⟩ := hr.2.2 h0; cases q1
      · omega
    · intro u hu
      obtain ⟨x, _, rfl⟩ := List.mem_map.1 hu
      rfl
    · obtain ⟨hjl, rfl⟩ := List.getElem?_eq_some_iff.1 hj
      have hjl2 : j < l.length := by simpa using hjl
      obtain ⟨ad', q1, q2⟩ := Kd.at_int hr (j : Int) (by omega) (by omega)
      rw [hA] at q1
      injection q1 with q1
      subst q1
      simpa [rd, hjl2] using q2
  refine (clone_calls w hs hg).mono ?_
  rintro e w' ⟨v, rfl, ho, hE⟩
  exact ⟨v, rfl, Kd.R_of_own ho (fun _ _ => trivial), hE⟩
end Go.Proofs.Ytfddoegcbpinkaa
