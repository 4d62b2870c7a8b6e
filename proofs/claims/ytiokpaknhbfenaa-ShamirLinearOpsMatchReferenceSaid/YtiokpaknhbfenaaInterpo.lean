/-
A part of this claim's proof (Interpo): lemmas that the text of the law stands on.
-/
import Derived.Test.YtiokpaknhbfenaaSorts
import Derived.Lib.SliceRun
section
set_option linter.unusedVariables false
namespace Go.Proofs.Ytiokpaknhbfenaa
open Go.RowKit
theorem clone_calls {v : Value} {us : List Value} {n : Nat} (w : World) (hf : Src w 1 v n us) (hlen : n ≤ 1000000) :
    Calls Try.prog 67 #[v] w (Rets w fun w' r => w'.ownsRow w.heap.size 22 1 r n us) := by
  have hf' := hf
  obtain ⟨A, c, rfl, hnil, hl, h1, hcell⟩ := hf
  have HL := Hd.mk hl
  have HC := Hd.mk hcell
  have H1 := Hd.mk h1
  clear hl hcell h1
  cases A with
  | none =>
    obtain rfl := hnil rfl
    have : us = [] := List.eq_nil_of_length_eq_zero (by have := HL.out; omega)
    subst this
    go_enter Try.func67, Try.ntmps67
    have heq : (binOp .eql 23 (.slice none 0 c) (.slice none 0 0)).run Try.prog w = .ok (.bool true) w := Lib.run_eql_slice_nil w 23 22 none 0 c 0 0 Try.underlying23
    go_wp2_with fail
    go_ret
    exact ⟨_, rfl, World.ownsRow_nil _ _ _ _, Ext.refl _⟩
  | some ad =>
    go_enter Try.func67, Try.ntmps67
    have heq : (binOp .eql 23 (.slice (some ad) n c) (.slice none 0 0)).run Try.prog w = .ok (.bool false) w := Lib.run_eql_slice_nil w 23 22 (some ad) n c 0 0 Try.underlying23
    go_wp2_with (with_reducible first | refine hold_append rfl ?_ | refine hold_make rfl ?_)
    have hown0 : (w.alloc (.cells #[] 22)).ownsRow w.heap.size 22 1 (.slice (some ⟨w.heap.size, 0, none⟩) 0 0) 0 [] := World.ownsRow_lit w #[] 0 (Nat.le_refl _) (by unfold maxLen; omega) (by simp)
    refine wpl_append tyU w.heap.size hown0 (hf'.ext (Ext.of_alloc w _)) (by rfl) (by rfl) (by rfl) (by rfl) (by omega) ((by simp)) ?_
    intro v1 w1 hown hg
    rw [Nat.zero_add, List.nil_append] at hown
    go_wp2_with fail
    go_ret
    exact ⟨_, rfl, hown, (Ext.of_alloc w _).grown hg (fun k hk => by simp [Value.ownBlock] at hk; omega)⟩
theorem src_of_own {w : World} {B : Nat} {v : Value} {ys : List Nat} (h : w.ownsRow B 22 1 v ys.length (encU ys)) : SlU w v ys := own_slU h
/-- at most 12 elements: the library sorts them by insertion -/
theorem unlike_calls {v : Value} {xs : List Nat} (w : World) (hx : SlU w v xs) (hn : xs.length ≤ 12) :
    Calls Try.prog 47 #[v] w (fun e w' => e = .returned (.bool (decide xs.Nodup)) ∧ Ext w w') := by
  have hc := Hd.mk (clone_calls w (Src.of_slU hx) (by omega))
  obtain ⟨A, c, rfl, h1, h2⟩ := hx
  clear h2
  go_enter Try.func47, Try.ntmps47
  go_wp2_with fail
  refine hc.out.mono ?_
  rintro e w1 ⟨r, rfl, hown, hE⟩
  obtain ⟨A1, c1, hv⟩ : ∃ A1 c1, r = .slice A1 xs.length c1 := by
    obtain ⟨A1, c1, h, _⟩ := own_slU hown; exact ⟨A1, c1, h⟩
  subst hv
  have hso := Hd.mk (sort_calls w1 w.heap.size _ xs hown hn)
  clear hown
  go_wp2_with fail
  refine hso.out.mono ?_
  rintro e w2 ⟨rfl, ⟨ys, hperm, hle, hown2⟩, hB2⟩
  have hlen : ys.length = xs.length := hperm.length_eq
  have hco := Hd.mk (compact_calls w2 w.heap.size (.slice A1 xs.length c1) ys (by rw [hlen]; exact hown2) hle (by omega))
  have hnd : Hd (ys.Nodup ↔ xs.Nodup) := ⟨hperm.nodup_iff⟩
  have hE2 : Ext w w2 := Below.trans hE hB2
  clear hown2 hle hperm hE hB2
  go_wp2_with fail
  refine hco.out.mono ?_
  rintro e w3 ⟨A3, c3, m, rfl, hm, hB3⟩
  have hE3 : Ext w w3 := Below.trans hE2 hB3
  have hm2 : Hd (((m : Int) == (xs.length : Int)) = decide xs.Nodup) := ⟨by
    rw [hlen] at hm
    by_cases h : xs.Nodup
    · have : m = xs.length := hm.2 (hnd.out.2 h)
      simp [h, this]
    · have : m ≠ xs.length := fun e => h (hnd.out.1 (hm.1 e))
      simp [h]; omega⟩
  clear hm hE2
  go_wp2_with fail
  go_ret
  exact ⟨congrArg (fun b => Ending.returned (.bool b)) hm2.out, hE3⟩
end Go.Proofs.Ytiokpaknhbfenaa
end
section
set_option linter.unusedVariables false
set_option linter.unusedSimpArgs false
namespace Go.Proofs.Ytiokpaknhbfenaa
open Go.RowKit
theorem over_calls {p : Nat} [NeZero p] (hs : Sup p) {a b : Int} {x y : Fin p} (ha : a = (x.val : Nat)) (hb : b = (y.val : Nat)) (w : World) :
    Calls Try.prog 54 #[.int .u64 p, .int .u64 a, .int .u64 b] w (Just (.int .u64 ((x * finv y).val : Nat)) w) := by
  subst ha hb
  go_enter Try.func54, Try.ntmps54
  go_wp2_with fail
  refine (inv_calls hs (x := y) rfl _).mono ?_
  rintro e w' ⟨rfl, rfl⟩
  go_wp2_with fail
  refine (mul_calls hs (x := x) (y := finv y) rfl rfl _).mono ?_
  rintro e w' ⟨rfl, rfl⟩
  go_wp2_with fail
  go_ret
  exact ⟨rfl, rfl⟩
theorem erase_step {α : Type} (xs : List α) (but k : Nat) (hlt : k < xs.length) : (xs.take (k + 1)).eraseIdx but = if k = but then (xs.take k).eraseIdx but else (xs.take k).eraseIdx but ++ [xs[k]] := by
  rw [List.take_succ_eq_append_getElem hlt]
  have hl : (xs.take k).length = k := by rw [List.length_take]; omega
  by_cases h : k = but
  · subst h
    rw [if_pos rfl, List.eraseIdx_append_of_length_le (by omega), hl, Nat.sub_self, List.eraseIdx_of_length_le (by omega : (xs.take k).length ≤ k)]
    simp
  · rw [if_neg h]
    by_cases h2 : but < k
    · rw [List.eraseIdx_append_of_lt_length (by omega)]
    · rw [List.eraseIdx_append_of_length_le (by omega), List.eraseIdx_of_length_le (by omega : (xs.take k).length ≤ but), List.eraseIdx_of_length_le (by simp; omega)]
theorem others_calls {p : Nat} {xs : List (Fin p)} {v : Value} (w : World) (but id : Nat) (cap : Array Value) (hent : ∀ args w, (callFunc id args).run Try.prog w = .ok (.enter id args) w) (I : List (Fin p) → World → Prop) (hx : ∀ os wr, I os wr → SlF wr v xs) (hn : xs.length ≤ 1000000) (h0 : I [] w)
    (hI : ∀ (x : Fin p) os wr, os.length < xs.length → I os wr → Calls Try.prog id (#[.int .u64 (x.val : Nat)] ++ cap) wr (fun e w' => e = .returned (.tuple #[]) ∧ I (os ++ [x]) w')) :
    Calls Try.prog 48 #[v, .int .i64 (but : Nat), .func (.func id) #[] cap] w (fun e w' => e = .returned (.tuple #[]) ∧ I (xs.eraseIdx but) w') := by
  have HX := Hd.mk hx
  have HI := Hd.mk hI
  obtain ⟨A, c, rfl, hc, _⟩ := (hx [] w h0).at
  clear hx hI
  go_enter Try.func48, Try.ntmps48
  go_wp2_with fail
  go_loopw [10] (fun i wr => ∃ (k : Nat) (os : List (Fin p)), k ≤ xs.length ∧ i = .int .i64 (k : Nat) ∧ Hd (I os wr) ∧ Hd (os = (xs.take k).eraseIdx but)) (fun i _ => xs.length - (intOf i).toNat)
  case atStart => exact ⟨0, [], by omega, rfl, ⟨h0⟩, ⟨by simp⟩⟩
  case round =>
    clear h0
    obtain ⟨k, os, hk, rfl, hi, hos⟩ := hrel
    by_cases hlt : k < xs.length
    · obtain ⟨A', c', hv, hc', hcell⟩ := (HX.out _ _ hi.out).at
      injection hv with hA _ hcc
      subst hA hcc
      obtain ⟨ad, rfl, hc⟩ := hcell k hlt
      have hol : os.length < xs.length := by
        rw [hos.out]
        have := List.length_eraseIdx_le (xs.take k) but
        rw [List.length_take] at this
        omega
      have hcall := Hd.mk (fun wr => HI.out xs[k] os wr hol)
      clear hol
      have hstep : Hd ((xs.take (k + 1)).eraseIdx but = if k = but then (xs.take k).eraseIdx but else (xs.take k).eraseIdx but ++ [xs[k]]) := ⟨erase_step xs but k hlt⟩
      clear hcell
      generalize xs[k] = y at *
      by_cases hb : k = but
      · subst hb
        go_wp2_with fail
        go_roundw
        case rel => exact ⟨k + 1, os, by omega, by go_num, hi, ⟨by rw [hstep.out, if_pos rfl, hos.out]⟩⟩
        case measure => simp [intOf] <;> omega
      · have hbb : (((k : Int)) != (but : Int)) = true := by simp; omega
        have HB := Hd.mk hb
        clear hb
        go_wp2_with fail
        refine (hcall.out _ hi.out).mono ?_
        rintro e w1 ⟨rfl, hi1⟩
        have hi2 := Hd.mk hi1
        clear hi1 hi
        go_wp2_with fail
        go_roundw
        case rel => exact ⟨k + 1, os ++ [y], by omega, by go_num, hi2, ⟨by rw [hstep.out, if_neg HB.out, hos.out]⟩⟩
        case measure => simp [intOf] <;> omega
    · obtain rfl : k = xs.length := by omega
      go_wp2_with fail
      go_end0
      exact ⟨rfl, by rw [← List.take_length (l := xs), ← hos.out]; exact hi.out⟩
/-! ### the closure of LagrangeWeights -/
theorem SlU.of_F {p : Nat} {w : World} {v : Value} {xs : List (Fin p)} (h : SlF w v xs) : SlU w v (xs.map (·.val)) := by
  obtain ⟨A, c, rfl, h1, h3⟩ := h
  refine ⟨A, c, by simp, by simpa using h1, fun i hi => ?_⟩
  obtain ⟨ad, u, ha, hc, hr⟩ := h3 i (by simpa using hi)
  exact ⟨ad, u, ha, hc, by simpa [RF, RU] using hr⟩
structure Bx (w : World) (g : Nat) (u : Value) : Prop where
  ex : ∃ T, w.heap[g]? = some (.cells #[u] T (0, 0))
theorem Bx.cell {w : World} {g : Nat} {u : Value} (h : Bx w g u) : w.cell? ⟨g, 0, none⟩ = some u := by
  obtain ⟨T, h⟩ := h.ex; rw [cell_of_row w g 0 _ _ _ h]; rfl
theorem Bx.frz {w : World} {g : Nat} {u : Value} (h : Bx w g u) : w.frozen? ⟨g, 0, none⟩ = false := by
  obtain ⟨T, h⟩ := h.ex; exact frozen_of_row w g 0 _ _ h
theorem Bx.ext {w w' : World} {g : Nat} {u : Value} (h : Bx w g u) (he : Ext w w') : Bx w' g u := by
  obtain ⟨T, h⟩ := h.ex; exact ⟨T, by rw [Below.block he g (Array.getElem?_eq_some_iff.1 h).1]; exact h⟩
theorem Bx.lt {w : World} {g : Nat} {u : Value} (h : Bx w g u) : g < w.heap.size := by obtain ⟨T, h⟩ := h.ex; exact (Array.getElem?_eq_some_iff.1 h).1
theorem Bx.set {w : World} {g : Nat} {u : Value} (h : Bx w g u) (u' : Value) : Bx (w.setCell ⟨g, 0, none⟩ u') g u' := by
  obtain ⟨T, h⟩ := h.ex; exact ⟨T, by rw [heap_setCell_same w g 0 _ _ u' h]; rfl⟩
theorem Bx.other {w : World} {g : Nat} {u : Value} (h : Bx w g u) {q : Addr} (hne : g ≠ q.block) (u' : Value) : Bx (w.setCell q u') g u := by
  obtain ⟨T, h⟩ := h.ex; exact ⟨T, by rw [heap_setCell_other w q g u' hne]; exact h⟩
theorem Bx.grown {w w' : World} {g : Nat} {u : Value} (h : Bx w g u) {row : Option Nat} (hg : w.grownBy w' row) (hne : ∀ q, row = some q → q ≠ g) : Bx w' g u := by
  obtain ⟨T, hh⟩ := h.ex
  exact ⟨T, by rw [hg.block g h.lt (fun e => hne g e.symm rfl)]; exact hh⟩
end Go.Proofs.Ytiokpaknhbfenaa
end
section
set_option linter.unusedVariables false
set_option linter.unusedSimpArgs false
namespace Go.Proofs.Ytiokpaknhbfenaa
open Go.RowKit
/-! ### points -/
def SlP {p : Nat} (w : World) (v : Value) (pts : List (Fin p × Fin p)) : Prop :=
  ∃ A c, v = .slice A pts.length c ∧ pts.length ≤ c ∧ ∀ i (h : i < pts.length), ∃ ad, A = some ad ∧ w.cell? (ad.add (i * 2)) = some (.int .u64 (pts[i].1.val : Nat)) ∧ w.cell? ⟨(ad.add (i * 2)).block, (ad.add (i * 2)).off + 1, none⟩ = some (.int .u64 (pts[i].2.val : Nat))
theorem SlP.ext {p : Nat} {w w' : World} {v : Value} {pts : List (Fin p × Fin p)} (h : SlP w v pts) (he : Ext w w') : SlP w' v pts := by
  obtain ⟨A, c, rfl, h1, h3⟩ := h
  exact ⟨A, c, rfl, h1, fun i hi => let ⟨ad, ha, hc, hd⟩ := h3 i hi; ⟨ad, ha, he.cell hc, he.cell hd⟩⟩
structure PnSt {p : Nat} (B : Nat) (w0 w : World) (gp gf gd gx : Nat) (X Y : Fin p) (f : List (Fin p)) (d : Fin p) : Prop where
  bp : Bx w gp (.int .u64 (p : Nat))
  bf : ∃ r, Bx w gf r ∧ w.ownsRow B 22 1 r f.length (encF f) ∧ ∀ q, r.ownBlock = some q → q ≠ gd ∧ q ≠ gf
  bd : Bx w gd (.int .u64 (d.val : Nat))
  bx : ∃ T, w.heap[gx]? = some (.cells #[.int .u64 (X.val : Nat), .int .u64 (Y.val : Nat)] T (0, 0))
  bel : Below B w0 w
  ne : gf ≠ gp ∧ gf ≠ gd ∧ gf ≠ gx ∧ gd ≠ gp ∧ gd ≠ gx ∧ B ≤ gf ∧ B ≤ gd
theorem own_setCell_ne {w : World} {base : Nat} {e : TypeId} {size : Nat} {v : Value} {n : Nat} {xs : List Value} (h : w.ownsRow base e size v n xs) {g : Nat} (hne : ∀ q, v.ownBlock = some q → q ≠ g) (u : Value) : (w.setCell ⟨g, 0, none⟩ u).ownsRow base e size v n xs := by
  refine h.kept (grown_setCell w ⟨g, 0, none⟩ u) ?_
  cases hv : v.ownBlock with
  | none => exact .inl rfl
  | some q => exact .inr fun e => hne q hv (by simpa using e)
set_option maxRecDepth 4000 in
set_option maxHeartbeats 1000000 in
theorem pn1_calls {p : Nat} [NeZero p] (hs : Sup p) {B : Nat} {w0 w : World} {gp gf gd gx : Nat} {X Y d o : Fin p} {f : List (Fin p)} (h : PnSt B w0 w gp gf gd gx X Y f d) (hfl : f.length ≤ 1000) :
    Calls Try.prog 49 #[.int .u64 (o.val : Nat), .pointer (some ⟨gp, 0, none⟩), .pointer (some ⟨gf, 0, none⟩), .pointer (some ⟨gd, 0, none⟩), .pointer (some ⟨gx, 0, none⟩)] w
      (fun e w' => e = .returned (.tuple #[]) ∧ PnSt B w0 w' gp gf gd gx X Y (ptrim (pmul f [-o, 1])) (d * (X - o))) := by
  obtain ⟨n1, n2, n3, n4, n5, n6, n7⟩ := h.ne
  obtain ⟨r, hbf, hrow, hrn⟩ := h.bf
  have c1 := h.bp.cell
  have c2 := hbf.cell
  have hB : B ≤ w.heap.size := by have := hbf.lt; omega
  have hsl : SlF w r f := own_slF hrow
  have hlt1 := hbf.lt
  have hlt2 := h.bd.lt
  have one_val : ((1 : Fin p).val : Int) = 1 := by rw [hs.one_val]; rfl
  have hlin : SlF (w.drew.alloc (.cells #[.int .u64 ((-o).val : Nat), .int .u64 1] 22)) (.slice (some ⟨w.heap.size, 0, none⟩) 2 2) [-o, 1] := by
    have h1 := World.ownsRow_lit (base := w.drew.heap.size) (e := 22) (size := 1) w.drew #[.int .u64 ((-o).val : Nat), .int .u64 1] 2 (Nat.le_refl _) (by unfold maxLen; omega) (by simp)
    refine own_slF (p := p) (base := w.drew.heap.size) (e := 22) (xs := [-o, 1]) ?_
    simpa [encF, one_val] using h1
  have hE1 : Ext w (w.drew.alloc (.cells #[.int .u64 ((-o).val : Nat), .int .u64 1] 22)) := (Ext.drew w).trans (Ext.of_alloc _ _)
  have hsl1 := hsl.ext hE1
  have f2 := hbf.frz
  have H1 := Hd.mk h
  have HR := Hd.mk hrow
  have HB := Hd.mk hbf
  clear h hrow hbf hsl
  obtain ⟨A, c, hr, hc, hcell⟩ := hsl1.at
  subst hr
  have HS1 := Hd.mk hsl1
  have HL := Hd.mk hlin
  clear hcell hsl1 hlin
  go_enter Try.func49, Try.ntmps49
  go_wp2_with fail
  refine wp_region_lex (EW 4) [some (0, 3), some (0, 3), some (0, 1), some (0, 1), none, none, none, none] (by kernel_rfl) (by kernel_rfl) ?_
  (repeat (refine lex_steady (fun K hK => ?_); go_simp; first | (refine ⟨_, fun _ _ => rfl, hK _ ?_⟩; clear hK K) | (refine ⟨?_, fun w' hw' => ?_, hK _ ?_⟩; rotate_left; (have hw'' := reach_ext hw' (by decide); have z0 := Ext.cell hw'' c1; have z1 := Ext.cell hw'' c2; go_simp; rfl); go_simp; clear hK K) | (refine hK _ ?_; clear hK K)))
  (refine lex_active (fun K hK => ?_); go_simp; refine (neg_calls hs (x := o) rfl _).mono ?_; rintro _ _ ⟨rfl, rfl⟩; refine ⟨_, rfl, fun _ => Ext.refl _, hK _ _ _ ?_⟩; clear hK K)
  (repeat (refine lex_steady (fun K hK => ?_); go_simp; first | (refine ⟨_, fun _ _ => rfl, hK _ ?_⟩; clear hK K) | (refine ⟨?_, fun w' hw' => ?_, hK _ ?_⟩; rotate_left; (have hw'' := reach_ext hw' (by decide); have z0 := Ext.cell hw'' c1; have z1 := Ext.cell hw'' c2; go_simp; rfl); go_simp; clear hK K) | (refine hK _ ?_; clear hK K)))
  (refine lex_active (fun K hK => ?_); go_simp; refine ⟨fun _ => Ext.of_alloc _ _, hK _ _ _ ?_⟩; clear hK K)
  (repeat (refine lex_steady (fun K hK => ?_); go_simp; first | (refine ⟨_, fun _ _ => rfl, hK _ ?_⟩; clear hK K) | (refine ⟨?_, fun w' hw' => ?_, hK _ ?_⟩; rotate_left; (have hw'' := reach_ext hw' (by decide); have z0 := Ext.cell hw'' c1; have z1 := Ext.cell hw'' c2; go_simp; rfl); go_simp; clear hK K) | (refine hK _ ?_; clear hK K)))
  (refine lex_active (fun K hK => ?_); go_simp; refine (polyMul_calls hs _ HS1.out HL.out (by omega) (by simp)).mono ?_; rintro _ w1 ⟨v1, rfl, hv, hE2⟩; refine ⟨_, rfl, fun _ => hE2, hK _ _ _ ?_⟩; clear hK K)
  obtain ⟨A1, k1, hv1, _⟩ := own_slF hv
  subst hv1
  have hE3 := hE1.trans hE2
  have hsz : w.heap.size < (w.drew.alloc (.cells #[.int .u64 ((-o).val : Nat), .int .u64 1] 22)).heap.size := by
    show w.heap.size < (w.heap.push _).size
    rw [Array.size_push]; omega
  have hn1 : ∀ q, (Value.slice A1 (ptrim (pmul f [-o, 1])).length k1).ownBlock = some q → q ≠ gd ∧ q ≠ gf := fun q hq => by
    have := (hv.lt q hq).1
    omega
  have c3 := hE3.cell c2
  have f3 := (HB.out.ext hE3).frz
  have H2 : PnSt B w0 (w1.setCell ⟨gf, 0, none⟩ (.slice A1 (ptrim (pmul f [-o, 1])).length k1)) gp gf gd gx X Y (ptrim (pmul f [-o, 1])) d := by
    have h := H1.out
    obtain ⟨T, hbx⟩ := h.bx
    refine ⟨(h.bp.ext hE3).other (q := ⟨gf, 0, none⟩) (Ne.symm n1) _, ⟨_, (HB.out.ext hE3).set _, ?_, hn1⟩, (h.bd.ext hE3).other (q := ⟨gf, 0, none⟩) (Ne.symm n2) _, ⟨T, ?_⟩, (Below.trans h.bel (Below.mono hE3 hB)).setCell (p := ⟨gf, 0, none⟩) n6 _, h.ne⟩
    · exact own_setCell_ne (own_mono hv (by omega)) (fun q hq => (hn1 q hq).2) _
    · show (w1.setCell ⟨gf, 0, none⟩ (.slice A1 (ptrim (pmul f [-o, 1])).length k1)).heap[gx]? = _
      rw [heap_setCell_other _ ⟨gf, 0, none⟩ gx _ (Ne.symm n3), Below.block hE3 gx (Array.getElem?_eq_some_iff.1 hbx).1]
      exact hbx
  clear H1 HR HB HS1 HL c1 c2 f2 hv hn1 hE2 hE3 hE1 hlt1 hlt2 hsz hrn hB
  (refine lex_active (fun K hK => ?_); go_simp; refine ⟨fun h => absurd h (by decide), hK _ _ _ ?_⟩; clear hK K)
  refine lex_nil ?_
  generalize w1.setCell ⟨gf, 0, none⟩ (.slice A1 (ptrim (pmul f [-o, 1])).length k1) = w2 at *
  have c1 := H2.bp.cell
  have c2 := H2.bd.cell
  obtain ⟨T, hbx⟩ := H2.bx
  have c4 : w2.cell? ⟨gx, 0, none⟩ = some (.int .u64 (X.val : Nat)) := by rw [cell_of_row w2 gx 0 _ _ _ hbx]; rfl
  have f2 := H2.bd.frz
  have H3 := Hd.mk H2
  clear H2 hbx c3 f3
  go_wp2_with fail
  refine wp_region_lex (EW 3) [some (0, 2), some (0, 2), some (0, 1), some (0, 3), some (0, 1), some (0, 1), none, none, none] (by kernel_rfl) (by kernel_rfl) ?_
  (repeat (refine lex_steady (fun K hK => ?_); go_simp; first | (refine ⟨_, fun _ _ => rfl, hK _ ?_⟩; clear hK K) | (refine ⟨?_, fun w' hw' => ?_, hK _ ?_⟩; rotate_left; (have hw'' := reach_ext hw' (by decide); have z0 := Ext.cell hw'' c1; have z1 := Ext.cell hw'' c2; have z2 := Ext.cell hw'' c4; go_simp; rfl); go_simp; clear hK K) | (refine hK _ ?_; clear hK K)))
  (refine lex_active (fun K hK => ?_); go_simp; refine (sub_calls hs (x := X) (y := o) rfl rfl _).mono ?_; rintro _ _ ⟨rfl, rfl⟩; refine ⟨_, rfl, fun _ => Ext.refl _, hK _ _ _ ?_⟩; clear hK K)
  (repeat (refine lex_steady (fun K hK => ?_); go_simp; first | (refine ⟨_, fun _ _ => rfl, hK _ ?_⟩; clear hK K) | (refine ⟨?_, fun w' hw' => ?_, hK _ ?_⟩; rotate_left; (have hw'' := reach_ext hw' (by decide); have z0 := Ext.cell hw'' c1; have z1 := Ext.cell hw'' c2; have z2 := Ext.cell hw'' c4; go_simp; rfl); go_simp; clear hK K) | (refine hK _ ?_; clear hK K)))
  (refine lex_active (fun K hK => ?_); go_simp; refine (mul_calls hs (x := d) (y := X - o) rfl rfl _).mono ?_; rintro _ _ ⟨rfl, rfl⟩; refine ⟨_, rfl, fun _ => Ext.refl _, hK _ _ _ ?_⟩; clear hK K)
  (repeat (refine lex_steady (fun K hK => ?_); go_simp; first | (refine ⟨_, fun _ _ => rfl, hK _ ?_⟩; clear hK K) | (refine ⟨?_, fun w' hw' => ?_, hK _ ?_⟩; rotate_left; (have hw'' := reach_ext hw' (by decide); have z0 := Ext.cell hw'' c1; have z1 := Ext.cell hw'' c2; have z2 := Ext.cell hw'' c4; go_simp; rfl); go_simp; clear hK K) | (refine hK _ ?_; clear hK K)))
  (refine lex_active (fun K hK => ?_); go_simp; refine ⟨fun h => absurd h (by decide), hK _ _ _ ?_⟩; clear hK K)
  refine lex_nil ?_
  go_wp2_with fail
  go_end0
  have h := H3.out
  obtain ⟨T, hbx⟩ := h.bx
  obtain ⟨r, q1, q2, q3⟩ := h.bf
  refine ⟨rfl, ⟨(h.bp.other (q := ⟨gd, 0, none⟩) (Ne.symm n4) _).ext (Ext.drew _), ⟨r, (q1.other (q := ⟨gd, 0, none⟩) n2 _).ext (Ext.drew _), own_ext (own_setCell_ne q2 (fun q hq => (q3 q hq).1) _) (Ext.drew _), q3⟩, (h.bd.set _).ext (Ext.drew _), ⟨T, ?_⟩, (h.bel.setCell (p := ⟨gd, 0, none⟩) n7 _).drew, h.ne⟩⟩
  show (w2.setCell ⟨gd, 0, none⟩ (.int .u64 ((d * (X - o)).val : Nat))).heap[gx]? = _
  rw [heap_setCell_other _ ⟨gd, 0, none⟩ gx _ (Ne.symm n5)]
  exact hbx
/-! ### the product of the linear factors -/
def linF {p : Nat} [NeZero p] (os : List (Fin p)) : List (Fin p) := os.foldl (fun f o => ptrim (pmul f [-o, 1])) [1]
theorem linF_snoc {p : Nat} [NeZero p] (os : List (Fin p)) (o : Fin p) : linF (os ++ [o]) = ptrim (pmul (linF os) [-o, 1]) := by simp [linF]
theorem linF_gen {p : Nat} [NeZero p] (z : Fin p) (os : List (Fin p)) : ∀ f : List (Fin p), ev (os.foldl (fun f o => ptrim (pmul f [-o, 1])) f) z = ev f z * evp z os ∧ (os.foldl (fun f o => ptrim (pmul f [-o, 1])) f).length ≤ f.length + os.length := by
  induction os with
  | nil => intro f; exact ⟨by simp only [List.foldl_nil, evp_nil]; grind, by simp⟩
  | cons o os ih =>
    intro f
    obtain ⟨h1, h2⟩ := ih (ptrim (pmul f [-o, 1]))
    refine ⟨?_, ?_⟩
    · rw [List.foldl_cons, h1, ev_lin, evp_cons]; grind
    · have := length_lin f o
      rw [List.foldl_cons, List.length_cons]; omega
theorem linF_ev {p : Nat} [NeZero p] (os : List (Fin p)) (z : Fin p) : ev (linF os) z = evp z os ∧ (linF os).length ≤ os.length + 1 := by
  obtain ⟨h1, h2⟩ := linF_gen z os [1]
  refine ⟨?_, ?_⟩
  · unfold linF; rw [h1]; simp only [ev_cons, ev_nil]; grind
  · unfold linF; simp only [List.length_cons, List.length_nil] at h2; omega
set_option maxRecDepth 4000 in
set_option maxHeartbeats 1000000 in
theorem polynomial_err {p : Nat} [NeZero p] (hs : Sup p) (w : World) {v : Value} {pts : List (Fin p × Fin p)} (hx : SlP w v pts) (hn : pts.length ≤ 12) (hxn : ¬ (pts.map (·.1)).Nodup) :
    Calls Try.prog 34 #[.int .u64 p, v] w (Rets w fun w' r => ∃ q, r = .tuple #[q, .int .i64 1] ∧ w'.ownsRow w.heap.size 22 1 q 0 []) := by
  have HN := Hd.mk hxn
  have HX := Hd.mk hx
  obtain ⟨A, c, rfl, hc, hcell⟩ := hx
  have HC := Hd.mk hcell
  clear hcell hxn
  have hp0 : Bx (w.alloc (.cells #[.int .u64 (p : Nat)] 22)) w.heap.size (.int .u64 (p : Nat)) := ⟨⟨_, heap_alloc_new w _⟩⟩
  have hE0 := Ext.of_alloc w (.cells #[.int .u64 (p : Nat)] 22)
  go_enter Try.func34, Try.ntmps34
  go_wp2_with fail
  go_loopw [16, 6] (fun i vo wr => ∃ (k : Nat) (r : Value), k ≤ pts.length ∧ i = .int .i64 (k : Nat) ∧ vo = r ∧ wr.ownsRow (w.heap.size + 1) 22 1 r k (encF ((pts.take k).map (·.1))) ∧ Bx wr w.heap.size (.int .u64 (p : Nat)) ∧ Ext w wr) (fun i _ _ => pts.length - (intOf i).toNat)
  case atStart => exact ⟨0, _, by omega, rfl, rfl, World.ownsRow_nil _ _ _ _, hp0, hE0⟩
  case round =>
    clear hp0 hE0
    obtain ⟨k, r, hk, rfl, rfl, hown, hp, hE⟩ := hrel
    by_cases hlt : k < pts.length
    · obtain ⟨ad, rfl, hcx, hcy⟩ := HC.out k hlt
      have hcx := hE.cell hcx
      have hcy := hE.cell hcy
      have hnew : Hd (encF ((pts.take (k + 1)).map (·.1)) = encF ((pts.take k).map (·.1)) ++ [.int .u64 (pts[k].1.val : Nat)]) := ⟨by
        rw [List.take_succ_eq_append_getElem hlt, List.map_append, encF_append]; rfl⟩
      generalize pts[k].1 = X at *
      generalize pts[k].2 = Y at *
      have hgp := hp.lt
      go_wp2_with (with_reducible first | refine hold_append rfl ?_ | refine hold_make rfl ?_)
      have hsz : (wr.alloc (.cells #[.int .u64 (X.val : Nat), .int .u64 (Y.val : Nat)] 57)).heap.size = wr.heap.size + 1 := by
        show (wr.heap.push _).size = _
        rw [Array.size_push]
      have hsrc := Src.one (wr.alloc (.cells #[.int .u64 (X.val : Nat), .int .u64 (Y.val : Nat)] 57)) (.int .u64 (X.val : Nat)) 22 rfl
      rw [hsz] at hsrc
      have eA := Ext.of_alloc wr (.cells #[.int .u64 (X.val : Nat), .int .u64 (Y.val : Nat)] 57)
      have eB := Ext.of_alloc (wr.alloc (.cells #[.int .u64 (X.val : Nat), .int .u64 (Y.val : Nat)] 57)) (.cells #[.int .u64 (X.val : Nat)] 22)
      refine wpl_append tyU (w.heap.size + 1) (own_ext (own_ext hown eA) eB) hsrc (by rfl) (by rfl) (by rfl) (by rfl) (by omega) ((by have := eB.size; omega)) ?_
      intro v1 w1 hown1 hg1
      rw [← hnew.out] at hown1
      have hE1 : Ext w w1 := ((hE.trans eA).trans eB).grown hg1 (fun q hq => by have := (hown.lt q hq).1; omega)
      have hp1 : Bx w1 w.heap.size (.int .u64 (p : Nat)) := ((hp.ext eA).ext eB).grown hg1 fun q hq => by have := (hown.lt q hq).1; omega
      clear hown hg1 hp hE eA eB hsrc hsz hgp hcx hcy
      go_wp2_with fail
      go_roundw
      case rel => exact ⟨k + 1, _, by omega, by go_num, rfl, hown1, hp1, hE1⟩
      case measure => simp [intOf] <;> omega
    · obtain rfl : k = pts.length := by omega
      rw [List.take_length] at hown
      have hsl : SlF wr u6 (pts.map (·.1)) := own_slF (by rw [List.length_map]; exact hown)
      have hun := unlike_calls wr (SlU.of_F hsl) (by simpa using hn)
      obtain ⟨A1, c1, hv1⟩ : ∃ A1 c1, u6 = .slice A1 pts.length c1 := by
        obtain ⟨A1, c1, h, _⟩ := own_slF (p := p) (xs := pts.map (·.1)) (by rw [List.length_map]; exact hown)
        exact ⟨A1, c1, by simpa using h⟩
      subst hv1
      have HU := Hd.mk hun
      clear hun
      go_wp2_with fail
      refine HU.out.mono ?_
      rintro e w1 ⟨rfl, hE1⟩
      have hnd : ((pts.map (·.1)).map (·.val)).Nodup ↔ (pts.map (·.1)).Nodup := by
        unfold List.Nodup
        rw [List.pairwise_map]
        exact ⟨fun h => h.imp fun h e => h (congrArg _ e), fun h => h.imp fun h e => h (Fin.ext e)⟩
      have hp1 := hp.ext hE1
      have hE2 := hE.trans hE1
      rw [decide_eq_false (fun h => HN.out (hnd.1 h))]
      clear hnd hp hown
      go_wp2_with fail
      go_ret2
      exact ⟨_, rfl, ⟨_, rfl, World.ownsRow_nil _ _ _ _⟩, hE2⟩
set_option maxRecDepth 4000 in
set_option maxHeartbeats 1000000 in
theorem polynomial_ok {p : Nat} [NeZero p] (hs : Sup p) (w : World) {v : Value} {pts : List (Fin p × Fin p)} (hx : SlP w v pts) (hn : pts.length ≤ 12) (hxn : (pts.map (·.1)).Nodup) :
    Calls Try.prog 34 #[.int .u64 p, v] w (Rets w fun w' r => ∃ q f, r = .tuple #[q, .int .i64 0] ∧ Interp pts f ∧ w'.ownsRow w.heap.size 22 1 q f.length (encF f)) := by
  have HN := Hd.mk hxn
  have HX := Hd.mk hx
  obtain ⟨A, c, rfl, hc, hcell⟩ := hx
  have HC := Hd.mk hcell
  clear hcell hxn
  have hp0 : Bx (w.alloc (.cells #[.int .u64 (p : Nat)] 22)) w.heap.size (.int .u64 (p : Nat)) := ⟨⟨_, heap_alloc_new w _⟩⟩
  have hE0 := Ext.of_alloc w (.cells #[.int .u64 (p : Nat)] 22)
  go_enter Try.func34, Try.ntmps34
  go_wp2_with fail
  go_loopw [16, 6] (fun i vo wr => ∃ (k : Nat) (r : Value), k ≤ pts.length ∧ i = .int .i64 (k : Nat) ∧ vo = r ∧ wr.ownsRow (w.heap.size + 1) 22 1 r k (encF ((pts.take k).map (·.1))) ∧ Bx wr w.heap.size (.int .u64 (p : Nat)) ∧ Ext w wr) (fun i _ _ => pts.length - (intOf i).toNat)
  case atStart => exact ⟨0, _, by omega, rfl, rfl, World.ownsRow_nil _ _ _ _, hp0, hE0⟩
  case round =>
    clear hp0 hE0
    obtain ⟨k, r, hk, rfl, rfl, hown, hp, hE⟩ := hrel
    by_cases hlt : k < pts.length
    · obtain ⟨ad, rfl, hcx, hcy⟩ := HC.out k hlt
      have hcx := hE.cell hcx
      have hcy := hE.cell hcy
      have hnew : Hd (encF ((pts.take (k + 1)).map (·.1)) = encF ((pts.take k).map (·.1)) ++ [.int .u64 (pts[k].1.val : Nat)]) := ⟨by
        rw [List.take_succ_eq_append_getElem hlt, List.map_append, encF_append]; rfl⟩
      generalize pts[k].1 = X at *
      generalize pts[k].2 = Y at *
      have hgp := hp.lt
      go_wp2_with (with_reducible first | refine hold_append rfl ?_ | refine hold_make rfl ?_)
      have hsz : (wr.alloc (.cells #[.int .u64 (X.val : Nat), .int .u64 (Y.val : Nat)] 57)).heap.size = wr.heap.size + 1 := by
        show (wr.heap.push _).size = _
        rw [Array.size_push]
      have hsrc := Src.one (wr.alloc (.cells #[.int .u64 (X.val : Nat), .int .u64 (Y.val : Nat)] 57)) (.int .u64 (X.val : Nat)) 22 rfl
      rw [hsz] at hsrc
      have eA := Ext.of_alloc wr (.cells #[.int .u64 (X.val : Nat), .int .u64 (Y.val : Nat)] 57)
      have eB := Ext.of_alloc (wr.alloc (.cells #[.int .u64 (X.val : Nat), .int .u64 (Y.val : Nat)] 57)) (.cells #[.int .u64 (X.val : Nat)] 22)
      refine wpl_append tyU (w.heap.size + 1) (own_ext (own_ext hown eA) eB) hsrc (by rfl) (by rfl) (by rfl) (by rfl) (by omega) ((by have := eB.size; omega)) ?_
      intro v1 w1 hown1 hg1
      rw [← hnew.out] at hown1
      have hE1 : Ext w w1 := ((hE.trans eA).trans eB).grown hg1 (fun q hq => by have := (hown.lt q hq).1; omega)
      have hp1 : Bx w1 w.heap.size (.int .u64 (p : Nat)) := ((hp.ext eA).ext eB).grown hg1 fun q hq => by have := (hown.lt q hq).1; omega
      clear hown hg1 hp hE eA eB hsrc hsz hgp hcx hcy
      go_wp2_with fail
      go_roundw
      case rel => exact ⟨k + 1, _, by omega, by go_num, rfl, hown1, hp1, hE1⟩
      case measure => simp [intOf] <;> omega
    · obtain rfl : k = pts.length := by omega
      rw [List.take_length] at hown
      have hsl : SlF wr u6 (pts.map (·.1)) := own_slF (by rw [List.length_map]; exact hown)
      have hun := unlike_calls wr (SlU.of_F hsl) (by simpa using hn)
      obtain ⟨A1, c1, hv1⟩ : ∃ A1 c1, u6 = .slice A1 pts.length c1 := by
        obtain ⟨A1, c1, h, _⟩ := own_slF (p := p) (xs := pts.map (·.1)) (by rw [List.length_map]; exact hown)
        exact ⟨A1, c1, by simpa using h⟩
      subst hv1
      have HU := Hd.mk hun
      clear hun
      go_wp2_with fail
      refine HU.out.mono ?_
      rintro e w1 ⟨rfl, hE1⟩
      have hnd : ((pts.map (·.1)).map (·.val)).Nodup ↔ (pts.map (·.1)).Nodup := by
        unfold List.Nodup
        rw [List.pairwise_map]
        exact ⟨fun h => h.imp fun h e => h (congrArg _ e), fun h => h.imp fun h e => h (Fin.ext e)⟩
      have hp1 := hp.ext hE1
      have hE2 := hE.trans hE1
      rw [decide_eq_true (hnd.2 HN.out)]
      have hxs2 := Hd.mk (hsl.ext hE1)
      clear hnd hown hsl
      go_wp2_with fail
      go_loopw [31, 9] (fun i vo wr => ∃ (k : Nat) (r : Value) (f : List (Fin p)), k ≤ pts.length ∧ i = .int .i64 (k : Nat) ∧ vo = r ∧ wr.ownsRow (w.heap.size + 1) 22 1 r f.length (encF f) ∧ Hd (Part pts k f) ∧ Bx wr w.heap.size (.int .u64 (p : Nat)) ∧ Ext w wr ∧ Ext w1 wr) (fun i _ _ => pts.length - (intOf i).toNat)
      case atStart => exact ⟨0, _, [], by omega, rfl, rfl, World.ownsRow_nil _ _ _ _, ⟨Part.zero pts⟩, hp1, hE2, Ext.refl _⟩
      case round =>
        clear hp hp1 hE2
        obtain ⟨k, r, f, hk, rfl, rfl, hown, hpart, hp, hE, hEx⟩ := hrel
        by_cases hlt : k < pts.length
        · obtain ⟨ad, rfl, hcx, hcy⟩ := HC.out k hlt
          have hcx := hE.cell hcx
          have hcy := hE.cell hcy
          have hgp := hp.lt
          have hxk : Hd (pts[k].1 = pts[k].1 ∧ pts[k].2 = pts[k].2) := ⟨rfl, rfl⟩
          have hov := over_evp hs HN.out hlt
          have hstep : ∀ g c, (∀ z, ev g z = c * evp z ((pts.map (·.1)).eraseIdx k)) → g.length ≤ pts.length → c * evp pts[k].1 ((pts.map (·.1)).eraseIdx k) = pts[k].2 → Part pts (k + 1) (ptrim (padd f g)) := fun g c h1 h2 h3 => Part.step hs HN.out hlt hpart.out h1 h2 h3
          have hfl := hpart.out.len
          generalize pts[k].1 = X at *
          generalize pts[k].2 = Y at *
          have HST := Hd.mk hstep
          have HOV := Hd.mk hov
          clear hstep hov hxk
          have one_val : ((1 : Fin p).val : Int) = 1 := by rw [hs.one_val]; rfl
          go_wp2_with fail
          have hst : Hd (∀ W, W = (((wr.alloc (.cells #[.int .u64 (X.val : Nat), .int .u64 (Y.val : Nat)] 57)).alloc (.cells #[.int .u64 1] 22)).alloc (.cells #[.slice (some ⟨wr.heap.size + 1, 0, none⟩) 1 1] 23)).alloc (.cells #[.int .u64 1] 22) → PnSt wr.heap.size wr W w.heap.size (wr.heap.size + 1 + 1) (wr.heap.size + 1 + 1 + 1) wr.heap.size X Y (linF []) (evp X [])) := ⟨fun W hW => by
            have e1 := Ext.of_alloc wr (.cells #[.int .u64 (X.val : Nat), .int .u64 (Y.val : Nat)] 57)
            have n1 := heap_alloc_new wr (.cells #[.int .u64 (X.val : Nat), .int .u64 (Y.val : Nat)] 57)
            have s1 : (wr.alloc (.cells #[.int .u64 (X.val : Nat), .int .u64 (Y.val : Nat)] 57)).heap.size = wr.heap.size + 1 := by show (wr.heap.push _).size = _; rw [Array.size_push]
            generalize wr.alloc (.cells #[.int .u64 (X.val : Nat), .int .u64 (Y.val : Nat)] 57) = wa at *
            have e2 := Ext.of_alloc wa (.cells #[.int .u64 1] 22)
            have n2 := World.ownsRow_lit (base := wr.heap.size) (e := 22) (size := 1) wa #[.int .u64 1] 1 (by omega) (by unfold maxLen; omega) (by simp)
            have s2 : (wa.alloc (.cells #[.int .u64 1] 22)).heap.size = wr.heap.size + 1 + 1 := by show (wa.heap.push _).size = _; rw [Array.size_push, s1]
            rw [s1] at n2
            generalize wa.alloc (.cells #[.int .u64 1] 22) = wb at *
            have e3 := Ext.of_alloc wb (.cells #[.slice (some ⟨wr.heap.size + 1, 0, none⟩) 1 1] 23)
            have n3 := heap_alloc_new wb (.cells #[.slice (some ⟨wr.heap.size + 1, 0, none⟩) 1 1] 23)
            have s3 : (wb.alloc (.cells #[.slice (some ⟨wr.heap.size + 1, 0, none⟩) 1 1] 23)).heap.size = wr.heap.size + 1 + 1 + 1 := by show (wb.heap.push _).size = _; rw [Array.size_push, s2]
            rw [s2] at n3
            generalize wb.alloc (.cells #[.slice (some ⟨wr.heap.size + 1, 0, none⟩) 1 1] 23) = wc at *
            have e4 := Ext.of_alloc wc (.cells #[.int .u64 1] 22)
            have n4 := heap_alloc_new wc (.cells #[.int .u64 1] 22)
            rw [s3] at n4
            rw [← hW] at e4 n4
            have e24 := (e2.trans e3).trans e4
            have o1 : ((1 : Fin p).val : Int) = 1 := by rw [hs.one_val]; rfl
            refine ⟨(hp.ext e1).ext e24, ⟨_, Bx.ext ⟨⟨_, n3⟩⟩ e4, ?_, ?_⟩, ?_, ⟨57, ?_⟩, e1.trans e24, by omega, by omega, by omega, by omega, by omega, by omega, by omega⟩
            · have h := own_ext n2 (e3.trans e4)
              simpa [linF, encF, o1] using h
            · intro q hq
              simp [Value.ownBlock] at hq
              omega
            · rw [evp_nil, o1]; exact ⟨⟨_, n4⟩⟩
            · rw [Below.block e24 wr.heap.size (by omega)]; exact n1⟩
          refine (others_calls (p := p) (xs := pts.map (·.1)) _ k 49 _ (fun args w => by rfl) (fun os w' => PnSt wr.heap.size wr w' w.heap.size (wr.heap.size + 1 + 1) (wr.heap.size + 1 + 1 + 1) wr.heap.size X Y (linF os) (evp X os)) (fun os w' h => hxs2.out.ext (hEx.trans h.bel)) (by simp; omega) (hst.out _ rfl) (fun o os w' hol h => ?_)).mono ?_
          · have hle := (linF_ev os X).2
            rw [List.length_map] at hol
            have := pn1_calls hs (o := o) h (by omega)
            refine this.mono ?_
            rintro e w2 ⟨rfl, h2⟩
            refine ⟨rfl, ?_⟩
            rw [linF_snoc, evp_append, evp_cons, evp_nil]
            have e2 : (X - o) * 1 = X - o := by grind
            rw [e2]
            exact h2
          · rintro e w2 ⟨rfl, h2⟩
            obtain ⟨r, q1, q2, q3⟩ := h2.bf
            obtain ⟨T, hbx⟩ := h2.bx
            have c1 := h2.bp.cell
            have c2 := q1.cell
            have c3 := h2.bd.cell
            have c4 : w2.cell? ⟨wr.heap.size, 1, none⟩ = some (.int .u64 (Y.val : Nat)) := by rw [cell_of_row w2 wr.heap.size 1 _ _ _ hbx]; rfl
            have hp2 := h2.bp
            have hE2 := hE.trans h2.bel
            have hEx2 := hEx.trans h2.bel
            have hown2 := own_ext hown h2.bel
            have hsl2 := own_slF q2
            have hsf2 := own_slF hown2
            have hlen := (linF_ev ((pts.map (·.1)).eraseIdx k) X).2
            have hel : ((pts.map (·.1)).eraseIdx k).length = pts.length - 1 := by rw [List.length_eraseIdx_of_lt (by simpa using hlt), List.length_map]
            have hfin : Hd (Part pts (k + 1) (ptrim (padd f (ptrim (pscale (Y * finv (evp X ((pts.map (·.1)).eraseIdx k))) (linF ((pts.map (·.1)).eraseIdx k))))))) := ⟨by
              refine HST.out _ (Y * finv (evp X ((pts.map (·.1)).eraseIdx k))) (fun z => ?_) ?_ ?_
              · rw [(ptrim_same _).ev, ev_pscale, (linF_ev _ z).1]
              · have := ptrim_length_le (pscale (Y * finv (evp X ((pts.map (·.1)).eraseIdx k))) (linF ((pts.map (·.1)).eraseIdx k)))
                rw [length_pscale] at this
                omega
              · have := hs.inv HOV.out
                grind⟩
            have hgl : (linF ((pts.map (·.1)).eraseIdx k)).length ≤ 1000 := by omega
            clear h2 hE hEx hown hp hst hcx hcy q1 q2 q3 hbx HST HOV hlen hel hxs2 HU
            generalize evp X ((pts.map (·.1)).eraseIdx k) = D at *
            generalize linF ((pts.map (·.1)).eraseIdx k) = G at *
            have hsl3 := hsl2
            obtain ⟨A3, k3, hr3, _⟩ := hsl3
            subst hr3
            have hsl2 := Hd.mk hsl2
            have hsf2 := Hd.mk hsf2
            go_wp2_with fail
            refine wp_region_lex (EW 4) [some (0, 3), some (0, 3), some (0, 2), some (0, 1), some (0, 4), some (0, 1), some (0, 1), none, some (0, 2), none, none, some (3, 4)] (by kernel_rfl) (by kernel_rfl) ?_
            (repeat (refine lex_steady (fun K hK => ?_); go_simp; first | (refine ⟨_, fun _ _ => rfl, hK _ ?_⟩; clear hK K) | (refine ⟨?_, fun w' hw' => ?_, hK _ ?_⟩; rotate_left; (have hw'' := reach_ext hw' (by decide); have z0 := Ext.cell hw'' c1; have z1 := Ext.cell hw'' c2; have z2 := Ext.cell hw'' c3; have z3 := Ext.cell hw'' c4; go_simp; rfl); go_simp; clear hK K) | (refine hK _ ?_; clear hK K)))
            (refine lex_active (fun K hK => ?_); go_simp; refine (over_calls hs (x := Y) (y := D) rfl rfl _).mono ?_; rintro _ _ ⟨rfl, rfl⟩; refine ⟨_, rfl, fun _ => Ext.refl _, hK _ _ _ ?_⟩; clear hK K)
            (repeat (refine lex_steady (fun K hK => ?_); go_simp; first | (refine ⟨_, fun _ _ => rfl, hK _ ?_⟩; clear hK K) | (refine ⟨?_, fun w' hw' => ?_, hK _ ?_⟩; rotate_left; (have hw'' := reach_ext hw' (by decide); have z0 := Ext.cell hw'' c1; have z1 := Ext.cell hw'' c2; have z2 := Ext.cell hw'' c3; have z3 := Ext.cell hw'' c4; go_simp; rfl); go_simp; clear hK K) | (refine hK _ ?_; clear hK K)))
            (refine lex_active (fun K hK => ?_); go_simp; refine (polyScale_calls hs _ (k := Y * finv D) rfl (hsl2.out.ext (Ext.drew _)) (by omega)).mono ?_; rintro _ w3 ⟨v3, rfl, h3, hE3⟩; refine ⟨_, rfl, fun _ => hE3, hK _ _ _ ?_⟩; clear hK K)
            (repeat (refine lex_steady (fun K hK => ?_); go_simp; first | (refine ⟨_, fun _ _ => rfl, hK _ ?_⟩; clear hK K) | (refine ⟨?_, fun w' hw' => ?_, hK _ ?_⟩; rotate_left; (have hw'' := reach_ext hw' (by decide); have z0 := Ext.cell hw'' c1; have z1 := Ext.cell hw'' c2; have z2 := Ext.cell hw'' c3; have z3 := Ext.cell hw'' c4; go_simp; rfl); go_simp; clear hK K) | (refine hK _ ?_; clear hK K)))
            (refine lex_active (fun K hK => ?_); go_simp; refine (polyAdd_calls hs _ (hsf2.out.ext ((Ext.drew _).trans hE3)) (own_slF h3) (by omega) (by have := ptrim_length_le (pscale (Y * finv D) G); rw [length_pscale] at this; omega)).mono ?_; rintro _ w4 ⟨v4, rfl, h4, hE4⟩; refine ⟨_, rfl, fun _ => hE4, hK _ _ _ ?_⟩; clear hK K)
            (repeat (refine lex_steady (fun K hK => ?_); go_simp; first | (refine ⟨_, fun _ _ => rfl, hK _ ?_⟩; clear hK K) | (refine ⟨?_, fun w' hw' => ?_, hK _ ?_⟩; rotate_left; (have hw'' := reach_ext hw' (by decide); have z0 := Ext.cell hw'' c1; have z1 := Ext.cell hw'' c2; have z2 := Ext.cell hw'' c3; have z3 := Ext.cell hw'' c4; go_simp; rfl); go_simp; clear hK K) | (refine hK _ ?_; clear hK K)))
            refine lex_nil ?_
            have hE5 : Ext w2 w4 := ((Ext.drew _).trans hE3).trans hE4
            have hp4 := hp2.ext hE5
            have hE6 := hE2.trans hE5
            have hEx6 := hEx2.trans hE5
            have h5 := own_mono h4 (show w.heap.size + 1 ≤ w3.heap.size by have h7 : w2.heap.size ≤ w3.heap.size := hE3.size; have := hp2.lt; omega)
            clear h3 h4 hE3 hE4 hE5 c1 c2 c3 c4 hp2 hE2 hEx2 hown2
            go_wp2_with fail
            go_roundw
            case rel => exact ⟨k + 1, _, _, by omega, by go_num, rfl, h5, hfin, hp4, hE6, hEx6⟩
            case measure => simp [intOf] <;> omega
        · obtain rfl : k = pts.length := by omega
          have hin := hpart.out.interp
          have hlen := hin.len
          have htr := ptrim_of_trimmed hin.trim
          have HI := Hd.mk hin
          have HT := Hd.mk htr
          clear hin htr hpart hEx
          go_wp2_with fail
          refine (trim_calls _ (own_slF hown) (by omega)).mono ?_
          rintro e w2 ⟨r, rfl, hr, hE3⟩
          rw [HT.out] at hr
          have hr := own_mono hr hE.size
          have hE4 := hE.trans hE3
          clear hown hp hE hE3
          go_wp2_with fail
          go_ret2
          exact ⟨_, rfl, ⟨_, _, rfl, HI.out, hr⟩, hE4⟩
end Go.Proofs.Ytiokpaknhbfenaa
end
