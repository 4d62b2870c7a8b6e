/-
A part of this claim's proof (Sorts): lemmas that the text of the law stands on.
-/
import Derived.Test.YtiokpaknhbfenaaPolyGo
import Derived.WalkSpells
import Derived.Laws.BitsLemmas
section
set_option linter.unusedVariables false
namespace Go.Proofs.Ytiokpaknhbfenaa
open Go.RowKit
theorem isNaN_calls (x : Nat) (w : World) : Calls Try.prog 100 #[.int .u64 (x : Nat)] w (Just (.bool false) w) := by
  go_enter Try.func100, Try.ntmps100
  go_wp2_with fail
  go_ret
  exact ⟨rfl, rfl⟩
theorem less_calls (x y : Nat) (w : World) : Calls Try.prog 91 #[.int .u64 (x : Nat), .int .u64 (y : Nat)] w (Just (.bool (decide (x < y))) w) := by
  go_enter Try.func91, Try.ntmps91
  go_wp2_with fail
  refine (isNaN_calls _ _).mono ?_
  rintro e w' ⟨rfl, rfl⟩
  go_wp2_with fail
  go_ret
  exact ⟨rfl, rfl⟩
/-! ### insertion sort -/
def Le2 (ys : List Nat) (a b : Nat) : Prop := ys.getD a 0 ≤ ys.getD b 0
/-- sorted up to k, but for the element at j -/
structure Near (ys : List Nat) (k j : Nat) : Prop where
  le : ∀ a b, a < b → b ≤ k → b ≠ j → Le2 ys a b
def swapped (ys : List Nat) (j : Nat) : List Nat := (ys.set (j + 1) (ys.getD j 0)).set j (ys.getD (j + 1) 0)
theorem swapped_length (ys : List Nat) (j : Nat) : (swapped ys j).length = ys.length := by simp [swapped]
theorem swapped_perm (ys : List Nat) (j : Nat) (h : j + 1 < ys.length) : (swapped ys j).Perm ys := by
  unfold swapped
  have h1 : ys.getD j 0 = ys[j] := by simp [show j < ys.length by omega]
  have h2 : ys.getD (j + 1) 0 = ys[j + 1] := by simp [h]
  rw [h1, h2]
  exact List.set_set_perm h (by omega)
theorem swapped_getD (ys : List Nat) (j a : Nat) (h : j + 1 < ys.length) : (swapped ys j).getD a 0 = if a = j then ys.getD (j + 1) 0 else if a = j + 1 then ys.getD j 0 else ys.getD a 0 := by
  unfold swapped
  simp only [List.getD_eq_getElem?_getD, List.getElem?_set, List.length_set]
  by_cases h1 : a = j
  · subst h1; simp [show a < ys.length by omega]
  · by_cases h2 : a = j + 1
    · subst h2; simp [h]
    · simp [h1, h2, Ne.symm h1, Ne.symm h2]
theorem Near.swap {ys : List Nat} {k j : Nat} (h : Near ys k (j + 1)) (hj : j + 1 ≤ k) (hk : k < ys.length) (hlt : ys.getD (j + 1) 0 < ys.getD j 0) : Near (swapped ys j) k j := by
  refine ⟨fun a b hab hb hne => ?_⟩
  unfold Le2
  rw [swapped_getD _ _ _ (by omega), swapped_getD _ _ _ (by omega)]
  rw [if_neg hne]
  by_cases hb1 : b = j + 1
  · rw [if_pos hb1]
    by_cases ha : a = j
    · rw [if_pos ha]; omega
    · rw [if_neg ha, if_neg (by omega)]
      exact h.le a j (by omega) (by omega) (by omega)
  · rw [if_neg hb1]
    by_cases ha : a = j
    · rw [if_pos ha]
      have := h.le (j + 1) b (by omega) hb hb1
      exact this
    · rw [if_neg ha]
      by_cases ha1 : a = j + 1
      · rw [if_pos ha1]
        have := h.le j b (by omega) hb hb1
        exact this
      · rw [if_neg ha1]
        exact h.le a b hab hb hb1
theorem Near.stop {ys : List Nat} {k j : Nat} (h : Near ys k (j + 1)) (hj : j + 1 ≤ k) (hle : ¬ ys.getD (j + 1) 0 < ys.getD j 0) : ∀ a b, a < b → b ≤ k → Le2 ys a b := by
  intro a b hab hb
  by_cases hbj : b = j + 1
  · subst hbj
    unfold Le2
    by_cases ha : a = j
    · subst ha; omega
    · have := h.le a j (by omega) (by omega) (by omega)
      unfold Le2 at this
      omega
  · exact h.le a b hab hb hbj
theorem Near.start {ys : List Nat} {k : Nat} (h : ∀ a b, a < b → b < k → Le2 ys a b) : Near ys k k := ⟨fun a b hab hb hne => h a b hab (by omega)⟩
theorem encU_getD (ys : List Nat) (j : Nat) (h : j < ys.length) : (encU ys).getD j undef = .int .u64 (ys.getD j 0 : Nat) := by simp [encU, h]
theorem encU_set (a : List Nat) (i : Nat) (x : Nat) : (encU a).set i (.int .u64 (x : Nat)) = encU (a.set i x) := by simp [encU, List.map_set]
theorem encU_length (a : List Nat) : (encU a).length = a.length := by simp [encU]
theorem add_zero_off' (g j : Nat) : (⟨g, 0, none⟩ : Addr).add j = ⟨g, j, none⟩ := by unfold Addr.add; split <;> simp_all
set_option maxRecDepth 4000 in
set_option maxHeartbeats 1000000 in
theorem insertion_calls (w : World) (B g cap : Nat) (xs : List Nat) (hown : w.ownsRow B 22 1 (.slice (some ⟨g, 0, none⟩) xs.length cap) xs.length (encU xs)) (hn : xs.length ≤ 1000000) (hB0 : B ≤ g) :
    Calls Try.prog 85 #[.slice (some ⟨g, 0, none⟩) xs.length cap, .int .i64 0, .int .i64 (xs.length : Nat)] w (fun e w' => e = .returned (.tuple #[]) ∧ ∃ ys : List Nat, ys.Perm xs ∧ (∀ a b, a < b → b < ys.length → Le2 ys a b) ∧ w'.ownsRow B 22 1 (.slice (some ⟨g, 0, none⟩) xs.length cap) xs.length (encU ys) ∧ Below B w w') := by
  generalize hnn : xs.length = n at *
  go_enter Try.func85, Try.ntmps85
  go_wp2_with fail
  go_loopw [6] (fun i wr => ∃ (k : Nat) (ys : List Nat), 1 ≤ k ∧ k ≤ n + 1 ∧ i = .int .i64 (k : Nat) ∧ Hd (ys.Perm xs) ∧ ys.length = n ∧ Hd (∀ a b, a < b → b < min k n → Le2 ys a b) ∧ wr.ownsRow B 22 1 (.slice (some ⟨g, 0, none⟩) n cap) n (encU ys) ∧ Below B w wr) (fun i _ => n + 2 - (intOf i).toNat)
  case atStart => exact ⟨1, xs, by omega, by omega, rfl, ⟨List.Perm.refl _⟩, hnn, ⟨fun a b hab hb => by omega⟩, hown, Below.refl _ _⟩
  case round =>
    clear hown
    obtain ⟨k, ys, hk1, hk2, rfl, hperm, hlen, hsorted, hown, hB⟩ := hrel
    by_cases hlt : k < n
    · go_wp2_with fail
      have hnear : Hd (Near ys k k) := ⟨Near.start fun a b hab hb => hsorted.out a b hab (by omega)⟩
      clear hsorted
      go_loopw [7] (fun i wr => ∃ (j : Nat) (ys : List Nat), j ≤ k ∧ i = .int .i64 (j : Nat) ∧ Hd (ys.Perm xs) ∧ ys.length = n ∧ Hd (Near ys k j) ∧ wr.ownsRow B 22 1 (.slice (some ⟨g, 0, none⟩) n cap) n (encU ys) ∧ Below B w wr) (fun i _ => (intOf i).toNat)
      case atStart => exact ⟨k, ys, by omega, rfl, hperm, hlen, hnear, hown, hB⟩
      case round =>
        clear hown hB hperm hlen hnear
        obtain ⟨j, ys, hj, rfl, hperm, hlen, hnear, hown, hB⟩ := hrel
        by_cases h0 : j = 0
        · subst h0
          have hdone : Hd (∀ a b, a < b → b < min (k + 1) n → Le2 ys a b) := ⟨fun a b hab hb => hnear.out.le a b hab (by omega) (by omega)⟩
          go_wp2_with fail
          refine wp_region_lex (EW 2) [some (0, 2), some (0, 2), some (0, 2), some (0, 1), some (0, 2), some (0, 2), some (0, 2), some (0, 1), some (0, 2), some (0, 2), some (0, 2), some (0, 2), some (0, 1), none, some (1, 2)] (by kernel_rfl) (by kernel_rfl) ?_
          (repeat (refine lex_steady (fun K hK => ?_); go_simp; first | (refine ⟨_, fun _ _ => rfl, hK _ ?_⟩; clear hK K) | (refine hK _ ?_; clear hK K)))
          (refine lex_active (fun K hK => ?_); go_simp; refine hK _ _ _ ?_; clear hK K)
          (repeat (refine lex_steady (fun K hK => ?_); go_simp; first | (refine ⟨_, fun _ _ => rfl, hK _ ?_⟩; clear hK K) | (refine hK _ ?_; clear hK K)))
          refine lex_nil ?_
          go_wp2_with fail
          go_roundw
          case rel => exact ⟨k + 1, ys, by omega, by omega, by go_num, hperm, hlen, hdone, own_ext hown (Ext.drew _), hB.drew⟩
          case measure => simp [intOf] <;> omega
        · obtain ⟨j, rfl⟩ : ∃ i, j = i + 1 := ⟨j - 1, by omega⟩
          clear h0
          have hpos : decide ((0 : Int) < (j : Int) + 1) = true := by simp <;> omega
          have hin1 : (0 : Int) ≤ (j : Int) + 1 := by omega
          have hin2 : (j : Int) + 1 < (n : Int) := by omega
          have hin3 : (0 : Int) ≤ (j : Int) := by omega
          have hin4 : (j : Int) < (n : Int) := by omega
          have hwj : IntKind.i64.wrap (j : Int) = (j : Int) := by rw [IntKind.wrap_i64]; omega
          have hsub : (j : Int) + 1 - 1 = (j : Int) := by omega
          have hgj : (encU ys).getD j undef = .int .u64 (ys.getD j 0 : Nat) := encU_getD ys j (by omega)
          have hgj1 : (encU ys).getD (j + 1) undef = .int .u64 (ys.getD (j + 1) 0 : Nat) := encU_getD ys (j + 1) (by omega)
          obtain ⟨q1, q2, -, -⟩ := run_own_store hown j (by omega) (.int .u64 (ys.getD (j + 1) 0 : Nat)) rfl
          obtain ⟨q3, q4, o3, -⟩ := run_own_store hown (j + 1) (by omega) (.int .u64 (ys.getD j 0 : Nat)) rfl
          obtain ⟨-, q5, o5, -⟩ := run_own_store o3 j (by omega) (.int .u64 (ys.getD (j + 1) 0 : Nat)) rfl
          rw [encU_set, encU_set] at o5
          rw [hgj] at q1
          rw [hgj1] at q3
          have hB2 : Below B w ((wr.setCell ⟨g, j + 1, none⟩ (.int .u64 (ys.getD j 0 : Nat))).setCell ⟨g, j, none⟩ (.int .u64 (ys.getD (j + 1) 0 : Nat))) := (hB.setCell (p := ⟨g, j + 1, none⟩) hB0 _).setCell (p := ⟨g, j, none⟩) hB0 _
          have hdr := own_ext hown (Ext.drew _)
          have hBdr := hB.drew
          have hstop : ys.getD (j + 1) 0 < ys.getD j 0 ∨ Hd (∀ a b, a < b → b < min (k + 1) n → Le2 ys a b) := by
            by_cases h : ys.getD (j + 1) 0 < ys.getD j 0
            · exact .inl h
            · exact .inr ⟨fun a b hab hb => hnear.out.stop hj h a b hab (by omega)⟩
          have hgo : Hd (ys.getD (j + 1) 0 < ys.getD j 0 → Near ((ys.set (j + 1) (ys.getD j 0)).set j (ys.getD (j + 1) 0)) k j) := ⟨fun h => hnear.out.swap hj (by omega) h⟩
          have hperm2 : Hd (((ys.set (j + 1) (ys.getD j 0)).set j (ys.getD (j + 1) 0)).Perm xs) := ⟨(swapped_perm ys j (by omega)).trans hperm.out⟩
          have hlen2 : Hd (((ys.set (j + 1) (ys.getD j 0)).set j (ys.getD (j + 1) 0)).length = n) := ⟨by simpa using hlen⟩
          clear hgj hgj1 o3 hown hB
          generalize ys.getD j 0 = u at *
          generalize ys.getD (j + 1) 0 = v at *
          have ho5 := Hd.mk o5
          clear o5
          rcases hstop with hlt2 | hstop
          · have hl := hgo.out hlt2
            have hdec : decide (v < u) = true := by simpa using hlt2
            go_wp2_with fail
            refine wp_region_lex (EW 2) [some (0, 2), some (0, 2), some (0, 2), some (0, 1), some (0, 2), some (0, 2), some (0, 2), some (0, 1), some (0, 2), some (0, 2), some (0, 2), some (0, 2), some (0, 1), none, some (1, 2)] (by kernel_rfl) (by kernel_rfl) ?_
            (repeat (refine lex_steady (fun K hK => ?_); go_simp; first | (refine ⟨_, fun _ _ => rfl, hK _ ?_⟩; clear hK K) | (refine ⟨?_, fun w' hw' => ?_, hK _ ?_⟩; rotate_left; (have hw'' := reach_ext hw' (by decide); have z0 := Ext.cell hw'' q1; have z1 := Ext.cell hw'' q3; go_simp; rfl); go_simp; clear hK K) | (refine hK _ ?_; clear hK K)))
            (refine lex_active (fun K hK => ?_); go_simp; refine (less_calls _ _ _).mono ?_; rintro _ _ ⟨rfl, rfl⟩; refine ⟨_, rfl, fun _ => Ext.refl _, hK _ _ _ ?_⟩; clear hK K)
            (repeat (refine lex_steady (fun K hK => ?_); go_simp; first | (refine ⟨_, fun _ _ => rfl, hK _ ?_⟩; clear hK K) | (refine ⟨?_, fun w' hw' => ?_, hK _ ?_⟩; rotate_left; (have hw'' := reach_ext hw' (by decide); have z0 := Ext.cell hw'' q1; have z1 := Ext.cell hw'' q3; go_simp; rfl); go_simp; clear hK K) | (refine hK _ ?_; clear hK K)))
            refine lex_nil ?_
            go_wp2_with fail
            refine wp_region_lex (EW 1) [some (0, 1), some (0, 1), some (0, 2), some (0, 2), some (0, 2), some (0, 1), some (0, 1), some (0, 1), some (0, 1), some (0, 1), some (0, 2), some (0, 2), some (0, 2), some (0, 1), some (0, 1), none, some (1, 2), none] (by kernel_rfl) (by kernel_rfl) ?_
            (repeat (refine lex_steady (fun K hK => ?_); go_simp; first | (refine ⟨_, fun _ _ => rfl, hK _ ?_⟩; clear hK K) | (refine ⟨?_, fun w' hw' => ?_, hK _ ?_⟩; rotate_left; (have hw'' := reach_ext hw' (by decide); have z0 := Ext.cell hw'' q1; have z1 := Ext.cell hw'' q3; go_simp; rfl); go_simp; clear hK K) | (refine hK _ ?_; clear hK K)))
            (refine lex_active (fun K hK => ?_); go_simp; refine ⟨fun h => absurd h (by decide), hK _ _ _ ?_⟩; clear hK K)
            (repeat (refine lex_steady (fun K hK => ?_); go_simp; first | (refine ⟨_, fun _ _ => rfl, hK _ ?_⟩; clear hK K) | (refine hK _ ?_; clear hK K)))
            (refine lex_active (fun K hK => ?_); go_simp; refine ⟨fun h => absurd h (by decide), hK _ _ _ ?_⟩; clear hK K)
            refine lex_nil ?_
            go_wp2_with fail
            go_roundw
            case rel => exact ⟨j, _, by omega, by go_num, hperm2, hlen2.out, ⟨hl⟩, own_ext (own_ext ho5.out (Ext.drew _)) (Ext.drew _), hB2.drew.drew⟩
            case measure => simp [intOf] <;> omega
          · rcases (show decide (v < u) = false ∨ decide (v < u) = true by cases decide (v < u) <;> simp) with hdec | hdec
            · go_wp2_with fail
              refine wp_region_lex (EW 2) [some (0, 2), some (0, 2), some (0, 2), some (0, 1), some (0, 2), some (0, 2), some (0, 2), some (0, 1), some (0, 2), some (0, 2), some (0, 2), some (0, 2), some (0, 1), none, some (1, 2)] (by kernel_rfl) (by kernel_rfl) ?_
              (repeat (refine lex_steady (fun K hK => ?_); go_simp; first | (refine ⟨_, fun _ _ => rfl, hK _ ?_⟩; clear hK K) | (refine ⟨?_, fun w' hw' => ?_, hK _ ?_⟩; rotate_left; (have hw'' := reach_ext hw' (by decide); have z0 := Ext.cell hw'' q1; have z1 := Ext.cell hw'' q3; go_simp; rfl); go_simp; clear hK K) | (refine hK _ ?_; clear hK K)))
              (refine lex_active (fun K hK => ?_); go_simp; refine (less_calls _ _ _).mono ?_; rintro _ _ ⟨rfl, rfl⟩; refine ⟨_, rfl, fun _ => Ext.refl _, hK _ _ _ ?_⟩; clear hK K)
              (repeat (refine lex_steady (fun K hK => ?_); go_simp; first | (refine ⟨_, fun _ _ => rfl, hK _ ?_⟩; clear hK K) | (refine ⟨?_, fun w' hw' => ?_, hK _ ?_⟩; rotate_left; (have hw'' := reach_ext hw' (by decide); have z0 := Ext.cell hw'' q1; have z1 := Ext.cell hw'' q3; go_simp; rfl); go_simp; clear hK K) | (refine hK _ ?_; clear hK K)))
              refine lex_nil ?_
              go_wp2_with fail
              go_roundw
              case rel => exact ⟨k + 1, ys, by omega, by omega, by go_num, hperm, hlen, hstop, hdr, hBdr⟩
              case measure => simp [intOf] <;> omega
            · have hl := hgo.out (of_decide_eq_true hdec)
              go_wp2_with fail
              refine wp_region_lex (EW 2) [some (0, 2), some (0, 2), some (0, 2), some (0, 1), some (0, 2), some (0, 2), some (0, 2), some (0, 1), some (0, 2), some (0, 2), some (0, 2), some (0, 2), some (0, 1), none, some (1, 2)] (by kernel_rfl) (by kernel_rfl) ?_
              (repeat (refine lex_steady (fun K hK => ?_); go_simp; first | (refine ⟨_, fun _ _ => rfl, hK _ ?_⟩; clear hK K) | (refine ⟨?_, fun w' hw' => ?_, hK _ ?_⟩; rotate_left; (have hw'' := reach_ext hw' (by decide); have z0 := Ext.cell hw'' q1; have z1 := Ext.cell hw'' q3; go_simp; rfl); go_simp; clear hK K) | (refine hK _ ?_; clear hK K)))
              (refine lex_active (fun K hK => ?_); go_simp; refine (less_calls _ _ _).mono ?_; rintro _ _ ⟨rfl, rfl⟩; refine ⟨_, rfl, fun _ => Ext.refl _, hK _ _ _ ?_⟩; clear hK K)
              (repeat (refine lex_steady (fun K hK => ?_); go_simp; first | (refine ⟨_, fun _ _ => rfl, hK _ ?_⟩; clear hK K) | (refine ⟨?_, fun w' hw' => ?_, hK _ ?_⟩; rotate_left; (have hw'' := reach_ext hw' (by decide); have z0 := Ext.cell hw'' q1; have z1 := Ext.cell hw'' q3; go_simp; rfl); go_simp; clear hK K) | (refine hK _ ?_; clear hK K)))
              refine lex_nil ?_
              go_wp2_with fail
              refine wp_region_lex (EW 1) [some (0, 1), some (0, 1), some (0, 2), some (0, 2), some (0, 2), some (0, 1), some (0, 1), some (0, 1), some (0, 1), some (0, 1), some (0, 2), some (0, 2), some (0, 2), some (0, 1), some (0, 1), none, some (1, 2), none] (by kernel_rfl) (by kernel_rfl) ?_
              (repeat (refine lex_steady (fun K hK => ?_); go_simp; first | (refine ⟨_, fun _ _ => rfl, hK _ ?_⟩; clear hK K) | (refine ⟨?_, fun w' hw' => ?_, hK _ ?_⟩; rotate_left; (have hw'' := reach_ext hw' (by decide); have z0 := Ext.cell hw'' q1; have z1 := Ext.cell hw'' q3; go_simp; rfl); go_simp; clear hK K) | (refine hK _ ?_; clear hK K)))
              (refine lex_active (fun K hK => ?_); go_simp; refine ⟨fun h => absurd h (by decide), hK _ _ _ ?_⟩; clear hK K)
              (repeat (refine lex_steady (fun K hK => ?_); go_simp; first | (refine ⟨_, fun _ _ => rfl, hK _ ?_⟩; clear hK K) | (refine hK _ ?_; clear hK K)))
              (refine lex_active (fun K hK => ?_); go_simp; refine ⟨fun h => absurd h (by decide), hK _ _ _ ?_⟩; clear hK K)
              refine lex_nil ?_
              go_wp2_with fail
              go_roundw
              case rel => exact ⟨j, _, by omega, by go_num, hperm2, hlen2.out, ⟨hl⟩, own_ext (own_ext ho5.out (Ext.drew _)) (Ext.drew _), hB2.drew.drew⟩
              case measure => simp [intOf] <;> omega
    · go_wp2_with fail
      go_end0
      exact ⟨rfl, ys, hperm.out, fun a b hab hb => hsorted.out a b hab (by omega), hown, hB⟩
theorem insertion_none (w : World) (A : Option Addr) (c : Nat) :
    Calls Try.prog 85 #[.slice A 0 c, .int .i64 0, .int .i64 0] w (fun e w' => e = .returned (.tuple #[]) ∧ w' = w) := by
  go_enter Try.func85, Try.ntmps85
  go_wp2_with fail
  go_loop [6] (fun i => i = .int .i64 1) (fun i => 0)
  case atStart => rfl
  case round =>
    subst hrel
    go_wp2_with fail
    go_end0
    exact ⟨rfl, rfl⟩
set_option maxRecDepth 4000 in
set_option maxHeartbeats 400000 in
theorem smallLen64_calls (n : Nat) (w : World) (h : n ≤ 12) : ∃ q : Int, Calls Try.prog 84 #[.int .u64 n] w (Just (.int .i64 q) w) := by
  refine ⟨(if n = 0 then 0 else if n = 1 then 1 else if n ≤ 3 then 2 else if n ≤ 7 then 3 else 4 : Nat), ?_⟩
  obtain rfl | rfl | rfl | rfl | rfl | rfl | rfl | rfl | rfl | rfl | rfl | rfl | rfl : n = 0 ∨ n = 1 ∨ n = 2 ∨ n = 3 ∨ n = 4 ∨ n = 5 ∨ n = 6 ∨ n = 7 ∨ n = 8 ∨ n = 9 ∨ n = 10 ∨ n = 11 ∨ n = 12 := by omega
  all_goals
    go_enter Try.func84, Try.ntmps84
    go_wp2_with fail
    go_ret
    exact ⟨ret_int (by decide +kernel), rfl⟩
theorem smallLen_calls (n : Nat) (w : World) (h : n ≤ 12) : ∃ q : Int, Calls Try.prog 81 #[.int .u64 n] w (Just (.int .i64 q) w) := by
  obtain ⟨q, hq⟩ := smallLen64_calls n w h
  refine ⟨q, ?_⟩
  go_enter Try.func81, Try.ntmps81
  go_wp2_with fail
  refine hq.mono ?_
  rintro e w' ⟨rfl, rfl⟩
  go_wp2_with fail
  go_ret
  exact ⟨rfl, rfl⟩
/-- what sorting comes to -/
structure Sorted (w : World) (B : Nat) (v : Value) (xs : List Nat) (w' : World) : Prop where
  ex : ∃ ys : List Nat, ys.Perm xs ∧ (∀ a b, a < b → b < ys.length → Le2 ys a b) ∧ w'.ownsRow B 22 1 v xs.length (encU ys)
  bel : Below B w w'
theorem insertion_any (w : World) (B : Nat) (v : Value) (xs : List Nat) (hown : w.ownsRow B 22 1 v xs.length (encU xs)) (hn : xs.length ≤ 1000000) :
    Calls Try.prog 85 #[v, .int .i64 0, .int .i64 (xs.length : Nat)] w (fun e w' => e = .returned (.tuple #[]) ∧ Sorted w B v xs w') := by
  rcases hown.2 with ⟨rfl, hz⟩ | ⟨g, cap, cur, rfl, hg, _⟩
  · rw [hz]
    refine (insertion_none w none 0).mono ?_
    rintro e w' ⟨rfl, rfl⟩
    exact ⟨rfl, ⟨xs, List.Perm.refl _, fun a b hab hb => by omega, hown⟩, Below.refl _ _⟩
  · refine (insertion_calls w B g cap xs hown hn hg).mono ?_
    rintro e w' ⟨rfl, ys, h1, h2, h3, h4⟩
    exact ⟨rfl, ⟨ys, h1, h2, h3⟩, h4⟩
set_option maxRecDepth 4000 in
set_option maxHeartbeats 400000 in
theorem pdq_calls (w : World) (B : Nat) (v : Value) (xs : List Nat) (L : Int) (hown : w.ownsRow B 22 1 v xs.length (encU xs)) (hn : xs.length ≤ 12) :
    Calls Try.prog 80 #[v, .int .i64 0, .int .i64 (xs.length : Nat), .int .i64 L] w (fun e w' => e = .returned (.tuple #[]) ∧ Sorted w B v xs w') := by
  have hins := Hd.mk (insertion_any w B v xs hown (by omega))
  clear hown
  generalize hnn : xs.length = n at *
  go_enter Try.func80, Try.ntmps80
  go_wp2_with fail
  refine wp_loop_rounds 1 ?_
  rw [rounds_succ]
  go_wp2_with fail
  refine hins.out.mono ?_
  rintro e w' ⟨rfl, hso⟩
  go_wp2_with fail
  (try simp only [Exit.inBlock, Exit.then])
  refine bodyPost_ret (results_none rfl _ _ _) rfl ?_
  exact ⟨rfl, hso⟩
theorem sort_calls (w : World) (B : Nat) (v : Value) (xs : List Nat) (hown : w.ownsRow B 22 1 v xs.length (encU xs)) (hn : xs.length ≤ 12) :
    Calls Try.prog 68 #[v] w (fun e w' => e = .returned (.tuple #[]) ∧ Sorted w B v xs w') := by
  obtain ⟨q, hq⟩ := smallLen_calls xs.length w hn
  have hp := Hd.mk (pdq_calls w B v xs q hown hn)
  have hQ := Hd.mk hq
  obtain ⟨A, c, hv⟩ : ∃ A c, v = .slice A xs.length c := by
    rcases hown.2 with ⟨rfl, hz⟩ | ⟨g, cap, cur, rfl, hg, _⟩
    · exact ⟨none, 0, by rw [hz]⟩
    · exact ⟨_, _, rfl⟩
  subst hv
  clear hown hq
  go_enter Try.func68, Try.ntmps68
  go_wp2_with fail
  refine hQ.out.mono ?_
  rintro e w' ⟨rfl, rfl⟩
  go_wp2_with fail
  refine hp.out.mono ?_
  rintro e w' ⟨rfl, hso⟩
  go_wp2_with fail
  go_end0
  exact ⟨rfl, hso⟩
end Go.Proofs.Ytiokpaknhbfenaa
end
section
set_option linter.unusedVariables false
namespace Go.Proofs.Ytiokpaknhbfenaa
open Go.RowKit
/-! ### compact -/
theorem below_setCells (B b : Nat) (hb : B ≤ b) : ∀ (vs : List Value) (o : Nat) (w0 w : World), Below B w0 w → Below B w0 (w.setCells b o vs)
  | [], _, _, _, h => h
  | v :: vs, o, w0, w, h => below_setCells B b hb vs (o + 1) w0 _ (h.setCell (p := ⟨b, o, none⟩) hb v)
theorem nodup_of_adjacent (ys : List Nat) (hs : ∀ a b, a < b → b < ys.length → Le2 ys a b) (hd : ∀ a, a + 1 < ys.length → ys.getD a 0 ≠ ys.getD (a + 1) 0) : ys.Nodup := by
  unfold List.Nodup
  rw [List.pairwise_iff_getElem]
  intro i j hi hj hij h
  have h1 : ys.getD i 0 = ys.getD j 0 := by simp [hi, hj, h]
  have h2 : Le2 ys (i + 1) j := by
    by_cases h : i + 1 = j
    · subst h; exact Nat.le_refl _
    · exact hs _ _ (by omega) hj
  have h3 := hd i (by omega)
  have h4 := hs i (i + 1) (by omega) (by omega)
  unfold Le2 at *
  omega
theorem not_nodup_of_pair (ys : List Nat) (k : Nat) (hk : k + 1 < ys.length) (h : ys.getD k 0 = ys.getD (k + 1) 0) : ¬ ys.Nodup := by
  unfold List.Nodup
  rw [List.pairwise_iff_getElem]
  intro hn
  refine hn k (k + 1) (by omega) hk (by omega) ?_
  have h1 : ys.getD k 0 = ys[k] := by simp [show k < ys.length by omega]
  have h2 : ys.getD (k + 1) 0 = ys[k + 1] := by simp [hk]
  rw [← h1, ← h2, h]
set_option maxRecDepth 4000 in
set_option maxHeartbeats 1000000 in
/-- of what is sorted, Compact takes the whole exactly if all are distinct; only the length is told -/
theorem compact_calls (w : World) (B : Nat) (v : Value) (ys : List Nat) (hown : w.ownsRow B 22 1 v ys.length (encU ys)) (hsorted : ∀ a b, a < b → b < ys.length → Le2 ys a b) (hn : ys.length ≤ 1000000) :
    Calls Try.prog 69 #[v] w (fun e w' => ∃ A c m, e = .returned (.slice A m c) ∧ (m = ys.length ↔ ys.Nodup) ∧ Below B w w') := by
  have hs := Hd.mk hsorted
  clear hsorted
  rcases hown.2 with ⟨rfl, hz⟩ | ⟨g, cap, cur, rfl, hg, _⟩
  · have : ys = [] := List.eq_nil_of_length_eq_zero hz
    subst this
    go_enter Try.func69, Try.ntmps69
    go_wp2_with fail
    go_ret
    exact ⟨_, _, _, rfl, by simp, Below.refl _ _⟩
  · generalize hnn : ys.length = n at *
    by_cases h2 : n < 2
    · go_enter Try.func69, Try.ntmps69
      go_wp2_with fail
      go_ret
      refine ⟨_, _, _, rfl, ?_, Below.refl _ _⟩
      simp only [true_iff]
      match ys, hnn with
      | [], _ => simp
      | [x], _ => simp
      | x :: y :: l, h => simp at h; omega
    · have hcap : n ≤ cap ∧ cap ≤ maxLen := by
        rcases hown.2 with ⟨h, _⟩ | ⟨g', cap', cur', h, _, _, hn', hm', _⟩
        · cases h
        · injection h with _ _ hc; subst hc; exact ⟨hn', hm'⟩
      unfold maxLen at hcap
      go_enter Try.func69, Try.ntmps69
      go_wp2_with fail
      go_loopw [3] (fun i wr => ∃ k : Nat, 1 ≤ k ∧ k ≤ n ∧ i = .int .i64 (k : Nat) ∧ Hd (∀ a, a + 1 < k → ys.getD a 0 ≠ ys.getD (a + 1) 0) ∧ wr.ownsRow B 22 1 (.slice (some ⟨g, 0, none⟩) n cap) n (encU ys) ∧ Below B w wr) (fun i _ => n - (intOf i).toNat)
      case atStart => exact ⟨1, by omega, by omega, rfl, ⟨fun a ha => by omega⟩, hown, Below.refl _ _⟩
      case round =>
        clear hown
        obtain ⟨k, hk1, hk2, rfl, hd, hown, hB⟩ := hrel
        by_cases hlt : k < n
        · obtain ⟨k, rfl⟩ : ∃ j, k = j + 1 := ⟨k - 1, by omega⟩
          have hgj : (encU ys).getD k undef = .int .u64 (ys.getD k 0 : Nat) := encU_getD ys k (by omega)
          have hgj1 : (encU ys).getD (k + 1) undef = .int .u64 (ys.getD (k + 1) 0 : Nat) := encU_getD ys (k + 1) (by omega)
          obtain ⟨q1, q2, -, -⟩ := run_own_store hown k (by omega) (.int .u64 0) rfl
          obtain ⟨q3, q4, -, -⟩ := run_own_store hown (k + 1) (by omega) (.int .u64 0) rfl
          rw [hgj] at q1
          rw [hgj1] at q3
          clear hgj hgj1
          have hin1 : (0 : Int) ≤ (k : Int) + 1 := by omega
          have hin2 : (k : Int) + 1 < (n : Int) := by omega
          have hin3 : (0 : Int) ≤ (k : Int) := by omega
          have hin4 : (k : Int) < (n : Int) := by omega
          have hwj : IntKind.i64.wrap (k : Int) = (k : Int) := by rw [IntKind.wrap_i64]; omega
          have hsub : (k : Int) + 1 - 1 = (k : Int) := by omega
          have heq : ys.getD k 0 ≠ ys.getD (k + 1) 0 ∨ ys.getD k 0 = ys.getD (k + 1) 0 ∧ Hd (¬ ys.Nodup) := by
            by_cases h : ys.getD k 0 = ys.getD (k + 1) 0
            · exact .inr ⟨h, ⟨not_nodup_of_pair ys k (by omega) h⟩⟩
            · exact .inl h
          have hd2 : Hd (ys.getD k 0 ≠ ys.getD (k + 1) 0 → ∀ a, a + 1 < k + 1 + 1 → ys.getD a 0 ≠ ys.getD (a + 1) 0) := ⟨fun h a ha => by
            by_cases hak : a = k
            · subst hak; exact h
            · exact hd.out a (by omega)⟩
          clear hd
          generalize ys.getD k 0 = u at *
          generalize ys.getD (k + 1) 0 = v at *
          rcases heq with hne | ⟨huv, hnd⟩
          · have hdd := Hd.mk (hd2.out hne)
            have hb : ((v : Int) == (u : Int)) = false := by simp; omega
            clear hne hd2
            go_wp2_with fail
            refine wp_region_lex (EW 1) [some (0, 1), some (0, 1), some (0, 1), some (0, 1), some (0, 1), some (0, 1), some (0, 1), some (0, 1), some (0, 1), some (0, 1)] (by kernel_rfl) (by kernel_rfl) ?_
            (repeat (refine lex_steady (fun K hK => ?_); go_simp; first | (refine ⟨_, fun _ _ => rfl, hK _ ?_⟩; clear hK K) | (refine ⟨?_, fun w' hw' => ?_, hK _ ?_⟩; rotate_left; (have hw'' := reach_ext hw' (by decide); have z0 := Ext.cell hw'' q1; have z1 := Ext.cell hw'' q3; go_simp; rfl); go_simp; clear hK K) | (refine hK _ ?_; clear hK K)))
            refine lex_nil ?_
            go_wp2_with fail
            go_roundw
            case rel => exact ⟨k + 1 + 1, by omega, by omega, by go_num, hdd, own_ext hown (Ext.drew _), hB.drew⟩
            case measure => simp [intOf] <;> omega
          · clear hd2
            have hb : ((v : Int) == (u : Int)) = true := by simp; omega
            clear huv
            go_wp2_with fail
            refine wp_region_lex (EW 1) [some (0, 1), some (0, 1), some (0, 1), some (0, 1), some (0, 1), some (0, 1), some (0, 1), some (0, 1), some (0, 1), some (0, 1)] (by kernel_rfl) (by kernel_rfl) ?_
            (repeat (refine lex_steady (fun K hK => ?_); go_simp; first | (refine ⟨_, fun _ _ => rfl, hK _ ?_⟩; clear hK K) | (refine ⟨?_, fun w' hw' => ?_, hK _ ?_⟩; rotate_left; (have hw'' := reach_ext hw' (by decide); have z0 := Ext.cell hw'' q1; have z1 := Ext.cell hw'' q3; go_simp; rfl); go_simp; clear hK K) | (refine hK _ ?_; clear hK K)))
            refine lex_nil ?_
            go_wp2_with fail
            have hown0 := own_ext hown (Ext.drew _)
            have hB0 := hB.drew
            clear q1 q2 q3 q4 hin1 hin2 hin3 hin4 hwj hsub hb hown hB
            generalize hL : n - (k + 1) = L
            generalize hC : cap - (k + 1) = C
            go_loopw [3, 5] (fun iv jv wr => ∃ (j i : Nat) (zs : List Nat), 1 ≤ j ∧ j ≤ L ∧ k + 1 ≤ i ∧ i ≤ k + j ∧ iv = .int .i64 (i : Nat) ∧ jv = .int .i64 (j : Nat) ∧ zs.length = n ∧ wr.ownsRow B 22 1 (.slice (some ⟨g, 0, none⟩) n cap) n (encU zs) ∧ Below B w wr) (fun _ jv _ => n - (intOf jv).toNat)
            case atStart => exact ⟨1, k + 1, ys, by omega, by omega, by omega, by omega, by simp, rfl, hnn, hown0, hB0⟩
            case round =>
              clear hown0 hB0
              obtain ⟨j, i, zs, hj1, hj2, hi1, hi2, rfl, rfl, hzl, hown, hB⟩ := hrel
              by_cases hlt2 : j < L
              · obtain ⟨j, rfl⟩ : ∃ x, j = x + 1 := ⟨j - 1, by omega⟩
                have hgj : (encU zs).getD (k + 1 + j) undef = .int .u64 (zs.getD (k + 1 + j) 0 : Nat) := encU_getD zs _ (by omega)
                have hgj1 : (encU zs).getD (k + 1 + (j + 1)) undef = .int .u64 (zs.getD (k + 1 + (j + 1)) 0 : Nat) := encU_getD zs _ (by omega)
                obtain ⟨q1, -, -, -⟩ := run_own_store hown (k + 1 + j) (by omega) (.int .u64 0) rfl
                obtain ⟨q3, -, -, -⟩ := run_own_store hown (k + 1 + (j + 1)) (by omega) (.int .u64 0) rfl
                obtain ⟨q5, q6, q7, -⟩ := run_own_store (own_ext hown (Ext.drew _)) i (by omega) (.int .u64 (zs.getD (k + 1 + (j + 1)) 0 : Nat)) rfl
                rw [encU_set] at q7
                rw [hgj] at q1
                rw [hgj1] at q3
                have q3' := (Ext.drew wr).cell q3
                have hgi : (encU zs).getD i undef = .int .u64 (zs.getD i 0 : Nat) := encU_getD zs _ (by omega)
                rw [hgi] at q5
                generalize zs.getD i 0 = x at *
                have q5 : wr.drew.cell? ⟨g, i, none⟩ = some (.int .u64 (x : Nat)) := q5
                have q6 : wr.drew.frozen? ⟨g, i, none⟩ = false := q6
                have q3' : wr.drew.cell? ⟨g, k + 1 + (j + 1), none⟩ = some (.int .u64 (zs.getD (k + 1 + (j + 1)) 0 : Nat)) := q3'
                clear hgj hgj1 hgi
                have hB1 := hB.drew.setCell (p := ⟨g, i, none⟩) hg (.int .u64 (zs.getD (k + 1 + (j + 1)) 0 : Nat))
                have hown1 := own_ext hown (Ext.drew _)
                have hBd := hB.drew
                have Q7 := Hd.mk q7
                clear q7
                have hin1 : (0 : Int) ≤ (j : Int) + 1 := by omega
                have hin2 : (j : Int) + 1 < (L : Int) := by omega
                have hin3 : (0 : Int) ≤ (j : Int) := by omega
                have hin4 : (j : Int) < (L : Int) := by omega
                have hin5 : (0 : Int) ≤ (i : Int) := by omega
                have hin6 : (i : Int) < (n : Int) := by omega
                have hwj : IntKind.i64.wrap (j : Int) = (j : Int) := by rw [IntKind.wrap_i64]; omega
                have hsub : (j : Int) + 1 - 1 = (j : Int) := by omega
                generalize zs.getD (k + 1 + j) 0 = u at *
                generalize zs.getD (k + 1 + (j + 1)) 0 = v at *
                rcases (show ((v : Int) != (u : Int)) = false ∨ ((v : Int) != (u : Int)) = true by cases ((v : Int) != (u : Int)) <;> simp) with hb | hb
                · go_wp2_with fail
                  refine wp_region_lex (EW 1) [some (0, 1), some (0, 1), some (0, 1), some (0, 1), some (0, 1), some (0, 1), some (0, 1), some (0, 1), some (0, 1), some (0, 1)] (by kernel_rfl) (by kernel_rfl) ?_
                  (repeat (refine lex_steady (fun K hK => ?_); go_simp; first | (refine ⟨_, fun _ _ => rfl, hK _ ?_⟩; clear hK K) | (refine ⟨?_, fun w' hw' => ?_, hK _ ?_⟩; rotate_left; (have hw'' := reach_ext hw' (by decide); have z0 := Ext.cell hw'' q1; have z1 := Ext.cell hw'' q3; go_simp; rfl); go_simp; clear hK K) | (refine hK _ ?_; clear hK K)))
                  refine lex_nil ?_
                  go_wp2_with fail
                  go_roundw
                  case rel => exact ⟨j + 1 + 1, i, zs, by omega, by omega, by omega, by omega, rfl, by go_num, hzl, hown1, hBd⟩
                  case measure => simp [intOf] <;> omega
                · go_wp2_with fail
                  refine wp_region_lex (EW 1) [some (0, 1), some (0, 1), some (0, 1), some (0, 1), some (0, 1), some (0, 1), some (0, 1), some (0, 1), some (0, 1), some (0, 1)] (by kernel_rfl) (by kernel_rfl) ?_
                  (repeat (refine lex_steady (fun K hK => ?_); go_simp; first | (refine ⟨_, fun _ _ => rfl, hK _ ?_⟩; clear hK K) | (refine ⟨?_, fun w' hw' => ?_, hK _ ?_⟩; rotate_left; (have hw'' := reach_ext hw' (by decide); have z0 := Ext.cell hw'' q1; have z1 := Ext.cell hw'' q3; go_simp; rfl); go_simp; clear hK K) | (refine hK _ ?_; clear hK K)))
                  refine lex_nil ?_
                  go_wp2_with fail
                  go_roundw
                  case rel => exact ⟨j + 1 + 1, i + 1, _, by omega, by omega, by omega, by omega, by go_num, by go_num, by simpa using hzl, Q7.out, hB1⟩
                  case measure => simp [intOf] <;> omega
              · have hcl : ∀ ty, (Builtin.clear_ #[23] ty #[.slice (some ⟨g, i, none⟩) (n - i) (cap - i)]).run Try.prog wr = .ok (.tuple #[]) (wr.setCells g i (List.replicate (n - i) (.int .u64 0))) := fun ty =>
                  Lib.run_clear_slice wr _ 22 ty (.int .u64 0) Try.underlying23 Try.zeroValue22 rfl rfl g i _ _ (by omega)
                    (fun q hq => by rw [(run_own_store hown (i + q) (by omega) (.int .u64 0) rfl).1]; rfl) (fun q hq => (run_own_store hown (i + q) (by omega) (.int .u64 0) rfl).2.1)
                have hBc := below_setCells B g hg (List.replicate (n - i) (.int .u64 0)) i w wr hB
                have hne : i ≠ n := by omega
                clear hown hB
                go_wp2_with fail
                go_ret
                exact ⟨_, _, _, rfl, by simp [hnd.out]; omega, hBc⟩
        · obtain rfl : k = n := by omega
          have hnd := nodup_of_adjacent ys (by rw [hnn]; intro a b h1 h2; exact hs.out a b h1 h2) (by rw [hnn]; exact hd.out)
          have HN := Hd.mk hnd
          clear hnd
          go_wp2_with fail
          go_ret
          exact ⟨_, _, _, rfl, by simp [HN.out], hB⟩
end Go.Proofs.Ytiokpaknhbfenaa
end
