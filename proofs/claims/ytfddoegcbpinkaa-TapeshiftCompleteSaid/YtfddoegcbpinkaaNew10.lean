import Derived.Test.YtfddoegcbpinkaaSpec43
set_option linter.unusedVariables false
set_option linter.unusedSimpArgs false
namespace Go.Proofs.Ytfddoegcbpinkaa
open Go.RowKit Go.Proofs.YtfddoegcbpinkaaW.PrintWords
/-! ### the numbers of entries -/
def tri : Nat → Nat
  | 0 => 0
  | d + 1 => tri d + (d + 1)
theorem tri_two (d : Nat) : 2 * tri d = d * (d + 1) := by
  induction d with
  | zero => rfl
  | succ d ih => rw [tri, Nat.mul_add, ih]; grind
theorem tri_half (d : Nat) : d * (d + 1) / 2 = tri d := by rw [← tri_two]; omega
theorem tri_le (d : Nat) (h : d ≤ 100) : tri d ≤ 5050 := by
  have h1 := tri_two d
  have h2 : d * (d + 1) ≤ 100 * 101 := Nat.mul_le_mul h (by omega)
  omega
theorem tri_pred (n i : Nat) (h : i < n) : tri (n - i) = tri (n - (i + 1)) + (n - i) := by
  rw [show n - i = (n - (i + 1)) + 1 by omega, tri]
theorem Ext.drew' (w : World) : Ext w w.drew := Ext.drew w
theorem Mt.congr {w : World} {B g n k : Nat} {b : Nat → Nat} {M M' : Nat → List Int} (h : Mt w B g n k b M) (he : ∀ i, i < k → M i = M' i) : Mt w B g n k b M' :=
  ⟨h.outer, fun i hi => by rw [← he i hi]; exact h.row i hi, h.apart, h.sep⟩
theorem half_wrap (n q : Nat) (hn1 : 1 ≤ n) (hn2 : n ≤ 100) (hq : q = tri (n - 1)) : wrap64 ((wrap64 (((n : Int) - 1) * (n : Int))).tdiv 2) = (q : Int) := by
  have h1 := tri_two (n - 1)
  have h2 := tri_le (n - 1) (by omega)
  have h3 : ((n : Int) - 1) * (n : Int) = ((2 * q : Nat) : Int) := by
    rw [hq, h1, show n - 1 + 1 = n by omega, Int.natCast_mul, show ((n - 1 : Nat) : Int) = (n : Int) - 1 by omega]
  rw [h3]
  rw [← hq] at h2
  have h4 : wrap64 ((2 * q : Nat) : Int) = ((2 * q : Nat) : Int) := by unfold wrap64; omega
  rw [h4]
  have h5 : (((2 * q : Nat) : Int)).tdiv 2 = (q : Int) := by
    rw [Int.tdiv_eq_ediv_of_nonneg (by omega)]; omega
  rw [h5]; unfold wrap64; omega
theorem newOut_step (n : Nat) (first rest : List Int) (i : Nat) (h : i < n) (s : Nat × (Nat → List Int)) :
    newOut n first rest (n - i) i s = newOut n first rest (n - (i + 1)) (i + 1) (if i = 0 then (s.1, set2 (set2 s.2 0 i (first.getD i 0)) i 0 (first.getD i 0)) else newIn n i rest (n - i) i (s.1, set2 (set2 s.2 0 i (first.getD i 0)) i 0 (first.getD i 0))) := by
  rw [show n - i = (n - (i + 1)) + 1 by omega, newOut]
  simp only [show n - (i + 1) + 1 = n - i by omega]
theorem newIn_step (n i : Nat) (rest : List Int) (j : Nat) (h : j < n) (s : Nat × (Nat → List Int)) :
    newIn n i rest (n - j) j s = newIn n i rest (n - (j + 1)) (j + 1) (s.1 + 1, set2 (set2 s.2 i j (rest.getD s.1 0)) j i (rest.getD s.1 0)) := by
  rw [show n - j = (n - (j + 1)) + 1 by omega, newIn]
theorem Mt.set2 {w : World} {B g n : Nat} {b : Nat → Nat} {M : Nat → List Int} (h : Mt w B g n n b M) {i j : Nat} (hi : i < n) (hj : j < n) (x : Int) :
    Mt (w.setCell ⟨b i, j, none⟩ (.int .u64 x)) B g n n b (Go.Proofs.Ytfddoegcbpinkaa.set2 M i j x) := h.set hi hj x
set_option maxRecDepth 4000 in
set_option maxHeartbeats 1000000 in
theorem rnew_calls (w : World) {A0 A1 : Option Addr} {c0 c1 : Nat} {first rest : List Int} {n : Nat} (hn : first.length = n)
    (h0 : ∀ i, i < first.length → ∃ ad, A0 = some ad ∧ w.cell? (ad.add i) = some (.int .u64 (first.getD i 0))) (hc0 : first.length ≤ c0)
    (h1 : ∀ i, i < rest.length → ∃ ad, A1 = some ad ∧ w.cell? (ad.add i) = some (.int .u64 (rest.getD i 0))) (hc1 : rest.length ≤ c1) (hn1 : 1 ≤ n) (hn2 : n ≤ 100) (hrl : rest.length = tri (n - 1)) :
    Calls Try.prog 11 #[.slice A0 n c0, .slice A1 rest.length c1] w fun e w' => ∃ v : Value, e = .returned (.tuple #[v, .int .i64 0]) ∧ Kd.S (Kd.slice 22 (Kd.int .u64)) 26 w' w.heap.size (fun _ => True) v ((List.range n).map (newM first rest)) ∧ Ext w w' := by
  rw [hn] at h0 hc0
  have H0 := Hd.mk h0
  have H1 := Hd.mk h1
  clear h0 h1
  obtain ⟨q, hq, hq1⟩ : ∃ q : Nat, q = tri (n - 1) ∧ q ≤ 5050 := ⟨_, rfl, tri_le _ (by omega)⟩
  rw [← hq] at hrl
  have HQ := Hd.mk hq
  have HW := Hd.mk (half_wrap n q hn1 hn2 hq)
  have HF := Hd.mk hn
  clear hq hn
  go_enter Try.func11, Try.ntmps11
  go_wp2_with (with_reducible first | refine hold_append rfl ?_ | refine hold_make rfl ?_)
  · rename_i hx
    rw [HW.out] at hx
    simp at hx
    omega
  refine wpl_make tyM rfl w.heap.size (by rfl) (by rfl) n (by rfl) (by rfl) (by omega) (Nat.le_refl _) ?_
  intro w1 hown hE
  have hM := Mt.start hown
  clear hown HW
  go_wp2_with fail
  go_loopw [8] (fun i wr => ∃ (k : Nat) (b : Nat → Nat) (M : Nat → List Int), k ≤ n ∧ i = .int .i64 (k : Nat) ∧ Mt wr w.heap.size w.heap.size n k b M ∧ Ext w wr ∧ Hd (∀ r, r < k → M r = List.replicate n 0)) (fun i _ => n - (intOf i).toNat)
  case atStart => exact ⟨0, _, _, by omega, rfl, hM, hE, ⟨fun r hr => by omega⟩⟩
  case round =>
    clear hM hE
    obtain ⟨k, b, M, hk, rfl, hM, hE, hz⟩ := hrel
    by_cases hlt : k < n
    · go_wp2_with (with_reducible first | refine hold_append rfl ?_ | refine hold_make rfl ?_)
      refine wpl_make tyU rfl w.heap.size (by rfl) (by rfl) n (by rfl) (by rfl) (by omega) hE.size ?_
      intro w2 hown hE2
      rw [encZ_replicate] at hown
      have hM2 := hM.push hE2 (Nat.le_refl _) hown hlt
      have hM1 := hM.ext hE2
      obtain ⟨c1, f1, _, _⟩ := run_own_store hM1.outer k hlt (.slice (some ⟨wr.heap.size, 0, none⟩) n n) rfl
      have hE3 := (hE.trans hE2).setCell (q := ⟨w.heap.size, k, none⟩) (Nat.le_refl _) (.slice (some ⟨wr.heap.size, 0, none⟩) n n)
      clear hM hM1 hE hE2 hown
      go_wp2_with fail
      go_roundw
      case rel =>
        refine ⟨k + 1, _, _, by omega, by go_num, hM2, hE3, ⟨fun r hr => ?_⟩⟩
        by_cases hrk : r = k
        · simp [hrk]
        · simp only [if_neg hrk]; exact hz.out r (by omega)
      case measure => simp [intOf] <;> omega
    · obtain rfl : k = n := by omega
      have hM0 := hM.congr (M' := fun _ => List.replicate k 0) hz.out
      clear hM hz
      go_wp2_with fail
      go_loopw [10, 9] (fun vi vk wr => ∃ (i kk : Nat) (b : Nat → Nat) (M : Nat → List Int), i ≤ k ∧ vi = .int .i64 (i : Nat) ∧ vk = .int .i64 (kk : Nat) ∧ Mt wr w.heap.size w.heap.size k k b M ∧ Ext w wr ∧ Hd ((newOut k first rest (k - i) i (kk, M)).2 = newM first rest) ∧ Hd (kk + tri (min (k - i) (k - 1)) = q) ∧ kk ≤ q) (fun i _ _ => k - (intOf i).toNat)
      case atStart => exact ⟨0, 0, _, _, by omega, rfl, rfl, hM0, hE, ⟨by unfold newM; rw [HF.out]; rfl⟩, ⟨by rw [Nat.sub_zero, Nat.min_eq_right (by omega), HQ.out]; omega⟩, by omega⟩
      case round =>
        clear hM0 hE
        obtain ⟨i, kk, b, M, hi, rfl, rfl, hM, hE, hfin, hcnt, hkk⟩ := hrel
        by_cases hlt : i < k
        · obtain ⟨ad, rfl, hc⟩ := H0.out i hlt
          have hc := hE.cell hc
          have d1 := hM.cell (i := 0) (by omega) (by omega)
          have d2 := hM.cell (i := i) hlt hlt
          have e1 := hM.get (i := 0) (j := i) (by omega) hlt
          have g1 := hM.frz (i := 0) (j := i) (by omega) hlt
          have hM1 := hM.set2 (i := 0) (j := i) (by omega) hlt (first.getD i 0)
          have e2 := hM1.get (i := i) (j := 0) hlt (by omega)
          have g2 := hM1.frz (i := i) (j := 0) hlt (by omega)
          have hM2 := Hd.mk ((hM1.set2 (i := i) (j := 0) hlt (by omega) (first.getD i 0)).ext (Ext.drew' _))
          have hb0 := (hM.base_row (i := 0) (by omega)).1
          have hbi := (hM.base_row (i := i) hlt).1
          have hE2 := Hd.mk (((hE.setCell (q := ⟨b 0, i, none⟩) hb0 (.int .u64 (first.getD i 0))).setCell (q := ⟨b i, 0, none⟩) hbi (.int .u64 (first.getD i 0))).trans (Ext.drew' _))
          have hfin2 : Hd ((newOut k first rest (k - (i + 1)) (i + 1) (if i = 0 then (kk, set2 (set2 M 0 i (first.getD i 0)) i 0 (first.getD i 0)) else newIn k i rest (k - i) i (kk, set2 (set2 M 0 i (first.getD i 0)) i 0 (first.getD i 0)))).2 = newM first rest) := ⟨by
            rw [← hfin.out, newOut_step k first rest i hlt]⟩
          clear hfin hM hM1 hE
          generalize first.getD i 0 = x at *
          go_wp2_with fail
          have r0 : 0 < k := by omega
          have r1 : (0 : Int) ≤ (i : Int) := by omega
          have r2 : (i : Int) < (k : Int) := by omega
          refine wp_region_lex (EW 1) [some (0, 1), some (0, 1), some (0, 1), some (0, 1), some (0, 2), some (0, 2), some (0, 2), some (0, 1), some (0, 1), some (0, 1), some (0, 1), some (0, 1), some (0, 2), some (0, 2), some (0, 2), some (0, 1), some (0, 1), none, some (1, 2), none] (by kernel_rfl) (by kernel_rfl) ?_
          (repeat (refine lex_steady (fun K hK => ?_); go_simp; first | (refine ⟨_, fun _ _ => rfl, hK _ ?_⟩; clear hK K) | (refine ⟨?_, fun w' hw' => ?_, hK _ ?_⟩; rotate_left; (have hw'' := reach_ext hw' (by decide); have z0 := Ext.cell hw'' d1; have z1 := Ext.cell hw'' d2; have z2 := Ext.cell hw'' hc; go_simp; rfl); go_simp; clear hK K) | (refine hK _ ?_; clear hK K)))
          (refine lex_active (fun K hK => ?_); go_simp; refine ⟨fun h => absurd h (by decide), hK _ _ _ ?_⟩; clear hK K)
          (repeat (refine lex_steady (fun K hK => ?_); go_simp; first | (refine ⟨_, fun _ _ => rfl, hK _ ?_⟩; clear hK K) | (refine ⟨?_, fun w' hw' => ?_, hK _ ?_⟩; rotate_left; (have hw'' := reach_ext hw' (by decide); have z0 := Ext.cell hw'' d1; have z1 := Ext.cell hw'' d2; have z2 := Ext.cell hw'' hc; go_simp; rfl); go_simp; clear hK K) | (refine hK _ ?_; clear hK K)))
          (refine lex_active (fun K hK => ?_); go_simp; refine ⟨fun h => absurd h (by decide), hK _ _ _ ?_⟩; clear hK K)
          refine lex_nil ?_
          clear d1 d2 hc e1 e2 g1 g2
          generalize hw2 : World.drew ((wr.setCell ⟨b 0, i, none⟩ (.int .u64 x)).setCell ⟨b i, 0, none⟩ (.int .u64 x)) = w2 at *
          clear hw2
          go_wp2_with fail
          go_loopw [11, 9] (fun vj vk wr => ∃ (j kk : Nat) (M : Nat → List Int), i ≤ j ∧ j ≤ k ∧ vj = .int .i64 (j : Nat) ∧ vk = .int .i64 (kk : Nat) ∧ Mt wr w.heap.size w.heap.size k k b M ∧ Ext w wr ∧ Hd ((newOut k first rest (k - (i + 1)) (i + 1) (if i = 0 then (kk, M) else newIn k i rest (k - j) j (kk, M))).2 = newM first rest) ∧ Hd (kk + (if i = 0 then tri (k - 1) else (k - j) + tri (k - (i + 1))) = q) ∧ kk ≤ q) (fun j _ _ => k - (intOf j).toNat)
          case atStart => exact ⟨i, kk, _, by omega, by omega, rfl, rfl, hM2.out, hE2.out, hfin2, ⟨by
            have h1 := hcnt.out
            by_cases hi0 : i = 0
            · rw [if_pos hi0]; rw [hi0, Nat.sub_zero, Nat.min_eq_right (by omega)] at h1; exact h1
            · rw [if_neg hi0]; rw [Nat.min_eq_left (by omega), tri_pred k i hlt] at h1; omega⟩, hkk⟩
          case round =>
            clear hM2 hE2 hfin2 hcnt hkk
            obtain ⟨j, kk, M, hij, hj, rfl, rfl, hM, hE, hfin, hcnt, hkk⟩ := hrel
            by_cases hgo : j < k ∧ 0 < i
            · obtain ⟨hjk, hi0⟩ := hgo
              have hlt2 : kk < q := by
                have h1 := hcnt.out
                rw [if_neg (by omega)] at h1
                omega
              obtain ⟨ad2, rfl, hc⟩ := H1.out kk (by omega)
              have hc := hE.cell hc
              have d1 := hM.cell (i := i) hlt hlt
              have d2 := hM.cell (i := j) hjk hjk
              have e1 := hM.get (i := i) (j := j) hlt hjk
              have g1 := hM.frz (i := i) (j := j) hlt hjk
              have hM1 := hM.set2 (i := i) (j := j) hlt hjk (rest.getD kk 0)
              have e2 := hM1.get (i := j) (j := i) hjk hlt
              have g2 := hM1.frz (i := j) (j := i) hjk hlt
              have hM2 := Hd.mk ((hM1.set2 (i := j) (j := i) hjk hlt (rest.getD kk 0)).ext (Ext.drew' _))
              have hb0 := (hM.base_row (i := i) hlt).1
              have hbi := (hM.base_row (i := j) hjk).1
              have hE2 := Hd.mk (((hE.setCell (q := ⟨b i, j, none⟩) hb0 (.int .u64 (rest.getD kk 0))).setCell (q := ⟨b j, i, none⟩) hbi (.int .u64 (rest.getD kk 0))).trans (Ext.drew' _))
              have hfin2 : Hd ((newOut k first rest (k - (i + 1)) (i + 1) (if i = 0 then (kk + 1, set2 (set2 M i j (rest.getD kk 0)) j i (rest.getD kk 0)) else newIn k i rest (k - (j + 1)) (j + 1) (kk + 1, set2 (set2 M i j (rest.getD kk 0)) j i (rest.getD kk 0)))).2 = newM first rest) := ⟨by
                rw [← hfin.out, if_neg (by omega), if_neg (by omega), newIn_step k i rest j hjk]⟩
              have hcnt2 : Hd (kk + 1 + (if i = 0 then tri (k - 1) else (k - (j + 1)) + tri (k - (i + 1))) = q) := ⟨by
                have h1 := hcnt.out
                rw [if_neg (by omega)] at h1 ⊢
                omega⟩
              clear hfin hM hM1 hE hcnt
              generalize rest.getD kk 0 = y at *
              go_wp2_with fail
              have r3 : (0 : Int) ≤ (j : Int) := by omega
              have r4 : (j : Int) < (k : Int) := by omega
              have r5 : (0 : Int) ≤ (kk : Int) := by omega
              have r6 : (kk : Int) < (q : Int) := by omega
              refine wp_region_lex (EW 1) [some (0, 1), some (0, 1), some (0, 1), some (0, 1), some (0, 1), some (0, 2), some (0, 2), some (0, 2), some (0, 1), some (0, 2), some (0, 1), some (0, 1), some (0, 1), some (0, 1), some (0, 2), some (0, 2), some (0, 2), some (0, 1), some (0, 1), none, some (1, 2), none] (by kernel_rfl) (by kernel_rfl) ?_
              (repeat (refine lex_steady (fun K hK => ?_); go_simp; first | (refine ⟨_, fun _ _ => rfl, hK _ ?_⟩; clear hK K) | (refine ⟨?_, fun w' hw' => ?_, hK _ ?_⟩; rotate_left; (have hw'' := reach_ext hw' (by decide); have z0 := Ext.cell hw'' d1; have z1 := Ext.cell hw'' d2; have z2 := Ext.cell hw'' hc; go_simp; rfl); go_simp; clear hK K) | (refine hK _ ?_; clear hK K)))
              (refine lex_active (fun K hK => ?_); go_simp; refine ⟨fun h => absurd h (by decide), hK _ _ _ ?_⟩; clear hK K)
              (repeat (refine lex_steady (fun K hK => ?_); go_simp; first | (refine ⟨_, fun _ _ => rfl, hK _ ?_⟩; clear hK K) | (refine ⟨?_, fun w' hw' => ?_, hK _ ?_⟩; rotate_left; (have hw'' := reach_ext hw' (by decide); have z0 := Ext.cell hw'' d1; have z1 := Ext.cell hw'' d2; have z2 := Ext.cell hw'' hc; go_simp; rfl); go_simp; clear hK K) | (refine hK _ ?_; clear hK K)))
              (refine lex_active (fun K hK => ?_); go_simp; refine ⟨fun h => absurd h (by decide), hK _ _ _ ?_⟩; clear hK K)
              refine lex_nil ?_
              clear d1 d2 hc e1 e2 g1 g2
              generalize hw3 : World.drew ((wr.setCell ⟨b i, j, none⟩ (.int .u64 y)).setCell ⟨b j, i, none⟩ (.int .u64 y)) = w3 at *
              clear hw3
              go_wp2_with fail
              go_roundw
              case rel => exact ⟨j + 1, kk + 1, _, by omega, by omega, by go_num, by go_num, hM2.out, hE2.out, hfin2, hcnt2, by omega⟩
              case measure => simp [intOf] <;> omega
            · have hfin2 : Hd ((newOut k first rest (k - (i + 1)) (i + 1) (kk, M)).2 = newM first rest) := ⟨by
                rw [← hfin.out]
                by_cases hi0 : i = 0
                · rw [if_pos hi0]
                · rw [if_neg hi0, show k - j = 0 by omega, newIn]⟩
              have hcnt2 : Hd (kk + tri (min (k - (i + 1)) (k - 1)) = q) := ⟨by
                have h1 := hcnt.out
                rw [Nat.min_eq_left (by omega)]
                by_cases hi0 : i = 0
                · rw [if_pos hi0] at h1; rw [hi0]; exact h1
                · rw [if_neg hi0] at h1; omega⟩
              clear hfin hcnt
              by_cases hi0 : i = 0
              · subst hi0
                go_wp2_with fail
                all_goals
                  go_roundw
                  case rel => exact ⟨0 + 1, kk, b, M, by omega, by go_num, rfl, hM, hE, hfin2, hcnt2, hkk⟩
                  case measure => simp [intOf] <;> omega
              · obtain rfl : j = k := by omega
                go_wp2_with fail
                go_roundw
                case rel => exact ⟨i + 1, by omega, by omega, kk, rfl, b, M, hM, hfin2, hcnt2, hkk⟩
                case measure => simp [intOf] <;> omega
        · obtain rfl : i = k := by omega
          have hM2 := (hM.congr (M' := newM first rest) (fun r hr => by rw [← hfin.out, Nat.sub_self]; rfl)).S
          clear hM hfin hcnt
          go_wp2_with fail
          go_ret2
          exact ⟨_, rfl, hM2, hE⟩
set_option maxRecDepth 4000 in
set_option maxHeartbeats 1000000 in
theorem rnew_err (w : World) {A0 A1 : Option Addr} {c0 c1 : Nat} {n m : Nat} (hn2 : n ≤ 100) (hrl : n = 0 ∨ m ≠ tri (n - 1)) :
    Calls Try.prog 11 #[.slice A0 n c0, .slice A1 m c1] w fun e w' => ∃ v : Value, e = .returned (.tuple #[v, .int .i64 1]) ∧ Kd.S (Kd.slice 22 (Kd.int .u64)) 26 w' w.heap.size (fun _ => True) v [] ∧ Ext w w' := by
  have HX := Hd.mk hrl
  clear hrl
  by_cases hn0 : n = 0
  · subst hn0
    clear HX
    go_enter Try.func11, Try.ntmps11
    go_wp2_with fail
    go_ret2
    exact ⟨_, rfl, Kd.S_nil _ _ _ _ _, Ext.refl _⟩
  · have hm := Hd.mk (HX.out.resolve_left hn0)
    have HW := Hd.mk (half_wrap n (tri (n - 1)) (by omega) hn2 rfl)
    go_enter Try.func11, Try.ntmps11
    go_wp2_with (with_reducible first | refine hold_append rfl ?_ | refine hold_make rfl ?_)
    · go_ret2
      exact ⟨_, rfl, Kd.S_nil _ _ _ _ _, Ext.refl _⟩
    · rename_i hx _ _
      exfalso
      have h1 := hx.2
      rw [HW.out] at h1
      have := hm.out
      simp at h1
      omega
theorem half_of_pred (n : Nat) (h : 1 ≤ n) : (n - 1) * n / 2 = tri (n - 1) := by
  have := tri_half (n - 1)
  rwa [show n - 1 + 1 = n by omega] at this
theorem newI_calls (A0 : Option Addr) (c0 : Nat) (l0 : List Int) (A1 : Option Addr) (c1 : Nat) (l1 : List Int) (r1 : List (List Int)) (r2 : Int) (w : World) (hr0 : Kd.C (Kd.int .u64) w A0 l0.length l0) (hc0 : l0.length ≤ c0) (hr1 : Kd.C (Kd.int .u64) w A1 l1.length l1) (hc1 : l1.length ≤ c1) (h : newI l0 l1 = some (r1, r2)) :
    Calls Try.prog 11 #[.slice A0 l0.length c0, .slice A1 l1.length c1] w fun e w' => ∃ v0_ : Value, e = .returned (.tuple #[v0_, .int .i64 r2]) ∧ Kd.S (Kd.slice 22 (Kd.int .u64)) 26 w' w.heap.size (fun _ => True) v0_ r1 ∧ Below w.heap.size w w' := by
  unfold newI at h
  by_cases hl : l0.length ≤ 100
  case neg => rw [if_neg hl] at h; cases h
  rw [if_pos hl] at h
  by_cases hc : l0.length = 0 ∨ l1.length ≠ (l0.length - 1) * l0.length / 2
  · rw [if_pos hc] at h
    injection h with h; injection h with h1 h2; subst h1 h2
    refine rnew_err w hl ?_
    rcases hc with hc | hc
    · exact .inl hc
    · by_cases h0 : l0.length = 0
      · exact .inl h0
      · exact .inr (by rw [← half_of_pred _ (by omega)]; exact hc)
  · rw [if_neg hc] at h
    injection h with h; injection h with h1 h2; subst h1 h2
    rw [not_or, Decidable.not_not] at hc
    have get : ∀ {A : Option Addr} {l : List Int}, Kd.C (Kd.int .u64) w A l.length l → ∀ i, i < l.length → ∃ ad, A = some ad ∧ w.cell? (ad.add i) = some (.int .u64 (l.getD i 0)) := by
      intro A l hr i hi
      obtain ⟨ad, q1, q2⟩ := Kd.at_int hr (i : Int) (by omega) (by omega)
      refine ⟨ad, q1, ?_⟩
      simpa [rd] using q2
    exact rnew_calls w rfl (get hr0) hc0 (get hr1) hc1 (by omega) hl (by rw [← half_of_pred _ (by omega)]; exact hc.2)
end Go.Proofs.Ytfddoegcbpinkaa
