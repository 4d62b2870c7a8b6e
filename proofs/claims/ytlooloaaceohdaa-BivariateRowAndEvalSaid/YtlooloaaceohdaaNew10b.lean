/-
A part of this claim's proof (New10b): lemmas that the text of the law stands on.
-/
import Derived.Test.YtlooloaaceohdaaNew10
set_option linter.unusedVariables false
set_option linter.unusedSimpArgs false
namespace Go.Proofs.Ytlooloaaceohdaa
open Go.RowKit Go.Proofs.YtlooloaaceohdaaW.PrintWords
def bFirst (first : List Int) : Nat → Nat → (Nat → List Int) → (Nat → List Int)
  | 0, _, M => M
  | d + 1, j, M => bFirst first d (j + 1) (set2 (set2 M 0 j (first.getD j 0)) j 0 (first.getD j 0))
def bOut (n : Nat) (rest : List Int) : Nat → Nat → Nat × (Nat → List Int) → Nat × (Nat → List Int)
  | 0, _, s => s
  | d + 1, i, s => bOut n rest d (i + 1) (newIn n i rest (n - i) i s)
def bM (first rest : List Int) : Nat → List Int := (bOut first.length rest (first.length - 1) 1 (0, bFirst first first.length 0 (fun _ => List.replicate first.length 0))).2
def bnewI (first rest : List Int) : Option (List (List Int) × Int) :=
  if first.length ≤ 100 then
    (if first.length = 0 ∨ rest.length ≠ (first.length - 1) * first.length / 2 then some ([], 1) else some ((List.range first.length).map (bM first rest), 0))
  else none
theorem bFirst_step (first : List Int) (n j : Nat) (h : j < n) (M : Nat → List Int) : bFirst first (n - j) j M = bFirst first (n - (j + 1)) (j + 1) (set2 (set2 M 0 j (first.getD j 0)) j 0 (first.getD j 0)) := by
  rw [show n - j = (n - (j + 1)) + 1 by omega, bFirst]
theorem bOut_step (n : Nat) (rest : List Int) (i : Nat) (h : i < n) (s : Nat × (Nat → List Int)) : bOut n rest (n - i) i s = bOut n rest (n - (i + 1)) (i + 1) (newIn n i rest (n - i) i s) := by
  rw [show n - i = (n - (i + 1)) + 1 by omega, bOut]
  simp only [show n - (i + 1) + 1 = n - i by omega]
theorem half_wrap2 (n q : Nat) (hn1 : 1 ≤ n) (hn2 : n ≤ 100) (hq : q = tri (n - 1)) : wrap64 ((wrap64 ((n : Int) * ((n : Int) - 1))).tdiv 2) = (q : Int) := by
  rw [Int.mul_comm]; exact half_wrap n q hn1 hn2 hq
theorem half_of_pred2 (n : Nat) (h : 1 ≤ n) : (n - 1) * n / 2 = tri (n - 1) := by
  have := tri_half (n - 1)
  rwa [show n - 1 + 1 = n by omega] at this
/-- What is left of the rest from place k on. -/
def Left (w : World) (A : Option Addr) (rest : List Int) (k : Nat) : Prop := ∀ i, k + i < rest.length → ∃ ad, A = some ad ∧ w.cell? (ad.add i) = some (.int .u64 (rest.getD (k + i) 0))
theorem Left.ext {w w' : World} {A : Option Addr} {rest : List Int} {k : Nat} (h : Left w A rest k) (he : Ext w w') : Left w' A rest k := fun i hi => by
  obtain ⟨ad, q1, q2⟩ := h i hi
  exact ⟨ad, q1, he.cell q2⟩
theorem Left.next {w : World} {ad : Addr} {rest : List Int} {k : Nat} (h : Left w (some ad) rest k) : Left w (some (ad.add 1)) rest (k + 1) := fun i hi => by
  obtain ⟨ad', q1, q2⟩ := h (i + 1) (by omega)
  injection q1 with q1
  subst q1
  refine ⟨_, rfl, ?_⟩
  rw [Addr.add_add, show 1 + i = i + 1 by omega, show k + 1 + i = k + (i + 1) by omega]
  exact q2
set_option maxRecDepth 4000 in
set_option maxHeartbeats 1000000 in
theorem bnew_calls (w : World) {A0 A1 : Option Addr} {c0 c1 : Nat} {first rest : List Int} {n : Nat} (hn : first.length = n)
    (h0 : ∀ i, i < first.length → ∃ ad, A0 = some ad ∧ w.cell? (ad.add i) = some (.int .u64 (first.getD i 0))) (hc0 : first.length ≤ c0)
    (h1 : ∀ i, i < rest.length → ∃ ad, A1 = some ad ∧ w.cell? (ad.add i) = some (.int .u64 (rest.getD i 0))) (hc1 : rest.length ≤ c1) (hn1 : 1 ≤ n) (hn2 : n ≤ 100) (hrl : rest.length = tri (n - 1)) :
    Calls Try.prog 26 #[.slice A0 n c0, .slice A1 rest.length c1] w fun e w' => ∃ v : Value, e = .returned (.tuple #[v, .int .i64 0]) ∧ Kd.S (Kd.slice 22 (Kd.int .u64)) 28 w' w.heap.size (fun _ => True) v ((List.range n).map (bM first rest)) ∧ Ext w w' := by
  rw [hn] at h0 hc0
  have H0 := Hd.mk h0
  have H1 : Hd (Left w A1 rest 0) := ⟨fun i hi => by
    obtain ⟨ad, q1, q2⟩ := h1 i (by omega)
    exact ⟨ad, q1, by rw [Nat.zero_add]; exact q2⟩⟩
  clear h0 h1
  obtain ⟨q, hq, hq1⟩ : ∃ q : Nat, q = tri (n - 1) ∧ q ≤ 5050 := ⟨_, rfl, tri_le _ (by omega)⟩
  rw [← hq] at hrl
  have HQ := Hd.mk hq
  have HW := Hd.mk (half_wrap2 n q hn1 hn2 hq)
  have HF := Hd.mk hn
  clear hq hn
  go_enter Try.func26, Try.ntmps26
  go_wp2_with (with_reducible first | refine hold_append rfl ?_ | refine hold_make rfl ?_)
  · rename_i hx
    rw [HW.out] at hx
    simp at hx
    omega
  refine wpl_make tyM rfl w.heap.size (by rfl) (by rfl) n (by rfl) (by rfl) (by omega) (Nat.le_refl _) ?_
  intro w1 hown hE
  have hM := Mt.start hown
  clear hown HW
  go_wp2_with fail
  go_loopw [31] (fun i wr => ∃ (k : Nat) (b : Nat → Nat) (M : Nat → List Int), k ≤ n ∧ i = .int .i64 (k : Nat) ∧ Mt wr w.heap.size w.heap.size n k b M ∧ Ext w wr ∧ Hd (∀ r, r < k → M r = List.replicate n 0)) (fun i _ => n - (intOf i).toNat)
  case atStart => exact ⟨0, _, _, by omega, rfl, hM, hE, ⟨fun r hr => by omega⟩⟩
  case round =>
    clear hM hE
    obtain ⟨k, b, M, hk, rfl, hM, hE, hz⟩ := hrel
    by_cases hlt : k < n
    · go_wp2_with (with_reducible first | refine hold_append rfl ?_ | refine hold_make rfl ?_)
      refine wpl_make tyU rfl w.heap.size (by rfl) (by rfl) n (by rfl) (by rfl) (by omega) hE.size ?_
      intro w2 hown hE2
      rw [encZ_replicate] at hown
      have hM2 := hM.push hE2 (Nat.le_refl _) hown hlt
      have hM1 := hM.ext hE2
      obtain ⟨c1, f1, _, _⟩ := run_own_store hM1.outer k hlt (.slice (some ⟨wr.heap.size, 0, none⟩) n n) rfl
      have hE3 := (hE.trans hE2).setCell (q := ⟨w.heap.size, k, none⟩) (Nat.le_refl _) (.slice (some ⟨wr.heap.size, 0, none⟩) n n)
      clear hM hM1 hE hE2 hown
      go_wp2_with fail
      go_roundw
      case rel =>
        refine ⟨k + 1, _, _, by omega, by go_num, hM2, hE3, ⟨fun r hr => ?_⟩⟩
        by_cases hrk : r = k
        · simp [hrk]
        · simp only [if_neg hrk]; exact hz.out r (by omega)
      case measure => simp [intOf] <;> omega
    · obtain rfl : k = n := by omega
      have hM0 := hM.congr (M' := fun _ => List.replicate k 0) hz.out
      clear hM hz
      go_wp2_with fail
      go_loopw [42] (fun vi wr => ∃ (j : Nat) (b : Nat → Nat) (M : Nat → List Int), j ≤ k ∧ vi = .int .i64 (j : Nat) ∧ Mt wr w.heap.size w.heap.size k k b M ∧ Ext w wr ∧ Hd (bFirst first (k - j) j M = bFirst first k 0 (fun _ => List.replicate k 0))) (fun i _ => k - (intOf i).toNat)
      case atStart => exact ⟨0, _, _, by omega, rfl, hM0, hE, ⟨rfl⟩⟩
      case round =>
        clear hM0 hE
        obtain ⟨j, b, M, hj, rfl, hM, hE, hfin⟩ := hrel
        by_cases hlt : j < k
        · obtain ⟨ad, rfl, hc⟩ := H0.out j hlt
          have hc := hE.cell hc
          have d1 := hM.cell (i := 0) (by omega) (by omega)
          have d2 := hM.cell (i := j) hlt hlt
          have e1 := hM.get (i := 0) (j := j) (by omega) hlt
          have g1 := hM.frz (i := 0) (j := j) (by omega) hlt
          have hM1 := hM.set2 (i := 0) (j := j) (by omega) hlt (first.getD j 0)
          have e2 := hM1.get (i := j) (j := 0) hlt (by omega)
          have g2 := hM1.frz (i := j) (j := 0) hlt (by omega)
          have hM2 := Hd.mk ((hM1.set2 (i := j) (j := 0) hlt (by omega) (first.getD j 0)).ext (Ext.drew' _))
          have hb0 := (hM.base_row (i := 0) (by omega)).1
          have hbi := (hM.base_row (i := j) hlt).1
          have hE2 := Hd.mk (((hE.setCell (q := ⟨b 0, j, none⟩) hb0 (.int .u64 (first.getD j 0))).setCell (q := ⟨b j, 0, none⟩) hbi (.int .u64 (first.getD j 0))).trans (Ext.drew' _))
          have hfin2 : Hd (bFirst first (k - (j + 1)) (j + 1) (set2 (set2 M 0 j (first.getD j 0)) j 0 (first.getD j 0)) = bFirst first k 0 (fun _ => List.replicate k 0)) := ⟨by
            rw [← hfin.out, bFirst_step first k j hlt]⟩
          clear hfin hM hM1 hE
          generalize first.getD j 0 = x at *
          go_wp2_with fail
          have r0 : 0 < k := by omega
          have r1 : (0 : Int) ≤ (j : Int) := by omega
          have r2 : (j : Int) < (k : Int) := by omega
          refine wp_region_lex (EW 1) [some (0, 1), some (0, 1), some (0, 1), some (0, 1), some (0, 2), some (0, 2), some (0, 2), some (0, 1), some (0, 1), some (0, 2), some (0, 1), none, some (1, 2), none] (by kernel_rfl) (by kernel_rfl) ?_
          (repeat (refine lex_steady (fun K hK => ?_); go_simp; first | (refine ⟨_, fun _ _ => rfl, hK _ ?_⟩; clear hK K) | (refine ⟨?_, fun w' hw' => ?_, hK _ ?_⟩; rotate_left; (have hw'' := reach_ext hw' (by decide); have z0 := Ext.cell hw'' d1; have z1 := Ext.cell hw'' d2; go_simp; rfl); go_simp; clear hK K) | (refine hK _ ?_; clear hK K)))
          (refine lex_active (fun K hK => ?_); go_simp; refine ⟨fun h => absurd h (by decide), hK _ _ _ ?_⟩; clear hK K)
          (repeat (refine lex_steady (fun K hK => ?_); go_simp; first | (refine ⟨_, fun _ _ => rfl, hK _ ?_⟩; clear hK K) | (refine ⟨?_, fun w' hw' => ?_, hK _ ?_⟩; rotate_left; (have hw'' := reach_ext hw' (by decide); have z0 := Ext.cell hw'' d1; have z1 := Ext.cell hw'' d2; go_simp; rfl); go_simp; clear hK K) | (refine hK _ ?_; clear hK K)))
          (refine lex_active (fun K hK => ?_); go_simp; refine ⟨fun h => absurd h (by decide), hK _ _ _ ?_⟩; clear hK K)
          refine lex_nil ?_
          clear d1 d2 hc e1 e2 g1 g2
          generalize hw2 : World.drew ((wr.setCell ⟨b 0, j, none⟩ (.int .u64 x)).setCell ⟨b j, 0, none⟩ (.int .u64 x)) = w2 at *
          clear hw2
          go_wp2_with fail
          go_roundw
          case rel => exact ⟨j + 1, b, _, by omega, by go_num, hM2.out, hE2.out, hfin2⟩
          case measure => simp [intOf] <;> omega
        · obtain rfl : j = k := by omega
          have hM1 := hM.congr (M' := bFirst first j 0 (fun _ => List.replicate j 0)) (fun r hr => by rw [← hfin.out, Nat.sub_self]; rfl)
          clear hM hfin
          go_wp2_with fail
          go_loopw [11, 1] (fun vi vr wr => ∃ (i kk : Nat) (A : Option Addr) (c : Nat) (b : Nat → Nat) (M : Nat → List Int), 1 ≤ i ∧ i ≤ j ∧ vi = .int .i64 (i : Nat) ∧ vr = .slice A (q - kk) c ∧ q - kk ≤ c ∧ Hd (Left w A rest kk) ∧ Mt wr w.heap.size w.heap.size j j b M ∧ Ext w wr ∧ Hd ((bOut j rest (j - i) i (kk, M)).2 = bM first rest) ∧ Hd (kk + tri (j - i) = q) ∧ kk ≤ q) (fun i _ _ => j - (intOf i).toNat)
          case atStart => exact ⟨1, 0, A1, c1, _, _, by omega, by omega, rfl, by rw [Nat.sub_zero], by omega, H1, hM1, hE, ⟨by unfold bM; rw [HF.out]⟩, ⟨by rw [HQ.out]; omega⟩, by omega⟩
          case round =>
            clear hM1 hE
            obtain ⟨i, kk, A, c, b, M, hi1, hi, rfl, rfl, hcap, hleft, hM, hE, hfin, hcnt, hkk⟩ := hrel
            by_cases hlt : i < j
            · have hfin2 : Hd ((bOut j rest (j - (i + 1)) (i + 1) (newIn j i rest (j - i) i (kk, M))).2 = bM first rest) := ⟨by
                rw [← hfin.out, bOut_step j rest i hlt]⟩
              have hcnt2 : Hd (kk + (j - i) + tri (j - (i + 1)) = q) := ⟨by
                have h1 := hcnt.out
                rw [tri_pred j i hlt] at h1
                omega⟩
              clear hfin hcnt
              go_wp2_with fail
              go_loopw [12, 1] (fun vj vr wr => ∃ (l kk : Nat) (A : Option Addr) (c : Nat) (M : Nat → List Int), i ≤ l ∧ l ≤ j ∧ vj = .int .i64 (l : Nat) ∧ vr = .slice A (q - kk) c ∧ q - kk ≤ c ∧ Hd (Left w A rest kk) ∧ Mt wr w.heap.size w.heap.size j j b M ∧ Ext w wr ∧ Hd ((bOut j rest (j - (i + 1)) (i + 1) (newIn j i rest (j - l) l (kk, M))).2 = bM first rest) ∧ Hd (kk + (j - l) + tri (j - (i + 1)) = q) ∧ kk ≤ q) (fun v _ _ => j - (intOf v).toNat)
              case atStart => exact ⟨i, kk, A, c, M, by omega, by omega, rfl, rfl, hcap, hleft, hM, hE, hfin2, hcnt2, hkk⟩
              case round =>
                clear hM hE hfin2 hcnt2 hkk hleft hcap
                obtain ⟨l, kk, A, c, M, hil, hl, rfl, rfl, hcap, hleft, hM, hE, hfin, hcnt, hkk⟩ := hrel
                by_cases hlt2 : l < j
                · have hkq : kk < q := by have := hcnt.out; omega
                  obtain ⟨ad2, rfl, hc⟩ := hleft.out 0 (by omega)
                  rw [Nat.add_zero] at hc
                  have hc := hE.cell hc
                  have hL2 : Hd (Left w (if c = 1 then some ad2 else some ⟨ad2.block, ad2.off + 1, none⟩) rest (kk + 1)) := ⟨by
                    by_cases hc1 : c = 1
                    · intro i' hi'
                      omega
                    · rw [if_neg hc1]
                      have h1 := hleft.out.next
                      have h2 : ad2.add 1 = ⟨ad2.block, ad2.off + 1, none⟩ := by simp [Addr.add]
                      rwa [h2] at h1⟩
                  have hc' : wr.cell? ad2 = some (.int .u64 (rest.getD kk 0)) := by simpa [Addr.add] using hc
                  have d1 := hM.cell (i := i) hlt hlt
                  have d2 := hM.cell (i := l) hlt2 hlt2
                  have e1 := hM.get (i := i) (j := l) hlt hlt2
                  have g1 := hM.frz (i := i) (j := l) hlt hlt2
                  have hM1 := hM.set2 (i := i) (j := l) hlt hlt2 (rest.getD kk 0)
                  have e2 := hM1.get (i := l) (j := i) hlt2 hlt
                  have g2 := hM1.frz (i := l) (j := i) hlt2 hlt
                  have hM2 := Hd.mk ((hM1.set2 (i := l) (j := i) hlt2 hlt (rest.getD kk 0)).ext (Ext.drew' _))
                  have hb0 := (hM.base_row (i := i) hlt).1
                  have hbi := (hM.base_row (i := l) hlt2).1
                  have hE2 := Hd.mk (((hE.setCell (q := ⟨b i, l, none⟩) hb0 (.int .u64 (rest.getD kk 0))).setCell (q := ⟨b l, i, none⟩) hbi (.int .u64 (rest.getD kk 0))).trans (Ext.drew' _))
                  have hfin2 : Hd ((bOut j rest (j - (i + 1)) (i + 1) (newIn j i rest (j - (l + 1)) (l + 1) (kk + 1, set2 (set2 M i l (rest.getD kk 0)) l i (rest.getD kk 0)))).2 = bM first rest) := ⟨by
                    rw [← hfin.out, newIn_step j i rest l hlt2]⟩
                  have hcnt2 : Hd (kk + 1 + (j - (l + 1)) + tri (j - (i + 1)) = q) := ⟨by have h1 := hcnt.out; omega⟩
                  clear hfin hM hM1 hE hcnt hc
                  generalize rest.getD kk 0 = y at *
                  go_wp2_with fail
                  have r0 : (0 : Int) ≤ (i : Int) := by omega
                  have r1 : (i : Int) < (j : Int) := by omega
                  have r3 : (0 : Int) ≤ (l : Int) := by omega
                  have r4 : (l : Int) < (j : Int) := by omega
                  have r6 : 0 < q - kk := by omega
                  refine wp_region_lex (EW 1) [some (0, 1), some (0, 1), some (0, 1), some (0, 1), some (0, 1), some (0, 2), some (0, 2), some (0, 2), some (0, 1), some (0, 2), some (0, 1), some (0, 1), some (0, 1), some (0, 2), some (0, 2), some (0, 1), some (0, 1), none, some (1, 2), none] (by kernel_rfl) (by kernel_rfl) ?_
                  (repeat (refine lex_steady (fun K hK => ?_); go_simp; first | (refine ⟨_, fun _ _ => rfl, hK _ ?_⟩; clear hK K) | (refine ⟨?_, fun w' hw' => ?_, hK _ ?_⟩; rotate_left; (have hw'' := reach_ext hw' (by decide); have z0 := Ext.cell hw'' d1; have z1 := Ext.cell hw'' d2; have z2 := Ext.cell hw'' hc'; go_simp; rfl); go_simp; clear hK K) | (refine hK _ ?_; clear hK K)))
                  (refine lex_active (fun K hK => ?_); go_simp; refine ⟨fun h => absurd h (by decide), hK _ _ _ ?_⟩; clear hK K)
                  (repeat (refine lex_steady (fun K hK => ?_); go_simp; first | (refine ⟨_, fun _ _ => rfl, hK _ ?_⟩; clear hK K) | (refine ⟨?_, fun w' hw' => ?_, hK _ ?_⟩; rotate_left; (have hw'' := reach_ext hw' (by decide); have z0 := Ext.cell hw'' d1; have z1 := Ext.cell hw'' d2; have z2 := Ext.cell hw'' hc'; go_simp; rfl); go_simp; clear hK K) | (refine hK _ ?_; clear hK K)))
                  (refine lex_active (fun K hK => ?_); go_simp; refine ⟨fun h => absurd h (by decide), hK _ _ _ ?_⟩; clear hK K)
                  refine lex_nil ?_
                  clear d1 d2 hc' e1 e2 g1 g2
                  generalize hw3 : World.drew ((wr.setCell ⟨b i, l, none⟩ (.int .u64 y)).setCell ⟨b l, i, none⟩ (.int .u64 y)) = w3 at *
                  clear hw3
                  go_wp2_with fail
                  go_roundw
                  case rel => exact ⟨l + 1, kk + 1, _, c - 1, _, by omega, by omega, by go_num, by rw [show q - (kk + 1) = q - kk - 1 by omega], by omega, hL2, hM2.out, hE2.out, hfin2, hcnt2, by omega⟩
                  case measure => simp [intOf] <;> omega
                · have hfin2 : Hd ((bOut j rest (j - (i + 1)) (i + 1) (kk, M)).2 = bM first rest) := ⟨by
                    rw [← hfin.out, show j - l = 0 by omega, newIn]⟩
                  have hcnt2 : Hd (kk + tri (j - (i + 1)) = q) := ⟨by have h1 := hcnt.out; omega⟩
                  have hlj : (l : Int) = (j : Int) := by omega
                  clear hfin hcnt
                  go_wp2_with fail
                  go_roundw
                  case rel => exact ⟨i + 1, kk, A, c, b, M, by omega, by omega, by go_num, rfl, hcap, hleft, hM, hE, hfin2, hcnt2, hkk⟩
                  case measure => simp [intOf] <;> omega
            · obtain rfl : i = j := by omega
              have hM2 := (hM.congr (M' := bM first rest) (fun r hr => by rw [← hfin.out, Nat.sub_self]; rfl)).S
              clear hM hfin hcnt
              go_wp2_with fail
              go_ret2
              exact ⟨_, rfl, hM2, hE⟩
set_option maxRecDepth 4000 in
set_option maxHeartbeats 1000000 in
theorem bnew_err (w : World) {A0 A1 : Option Addr} {c0 c1 : Nat} {n m : Nat} (hn2 : n ≤ 100) (hrl : n = 0 ∨ m ≠ tri (n - 1)) :
    Calls Try.prog 26 #[.slice A0 n c0, .slice A1 m c1] w fun e w' => ∃ v : Value, e = .returned (.tuple #[v, .int .i64 1]) ∧ Kd.S (Kd.slice 22 (Kd.int .u64)) 28 w' w.heap.size (fun _ => True) v [] ∧ Ext w w' := by
  have HX := Hd.mk hrl
  clear hrl
  by_cases hn0 : n = 0
  · subst hn0
    clear HX
    go_enter Try.func26, Try.ntmps26
    go_wp2_with fail
    go_ret2
    exact ⟨_, rfl, Kd.S_nil _ _ _ _ _, Ext.refl _⟩
  · have hm := Hd.mk (HX.out.resolve_left hn0)
    have HW := Hd.mk (half_wrap2 n (tri (n - 1)) (by omega) hn2 rfl)
    go_enter Try.func26, Try.ntmps26
    go_wp2_with (with_reducible first | refine hold_append rfl ?_ | refine hold_make rfl ?_)
    · go_ret2
      exact ⟨_, rfl, Kd.S_nil _ _ _ _ _, Ext.refl _⟩
    · rename_i hx _ _
      exfalso
      have h1 := hx.2
      rw [HW.out] at h1
      have := hm.out
      simp at h1
      omega
theorem bnewI_calls (A0 : Option Addr) (c0 : Nat) (l0 : List Int) (A1 : Option Addr) (c1 : Nat) (l1 : List Int) (r1 : List (List Int)) (r2 : Int) (w : World) (hr0 : Kd.C (Kd.int .u64) w A0 l0.length l0) (hc0 : l0.length ≤ c0) (hr1 : Kd.C (Kd.int .u64) w A1 l1.length l1) (hc1 : l1.length ≤ c1) (h : bnewI l0 l1 = some (r1, r2)) :
    Calls Try.prog 26 #[.slice A0 l0.length c0, .slice A1 l1.length c1] w fun e w' => ∃ v0_ : Value, e = .returned (.tuple #[v0_, .int .i64 r2]) ∧ Kd.S (Kd.slice 22 (Kd.int .u64)) 28 w' w.heap.size (fun _ => True) v0_ r1 ∧ Below w.heap.size w w' := by
  unfold bnewI at h
  by_cases hl : l0.length ≤ 100
  case neg => rw [if_neg hl] at h; cases h
  rw [if_pos hl] at h
  by_cases hc : l0.length = 0 ∨ l1.length ≠ (l0.length - 1) * l0.length / 2
  · rw [if_pos hc] at h
    injection h with h; injection h with h1 h2; subst h1 h2
    refine bnew_err w hl ?_
    rcases hc with hc | hc
    · exact .inl hc
    · by_cases h0 : l0.length = 0
      · exact .inl h0
      · exact .inr (by rw [← half_of_pred2 _ (by omega)]; exact hc)
  · rw [if_neg hc] at h
    injection h with h; injection h with h1 h2; subst h1 h2
    rw [not_or, Decidable.not_not] at hc
    have get : ∀ {A : Option Addr} {l : List Int}, Kd.C (Kd.int .u64) w A l.length l → ∀ i, i < l.length → ∃ ad, A = some ad ∧ w.cell? (ad.add i) = some (.int .u64 (l.getD i 0)) := by
      intro A l hr i hi
      obtain ⟨ad, q1, q2⟩ := Kd.at_int hr (i : Int) (by omega) (by omega)
      refine ⟨ad, q1, ?_⟩
      simpa [rd] using q2
    exact bnew_calls w rfl (get hr0) hc0 (get hr1) hc1 (by omega) hl (by rw [← half_of_pred2 _ (by omega)]; exact hc.2)
end Go.Proofs.Ytlooloaaceohdaa
