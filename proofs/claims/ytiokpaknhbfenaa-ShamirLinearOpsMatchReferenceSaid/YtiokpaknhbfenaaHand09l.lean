/-
A part of this claim's proof (Hand09l): lemmas that the text of the law stands on.
-/
import Derived.Test.YtiokpaknhbfenaaPure09l
set_option linter.unusedVariables false
set_option linter.unusedSimpArgs false
set_option maxRecDepth 10000
namespace Go.Proofs.Ytiokpaknhbfenaa
open Go.RowKit Go.Proofs.YtiokpaknhbfenaaW.PrintWords Go.Proofs.Ytiokpaknhbfenaa.F Go.Proofs.Ytiokpaknhbfenaa.Pure
theorem toExt {w w' : World} (h : Below w.heap.size w w') : Ext w w' := h
theorem drawnExt {w w' : World} (h : Drawn0 w w') : Ext w w' := h.below
theorem C_ext {α : Type} {d : Kd α} {w w' : World} {A : Option Addr} {n : Nat} {l : List α} (h : Kd.C d w A n l) (he : Ext w w') : Kd.C d w' A n l := Kd.C_below h he
def okU (l : List Int) : Prop := l.length ≤ maxLen ∧ ∀ x ∈ l, (Lit.int .u64 x).wf = true
def okUU (l : List (List Int)) : Prop := l.length ≤ maxLen ∧ ∀ r ∈ l, okU r
/-- what the law's argument is to be -/
def okArgs09 (A B : List (List Int)) (Kx : Int) : Prop := okUU A ∧ okUU B ∧ (Lit.int .u64 Kx).wf = true
theorem shape_of {p L : Int} {A : List (List Int)} {n : Nat} (hA : A.length = n) (ho : okUU A) (h : ∀ r ∈ A, (r.length : Int) = L ∧ ∀ x ∈ r, x < p) : Shape p A n L.toNat :=
  ⟨hA, fun r hr => by have := (h r hr).1; omega, fun r hr x hx => by
    simp only [inr, Bool.and_eq_true, decide_eq_true_eq]
    exact ⟨wf_u64 ((ho.2 r hr).2 x hx), (h r hr).2 x hx⟩⟩
set_option maxHeartbeats 4000000 in
theorem law_walk (p N T : Int) (A1 A2 : Option Addr) (c1 c2 : Nat) (A B : List (List Int)) (Kx : Int) (w : World) (hr1 : Kd.C (Kd.slice 22 (Kd.int .u64)) w A1 A.length A) (hc1 : A.length ≤ c1) (hr2 : Kd.C (Kd.slice 22 (Kd.int .u64)) w A2 B.length B) (hc2 : B.length ≤ c2) (ho : okArgs09 A B Kx) :
    Calls Try.prog 5 #[.agg #[.int .u64 p, .int .i64 N, .int .i64 T, .slice A1 A.length c1, .slice A2 B.length c2, .int .u64 Kx]] w fun e w' => e = .returned (.bool true) ∧ Below w.heap.size w w' := by
  obtain ⟨ka, hka⟩ := Ev.rounds awake09l_ev
  have HA := Hd.mk hr1
  have HA' := Hd.mk hc1
  have HB := Hd.mk hr2
  have HB' := Hd.mk hc2
  have HO := Hd.mk ho
  have eb := Ext.of_alloc w (.cells #[.int .u64 p, .int .i64 N, .int .i64 T, .slice A1 A.length c1, .slice A2 B.length c2, .int .u64 Kx] 43)
  have HE := Hd.mk eb
  have HG : Hd ((w.alloc (.cells #[.int .u64 p, .int .i64 N, .int .i64 T, .slice A1 A.length c1, .slice A2 B.length c2, .int .u64 Kx] 43)).heap[w.heap.size]? = some (.cells #[.int .u64 p, .int .i64 N, .int .i64 T, .slice A1 A.length c1, .slice A2 B.length c2, .int .u64 Kx] 43 (0, 0))) := ⟨heap_alloc_new w _⟩
  clear hr1 hc1 hr2 hc2 ho eb
  generalize hn1 : A.length = n1 at *
  generalize hn2 : B.length = n2 at *
  go_enter Try.func5, Try.ntmps5
  go_wp2_with fail
  refine (privitylaw09_awake.calls ka true _ hka).mono ?_; rintro _ w1 ⟨rfl, hd⟩; first | replace hd := toExt hd | replace hd := drawnExt hd
  have hg1 := (Below.block hd w.heap.size (by simp)).trans HG.out
  have HE1 := Hd.mk (HE.out.trans hd)
  clear hd HG HE hka
  have d0 : w1.cell? ⟨w.heap.size, 0, none⟩ = some (.int .u64 p) := by rw [cell_of_row _ _ _ _ _ _ hg1]; rfl
  have d1 : w1.cell? ⟨w.heap.size, 1, none⟩ = some (.int .i64 N) := by rw [cell_of_row _ _ _ _ _ _ hg1]; rfl
  have d2 : w1.cell? ⟨w.heap.size, 2, none⟩ = some (.int .i64 T) := by rw [cell_of_row _ _ _ _ _ _ hg1]; rfl
  have d3 : w1.cell? ⟨w.heap.size, 3, none⟩ = some (.slice A1 n1 c1) := by rw [cell_of_row _ _ _ _ _ _ hg1]; rfl
  have d4 : w1.cell? ⟨w.heap.size, 4, none⟩ = some (.slice A2 n2 c2) := by rw [cell_of_row _ _ _ _ _ _ hg1]; rfl
  have d5 : w1.cell? ⟨w.heap.size, 5, none⟩ = some (.int .u64 Kx) := by rw [cell_of_row _ _ _ _ _ _ hg1]; rfl
  clear hg1
  by_cases t1 : T < 0
  · go_wp2_with fail
    go_ret
    exact ⟨rfl, HE1.out⟩
  by_cases t2 : T > 13
  · go_wp2_with fail
    go_ret
    exact ⟨rfl, HE1.out⟩
  have hw : wrap64 (T + 1) = T + 1 := by unfold wrap64; omega
  obtain ⟨ks, hks⟩ := Ev.rounds (supported_ev p)
  go_wp2_with fail
  refine (privityref01_Supported.calls ks p (okp p) _ hks).mono ?_; rintro _ w2 ⟨rfl, hd⟩; first | replace hd := toExt hd | replace hd := drawnExt hd
  have HE2 := Hd.mk (HE1.out.trans hd)
  have d0 := hd.cell d0
  have d1 := hd.cell d1
  have d2 := hd.cell d2
  have d3 := hd.cell d3
  have d4 := hd.cell d4
  have d5 := hd.cell d5
  clear hd HE1 hks
  cases hp : okp p with
  | false =>
    go_wp2_with fail
    go_ret
    exact ⟨rfl, HE2.out⟩
  | true =>
  have HP := Hd.mk hp
  clear hp
  by_cases t3 : N < 1
  · go_wp2_with fail
    go_ret
    exact ⟨rfl, HE2.out⟩
  by_cases t4 : N > 13
  · go_wp2_with fail
    go_ret
    exact ⟨rfl, HE2.out⟩
  by_cases t5 : T + 1 > 6
  · have t6 : ¬ T + 1 < 1 := by omega
    go_wp2_with fail
    go_ret
    exact ⟨rfl, HE2.out⟩
  have t6 : ¬ T + 1 < 1 := by omega
  obtain ⟨b1, e1, f1⟩ := rows_ev p A N (T + 1) (by omega) (by omega)
  obtain ⟨k1, e1⟩ := Ev.rounds e1
  obtain ⟨b2, e2, f2⟩ := rows_ev p B N (T + 1) (by omega) (by omega)
  obtain ⟨k2, e2⟩ := Ev.rounds e2
  have F1 := Hd.mk f1
  have F2 := Hd.mk f2
  have h1 := Hd.mk (fun W hW => privityref09_Rows.calls k1 p A1 c1 A N (T + 1) b1 W (by rw [hn1]; exact C_ext HA.out hW) (by rw [hn1]; exact HA'.out) e1)
  have h2 := Hd.mk (fun W hW => privityref09_Rows.calls k2 p A2 c2 B N (T + 1) b2 W (by rw [hn2]; exact C_ext HB.out hW) (by rw [hn2]; exact HB'.out) e2)
  rw [hn1] at h1
  rw [hn2] at h2
  clear f1 f2 e1 e2
  go_wp2_with fail
  refine (h1.out _ HE2.out).mono ?_; rintro _ w3 ⟨rfl, hd⟩; first | replace hd := toExt hd | replace hd := drawnExt hd
  have HE3 := Hd.mk (HE2.out.trans hd)
  have d0 := hd.cell d0
  have d1 := hd.cell d1
  have d2 := hd.cell d2
  have d3 := hd.cell d3
  have d4 := hd.cell d4
  have d5 := hd.cell d5
  clear hd HE2
  cases b1 with
  | false =>
    go_wp2_with fail
    go_ret
    exact ⟨rfl, HE3.out⟩
  | true =>
  go_wp2_with fail
  refine (h2.out _ HE3.out).mono ?_; rintro _ w4 ⟨rfl, hd⟩; first | replace hd := toExt hd | replace hd := drawnExt hd
  have HE4 := Hd.mk (HE3.out.trans hd)
  have d0 := hd.cell d0
  have d1 := hd.cell d1
  have d2 := hd.cell d2
  have d3 := hd.cell d3
  have d4 := hd.cell d4
  have d5 := hd.cell d5
  clear hd HE3 h1 h2
  cases b2 with
  | false =>
    go_wp2_with fail
    go_ret
    exact ⟨rfl, HE4.out⟩
  | true =>
  by_cases t7 : Kx ≥ p
  · go_wp2_with fail
    go_ret
    exact ⟨rfl, HE4.out⟩
  obtain ⟨bs, hbs⟩ := setups_some p N T
  go_wp2_with fail
  refine (privitylaw09_setups.calls p N T bs _ hbs).mono ?_; rintro _ w5 ⟨rfl, hd⟩; first | replace hd := toExt hd | replace hd := drawnExt hd
  have HE5 := Hd.mk (HE4.out.trans hd)
  have d0 := hd.cell d0
  have d1 := hd.cell d1
  have d2 := hd.cell d2
  have d3 := hd.cell d3
  have d4 := hd.cell d4
  have d5 := hd.cell d5
  clear hd HE4
  cases bs with
  | false =>
    go_wp2_with fail
    go_ret
    exact ⟨rfl, HE5.out⟩
  | true =>
  have hT0 : 0 ≤ T := by omega
  have hK : inr p Kx = true := by
    simp only [inr, Bool.and_eq_true, decide_eq_true_eq]
    exact ⟨wf_u64 HO.out.2.2, by omega⟩
  have hLn : (T + 1).toNat = T.toNat + 1 := by omega
  have hN1 := (F1.out (by simp)).1
  have hN2 := (F2.out (by simp)).1
  obtain ⟨F⟩ := facts p N T Kx A B n1 (T + 1).toNat HP.out hK (by omega) hT0 (by omega) (shape_of hn1 HO.out.1 (F1.out (by simp)).2) (shape_of (by omega) HO.out.2.1 (F2.out (by simp)).2) (by omega) (by omega) (by omega)
  obtain ⟨rA, rS, rK, rC, rL, a1, ⟨ja2, a2⟩, ⟨ja3, a3⟩, s1, ⟨js2, s2⟩, ⟨js3, s3⟩, q1, ⟨jq2, q2⟩, ⟨jq3, q3⟩, ⟨jc1, z1⟩, ⟨jc2, z2⟩, ⟨jc3, z3⟩, ⟨jl1, u1⟩, ⟨jl2, u2⟩, ⟨jl3, u3⟩⟩ := F
  subst hn1 hn2
  clear HP HO F1 F2 hK hLn hN1 hN2
  have HL : Hd (Kd.C (Kd.slice 23 (Kd.slice 22 (Kd.int .u64))) (w5.alloc (.cells #[.slice A1 A.length c1, .slice A2 B.length c2, .slice A1 A.length c1] 41)) (some ⟨w5.heap.size, 0, none⟩) 3 [A, B, A]) := ⟨by
    have e5 := HE5.out.trans (Ext.of_alloc w5 (.cells #[.slice A1 A.length c1, .slice A2 B.length c2, .slice A1 A.length c1] 41))
    have hc := heap_alloc_new w5 (.cells #[.slice A1 A.length c1, .slice A2 B.length c2, .slice A1 A.length c1] 41)
    refine ⟨rfl, by omega, fun _ => ⟨_, rfl, fun j x hj => ?_⟩⟩
    have hadd : ∀ j, (⟨w5.heap.size, 0, none⟩ : Addr).add j = ⟨w5.heap.size, j, none⟩ := fun j => by unfold Addr.add; split <;> simp_all
    rcases j with _ | _ | _ | j
    · simp at hj; subst hj
      exact ⟨[_], rfl, ⟨A1, c1, rfl, HA'.out, C_ext HA.out e5⟩, fun i u hi => by
        cases i with
        | zero => simp at hi; subst hi; rw [hadd, cell_of_row _ _ _ _ _ _ hc]; rfl
        | succ i => simp at hi⟩
    · simp at hj; subst hj
      exact ⟨[_], rfl, ⟨A2, c2, rfl, HB'.out, C_ext HB.out e5⟩, fun i u hi => by
        cases i with
        | zero => simp at hi; subst hi; rw [hadd, cell_of_row _ _ _ _ _ _ hc]; rfl
        | succ i => simp at hi⟩
    · simp at hj; subst hj
      exact ⟨[_], rfl, ⟨A1, c1, rfl, HA'.out, C_ext HA.out e5⟩, fun i u hi => by
        cases i with
        | zero => simp at hi; subst hi; rw [hadd, cell_of_row _ _ _ _ _ _ hc]; rfl
        | succ i => simp at hi⟩
    · simp at hj⟩
  have HD : Hd (∀ W, Ext (w5.alloc (.cells #[.slice A1 A.length c1, .slice A2 B.length c2, .slice A1 A.length c1] 41)).drew W → W.cell? ⟨w.heap.size, 0, none⟩ = some (.int .u64 p) ∧ W.cell? ⟨w.heap.size, 1, none⟩ = some (.int .i64 N) ∧ W.cell? ⟨w.heap.size, 2, none⟩ = some (.int .i64 T) ∧ W.cell? ⟨w.heap.size, 3, none⟩ = some (.slice A1 A.length c1) ∧ W.cell? ⟨w.heap.size, 4, none⟩ = some (.slice A2 B.length c2) ∧ W.cell? ⟨w.heap.size, 5, none⟩ = some (.int .u64 Kx)) := ⟨fun W hW => by
    have e5 : Ext w5 W := ((Ext.of_alloc w5 _).trans (Ext.drew _)).trans hW
    exact ⟨e5.cell d0, e5.cell d1, e5.cell d2, e5.cell d3, e5.cell d4, e5.cell d5⟩⟩
  go_wp2_with fail
  have HE6 : Hd (Ext w (w5.alloc (.cells #[.slice A1 A.length c1, .slice A2 B.length c2, .slice A1 A.length c1] 41)).drew) := ⟨(HE5.out.trans (Ext.of_alloc w5 _)).trans (Ext.drew _)⟩
  have HL := Hd.mk (C_ext HL.out (Ext.drew _))
  clear d0 d1 d2 d3 d4 d5 HE5
  generalize hw6 : w5.alloc (.cells #[.slice A1 A.length c1, .slice A2 B.length c2, .slice A1 A.length c1] 41) = w6 at *
  refine wp_region_lex (EW 17) [some (0, 1), some (0, 17), some (0, 1), some (0, 17), some (0, 1), none, some (0, 2), some (0, 17), some (0, 2), some (0, 17), some (0, 2), none, none, some (3, 4), some (3, 4), some (3, 17), some (3, 4), some (3, 17), some (3, 4), none, some (3, 5), some (3, 17), some (3, 5), some (3, 17), some (3, 5), none, none, some (6, 17), some (6, 7), some (6, 7), some (6, 17), some (6, 7), some (6, 17), some (6, 7), none, some (6, 8), some (6, 17), some (6, 8), some (6, 17), some (6, 8), none, none, some (9, 17), some (9, 10), some (9, 17), some (9, 10), some (9, 17), some (9, 10), none, some (9, 17), some (9, 11), some (9, 17), some (9, 11), none, none, some (12, 17), some (12, 13), some (12, 13), none, some (12, 14), none, none, some (15, 17), some (15, 16), none, some (16, 17), some (16, 17), some (16, 17), some (16, 17)] (by kernel_rfl) (by kernel_rfl) ?_
  have x0 := Ext.refl w6.drew
  (repeat (refine lex_steady (fun K hK => ?_); go_simp; first | (refine ⟨_, fun _ _ => rfl, hK _ ?_⟩; clear hK K) | (refine ⟨?_, fun w' hw' => ?_, hK _ ?_⟩; rotate_left; (have hw'' := reach_ext hw' (by decide); (try simp only [upd, eq_self, Nat.reduceEqDiff, Nat.reduceAdd, reduceIte] at hw''); obtain ⟨z0, z1, z2, z3, z4, z5⟩ := HD.out w' (by first | exact Ext.trans x0 hw''); go_simp <;> rfl); go_simp; clear hK K) | (refine hK _ ?_; clear hK K)))
  (refine lex_active (fun K hK => ?_); go_simp; refine (shAdd_calls p A1 c1 A A2 c2 B rA _ (C_ext HA.out (Ext.trans HE6.out x0)) (C_ext HB.out (Ext.trans HE6.out x0)) a1).mono ?_; rintro _ y1 ⟨v1, rfl, g1, e1⟩; refine ⟨_, rfl, fun _ => e1, hK _ _ _ ?_⟩; clear hK K)
  obtain ⟨B1, m1, rfl, l1, r1⟩ := Kd.S_reads g1
  clear g1
  have x1 := Ext.trans x0 e1
  (repeat (refine lex_steady (fun K hK => ?_); go_simp; first | (refine ⟨_, fun _ _ => rfl, hK _ ?_⟩; clear hK K) | (refine ⟨?_, fun w' hw' => ?_, hK _ ?_⟩; rotate_left; (have hw'' := reach_ext hw' (by decide); (try simp only [upd, eq_self, Nat.reduceEqDiff, Nat.reduceAdd, reduceIte] at hw''); obtain ⟨z0, z1, z2, z3, z4, z5⟩ := HD.out w' (by first | exact Ext.trans x0 hw'' | exact Ext.trans x1 hw''); go_simp <;> rfl); go_simp; clear hK K) | (refine hK _ ?_; clear hK K)))
  (refine lex_active (fun K hK => ?_); go_simp; refine (privityref09_Add.calls ja2 p A1 c1 A A2 c2 B rA _ (C_ext HA.out (Ext.trans HE6.out x1)) HA'.out (C_ext HB.out (Ext.trans HE6.out x1)) HB'.out a2).mono ?_; rintro _ y2 ⟨v2, rfl, g2, e2⟩; refine ⟨_, rfl, fun _ => e2, hK _ _ _ ?_⟩; clear hK K)
  obtain ⟨B2, m2, rfl, l2, r2⟩ := Kd.S_reads g2
  clear g2
  have x2 := Ext.trans x1 e2
  replace r1 := C_ext r1 e2
  (repeat (refine lex_steady (fun K hK => ?_); go_simp; first | (refine ⟨_, fun _ _ => rfl, hK _ ?_⟩; clear hK K) | (refine ⟨?_, fun w' hw' => ?_, hK _ ?_⟩; rotate_left; (have hw'' := reach_ext hw' (by decide); (try simp only [upd, eq_self, Nat.reduceEqDiff, Nat.reduceAdd, reduceIte] at hw''); obtain ⟨z0, z1, z2, z3, z4, z5⟩ := HD.out w' (by first | exact Ext.trans x0 hw'' | exact Ext.trans x1 hw'' | exact Ext.trans x2 hw''); go_simp <;> rfl); go_simp; clear hK K) | (refine hK _ ?_; clear hK K)))
  (refine lex_active (fun K hK => ?_); go_simp; refine (privityref09_Same.calls ja3 B1 m1 rA B2 m2 rA true _ r1 l1 r2 l2 a3).mono ?_; rintro _ y3 ⟨rfl, e3⟩; (first | replace e3 := toExt e3 | replace e3 := drawnExt e3); refine ⟨_, rfl, fun _ => e3, hK _ _ _ ?_⟩; clear hK K)
  have x3 := Ext.trans x2 e3
  (repeat (refine lex_steady (fun K hK => ?_); go_simp; first | (refine ⟨_, fun _ _ => rfl, hK _ ?_⟩; clear hK K) | (refine ⟨?_, fun w' hw' => ?_, hK _ ?_⟩; rotate_left; (have hw'' := reach_ext hw' (by decide); (try simp only [upd, eq_self, Nat.reduceEqDiff, Nat.reduceAdd, reduceIte] at hw''); obtain ⟨z0, z1, z2, z3, z4, z5⟩ := HD.out w' (by first | exact Ext.trans x0 hw'' | exact Ext.trans x1 hw'' | exact Ext.trans x2 hw'' | exact Ext.trans x3 hw''); go_simp <;> rfl); go_simp; clear hK K) | (refine hK _ ?_; clear hK K)))
  (refine lex_active (fun K hK => ?_); go_simp; refine (shSub_calls p A1 c1 A A2 c2 B rS _ (C_ext HA.out (Ext.trans HE6.out x3)) (C_ext HB.out (Ext.trans HE6.out x3)) s1).mono ?_; rintro _ y4 ⟨v4, rfl, g4, e4⟩; refine ⟨_, rfl, fun _ => e4, hK _ _ _ ?_⟩; clear hK K)
  obtain ⟨B4, m4, rfl, l4, r4⟩ := Kd.S_reads g4
  clear g4
  have x4 := Ext.trans x3 e4
  (repeat (refine lex_steady (fun K hK => ?_); go_simp; first | (refine ⟨_, fun _ _ => rfl, hK _ ?_⟩; clear hK K) | (refine ⟨?_, fun w' hw' => ?_, hK _ ?_⟩; rotate_left; (have hw'' := reach_ext hw' (by decide); (try simp only [upd, eq_self, Nat.reduceEqDiff, Nat.reduceAdd, reduceIte] at hw''); obtain ⟨z0, z1, z2, z3, z4, z5⟩ := HD.out w' (by first | exact Ext.trans x0 hw'' | exact Ext.trans x1 hw'' | exact Ext.trans x2 hw'' | exact Ext.trans x3 hw'' | exact Ext.trans x4 hw''); go_simp <;> rfl); go_simp; clear hK K) | (refine hK _ ?_; clear hK K)))
  (refine lex_active (fun K hK => ?_); go_simp; refine (privityref09_Sub.calls js2 p A1 c1 A A2 c2 B rS _ (C_ext HA.out (Ext.trans HE6.out x4)) HA'.out (C_ext HB.out (Ext.trans HE6.out x4)) HB'.out s2).mono ?_; rintro _ y5 ⟨v5, rfl, g5, e5⟩; refine ⟨_, rfl, fun _ => e5, hK _ _ _ ?_⟩; clear hK K)
  obtain ⟨B5, m5, rfl, l5, r5⟩ := Kd.S_reads g5
  clear g5
  have x5 := Ext.trans x4 e5
  replace r4 := C_ext r4 e5
  (repeat (refine lex_steady (fun K hK => ?_); go_simp; first | (refine ⟨_, fun _ _ => rfl, hK _ ?_⟩; clear hK K) | (refine ⟨?_, fun w' hw' => ?_, hK _ ?_⟩; rotate_left; (have hw'' := reach_ext hw' (by decide); (try simp only [upd, eq_self, Nat.reduceEqDiff, Nat.reduceAdd, reduceIte] at hw''); obtain ⟨z0, z1, z2, z3, z4, z5⟩ := HD.out w' (by first | exact Ext.trans x0 hw'' | exact Ext.trans x1 hw'' | exact Ext.trans x2 hw'' | exact Ext.trans x3 hw'' | exact Ext.trans x4 hw'' | exact Ext.trans x5 hw''); go_simp <;> rfl); go_simp; clear hK K) | (refine hK _ ?_; clear hK K)))
  (refine lex_active (fun K hK => ?_); go_simp; refine (privityref09_Same.calls js3 B4 m4 rS B5 m5 rS true _ r4 l4 r5 l5 s3).mono ?_; rintro _ y6 ⟨rfl, e6⟩; (first | replace e6 := toExt e6 | replace e6 := drawnExt e6); refine ⟨_, rfl, fun _ => e6, hK _ _ _ ?_⟩; clear hK K)
  have x6 := Ext.trans x5 e6
  (repeat (refine lex_steady (fun K hK => ?_); go_simp; first | (refine ⟨_, fun _ _ => rfl, hK _ ?_⟩; clear hK K) | (refine ⟨?_, fun w' hw' => ?_, hK _ ?_⟩; rotate_left; (have hw'' := reach_ext hw' (by decide); (try simp only [upd, eq_self, Nat.reduceEqDiff, Nat.reduceAdd, reduceIte] at hw''); obtain ⟨z0, z1, z2, z3, z4, z5⟩ := HD.out w' (by first | exact Ext.trans x0 hw'' | exact Ext.trans x1 hw'' | exact Ext.trans x2 hw'' | exact Ext.trans x3 hw'' | exact Ext.trans x4 hw'' | exact Ext.trans x5 hw'' | exact Ext.trans x6 hw''); go_simp <;> rfl); go_simp; clear hK K) | (refine hK _ ?_; clear hK K)))
  (refine lex_active (fun K hK => ?_); go_simp; refine (shScale_calls p Kx A1 c1 A rK _ (C_ext HA.out (Ext.trans HE6.out x6)) q1).mono ?_; rintro _ y7 ⟨v7, rfl, g7, e7⟩; refine ⟨_, rfl, fun _ => e7, hK _ _ _ ?_⟩; clear hK K)
  obtain ⟨B7, m7, rfl, l7, r7⟩ := Kd.S_reads g7
  clear g7
  have x7 := Ext.trans x6 e7
  (repeat (refine lex_steady (fun K hK => ?_); go_simp; first | (refine ⟨_, fun _ _ => rfl, hK _ ?_⟩; clear hK K) | (refine ⟨?_, fun w' hw' => ?_, hK _ ?_⟩; rotate_left; (have hw'' := reach_ext hw' (by decide); (try simp only [upd, eq_self, Nat.reduceEqDiff, Nat.reduceAdd, reduceIte] at hw''); obtain ⟨z0, z1, z2, z3, z4, z5⟩ := HD.out w' (by first | exact Ext.trans x0 hw'' | exact Ext.trans x1 hw'' | exact Ext.trans x2 hw'' | exact Ext.trans x3 hw'' | exact Ext.trans x4 hw'' | exact Ext.trans x5 hw'' | exact Ext.trans x6 hw'' | exact Ext.trans x7 hw''); go_simp <;> rfl); go_simp; clear hK K) | (refine hK _ ?_; clear hK K)))
  (refine lex_active (fun K hK => ?_); go_simp; refine (privityref09_Scale.calls jq2 p Kx A1 c1 A rK _ (C_ext HA.out (Ext.trans HE6.out x7)) HA'.out q2).mono ?_; rintro _ y8 ⟨v8, rfl, g8, e8⟩; refine ⟨_, rfl, fun _ => e8, hK _ _ _ ?_⟩; clear hK K)
  obtain ⟨B8, m8, rfl, l8, r8⟩ := Kd.S_reads g8
  clear g8
  have x8 := Ext.trans x7 e8
  replace r7 := C_ext r7 e8
  (repeat (refine lex_steady (fun K hK => ?_); go_simp; first | (refine ⟨_, fun _ _ => rfl, hK _ ?_⟩; clear hK K) | (refine ⟨?_, fun w' hw' => ?_, hK _ ?_⟩; rotate_left; (have hw'' := reach_ext hw' (by decide); (try simp only [upd, eq_self, Nat.reduceEqDiff, Nat.reduceAdd, reduceIte] at hw''); obtain ⟨z0, z1, z2, z3, z4, z5⟩ := HD.out w' (by first | exact Ext.trans x0 hw'' | exact Ext.trans x1 hw'' | exact Ext.trans x2 hw'' | exact Ext.trans x3 hw'' | exact Ext.trans x4 hw'' | exact Ext.trans x5 hw'' | exact Ext.trans x6 hw'' | exact Ext.trans x7 hw'' | exact Ext.trans x8 hw''); go_simp <;> rfl); go_simp; clear hK K) | (refine hK _ ?_; clear hK K)))
  (refine lex_active (fun K hK => ?_); go_simp; refine (privityref09_Same.calls jq3 B7 m7 rK B8 m8 rK true _ r7 l7 r8 l8 q3).mono ?_; rintro _ y9 ⟨rfl, e9⟩; (first | replace e9 := toExt e9 | replace e9 := drawnExt e9); refine ⟨_, rfl, fun _ => e9, hK _ _ _ ?_⟩; clear hK K)
  have x9 := Ext.trans x8 e9
  (repeat (refine lex_steady (fun K hK => ?_); go_simp; first | (refine ⟨_, fun _ _ => rfl, hK _ ?_⟩; clear hK K) | (refine ⟨?_, fun w' hw' => ?_, hK _ ?_⟩; rotate_left; (have hw'' := reach_ext hw' (by decide); (try simp only [upd, eq_self, Nat.reduceEqDiff, Nat.reduceAdd, reduceIte] at hw''); obtain ⟨z0, z1, z2, z3, z4, z5⟩ := HD.out w' (by first | exact Ext.trans x0 hw'' | exact Ext.trans x1 hw'' | exact Ext.trans x2 hw'' | exact Ext.trans x3 hw'' | exact Ext.trans x4 hw'' | exact Ext.trans x5 hw'' | exact Ext.trans x6 hw'' | exact Ext.trans x7 hw'' | exact Ext.trans x8 hw'' | exact Ext.trans x9 hw''); go_simp <;> rfl); go_simp; clear hK K) | (refine hK _ ?_; clear hK K)))
  (refine lex_active (fun K hK => ?_); go_simp; refine (shamir_Constant.calls jc1 p N T Kx rC _ z1).mono ?_; rintro _ y10 ⟨v10, rfl, g10, e10⟩; refine ⟨_, rfl, fun _ => e10, hK _ _ _ ?_⟩; clear hK K)
  obtain ⟨B10, m10, rfl, l10, r10⟩ := Kd.S_reads g10
  clear g10
  have x10 := Ext.trans x9 e10
  (repeat (refine lex_steady (fun K hK => ?_); go_simp; first | (refine ⟨_, fun _ _ => rfl, hK _ ?_⟩; clear hK K) | (refine ⟨?_, fun w' hw' => ?_, hK _ ?_⟩; rotate_left; (have hw'' := reach_ext hw' (by decide); (try simp only [upd, eq_self, Nat.reduceEqDiff, Nat.reduceAdd, reduceIte] at hw''); obtain ⟨z0, z1, z2, z3, z4, z5⟩ := HD.out w' (by first | exact Ext.trans x0 hw'' | exact Ext.trans x1 hw'' | exact Ext.trans x2 hw'' | exact Ext.trans x3 hw'' | exact Ext.trans x4 hw'' | exact Ext.trans x5 hw'' | exact Ext.trans x6 hw'' | exact Ext.trans x7 hw'' | exact Ext.trans x8 hw'' | exact Ext.trans x9 hw'' | exact Ext.trans x10 hw''); go_simp <;> rfl); go_simp; clear hK K) | (refine hK _ ?_; clear hK K)))
  (refine lex_active (fun K hK => ?_); go_simp; refine (privityref09_Constant.calls jc2 p N T Kx rC _ z2).mono ?_; rintro _ y11 ⟨v11, rfl, g11, e11⟩; refine ⟨_, rfl, fun _ => e11, hK _ _ _ ?_⟩; clear hK K)
  obtain ⟨B11, m11, rfl, l11, r11⟩ := Kd.S_reads g11
  clear g11
  have x11 := Ext.trans x10 e11
  replace r10 := C_ext r10 e11
  (repeat (refine lex_steady (fun K hK => ?_); go_simp; first | (refine ⟨_, fun _ _ => rfl, hK _ ?_⟩; clear hK K) | (refine ⟨?_, fun w' hw' => ?_, hK _ ?_⟩; rotate_left; (have hw'' := reach_ext hw' (by decide); (try simp only [upd, eq_self, Nat.reduceEqDiff, Nat.reduceAdd, reduceIte] at hw''); obtain ⟨z0, z1, z2, z3, z4, z5⟩ := HD.out w' (by first | exact Ext.trans x0 hw'' | exact Ext.trans x1 hw'' | exact Ext.trans x2 hw'' | exact Ext.trans x3 hw'' | exact Ext.trans x4 hw'' | exact Ext.trans x5 hw'' | exact Ext.trans x6 hw'' | exact Ext.trans x7 hw'' | exact Ext.trans x8 hw'' | exact Ext.trans x9 hw'' | exact Ext.trans x10 hw'' | exact Ext.trans x11 hw''); go_simp <;> rfl); go_simp; clear hK K) | (refine hK _ ?_; clear hK K)))
  (refine lex_active (fun K hK => ?_); go_simp; refine (privityref09_Same.calls jc3 B10 m10 rC B11 m11 rC true _ r10 l10 r11 l11 z3).mono ?_; rintro _ y12 ⟨rfl, e12⟩; (first | replace e12 := toExt e12 | replace e12 := drawnExt e12); refine ⟨_, rfl, fun _ => e12, hK _ _ _ ?_⟩; clear hK K)
  have x12 := Ext.trans x11 e12
  (repeat (refine lex_steady (fun K hK => ?_); go_simp; first | (refine ⟨_, fun _ _ => rfl, hK _ ?_⟩; clear hK K) | (refine ⟨?_, fun w' hw' => ?_, hK _ ?_⟩; rotate_left; (have hw'' := reach_ext hw' (by decide); (try simp only [upd, eq_self, Nat.reduceEqDiff, Nat.reduceAdd, reduceIte] at hw''); obtain ⟨z0, z1, z2, z3, z4, z5⟩ := HD.out w' (by first | exact Ext.trans x0 hw'' | exact Ext.trans x1 hw'' | exact Ext.trans x2 hw'' | exact Ext.trans x3 hw'' | exact Ext.trans x4 hw'' | exact Ext.trans x5 hw'' | exact Ext.trans x6 hw'' | exact Ext.trans x7 hw'' | exact Ext.trans x8 hw'' | exact Ext.trans x9 hw'' | exact Ext.trans x10 hw'' | exact Ext.trans x11 hw'' | exact Ext.trans x12 hw''); go_simp <;> rfl); go_simp; clear hK K) | (refine hK _ ?_; clear hK K)))
  (refine lex_active (fun K hK => ?_); go_simp; refine (shamir_LocalShares.calls jl1 _ 3 [A, B, A] rL _ (C_ext HL.out x12) (by simp) u1).mono ?_; rintro _ y13 ⟨v13, rfl, g13, e13⟩; refine ⟨_, rfl, fun _ => e13, hK _ _ _ ?_⟩; clear hK K)
  obtain ⟨B13, m13, rfl, l13, r13⟩ := Kd.S_reads g13
  clear g13
  have x13 := Ext.trans x12 e13
  (repeat (refine lex_steady (fun K hK => ?_); go_simp; first | (refine ⟨_, fun _ _ => rfl, hK _ ?_⟩; clear hK K) | (refine ⟨?_, fun w' hw' => ?_, hK _ ?_⟩; rotate_left; (have hw'' := reach_ext hw' (by decide); (try simp only [upd, eq_self, Nat.reduceEqDiff, Nat.reduceAdd, reduceIte] at hw''); obtain ⟨z0, z1, z2, z3, z4, z5⟩ := HD.out w' (by first | exact Ext.trans x0 hw'' | exact Ext.trans x1 hw'' | exact Ext.trans x2 hw'' | exact Ext.trans x3 hw'' | exact Ext.trans x4 hw'' | exact Ext.trans x5 hw'' | exact Ext.trans x6 hw'' | exact Ext.trans x7 hw'' | exact Ext.trans x8 hw'' | exact Ext.trans x9 hw'' | exact Ext.trans x10 hw'' | exact Ext.trans x11 hw'' | exact Ext.trans x12 hw'' | exact Ext.trans x13 hw''); go_simp <;> rfl); go_simp; clear hK K) | (refine hK _ ?_; clear hK K)))
  (refine lex_active (fun K hK => ?_); go_simp; refine (privityref09_LocalShares.calls jl2 _ 3 [A, B, A] rL _ (C_ext HL.out x13) (by simp) u2).mono ?_; rintro _ y14 ⟨v14, rfl, g14, e14⟩; refine ⟨_, rfl, fun _ => e14, hK _ _ _ ?_⟩; clear hK K)
  obtain ⟨B14, m14, rfl, l14, r14⟩ := Kd.S_reads g14
  clear g14
  have x14 := Ext.trans x13 e14
  replace r13 := C_ext r13 e14
  (repeat (refine lex_steady (fun K hK => ?_); go_simp; first | (refine ⟨_, fun _ _ => rfl, hK _ ?_⟩; clear hK K) | (refine ⟨?_, fun w' hw' => ?_, hK _ ?_⟩; rotate_left; (have hw'' := reach_ext hw' (by decide); (try simp only [upd, eq_self, Nat.reduceEqDiff, Nat.reduceAdd, reduceIte] at hw''); obtain ⟨z0, z1, z2, z3, z4, z5⟩ := HD.out w' (by first | exact Ext.trans x0 hw'' | exact Ext.trans x1 hw'' | exact Ext.trans x2 hw'' | exact Ext.trans x3 hw'' | exact Ext.trans x4 hw'' | exact Ext.trans x5 hw'' | exact Ext.trans x6 hw'' | exact Ext.trans x7 hw'' | exact Ext.trans x8 hw'' | exact Ext.trans x9 hw'' | exact Ext.trans x10 hw'' | exact Ext.trans x11 hw'' | exact Ext.trans x12 hw'' | exact Ext.trans x13 hw'' | exact Ext.trans x14 hw''); go_simp <;> rfl); go_simp; clear hK K) | (refine hK _ ?_; clear hK K)))
  (refine lex_active (fun K hK => ?_); go_simp; refine (privityref05_SameRows.calls jl3 B13 m13 rL B14 m14 rL true _ r13 l13 r14 l14 u3).mono ?_; rintro _ y15 ⟨rfl, e15⟩; (first | replace e15 := toExt e15 | replace e15 := drawnExt e15); refine ⟨_, rfl, fun _ => e15, hK _ _ _ ?_⟩; clear hK K)
  have x15 := Ext.trans x14 e15
  (repeat (refine lex_steady (fun K hK => ?_); go_simp; first | (refine ⟨_, fun _ _ => rfl, hK _ ?_⟩; clear hK K) | (refine ⟨?_, fun w' hw' => ?_, hK _ ?_⟩; rotate_left; (have hw'' := reach_ext hw' (by decide); (try simp only [upd, eq_self, Nat.reduceEqDiff, Nat.reduceAdd, reduceIte] at hw''); obtain ⟨z0, z1, z2, z3, z4, z5⟩ := HD.out w' (by first | exact Ext.trans x0 hw'' | exact Ext.trans x1 hw'' | exact Ext.trans x2 hw'' | exact Ext.trans x3 hw'' | exact Ext.trans x4 hw'' | exact Ext.trans x5 hw'' | exact Ext.trans x6 hw'' | exact Ext.trans x7 hw'' | exact Ext.trans x8 hw'' | exact Ext.trans x9 hw'' | exact Ext.trans x10 hw'' | exact Ext.trans x11 hw'' | exact Ext.trans x12 hw'' | exact Ext.trans x13 hw'' | exact Ext.trans x14 hw'' | exact Ext.trans x15 hw''); go_simp <;> rfl); go_simp; clear hK K) | (refine hK _ ?_; clear hK K)))
  (refine lex_active (fun K hK => ?_); go_simp; refine (shamir_LocalShares.calls 0 none 0 [] [] _ ⟨rfl, by simp, fun h => absurd h (by simp)⟩ (by simp) rfl).mono ?_; rintro _ y16 ⟨v16, rfl, g16, e16⟩; refine ⟨_, rfl, fun _ => e16, hK _ _ _ ?_⟩; clear hK K)
  obtain ⟨B16, m16, rfl, l16, r16⟩ := Kd.S_reads g16
  have x16 := Ext.trans x15 e16
  (repeat (refine lex_steady (fun K hK => ?_); go_simp; first | (refine ⟨_, fun _ _ => rfl, hK _ ?_⟩; clear hK K) | (refine ⟨?_, fun w' hw' => ?_, hK _ ?_⟩; rotate_left; (have hw'' := reach_ext hw' (by decide); (try simp only [upd, eq_self, Nat.reduceEqDiff, Nat.reduceAdd, reduceIte] at hw''); obtain ⟨z0, z1, z2, z3, z4, z5⟩ := HD.out w' (by first | exact Ext.trans x0 hw'' | exact Ext.trans x1 hw'' | exact Ext.trans x2 hw'' | exact Ext.trans x3 hw'' | exact Ext.trans x4 hw'' | exact Ext.trans x5 hw'' | exact Ext.trans x6 hw'' | exact Ext.trans x7 hw'' | exact Ext.trans x8 hw'' | exact Ext.trans x9 hw'' | exact Ext.trans x10 hw'' | exact Ext.trans x11 hw'' | exact Ext.trans x12 hw'' | exact Ext.trans x13 hw'' | exact Ext.trans x14 hw'' | exact Ext.trans x15 hw'' | exact Ext.trans x16 hw''); go_simp <;> rfl); go_simp; clear hK K) | (refine hK _ ?_; clear hK K)))
  refine lex_nil ?_
  have HE7 := Hd.mk (HE6.out.trans x16)
  go_wp2_with fail
  go_ret
  exact ⟨rfl, HE7.out⟩
namespace F
open Classical in
noncomputable def privitylaw09_ShamirLinearOpsMatchReference.f (_ : Nat) (_ _ _ : Int) (A B : List (List Int)) (Kx : Int) : Option Bool := if okArgs09 A B Kx then some true else none
theorem privitylaw09_ShamirLinearOpsMatchReference.calls (k : Nat) (a0_0 : Int) (a0_1 : Int) (a0_2 : Int) (A0_3 : Option Addr) (c0_3 : Nat) (l0_3 : List (List Int)) (A0_4 : Option Addr) (c0_4 : Nat) (l0_4 : List (List Int)) (a0_5 : Int) (r : Bool) (w : World) (hr0_3 : Kd.C (Kd.slice 22 (Kd.int .u64)) w A0_3 l0_3.length l0_3) (hc0_3 : l0_3.length ≤ c0_3) (hr0_4 : Kd.C (Kd.slice 22 (Kd.int .u64)) w A0_4 l0_4.length l0_4) (hc0_4 : l0_4.length ≤ c0_4) (h : privitylaw09_ShamirLinearOpsMatchReference.f k a0_0 a0_1 a0_2 l0_3 l0_4 a0_5 = some r) :
    Calls Try.prog 5 #[.agg #[.int .u64 a0_0, .int .i64 a0_1, .int .i64 a0_2, .slice A0_3 l0_3.length c0_3, .slice A0_4 l0_4.length c0_4, .int .u64 a0_5]] w fun e w' => e = .returned (.bool r) ∧ Below w.heap.size w w' := by
  unfold privitylaw09_ShamirLinearOpsMatchReference.f at h
  split at h
  case isFalse => cases h
  rename_i ho
  injection h with h
  subst h
  exact law_walk a0_0 a0_1 a0_2 A0_3 A0_4 c0_3 c0_4 l0_3 l0_4 a0_5 w hr0_3 hc0_3 hr0_4 hc0_4 ho
end F
namespace Pure
theorem ShamirLinearOpsMatchReference : ∀ (p N T : Int) (A B : List (List Int)) (Kx : Int), (Lit.int .u64 p).wf = true → (Lit.int .i64 N).wf = true → (Lit.int .i64 T).wf = true → okUU A → okUU B → (Lit.int .u64 Kx).wf = true → ∃ k, privitylaw09_ShamirLinearOpsMatchReference.f k p N T A B Kx = some true :=
  fun p N T A B Kx _ _ _ h1 h2 h3 => ⟨0, if_pos ⟨h1, h2, h3⟩⟩
end Pure
end Go.Proofs.Ytiokpaknhbfenaa
