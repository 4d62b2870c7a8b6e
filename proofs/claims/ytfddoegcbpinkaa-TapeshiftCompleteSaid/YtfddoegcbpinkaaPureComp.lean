import Derived.Test.YtfddoegcbpinkaaPurePriv0
import Derived.Test.YtfddoegcbpinkaaF11
set_option linter.unusedVariables false
set_option linter.unusedSimpArgs false
namespace Go.Proofs.Ytfddoegcbpinkaa.Pure
open Go.RowKit Go.Proofs.Ytfddoegcbpinkaa Go.Proofs.Ytfddoegcbpinkaa.F Go.Proofs.YtfddoegcbpinkaaW.PrintWords Go.Proofs.YtfddoegcbpinkaaW.PrintLast
variable {m : Nat}
theorem in_ev (l : List Int) (x : Int) (hl : l.length ≤ 1000000) : Ev (fun k => privityref12_In.f k l x) (decide (x ∈ l)) := by
  have key : ∀ d i, i + d = l.length → Ev (fun k => privityref12_In.l0 k l x (i : Int)) (decide (x ∈ l.drop i)) := by
    intro d
    induction d with
    | zero =>
      intro i hi
      rw [List.drop_of_length_le (by omega), decide_eq_false (by simp)]
      exact Ev.step (f := fun _ => some false) (fun k => by simp only [privityref12_In.l0]; rw [if_neg (by omega)]) (Ev.now _)
    | succ d ih =>
      intro i hi
      have hlt : i < l.length := by omega
      rw [List.drop_eq_getElem_cons hlt]
      by_cases h : l[i] = x
      · rw [decide_eq_true (by rw [h]; exact List.mem_cons_self ..)]
        refine Ev.step (f := fun _ => some true) (fun k => ?_) (Ev.now _)
        simp only [privityref12_In.l0]
        rw [if_pos (by omega), if_pos (by omega), rd_at hlt, if_pos h]
      · have e : (x ∈ l[i] :: l.drop (i + 1)) ↔ (x ∈ l.drop (i + 1)) := by
          rw [List.mem_cons]
          exact ⟨fun h1 => h1.resolve_left (fun h2 => h h2.symm), .inr⟩
        rw [decide_eq_decide.2 e]
        refine Ev.step (fun k => ?_) (ih (i + 1) (by omega))
        simp only [privityref12_In.l0]
        rw [if_pos (by omega), if_pos (by omega), rd_at hlt, if_neg h, wrapS i (by omega)]
  exact key l.length 0 (by omega)
theorem rext_ev (p : Int) (n t : Nat) (bad : List Int) (hn : n ≤ 13) (ht : t ≤ 100) (hb : bad.length ≤ 100) :
    Ev (fun k => privityref12_ExtendCoalition.f k p n t bad) ((List.range' 1 n).foldl (extStep t bad) ((bad.length : Nat), [])).2 := by
  have key : ∀ d i, i + d = n + 1 → ∀ (cnt : Int) (out : List Int), 0 ≤ cnt → cnt ≤ 1000 → out.length ≤ i → Ev (fun k => privityref12_ExtendCoalition.l0 k bad ((t : Int) - cnt) out (i : Int) p n t) ((List.range' i d).foldl (extStep t bad) (cnt, out)).2 := by
    intro d
    induction d with
    | zero =>
      intro i hi cnt out h0 h1 h2
      refine Ev.step (f := fun _ => some out) (fun k => ?_) (Ev.now _)
      simp only [privityref12_ExtendCoalition.l0]
      rw [if_neg (by omega)]
    | succ d ih =>
      intro i hi cnt out h0 h1 h2
      rw [List.range'_succ, List.foldl_cons]
      have hin := in_ev bad (i : Int) (by omega)
      by_cases hm : ((i : Nat) : Int) ∈ bad
      · have hs : extStep t bad (cnt, out) i = (cnt, out ++ [(i : Int)]) := by unfold extStep; rw [if_pos hm]
        rw [hs]
        rw [decide_eq_true hm] at hin
        refine Ev.step (f := fun k => (privityref12_In.f k bad (i : Int)).bind fun b => if b = true then privityref12_ExtendCoalition.l0 k bad ((t : Int) - cnt) (out ++ [(i : Int)]) ((i + 1 : Nat) : Int) p n t else (if (t : Int) - cnt > 0 then privityref12_ExtendCoalition.l0 k bad (wrap64 ((t : Int) - cnt - 1)) (out ++ [(i : Int)]) ((i + 1 : Nat) : Int) p n t else privityref12_ExtendCoalition.l0 k bad ((t : Int) - cnt) out ((i + 1 : Nat) : Int) p n t)) (fun k => ?_) (Ev.bind hin ?_)
        · simp only [privityref12_ExtendCoalition.l0]
          rw [if_pos (by omega)]
          simp only [if_pos (show out.length < 17592186044416 by omega), wrapS i (by omega)]
        · simp only [if_true]
          exact ih (i + 1) (by omega) cnt (out ++ [(i : Int)]) h0 h1 (by simp; omega)
      · rw [decide_eq_false hm] at hin
        by_cases hc : cnt < (t : Int)
        · have hs : extStep t bad (cnt, out) i = (cnt + 1, out ++ [(i : Int)]) := by unfold extStep; rw [if_neg hm, if_pos hc]
          rw [hs]
          refine Ev.step (f := fun k => (privityref12_In.f k bad (i : Int)).bind fun b => if b = true then privityref12_ExtendCoalition.l0 k bad ((t : Int) - cnt) (out ++ [(i : Int)]) ((i + 1 : Nat) : Int) p n t else privityref12_ExtendCoalition.l0 k bad ((t : Int) - (cnt + 1)) (out ++ [(i : Int)]) ((i + 1 : Nat) : Int) p n t) (fun k => ?_) (Ev.bind hin ?_)
          · simp only [privityref12_ExtendCoalition.l0]
            rw [if_pos (by omega)]
            simp only [if_pos (show out.length < 17592186044416 by omega), if_pos (show (t : Int) - cnt > 0 by omega), wrapS i (by omega), show wrap64 ((t : Int) - cnt - 1) = (t : Int) - (cnt + 1) by unfold wrap64; omega]
          · exact ih (i + 1) (by omega) (cnt + 1) (out ++ [(i : Int)]) (by omega) (by omega) (by simp; omega)
        · have hs : extStep t bad (cnt, out) i = (cnt, out) := by unfold extStep; rw [if_neg hm, if_neg hc]
          rw [hs]
          refine Ev.step (f := fun k => (privityref12_In.f k bad (i : Int)).bind fun b => if b = true then privityref12_ExtendCoalition.l0 k bad ((t : Int) - cnt) (out ++ [(i : Int)]) ((i + 1 : Nat) : Int) p n t else privityref12_ExtendCoalition.l0 k bad ((t : Int) - cnt) out ((i + 1 : Nat) : Int) p n t) (fun k => ?_) (Ev.bind hin ?_)
          · simp only [privityref12_ExtendCoalition.l0]
            rw [if_pos (by omega)]
            simp only [if_pos (show out.length < 17592186044416 by omega), if_neg (show ¬ (t : Int) - cnt > 0 by omega), wrapS i (by omega)]
          · exact ih (i + 1) (by omega) cnt out h0 h1 (by omega)
  have h := key n 1 (by omega) ((bad.length : Nat) : Int) [] (by omega) (by omega) (by simp)
  refine Ev.congr (fun k => ?_) h
  unfold privityref12_ExtendCoalition.f
  rw [show wrap64 ((t : Int) - (bad.length : Int)) = (t : Int) - (bad.length : Int) by unfold wrap64; omega]; rfl
theorem ext_eq {n t : Nat} {bad E : List Int} (h : extI n t bad = some E) : ((List.range' 1 n).foldl (extStep t bad) ((bad.length : Nat), [])).2 = E := by
  unfold extI at h
  split at h
  next => simpa using h
  next => simp at h
theorem comp_tail (hs : Sup (m + 1)) (n t da db : Int) (bad ws q r a b : List Int) (M N : List (List (Fin (m + 1)))) (E : List (Fin (m + 1))) (hM : M.length ≤ 1000) (hN : N.length ≤ 1000) (hMr : ∀ r ∈ M, r.length = M.length) (hNr : ∀ r ∈ N, r.length = N.length) (hl : E.length ≤ 1000)
    (hfin : (∀ e ∈ E, rowAt M e = rowAt N e) → Ev (fun k => privitylaw43_TapeshiftComplete.l0 k ((m + 1 : Nat) : Int) q r a b (M.map oF) (N.map oF) (oF E) (E.length : Int) ((m + 1 : Nat) : Int) n t bad da db ws) true) :
    Ev (fun k => privitylaw43_TapeshiftComplete.l0 k ((m + 1 : Nat) : Int) q r a b (M.map oF) (N.map oF) (oF E) 0 ((m + 1 : Nat) : Int) n t bad da db ws) true := by
  have key : ∀ d i, i + d = E.length → (∀ e ∈ E.take i, rowAt M e = rowAt N e) → Ev (fun k => privitylaw43_TapeshiftComplete.l0 k ((m + 1 : Nat) : Int) q r a b (M.map oF) (N.map oF) (oF E) (i : Int) ((m + 1 : Nat) : Int) n t bad da db ws) true := by
    intro d
    induction d with
    | zero =>
      intro i hi h
      rw [List.take_of_length_le (by omega)] at h
      have := hfin h
      rw [show i = E.length by omega]
      exact this
    | succ d ih =>
      intro i hi h
      have hlt : i < E.length := by omega
      have hw := words_oF (rowAt M E[i]) (rowAt N E[i]) (by simp [rowAt]; omega)
      refine Ev.step (f := fun k => (privityref10_Row.f k ((m + 1 : Nat) : Int) (M.map oF) ((E[i].val : Nat) : Int)).bind fun x => (privityref10_Row.f k ((m + 1 : Nat) : Int) (N.map oF) ((E[i].val : Nat) : Int)).bind fun y => (privityref14_Words.f k x y).bind fun c => if c = true then privitylaw43_TapeshiftComplete.l0 k ((m + 1 : Nat) : Int) q r a b (M.map oF) (N.map oF) (oF E) ((i + 1 : Nat) : Int) ((m + 1 : Nat) : Int) n t bad da db ws else (privitylaw43_awake.f k).bind fun t => some t) (fun k => ?_) (Ev.bind (row_ev hs M E[i] hM hMr) (Ev.bind (row_ev hs N E[i] hN hNr) (Ev.bind hw ?_)))
      · simp only [privitylaw43_TapeshiftComplete.l0]
        rw [if_pos (by rw [len_oF]; omega), if_pos (by omega), rd_oF hlt, wrap_small _ (by omega) (by have := hs.lt; have := E[i].isLt; omega), wrapS i (by omega)]
      · by_cases he : rowAt M E[i] = rowAt N E[i]
        · rw [decide_eq_true he]
          simp only [if_true]
          refine ih (i + 1) (by omega) fun e h1 => ?_
          rw [List.take_succ_eq_append_getElem hlt, List.mem_append, List.mem_singleton] at h1
          rcases h1 with h1 | rfl
          · exact h e h1
          · exact he
        · rw [decide_eq_false he]
          exact Ev.bind awake43_ev (Ev.now _)
  exact key E.length 0 (by omega) (by simp)
theorem col2 (hs : Sup (m + 1)) {e1 e2 z1 z2 x0 x1 x2 : Fin (m + 1)} (h1 : e1 ≠ 0) (h2 : e2 ≠ 0) (h12 : e1 ≠ e2) (hz1 : 1 + e1 * (z1 + e1 * z2) = 0) (hz2 : 1 + e2 * (z1 + e2 * z2) = 0) (k1 : x0 + e1 * (x1 + e1 * x2) = 0) (k2 : x0 + e2 * (x1 + e2 * x2) = 0) : x1 = x0 * z1 ∧ x2 = x0 * z2 := by
  have c1 : e1 * ((x1 - x0 * z1) + e1 * (x2 - x0 * z2)) = 0 := by grind
  have c2 : e2 * ((x1 - x0 * z1) + e2 * (x2 - x0 * z2)) = 0 := by grind
  have c1 := (hs.dom _ _ c1).resolve_left h1
  have c2 := (hs.dom _ _ c2).resolve_left h2
  have c3 : (e1 - e2) * (x2 - x0 * z2) = 0 := by grind
  have c3 := (hs.dom _ _ c3).resolve_left (fun h => h12 (by grind))
  constructor
  · have : x1 - x0 * z1 = 0 := by grind
    grind
  · grind
theorem sub_row {s0 s1 s2 w0 w1 w2 e : Fin (m + 1)} (h : s0 + e * (s1 + e * s2) = w0 + e * (w1 + e * w2)) : (w0 - s0) + e * ((w1 - s1) + e * (w2 - s2)) = 0 := by grind
theorem drop_zero {e z1 z2 : Fin (m + 1)} (h : 1 + e * (z1 + e * (z2 + e * 0)) = 0) : 1 + e * (z1 + e * z2) = 0 := by grind
theorem move2 {D q0 q1 q2 r0 r1 r2 a0 a1 a2 b0 b1 b2 z1 z2 : Fin (m + 1)} (hD : D = a0 - q0) (h1 : a1 - q1 = D * z1) (h2 : a2 - q2 = D * z2) (h3 : b0 - r0 = (a1 - q1) * z1) (h4 : b1 - r1 = (a1 - q1) * z2) (h5 : b2 - r2 = (a2 - q2) * z2) :
    [a0, a1, a2] = [q0 + D * 1, q1 + D * z1, q2 + D * z2] ∧ [b0, b1, b2] = [r0 + D * z1 * z1, r1 + D * z1 * z2, r2 + D * z2 * z2] := by
  have x0 : a0 = q0 + D * 1 := by grind
  have x1 : a1 = q1 + D * z1 := by grind
  have x2 : a2 = q2 + D * z2 := by grind
  have y0 : b0 = r0 + D * z1 * z1 := by grind
  have y1 : b1 = r1 + D * z1 * z2 := by grind
  have y2 : b2 = r2 + D * z2 * z2 := by grind
  rw [← x0, ← x1, ← x2, ← y0, ← y1, ← y2]
  exact ⟨rfl, rfl⟩
theorem move1 {D q0 q1 r0 a0 a1 b0 e z1 : Fin (m + 1)} (hD : D = a0 - q0) (hz : 1 + e * (z1 + e * 0) = 0) (h1 : q0 + e * q1 = a0 + e * a1) (h2 : q1 + e * r0 = a1 + e * b0) : [a0, a1] = [q0 + D * 1, q1 + D * z1] ∧ [b0] = [r0 + D * z1 * z1] := by
  have k1 : z1 * (q0 + e * q1) = z1 * (a0 + e * a1) := by rw [h1]
  have k2 : z1 * (q1 + e * r0) = z1 * (a1 + e * b0) := by rw [h2]
  have x0 : a0 = q0 + D * 1 := by grind
  have x1 : a1 = q1 + D * z1 := by grind
  have y0 : b0 = r0 + D * z1 * z1 := by grind
  rw [← x0, ← x1, ← y0]
  exact ⟨rfl, rfl⟩
theorem TapeshiftComplete : ∀ (p n t : Int) (bad : List Int) (da db : Int) (ws : List Int) (l : List Int), (Lit.int .u64 p).wf = true → (Lit.int .i64 n).wf = true → (Lit.int .i64 t).wf = true → (bad.length ≤ maxLen ∧ ∀ x ∈ bad, (Lit.int .i64 x).wf = true) → (Lit.int .u64 da).wf = true → (Lit.int .u64 db).wf = true → (ws.length ≤ maxLen ∧ ∀ x ∈ ws, (Lit.int .u64 x).wf = true) → (l.length ≤ maxLen ∧ ∀ x ∈ l, (Lit.int .u64 x).wf = true) → ∃ k, privitylaw43_TapeshiftComplete.f k p n t bad da db ws l = some true := by
  intro p n t bad da db ws l h1 h2 h3 h4 h5 h6 hws0 hl0
  have hw : ∀ x ∈ ws, 0 ≤ x := fun x hx => wf_u64 (hws0.2 x hx)
  have hw2 : ∀ x ∈ l, 0 ≤ x := fun x hx => wf_u64 (hl0.2 x hx)
  clear h1 h2 h3 h4 h5 h6 hws0 hl0
  refine Ev.rounds ?_
  unfold privitylaw43_TapeshiftComplete.f
  refine Ev.bind (may_ev p n t bad da db ws) ?_
  by_cases hm : mayB p n t bad = true
  case neg => rw [Bool.not_eq_true] at hm; rw [hm]; exact Ev.bind awake43_ev (Ev.now _)
  rw [hm]
  simp only [if_true]
  obtain ⟨m, N, T, E, Z, rfl, hs, rfl, rfl, hN, hT, hbl, hV, hE⟩ := may_req hm
  have hrx := rext_ev ((m + 1 : Nat) : Int) N T bad (by omega) (by omega) (by omega)
  rw [ext_eq hV.ext] at hrx
  have hEl := hV.len
  have hEn := hV.nodup
  rcases hT with rfl | rfl
  · obtain ⟨z1, rfl⟩ := van1 hV
    obtain ⟨q0, q1, r0, ho⟩ := one_ev1 (m := m) (N : Int) bad da db ws hw
    obtain ⟨a0, a1, b0, ho2⟩ := one_ev1 (m := m) (N : Int) [] 0 0 l hw2
    refine Ev.bind ho (Ev.bind ho2 ?_)
    simp only [new1, Option.bind_some, if_true]
    have hsh := share_ev1 hs N bad z1 (a0 - q0) q0 q1 r0 hE
    refine Ev.step (f := fun k => (privityref12_ExtendCoalition.f k ((m + 1 : Nat) : Int) (N : Int) 1 bad).bind fun e => privitylaw43_TapeshiftComplete.l0 k ((m + 1 : Nat) : Int) (oF [q0, q1]) (oF [r0]) (oF [a0, a1]) (oF [b0]) ([[q0, q1], [q1, r0]].map oF) ([[a0, a1], [a1, b0]].map oF) e 0 ((m + 1 : Nat) : Int) N 1 bad da db ws) (fun k => ?_) (Ev.bind hrx ?_)
    · simp only [privitylaw43_TapeshiftComplete.j0]
      rw [if_neg (by simp)]; rfl
    refine comp_tail hs _ _ _ _ _ _ _ _ _ _ _ _ _ (by simp) (by simp) (by simp) (by simp) (by omega) fun hrows => ?_
    match E, hEl with
    | [e], _ =>
      have hz := hV.zero e (by simp)
      simp only [ev_cons, ev_nil] at hz
      have hr := hrows e (by simp)
      rw [rowAt1, rowAt1] at hr
      simp only [List.cons.injEq, and_true] at hr
      obtain ⟨hA, hB⟩ := move1 (D := a0 - q0) rfl hz hr.1 hr.2
      have w1 := words_oF [a0, a1] [q0 + (a0 - q0) * 1, q1 + (a0 - q0) * z1] (by simp)
      have w2 := words_oF [b0] [r0 + (a0 - q0) * z1 * z1] (by simp)
      rw [decide_eq_true hA] at w1
      rw [decide_eq_true hB] at w2
      refine Ev.step (f := fun k => (tapeshift_Sharing.f k ((m + 1 : Nat) : Int) N 1 bad (((a0 - q0).val : Nat) : Int) (oF [q0, q1]) (oF [r0])).bind fun s => (privitylaw43_awake.f k).bind fun w => if w = true then (privityref14_Words.f k (oF [a0, a1]) s.1).bind fun x => if x = true then (privityref14_Words.f k (oF [b0]) s.2).bind fun y => some y else some false else some false) (fun k => ?_) (Ev.bind hsh (Ev.bind awake43_ev ?_))
      · simp only [privitylaw43_TapeshiftComplete.l0]
        have e1 : rd (oF [a0, a1]) 0 = ((a0.val : Nat) : Int) := rfl
        have e2 : rd (oF [q0, q1]) 0 = ((q0.val : Nat) : Int) := rfl
        unfold privityref01_Sub.f
        rw [if_neg (by simp [oF]), if_pos (by simp [oF]), if_pos (by simp [oF]), e1, e2, fSub_eq hs, Option.bind_some]
      · simp only [if_true]
        refine Ev.bind w1 ?_
        simp only [if_true]
        exact Ev.bind w2 (Ev.now _)
  · obtain ⟨z1, z2, rfl⟩ := van2 hV
    obtain ⟨q0, q1, q2, r0, r1, r2, ho⟩ := one_ev2 (m := m) (N : Int) bad da db ws hw
    obtain ⟨a0, a1, a2, b0, b1, b2, ho2⟩ := one_ev2 (m := m) (N : Int) [] 0 0 l hw2
    refine Ev.bind ho (Ev.bind ho2 ?_)
    simp only [new2, Option.bind_some, if_true]
    have hsh := share_ev2 hs N bad z1 z2 (a0 - q0) q0 q1 q2 r0 r1 r2 hE
    refine Ev.step (f := fun k => (privityref12_ExtendCoalition.f k ((m + 1 : Nat) : Int) (N : Int) 2 bad).bind fun e => privitylaw43_TapeshiftComplete.l0 k ((m + 1 : Nat) : Int) (oF [q0, q1, q2]) (oF [r0, r1, r2]) (oF [a0, a1, a2]) (oF [b0, b1, b2]) ([[q0, q1, q2], [q1, r0, r1], [q2, r1, r2]].map oF) ([[a0, a1, a2], [a1, b0, b1], [a2, b1, b2]].map oF) e 0 ((m + 1 : Nat) : Int) N 2 bad da db ws) (fun k => ?_) (Ev.bind hrx ?_)
    · simp only [privitylaw43_TapeshiftComplete.j0]
      rw [if_neg (by simp)]; rfl
    refine comp_tail hs _ _ _ _ _ _ _ _ _ _ _ _ _ (by simp) (by simp) (by simp) (by simp) (by omega) fun hrows => ?_
    match E, hEl with
    | [e, f], _ =>
      have hz := hV.zero e (by simp)
      have hy := hV.zero f (by simp)
      have he0 := hV.ne e (by simp)
      have hf0 := hV.ne f (by simp)
      have hef : e ≠ f := by
        rw [List.nodup_cons] at hEn
        exact fun h => hEn.1 (by rw [h]; simp)
      simp only [ev_cons, ev_nil] at hz hy
      have hz' := drop_zero hz
      have hy' := drop_zero hy
      have hr := hrows e (by simp)
      have hq := hrows f (by simp)
      rw [rowAt2, rowAt2] at hr hq
      simp only [List.cons.injEq, and_true] at hr hq
      obtain ⟨u0, u1, u2⟩ := hr
      obtain ⟨v0, v1, v2⟩ := hq
      have d0 := col2 hs he0 hf0 hef hz' hy' (sub_row u0) (sub_row v0)
      have d1 := col2 hs he0 hf0 hef hz' hy' (sub_row u1) (sub_row v1)
      have d2 := col2 hs he0 hf0 hef hz' hy' (sub_row u2) (sub_row v2)
      obtain ⟨hA, hB⟩ := move2 (D := a0 - q0) rfl d0.1 d0.2 d1.1 d1.2 d2.2
      have w1 := words_oF [a0, a1, a2] [q0 + (a0 - q0) * 1, q1 + (a0 - q0) * z1, q2 + (a0 - q0) * z2] (by simp)
      have w2 := words_oF [b0, b1, b2] [r0 + (a0 - q0) * z1 * z1, r1 + (a0 - q0) * z1 * z2, r2 + (a0 - q0) * z2 * z2] (by simp)
      rw [decide_eq_true hA] at w1
      rw [decide_eq_true hB] at w2
      refine Ev.step (f := fun k => (tapeshift_Sharing.f k ((m + 1 : Nat) : Int) N 2 bad (((a0 - q0).val : Nat) : Int) (oF [q0, q1, q2]) (oF [r0, r1, r2])).bind fun s => (privitylaw43_awake.f k).bind fun w => if w = true then (privityref14_Words.f k (oF [a0, a1, a2]) s.1).bind fun x => if x = true then (privityref14_Words.f k (oF [b0, b1, b2]) s.2).bind fun y => some y else some false else some false) (fun k => ?_) (Ev.bind hsh (Ev.bind awake43_ev ?_))
      · simp only [privitylaw43_TapeshiftComplete.l0]
        have e1 : rd (oF [a0, a1, a2]) 0 = ((a0.val : Nat) : Int) := rfl
        have e2 : rd (oF [q0, q1, q2]) 0 = ((q0.val : Nat) : Int) := rfl
        unfold privityref01_Sub.f
        rw [if_neg (by simp [oF]), if_pos (by simp [oF]), if_pos (by simp [oF]), e1, e2, fSub_eq hs, Option.bind_some]
      · simp only [if_true]
        refine Ev.bind w1 ?_
        simp only [if_true]
        exact Ev.bind w2 (Ev.now _)
end Go.Proofs.Ytfddoegcbpinkaa.Pure
