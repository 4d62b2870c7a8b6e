/-
A part of this claim's proof (PolyGo): lemmas that the text of the law stands on.
-/
import Derived.Test.YtiokpaknhbfenaaWalk
import Derived.Test.YtiokpaknhbfenaaFieldW
set_option linter.unusedVariables false
namespace Go.Proofs.Ytiokpaknhbfenaa
open Go.RowKit

def deg {p : Nat} [NeZero p] (f : List (Fin p)) : Int := ((ptrim f).length : Int) - 1
theorem degree_calls {p : Nat} [NeZero p] {v : Value} {f : List (Fin p)} (w : World) (hf : SlF w v f) (hlen : f.length ≤ 9223372036854775807) :
    Calls Try.prog 44 #[v] w (Just (.int .i64 (deg f)) w) := by
  obtain ⟨A, c, rfl, hc, hcell⟩ := hf.at
  have hfin : ∀ k, k ≤ f.length → (∀ j, k ≤ j → co f j = 0) → (k = 0 ∨ co f (k - 1) ≠ 0) → deg f = (k : Int) - 1 := fun k h1 h2 h3 => by
    unfold deg; rw [ptrim_take f k h1 h2 h3, List.length_take, Nat.min_eq_left h1]
  have HF := Hd.mk hfin
  have HC := Hd.mk hcell
  generalize deg f = D at *
  clear hfin hcell hf hc
  go_enter Try.func44, Try.ntmps44
  go_wp2_with fail
  go_loop [3] (fun i => ∃ k : Nat, k ≤ f.length ∧ i = .int .i64 ((k : Int) - 1) ∧ Hd (∀ j, k ≤ j → co f j = 0)) (fun i => (intOf i + 1).toNat)
  case atStart => exact ⟨f.length, Nat.le_refl _, rfl, ⟨fun j hj => co_of_length_le hj⟩⟩
  case round =>
    obtain ⟨k, hk, rfl, hz⟩ := hrel
    by_cases h0 : k = 0
    · subst h0
      go_wp2_with fail
      go_ret
      exact ⟨ret_int (by rw [HF.out 0 (by omega) hz.out (.inl rfl)]; simp), rfl⟩
    · obtain ⟨j, rfl⟩ : ∃ j, k = j + 1 := ⟨k - 1, by omega⟩
      clear h0
      have hj : j < f.length := by omega
      obtain ⟨ad, rfl, hcj⟩ := HC.out j hj
      have hb : (((f[j].val : Nat) : Int) != 0) = false ∧ f[j] = 0 ∨ (((f[j].val : Nat) : Int) != 0) = true ∧ f[j] ≠ 0 := by
        by_cases h : f[j] = 0
        · left; rw [h]; exact ⟨rfl, rfl⟩
        · right; refine ⟨?_, h⟩
          rw [bne_iff_ne]; intro e; exact h (Fin.ext (by rw [zero_val]; omega))
      have HE := Hd.mk (co_getElem hj)
      generalize f[j] = y at *
      rcases hb with ⟨hb, hy⟩ | ⟨hb, hy⟩
      · have HY := Hd.mk hy
        clear hy
        go_wp2_with fail
        go_round
        case rel => exact ⟨j, by omega, by go_num, ⟨fun i hi => by
          by_cases h : i = j
          · rw [h, HE.out, HY.out]
          · exact hz.out i (by omega)⟩⟩
        case measure => simp [intOf] <;> omega
      · have HY := Hd.mk hy
        clear hy
        go_wp2_with fail
        go_ret
        exact ⟨ret_int (by rw [HF.out (j + 1) (by omega) hz.out (.inr (by simp [HE.out, HY.out]))]; simp), rfl⟩
theorem trim_calls {p : Nat} [NeZero p] {v : Value} {f : List (Fin p)} (w : World) (hf : SlF w v f) (hlen : f.length ≤ 1000000) :
    Calls Try.prog 55 #[v] w (Rets w fun w' r => w'.ownsRow w.heap.size 22 1 r (ptrim f).length (encF (ptrim f))) := by
  have hf' := hf
  obtain ⟨A, c, rfl, hc, hcell⟩ := hf.at
  have htl := ptrim_length_le f
  have hd : Hd (deg f = ((ptrim f).length : Int) - 1) := ⟨rfl⟩
  have hsrc : Hd (∃ x, (x = .slice A (ptrim f).length c ∧ Src w 1 x (ptrim f).length (encF (ptrim f)))) := ⟨by
    refine ⟨_, rfl, A, c, rfl, fun h => ?_, by simp [encF], by simp [encF, Value.oneCell'], fun ad ha j u hu => ?_⟩
    · subst h
      rcases Nat.eq_zero_or_pos f.length with h | h
      · have := ptrim_length_le f; omega
      · obtain ⟨ad, h, _⟩ := hcell 0 h; cases h
    · subst ha
      have hjl : j < (ptrim f).length := by simpa [encF] using (List.getElem?_eq_some_iff.1 hu).1
      obtain ⟨ad', h1, h2⟩ := hcell j (by omega)
      injection h1 with h1
      subst h1
      rw [h2, ← hu]
      have := ptrim_same f j
      rw [co_getElem hjl, co_getElem (show j < f.length by omega)] at this
      simp [encF, hjl, this]⟩
  have hcell' := Hd.mk hcell
  clear hcell hf
  generalize ptrim f = g at *
  go_enter Try.func55, Try.ntmps55
  go_wp2_with (with_reducible refine hold_append rfl ?_)
  refine (degree_calls _ hf' (by omega)).mono ?_
  rw [hd.out]
  rintro e w' ⟨rfl, rfl⟩
  have hs : Src w' 1 (.slice A g.length c) g.length (encF g) := by
    obtain ⟨x, hx, hs⟩ := hsrc.out
    rw [← hx]; exact hs
  go_wp2_with (with_reducible first | refine hold_append rfl ?_ | refine hold_make rfl ?_)
  refine wpl_append tyU w'.heap.size (World.ownsRow_nil _ _ _ _) hs (by rfl) (by rfl) (by rfl) (by rfl) (by omega) (Nat.le_refl _) ?_
  intro v1 w1 hown hg
  rw [Nat.zero_add, List.nil_append] at hown
  go_wp2_with fail
  go_ret
  exact ⟨_, rfl, hown, Ext.of_grown hg⟩
/-! ### the accumulator -/
def putF {p : Nat} [NeZero p] (f : List (Fin p)) (i : Nat) (k : Fin p) : List (Fin p) := (f ++ List.replicate (i + 1 - f.length) 0).set i (co f i + k)
theorem length_putF {p : Nat} [NeZero p] (f : List (Fin p)) (i : Nat) (k : Fin p) : (putF f i k).length = max f.length (i + 1) := by
  simp [putF]; omega
theorem co_putF {p : Nat} [NeZero p] (f : List (Fin p)) (i : Nat) (k : Fin p) (j : Nat) : co (putF f i k) j = if j = i then co f i + k else co f j := by
  have hl := length_putF f i k
  unfold putF at hl ⊢
  by_cases h : j = i
  · subst h
    rw [if_pos rfl, co_getElem (by rw [hl]; omega)]
    simp
  · rw [if_neg h]
    unfold co
    simp only [List.getD_eq_getElem?_getD, List.getElem?_set_ne (Ne.symm h), List.getElem?_append]
    split
    · rfl
    · rename_i h1
      rw [List.getElem?_eq_none (by omega : f.length ≤ j)]
      by_cases h2 : j - f.length < i + 1 - f.length
      · simp [h2]
      · simp [h2]
structure SumSt {p : Nat} (w : World) (B g : Nat) (f : List (Fin p)) : Prop where
  ex : ∃ v, w.heap[g]? = some (.cells #[.int .u64 (p : Nat), v] 87 (0, 0)) ∧ w.ownsRow B 22 1 v f.length (encF f)
  ge : B ≤ g
theorem SumSt.grown {p : Nat} {w w' : World} {B g : Nat} {f : List (Fin p)} (h : SumSt w B g f) (he : Ext w w') : SumSt w' B g f := by
  obtain ⟨v, h1, h2⟩ := h.ex
  have hg := (Array.getElem?_eq_some_iff.1 h1).1
  refine ⟨⟨v, ?_, ?_⟩, h.ge⟩
  · rw [Below.block he g hg]; exact h1
  · exact h2.kept (row := none) ⟨he.os, he.tape, he.output, he.size, fun k hk _ => Below.block he k hk⟩ (by cases v.ownBlock <;> simp)
theorem sum_set {p : Nat} {w : World} {B g : Nat} {v0 v1 : Value} {f : List (Fin p)} (hh : w.heap[g]? = some (.cells #[.int .u64 (p : Nat), v0] 87 (0, 0)))
    (hown : w.ownsRow B 22 1 v1 f.length (encF f)) (hB : B ≤ g) : SumSt (w.setCell ⟨g, 1, none⟩ v1) B g f := by
  refine ⟨⟨v1, ?_, ?_⟩, hB⟩
  · rw [heap_setCell_same w g 1 _ _ v1 hh]; rfl
  · exact hown.kept (grown_setCell w ⟨g, 1, none⟩ v1) (own_ne hown hh (by decide))
theorem add_zero_off (g j : Nat) : (⟨g, 0, none⟩ : Addr).add j = ⟨g, j, none⟩ := by unfold Addr.add; split <;> simp_all
set_option maxRecDepth 4000 in
set_option maxHeartbeats 1000000 in
theorem put_calls {p : Nat} [NeZero p] (hs : Sup p) (w : World) (B g i : Nat) {k : Int} {y : Fin p} (hk : k = (y.val : Nat)) {f : List (Fin p)} (hst : SumSt w B g f) (hi : i ≤ 1000000) (hf : f.length ≤ 1000000) :
    Calls Try.prog 70 #[.pointer (some ⟨g, 0, none⟩), .int .i64 (i : Nat), .int .u64 k] w (fun e w' => e = .returned (.tuple #[]) ∧ SumSt w' B g (putF f i y) ∧ Below B w w') := by
  subst hk
  go_enter Try.func70, Try.ntmps70
  go_wp2_with fail
  go_loopg [] (i + 1 - f.length) (fun n wr => ∃ m : Nat, SumSt wr B g (f ++ List.replicate m 0) ∧ Below B w wr ∧ m + n = i + 1 - f.length)
  case atStart => exact ⟨0, by simpa using hst, Below.refl _ _, by omega⟩
  case round =>
    obtain ⟨m, hst', hB, hm⟩ := hrel
    clear hst
    obtain ⟨v, hh, hown⟩ := hst'.ex
    have hge := hst'.ge
    have hc0 : wr.cell? ⟨g, 0, none⟩ = some (.int .u64 (p : Nat)) := by rw [cell_of_row wr g 0 _ _ _ hh]; rfl
    have hc1 : wr.cell? ⟨g, 1, none⟩ = some v := by rw [cell_of_row wr g 1 _ _ _ hh]; rfl
    have hfz : wr.frozen? ⟨g, 1, none⟩ = false := frozen_of_row wr g 1 _ _ hh
    obtain ⟨A, c, rfl⟩ : ∃ A c, v = .slice A (f.length + m) c := by
      obtain ⟨A, c, h, _⟩ := own_slF hown
      exact ⟨A, c, by simpa using h⟩
    have hm1 : c ≤ 9223372036854775807 := by
      rcases hown.2 with ⟨h, _⟩ | ⟨k, cap, cur, h, _, _, _, h2, _⟩
      · injection h with _ _ h; omega
      · injection h with _ _ h; unfold maxLen at h2; omega
    by_cases hlt : f.length + m ≤ i
    · go_wp2_with (with_reducible first | refine hold_append rfl ?_ | refine hold_make rfl ?_)
      have hlt1 := (Array.getElem?_eq_some_iff.1 hh).1
      have hown0 : wr.ownsRow B 22 1 (.slice A (f.length + m) c) (f.length + m) (encF (f ++ List.replicate m 0)) := by simpa using hown
      refine wpl_append tyU B (hown0.alloc _) (Src.one wr (.int .u64 0) _ rfl) (by rfl) (by rfl) (by rfl) (by rfl) (by omega) ((by simp; omega)) ?_
      intro v1 w1 hown1 hg1
      have hown1 : w1.ownsRow B 22 1 v1 (f ++ List.replicate (m + 1) (0 : Fin p)).length (encF (f ++ List.replicate (m + 1) 0)) := by
        rw [List.replicate_succ', ← List.append_assoc, encF_append]
        simpa [encF, Nat.add_assoc] using hown1
      obtain ⟨A1, c1, hv1, _⟩ := own_slF hown1
      rw [show (f ++ List.replicate (m + 1) (0 : Fin p)).length = f.length + m + 1 by simp; omega] at hv1
      subst hv1
      have hh1 : w1.heap[g]? = some (.cells #[.int .u64 (p : Nat), .slice A (f.length + m) c] 87 (0, 0)) := by
        rw [hg1.block g (by simp; omega) ?_, Below.heap_alloc _ _ _ hlt1]; exact hh
        rcases own_ne hown hh (by decide) with h | h
        · rw [h]; simp
        · exact fun e => h e.symm
      have hB1 : Below B w w1 := by
        refine Below.grown (hB.alloc (by have := (Array.getElem?_eq_some_iff.1 hh).1; omega) _) hg1 (by have := (Array.getElem?_eq_some_iff.1 hh).1; simp; omega) fun k hk => (hown.lt k hk).1
      have hst1 : SumSt (w1.setCell ⟨g, 1, none⟩ (.slice A1 (f.length + m + 1) c1)) B g (f ++ List.replicate (m + 1) 0) := sum_set hh1 hown1 hge
      have hc1' : w1.cell? ⟨g, 1, none⟩ = some (.slice A (f.length + m) c) := by rw [cell_of_row w1 g 1 _ _ _ hh1]; rfl
      have hfz' : w1.frozen? ⟨g, 1, none⟩ = false := frozen_of_row w1 g 1 _ _ hh1
      have hB2 := hB1.setCell (p := ⟨g, 1, none⟩) hge (.slice A1 (f.length + m + 1) c1)
      clear hown hown1 hg1 hh hc0 hc1 hfz hst'
      have HH := Hd.mk hh1
      clear hh1
      obtain ⟨n', rfl⟩ : ∃ n', gk = n' + 1 := ⟨gk - 1, by omega⟩
      go_wp2_with (with_reducible first | refine hold_append rfl ?_ | refine hold_make rfl ?_)
      go_roundg n'
      case rel => exact ⟨m + 1, hst1, hB2, by omega⟩
      case measure => omega
    · go_wp2_with (with_reducible first | refine hold_append rfl ?_ | refine hold_make rfl ?_)
      refine wp_region_lex (EW 2) [some (0, 2), some (0, 2), some (0, 2), some (0, 2), some (0, 2), some (0, 2), some (0, 2), some (0, 2), some (0, 1), some (0, 2), some (0, 2), some (0, 2), some (0, 2), some (0, 2), some (0, 2), some (0, 1), some (0, 1), none, some (1, 2), none] (by kernel_rfl) (by kernel_rfl) ?_
      have hil : i < f.length + m := by omega
      have hgt := hown.2
      obtain ⟨gr, rfl⟩ : ∃ gr, A = some ⟨gr, 0, none⟩ := by
        rcases hown.2 with ⟨h, hn⟩ | ⟨k, cap, cur, h, _⟩
        · rw [List.length_append, List.length_replicate] at hn; omega
        · injection h with h _ _; exact ⟨k, h⟩
      clear hgt
      have hown' : wr.ownsRow B 22 1 (.slice (some ⟨gr, 0, none⟩) (f.length + m) c) (f.length + m) (encF (f ++ List.replicate m 0)) := by simpa using hown
      obtain ⟨q1, q2, q3, q4⟩ := run_own_store hown' i hil (.int .u64 ((co f i + y).val : Nat)) rfl
      have q1' : wr.cell? ⟨gr, i, none⟩ = some (.int .u64 ((co f i).val : Nat)) := by
        rw [q1]
        have h1 : co (f ++ List.replicate m 0) i = co f i := by
          unfold co
          simp only [List.getD_eq_getElem?_getD, List.getElem?_append]
          split
          · rfl
          · rename_i h2
            rw [List.getElem?_eq_none (by omega : f.length ≤ i), List.getElem?_replicate, if_pos (by omega)]; rfl
        have h3 : i < (f ++ List.replicate m (0 : Fin p)).length := by simp; omega
        rw [← h1, co_getElem h3]
        simp only [encF, List.getD_eq_getElem?_getD, List.getElem?_map, List.getElem?_eq_getElem h3]
        rfl
      have hmm : m = i + 1 - f.length := by omega
      have hst2 : SumSt (wr.setCell ⟨gr, i, none⟩ (.int .u64 ((co f i + y).val : Nat))) B g (putF f i y) := by
        refine ⟨⟨.slice (some ⟨gr, 0, none⟩) (f.length + m) c, ?_, ?_⟩, hge⟩
        · rw [q4.block g (Array.getElem?_eq_some_iff.1 hh).1 ?_]; exact hh
          rcases own_ne hown hh (by decide) with h | h
          · simp [Value.ownBlock] at h
          · simp [Value.ownBlock] at h; simp; exact fun e => h e.symm
        · rw [encF_set] at q3
          unfold putF
          have hl3 : ((f ++ List.replicate m 0).set i (co f i + y)).length = f.length + m := by simp
          rw [← hmm, hl3]
          exact q3
      have hB3 : Below B w (wr.setCell ⟨gr, i, none⟩ (.int .u64 ((co f i + y).val : Nat))) := hB.setCell (p := ⟨gr, i, none⟩) (hown.lt gr rfl).1 _
      have hst3 := hst2.grown (Ext.drew _)
      have hB4 := hB3.drew
      clear q1 q3 q4 hst2 hB3 hown hown' hst' hmm
      have HH := Hd.mk hh
      clear hh
      (repeat (refine lex_steady (fun K hK => ?_); go_simp; first | (refine ⟨_, fun _ _ => rfl, hK _ ?_⟩; clear hK K) | (refine ⟨?_, fun w' hw' => ?_, hK _ ?_⟩; rotate_left; (have hw'' := reach_ext hw' (by decide); have z0 := Ext.cell hw'' hc0; have z1 := Ext.cell hw'' hc1; have z2 := Ext.cell hw'' q1'; go_simp; rfl); go_simp; clear hK K) | (refine hK _ ?_; clear hK K)))
      (refine lex_active (fun K hK => ?_); go_simp; refine (add_calls hs (x := co f i) (y := y) rfl rfl _).mono ?_; rintro _ _ ⟨rfl, rfl⟩; refine ⟨_, rfl, fun _ => Ext.refl _, hK _ _ _ ?_⟩; clear hK K)
      (repeat (refine lex_steady (fun K hK => ?_); go_simp; first | (refine ⟨_, fun _ _ => rfl, hK _ ?_⟩; clear hK K) | (refine ⟨?_, fun w' hw' => ?_, hK _ ?_⟩; rotate_left; (have hw'' := reach_ext hw' (by decide); have z0 := Ext.cell hw'' hc0; have z1 := Ext.cell hw'' hc1; have z2 := Ext.cell hw'' q1'; go_simp; rfl); go_simp; clear hK K) | (refine hK _ ?_; clear hK K)))
      (refine lex_active (fun K hK => ?_); go_simp; refine ⟨fun h => absurd h (by decide), hK _ _ _ ?_⟩; clear hK K)
      refine lex_nil ?_
      go_wp2_with fail
      go_end0
      exact ⟨rfl, hst3, hB4⟩
theorem sum_new {p : Nat} (w : World) : SumSt (w.alloc (.cells #[.int .u64 (p : Nat), .slice none 0 0] 87)) w.heap.size w.heap.size ([] : List (Fin p)) :=
  ⟨⟨_, heap_alloc_new w _, World.ownsRow_nil _ _ _ _⟩, Nat.le_refl _⟩
theorem sum_cell {p : Nat} {w : World} {B g : Nat} {f : List (Fin p)} (h : SumSt w B g f) : ∃ v, w.cell? ⟨g, 1, none⟩ = some v ∧ SlF w v f := by
  obtain ⟨v, h1, h2⟩ := h.ex
  exact ⟨v, by rw [cell_of_row w g 1 _ _ _ h1]; rfl, own_slF h2⟩
set_option maxRecDepth 4000 in
set_option maxHeartbeats 1000000 in
theorem polyAdd_calls {p : Nat} [NeZero p] (hs : Sup p) (w : World) {va vb : Value} {a b : List (Fin p)} (ha : SlF w va a) (hb : SlF w vb b) (hla : a.length ≤ 400000) (hlb : b.length ≤ 400000) :
    Calls Try.prog 52 #[.int .u64 p, va, vb] w (Rets w fun w' r => w'.ownsRow w.heap.size 22 1 r (ptrim (padd a b)).length (encF (ptrim (padd a b)))) := by
  obtain ⟨A, ca, rfl, hca, hcela⟩ := ha.at
  obtain ⟨A', cb, rfl, hcb, hcelb⟩ := hb.at
  have HA := Hd.mk hcela
  have HB := Hd.mk hcelb
  clear hcela hcelb ha hb
  have hnew := Hd.mk (sum_new (p := p) w)
  have hext := Ext.of_alloc w (.cells #[.int .u64 (p : Nat), .slice none 0 0] 87)
  go_enter Try.func52, Try.ntmps52
  go_wp2_with fail
  go_loopw [20] (fun i wr => ∃ (k : Nat) (f : List (Fin p)), k ≤ a.length ∧ i = .int .i64 (k : Nat) ∧ SumSt wr w.heap.size w.heap.size f ∧ Ext w wr ∧ Hd (Same f (a.take k)) ∧ f.length ≤ 400000) (fun i _ => a.length - (intOf i).toNat)
  case atStart => exact ⟨0, [], by omega, rfl, hnew.out, hext, ⟨by intro i; simp [co]⟩, by simp⟩
  case round =>
    obtain ⟨k, f, hk, rfl, hst, hE, hsame, hfl⟩ := hrel
    clear hnew hext
    by_cases hlt : k < a.length
    · obtain ⟨ad, rfl, hc⟩ := HA.out k hlt
      have hc := hE.cell hc
      have HC := Hd.mk (co_getElem hlt)
      generalize a[k] = y at *
      go_wp2_with fail
      refine (put_calls hs wr w.heap.size w.heap.size k (y := y) rfl hst (by omega) (by omega)).mono ?_
      rintro e w1 ⟨rfl, hst1, hB1⟩
      have hE1 : Ext w w1 := Below.trans hE hB1
      clear hst hB1 hE hc
      go_wp2_with fail
      go_roundw
      case rel =>
        refine ⟨k + 1, putF f k y, by omega, by go_num, hst1, hE1, ⟨fun i => ?_⟩, by rw [length_putF]; omega⟩
        rw [co_putF, co_take_succ _ _ _ hlt, hsame.out, HC.out]
        by_cases h : i = k
        · rw [if_pos h, if_pos h, co_take, if_neg (by omega)]; grind
        · rw [if_neg h, if_neg h, hsame.out]
      case measure => simp [intOf] <;> omega
    · obtain rfl : k = a.length := by omega
      rw [List.take_length] at hsame
      go_wp2_with fail
      go_loopw [32] (fun i wr => ∃ (k : Nat) (f : List (Fin p)), k ≤ b.length ∧ i = .int .i64 (k : Nat) ∧ SumSt wr w.heap.size w.heap.size f ∧ Ext w wr ∧ Hd (Same f (padd a (b.take k))) ∧ f.length ≤ 400000) (fun i _ => b.length - (intOf i).toNat)
      case atStart => exact ⟨0, f, by omega, rfl, hst, hE, ⟨by intro i; rw [hsame.out, co_padd]; simp [co]⟩, hfl⟩
      case round =>
        clear hst hE hsame hfl
        obtain ⟨k, f, hk, rfl, hst, hE, hsame, hfl⟩ := hrel
        by_cases hlt : k < b.length
        · obtain ⟨ad, rfl, hc⟩ := HB.out k hlt
          have hc := hE.cell hc
          have HC := Hd.mk (co_getElem hlt)
          generalize b[k] = y at *
          go_wp2_with fail
          refine (put_calls hs wr w.heap.size w.heap.size k (y := y) rfl hst (by omega) (by omega)).mono ?_
          rintro e w1 ⟨rfl, hst1, hB1⟩
          have hE1 : Ext w w1 := Below.trans hE hB1
          clear hst hB1 hE hc
          go_wp2_with fail
          go_roundw
          case rel =>
            refine ⟨k + 1, putF f k y, by omega, by go_num, hst1, hE1, ⟨fun i => ?_⟩, by rw [length_putF]; omega⟩
            rw [co_putF, co_padd, co_take_succ _ _ _ hlt, hsame.out, co_padd, HC.out]
            by_cases h : i = k
            · rw [if_pos h, if_pos h, co_take b, if_neg (by omega), h]; grind
            · rw [if_neg h, if_neg h, hsame.out, co_padd]
          case measure => simp [intOf] <;> omega
        · obtain rfl : k = b.length := by omega
          rw [List.take_length] at hsame
          obtain ⟨v, hv1, hv2⟩ := sum_cell hst
          clear hst
          have HS := Hd.mk (ptrim_congr hsame.out)
          go_wp2_with fail
          refine (trim_calls _ hv2 (by omega)).mono ?_
          rintro e w2 ⟨r, rfl, hr, hE2⟩
          have hr := own_mono hr hE.size
          have hE3 := hE.trans hE2
          clear hv1 hE hE2
          go_wp2_with fail
          go_ret
          exact ⟨_, rfl, by rw [← HS.out]; exact hr, hE3⟩
set_option maxRecDepth 4000 in
set_option maxHeartbeats 1000000 in
theorem polyScale_calls {p : Nat} [NeZero p] (hs : Sup p) (w : World) {kk : Int} {k : Fin p} (hk : kk = (k.val : Nat)) {va : Value} {a : List (Fin p)} (ha : SlF w va a) (hla : a.length ≤ 1000000) :
    Calls Try.prog 53 #[.int .u64 p, .int .u64 kk, va] w (Rets w fun w' r => w'.ownsRow w.heap.size 22 1 r (ptrim (pscale k a)).length (encF (ptrim (pscale k a)))) := by
  subst hk
  obtain ⟨A, ca, rfl, hca, hcela⟩ := ha.at
  have HA := Hd.mk hcela
  clear hcela ha
  go_enter Try.func53, Try.ntmps53
  go_wp2_with (with_reducible first | refine hold_append rfl ?_ | refine hold_make rfl ?_)
  refine wpl_make tyU rfl w.heap.size (by rfl) (by rfl) a.length (by rfl) (by rfl) (by omega) (Nat.le_refl _) ?_
  intro w1 hown hE
  rw [encF_replicate (p := p)] at hown
  go_wp2_with fail
  go_loopw [15] (fun i wr => ∃ (j : Nat) (g : List (Fin p)), j ≤ a.length ∧ i = .int .i64 (j : Nat) ∧ wr.ownsRow w.heap.size 22 1 (.slice (some ⟨w.heap.size, 0, none⟩) a.length a.length) a.length (encF g) ∧ Ext w wr ∧ Hd (g = pscale k (a.take j) ++ List.replicate (a.length - j) 0)) (fun i _ => a.length - (intOf i).toNat)
  case atStart => exact ⟨0, _, by omega, rfl, hown, hE, ⟨by simp [pscale]⟩⟩
  case round =>
    clear hown hE
    obtain ⟨j, g, hj, rfl, hown, hE, hg⟩ := hrel
    by_cases hlt : j < a.length
    · obtain ⟨ad, rfl, hc⟩ := HA.out j hlt
      have hc := hE.cell hc
      have HC := Hd.mk (co_getElem hlt)
      generalize a[j] = y at *
      obtain ⟨q1, q2, q3, q4⟩ := run_own_store hown j hlt (.int .u64 ((k * y).val : Nat)) rfl
      rw [encF_set] at q3
      have hE1 : Ext w (wr.setCell ⟨w.heap.size, j, none⟩ (.int .u64 ((k * y).val : Nat))) := hE.setCell (Nat.le_refl _) _
      clear hown hE q4
      go_wp2_with fail
      refine (mul_calls hs (x := k) (y := y) rfl rfl _).mono ?_
      rintro e w2 ⟨rfl, rfl⟩
      go_wp2_with fail
      go_roundw
      case rel =>
        refine ⟨j + 1, g.set j (k * y), by omega, by go_num, q3, hE1, ⟨?_⟩⟩
        rw [hg.out]
        exact fill_take (k * ·) a 0 j hlt _ (by rw [← co_getElem hlt, HC.out])
      case measure => simp [intOf] <;> omega
    · obtain rfl : j = a.length := by omega
      have hgl : Hd (g = pscale k a) := ⟨by rw [hg.out]; simp⟩
      have hlen : (pscale k a).length = a.length := length_pscale k a
      have hs2 : SlF wr (.slice (some ⟨w.heap.size, 0, none⟩) a.length a.length) (pscale k a) := by
        have h1 := hown
        rw [hgl.out, ← hlen] at h1
        have h2 := own_slF h1
        rw [hlen] at h2
        exact h2
      go_wp2_with fail
      refine (trim_calls _ hs2 (by omega)).mono ?_
      rintro e w2 ⟨r, rfl, hr, hE2⟩
      have hr := own_mono hr hE.size
      have hE3 := hE.trans hE2
      clear hE hE2
      go_wp2_with fail
      go_ret
      exact ⟨_, rfl, hr, hE3⟩
set_option maxRecDepth 4000 in
set_option maxHeartbeats 1000000 in
theorem polyMul_calls {p : Nat} [NeZero p] (hs : Sup p) (w : World) {va vb : Value} {a b : List (Fin p)} (ha : SlF w va a) (hb : SlF w vb b) (hla : a.length ≤ 400000) (hlb : b.length ≤ 400000) :
    Calls Try.prog 50 #[.int .u64 p, va, vb] w (Rets w fun w' r => w'.ownsRow w.heap.size 22 1 r (ptrim (pmul a b)).length (encF (ptrim (pmul a b)))) := by
  obtain ⟨A, ca, rfl, hca, hcela⟩ := ha.at
  obtain ⟨A', cb, rfl, hcb, hcelb⟩ := hb.at
  have HA := Hd.mk hcela
  have HB := Hd.mk hcelb
  clear hcela hcelb ha hb
  have hnew := Hd.mk (sum_new (p := p) w)
  have hext := Ext.of_alloc w (.cells #[.int .u64 (p : Nat), .slice none 0 0] 87)
  go_enter Try.func50, Try.ntmps50
  go_wp2_with fail
  go_loopw [20] (fun i wr => ∃ (k : Nat) (f : List (Fin p)), k ≤ a.length ∧ i = .int .i64 (k : Nat) ∧ SumSt wr w.heap.size w.heap.size f ∧ Ext w wr ∧ Hd (Same f (pmul (a.take k) b)) ∧ f.length ≤ 800000) (fun i _ => a.length - (intOf i).toNat)
  case atStart => exact ⟨0, [], by omega, rfl, hnew.out, hext, ⟨by intro i; simp [co, pmul]⟩, by simp⟩
  case round =>
    obtain ⟨k, f, hk, rfl, hst, hE, hsame, hfl⟩ := hrel
    clear hnew hext
    by_cases hlt : k < a.length
    · obtain ⟨ad, rfl, hc⟩ := HA.out k hlt
      have hc := hE.cell hc
      have HC := Hd.mk (co_getElem hlt)
      generalize a[k] = y at *
      have hstep : Hd (∀ n, co (pmul (a.take (k + 1)) b) n = co (pmul (a.take k) b) n + (if n < k then 0 else y * co b (n - k))) := ⟨fun n => by
        rw [co_pmul_succ a b k hlt, ← co_getElem hlt, HC.out]⟩
      go_wp2_with fail
      go_loopw [27] (fun i wr => ∃ (l : Nat) (f : List (Fin p)), l ≤ b.length ∧ i = .int .i64 (l : Nat) ∧ SumSt wr w.heap.size w.heap.size f ∧ Ext w wr ∧ Hd (∀ n, co f n = co (pmul (a.take k) b) n + (if k ≤ n ∧ n < k + l then y * co b (n - k) else 0)) ∧ f.length ≤ 800000) (fun i _ => b.length - (intOf i).toNat)
      case atStart => exact ⟨0, f, by omega, rfl, hst, hE, ⟨fun n => by rw [hsame.out, if_neg (by omega)]; grind⟩, hfl⟩
      case round =>
        clear hst hE hsame hfl hc
        obtain ⟨l, f, hl, rfl, hst, hE, hsame, hfl⟩ := hrel
        by_cases hlt2 : l < b.length
        · obtain ⟨ad2, rfl, hc2⟩ := HB.out l hlt2
          have hc2 := hE.cell hc2
          have HC2 := Hd.mk (co_getElem hlt2)
          generalize b[l] = z at *
          go_wp2_with fail
          refine (mul_calls hs (x := y) (y := z) rfl rfl _).mono ?_
          rintro e w1 ⟨rfl, rfl⟩
          go_wp2_with fail
          rw [show ((k : Int) + (l : Int)) = ((k + l : Nat) : Int) by simp]
          refine (put_calls hs w1 w.heap.size w.heap.size (k + l) (y := y * z) rfl hst (by omega) (by omega)).mono ?_
          rintro e w2 ⟨rfl, hst1, hB1⟩
          have hE1 : Ext w w2 := Below.trans hE hB1
          clear hst hB1 hE hc2
          go_wp2_with fail
          go_roundw
          case rel =>
            refine ⟨l + 1, putF f (k + l) (y * z), by omega, by go_num, hst1, hE1, ⟨fun n => ?_⟩, by rw [length_putF]; omega⟩
            rw [co_putF]
            by_cases h : n = k + l
            · subst h
              rw [if_pos rfl, hsame.out, if_neg (by omega), if_pos (by omega), show k + l - k = l by omega, HC2.out]; grind
            · rw [if_neg h, hsame.out]
              by_cases h2 : k ≤ n ∧ n < k + l
              · rw [if_pos h2, if_pos (by omega)]
              · rw [if_neg h2, if_neg (by omega)]
          case measure => simp [intOf] <;> omega
        · obtain rfl : l = b.length := by omega
          go_wp2_with fail
          go_roundw
          case rel =>
            refine ⟨k + 1, f, by omega, by go_num, hst, hE, ⟨fun n => ?_⟩, hfl⟩
            rw [hsame.out, hstep.out]
            by_cases h1 : n < k
            · rw [if_pos h1, if_neg (by omega)]
            · rw [if_neg h1]
              by_cases h2 : n < k + b.length
              · rw [if_pos (by omega)]
              · rw [if_neg (by omega), co_of_length_le (show b.length ≤ n - k by omega)]; grind
          case measure => simp [intOf] <;> omega
    · obtain rfl : k = a.length := by omega
      rw [List.take_length] at hsame
      obtain ⟨v, hv1, hv2⟩ := sum_cell hst
      clear hst
      have HS := Hd.mk (ptrim_congr hsame.out)
      go_wp2_with fail
      refine (trim_calls _ hv2 (by omega)).mono ?_
      rintro e w2 ⟨r, rfl, hr, hE2⟩
      have hr := own_mono hr hE.size
      have hE3 := hE.trans hE2
      clear hv1 hE hE2
      go_wp2_with fail
      go_ret
      exact ⟨_, rfl, by rw [← HS.out]; exact hr, hE3⟩
end Go.Proofs.Ytiokpaknhbfenaa
