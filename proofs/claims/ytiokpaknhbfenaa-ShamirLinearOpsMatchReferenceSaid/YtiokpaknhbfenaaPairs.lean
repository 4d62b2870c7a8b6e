/-
A part of this claim's proof (Pairs): lemmas that the text of the law stands on.
-/
import Derived.Test.YtiokpaknhbfenaaSpec
import Derived.Test.YtiokpaknhbfenaaMat
import Derived.Test.YtiokpaknhbfenaaWWords
import Derived.Test.YtiokpaknhbfenaaWApart
set_option linter.unusedVariables false
set_option linter.unusedSimpArgs false
namespace Go.Proofs.Ytiokpaknhbfenaa
open Go.RowKit Go.Proofs.YtiokpaknhbfenaaW.PrintWords
/-! ### two lists, place by place -/
theorem Ext.drew' (w : World) : Ext w w.drew := Ext.drew w
def zipG {α β : Type} (f : α → α → Option β) : List α → List α → Option (List β)
  | [], _ => some []
  | _ :: _, [] => none
  | x :: a, y :: b => (f x y).bind fun z => (zipG f a b).map (z :: ·)
theorem zipG_spec {α β : Type} {f : α → α → Option β} : ∀ {a b : List α} {r : List β}, zipG f a b = some r → r.length = a.length ∧ a.length ≤ b.length ∧ ∀ (i : Nat) (x : α), a[i]? = some x → ∃ y z, b[i]? = some y ∧ r[i]? = some z ∧ f x y = some z
  | [], b, r, h => by simp [zipG] at h; subst h; simp
  | x :: a, [], r, h => by simp [zipG] at h
  | x :: a, y :: b, r, h => by
    simp only [zipG, Option.bind_eq_some_iff, Option.map_eq_some_iff] at h
    obtain ⟨z, hz, q, hq, rfl⟩ := h
    obtain ⟨h1, h2, h3⟩ := zipG_spec hq
    refine ⟨by simp [h1], by simpa using h2, fun i u hu => ?_⟩
    cases i with
    | zero => simp at hu; subst hu; exact ⟨y, z, rfl, rfl, hz⟩
    | succ i => simpa using h3 i u (by simpa using hu)
theorem getC {k : IntKind} {w : World} {A : Option Addr} {l : List Int} (h : Kd.C (Kd.int k) w A l.length l) (i : Nat) (x : Int) (hi : l[i]? = some x) : ∃ ad, A = some ad ∧ w.cell? (ad.add i) = some (.int k x) := by
  obtain ⟨hl, rfl⟩ := List.getElem?_eq_some_iff.1 hi
  obtain ⟨ad, q1, q2⟩ := Kd.at_int h (i : Int) (by omega) (by omega)
  exact ⟨ad, q1, by simpa [rd, hl] using q2⟩
theorem getCC {k : IntKind} {e : Nat} {w : World} {A : Option Addr} {l : List (List Int)} (h : Kd.C (Kd.slice e (Kd.int k)) w A l.length l) (i : Nat) (x : List Int) (hi : l[i]? = some x) :
    ∃ ad B c, A = some ad ∧ w.cell? (ad.add i) = some (.slice B x.length c) ∧ x.length ≤ c ∧ Kd.C (Kd.int k) w B x.length x := by
  obtain ⟨hl, rfl⟩ := List.getElem?_eq_some_iff.1 hi
  obtain ⟨ad, c, hA, hcl, hK, hcc⟩ := Kd.C_get h [] (i : Int) (by omega) (by omega)
  obtain ⟨B, cc, rfl, q1, q2⟩ := hK
  have := hcc 0 _ rfl
  simp only [Int.toNat_natCast, Kd.slice, Nat.mul_one, Nat.add_zero] at this q1 q2
  have e : l.getD i [] = l[i] := by simp [hl]
  rw [e] at this q1 q2
  exact ⟨ad, B, cc, hA, this, q1, q2⟩
theorem fillZ (r : List Int) (n k : Nat) (z : Int) (hr : r[k]? = some z) (hn : r.length = n) : (encZ (r.take k) ++ List.replicate (n - k) (Value.int .u64 0)).set k (.int .u64 z) = encZ (r.take (k + 1)) ++ List.replicate (n - (k + 1)) (Value.int .u64 0) := by
  obtain ⟨hl, rfl⟩ := List.getElem?_eq_some_iff.1 hr
  obtain ⟨m, hm⟩ : ∃ m, n - k = m + 1 := ⟨n - k - 1, by omega⟩
  have h := fill_step (encZ (r.take k)) m (Value.int .u64 0) (.int .u64 r[k])
  have h2 : (encZ (r.take k)).length = k := by simp [encZ]; omega
  rw [h2] at h
  have e : encZ (r.take k ++ [r[k]]) = encZ (r.take k) ++ [Value.int .u64 r[k]] := by simp only [encZ, List.map_append, List.map_cons, List.map_nil]
  rw [hm, h, show n - (k + 1) = m by omega, List.take_succ_eq_append_getElem hl, e]
set_option maxRecDepth 4000 in
set_option maxHeartbeats 1000000 in
theorem pairsU_calls (w : World) (id : Nat) (cap : Array Value) (hent : ∀ args w, (callFunc id args).run Try.prog w = .ok (.enter id args) w) (f : Int → Int → Option Int) (I : World → Prop) (hI : ∀ a b, Ext a b → I a → I b) (h0 : I w)
    (hf : ∀ x y z wr, I wr → f x y = some z → Calls Try.prog id (#[.int .u64 x, .int .u64 y] ++ cap) wr (Rets wr fun _ v => v = .int .u64 z))
    {A1 A2 : Option Addr} {c1 c2 n m : Nat} {l1 l2 r : List Int} (hn : l1.length = n) (hm : l2.length = m) (h1 : Kd.C (Kd.int .u64) w A1 n l1) (h2 : Kd.C (Kd.int .u64) w A2 m l2) (hn6 : n ≤ 1000000) (hz : zipG f l1 l2 = some r) :
    Calls Try.prog 63 #[.slice A1 n c1, .slice A2 m c2, .func (.func id) #[] cap] w (Rets w fun w' v => w'.ownsRow w.heap.size 22 1 v n (encZ r)) := by
  subst hn hm
  obtain ⟨z1, z2, z3⟩ := zipG_spec hz
  have HF := Hd.mk hf
  have HI := Hd.mk hI
  have HN := Hd.mk h0
  have HG : Hd (∀ k, k < l1.length → ∃ ad1 ad2 x y z, A1 = some ad1 ∧ A2 = some ad2 ∧ w.cell? (ad1.add k) = some (.int .u64 x) ∧ w.cell? (ad2.add k) = some (.int .u64 y) ∧ r[k]? = some z ∧ f x y = some z) := ⟨fun k hk => by
    obtain ⟨y, z, q1, q2, q3⟩ := z3 k l1[k] (by simp [hk])
    obtain ⟨ad1, e1, e2⟩ := getC h1 k l1[k] (by simp [hk])
    obtain ⟨ad2, e3, e4⟩ := getC h2 k y q1
    exact ⟨ad1, ad2, _, _, _, e1, e3, e2, e4, q2, q3⟩⟩
  have HR := Hd.mk z1
  clear h1 h2 hf hI h0 hz z3 z1
  generalize hn : l1.length = n at *
  generalize hm : l2.length = m at *
  clear hn hm
  go_enter Try.func63, Try.ntmps63
  go_wp2_with (with_reducible first | refine hold_append rfl ?_ | refine hold_make rfl ?_)
  refine wpl_make tyU rfl w.heap.size (by rfl) (by rfl) n (by rfl) (by rfl) (by omega) (Nat.le_refl _) ?_
  intro w1 hown hE
  have hown0 : Hd (w1.ownsRow w.heap.size 22 1 (.slice (some ⟨w.heap.size, 0, none⟩) n n) n (encZ (r.take 0) ++ List.replicate (n - 0) (.int .u64 0))) := ⟨by simpa [encZ] using hown⟩
  have HE := Hd.mk hE
  clear hown hE
  go_wp2_with fail
  go_loopw [14] (fun i wr => ∃ (k : Nat), k ≤ n ∧ i = .int .i64 (k : Nat) ∧ Hd (wr.ownsRow w.heap.size 22 1 (.slice (some ⟨w.heap.size, 0, none⟩) n n) n (encZ (r.take k) ++ List.replicate (n - k) (.int .u64 0))) ∧ Hd (Ext w wr)) (fun i _ => n - (intOf i).toNat)
  case atStart => exact ⟨0, by omega, rfl, hown0, HE⟩
  case round =>
    clear hown0 HE
    obtain ⟨k, hk, rfl, hown, hE⟩ := hrel
    by_cases hlt : k < n
    · obtain ⟨ad1, ad2, x, y, z, rfl, rfl, q1, q2, q3, q4⟩ := HG.out k hlt
      have d1 := hE.out.cell q1
      have d2 := hE.out.cell q2
      have hI2 : Hd (I wr.drew) := ⟨HI.out _ _ (hE.out.trans (Ext.drew _)) HN.out⟩
      have HC := Hd.mk (fun wr h => HF.out x y z wr h q4)
      have hfill := Hd.mk (fillZ r n k z q3 HR.out)
      have hm2 : k < m := by omega
      clear q1 q2 q3 q4
      go_wp2_with fail
      have r1 : (0 : Int) ≤ (k : Int) := by omega
      have r2 : (k : Int) < (n : Int) := by omega
      have r3 : (k : Int) < (m : Int) := by omega
      refine wp_region_lex (EW 2) [some (0, 2), some (0, 2), some (0, 1), some (0, 2), some (0, 2), some (0, 2), some (0, 1), some (0, 2), some (0, 2), some (0, 2), some (0, 1), none, some (1, 2), none] (by kernel_rfl) (by kernel_rfl) ?_
      (repeat (refine lex_steady (fun K hK => ?_); go_simp; first | (refine ⟨_, fun _ _ => rfl, hK _ ?_⟩; clear hK K) | (refine ⟨?_, fun w' hw' => ?_, hK _ ?_⟩; rotate_left; (have hw'' := reach_ext hw' (by decide); have z0 := Ext.cell hw'' d1; have z1 := Ext.cell hw'' d2; go_simp; rfl); go_simp; clear hK K) | (refine hK _ ?_; clear hK K)))
      (refine lex_active (fun K hK => ?_); go_simp; refine (HC.out _ hI2.out).mono ?_; rintro _ w2 ⟨v2, rfl, hv2, hE2⟩; refine ⟨_, rfl, fun _ => hE2, hK _ _ _ ?_⟩; clear hK K)
      subst hv2
      obtain ⟨e1, f1, o1, g1⟩ := run_own_store (own_ext (own_ext hown.out (Ext.drew _)) hE2) k hlt (.int .u64 z) rfl
      rw [hfill.out] at o1
      have HO := Hd.mk o1
      have HE2 : Hd (Ext w (w2.setCell ⟨w.heap.size, k, none⟩ (.int .u64 z))) := ⟨((hE.out.trans (Ext.drew _)).trans hE2).setCell (q := ⟨w.heap.size, k, none⟩) (Nat.le_refl _) _⟩
      clear o1 g1 hE hown hI2 HC
      (repeat (refine lex_steady (fun K hK => ?_); go_simp; first | (refine ⟨_, fun _ _ => rfl, hK _ ?_⟩; clear hK K) | (refine ⟨?_, fun w' hw' => ?_, hK _ ?_⟩; rotate_left; (have hw'' := reach_ext hw' (by decide); have z0 := Ext.cell hw'' d1; have z1 := Ext.cell hw'' d2; go_simp; rfl); go_simp; clear hK K) | (refine hK _ ?_; clear hK K)))
      (refine lex_active (fun K hK => ?_); go_simp; refine ⟨fun h => absurd h (by decide), hK _ _ _ ?_⟩; clear hK K)
      refine lex_nil ?_
      clear d1 d2 e1 f1 hE2
      generalize hw3 : w2.setCell ⟨w.heap.size, k, none⟩ (.int .u64 z) = w3 at *
      clear hw3
      go_wp2_with fail
      go_roundw
      case rel => exact ⟨k + 1, by omega, by go_num, HO, HE2⟩
      case measure => simp [intOf] <;> omega
    · obtain rfl : k = n := by omega
      have HO : Hd (wr.ownsRow w.heap.size 22 1 (.slice (some ⟨w.heap.size, 0, none⟩) k k) k (encZ r)) := ⟨by
        have h := hown.out
        rw [List.take_of_length_le (by rw [HR.out]; omega), Nat.sub_self, List.replicate_zero, List.append_nil] at h
        exact h⟩
      go_wp2_with fail
      go_ret
      exact ⟨_, rfl, HO.out, hE.out⟩
/-- An own row of rows: a fresh row is put into place i. -/
theorem S_put {su u : Nat} {W0 W : World} {B g n cap : Nat} {xs : List (List Int)} {x : List Int} {v : Value} (h : Kd.S (Kd.slice u (Kd.int .u64)) su W0 B (fun _ => True) (.slice (some ⟨g, 0, none⟩) n cap) xs) (hB : B ≤ W0.heap.size) (hb : Ext W0 W)
    (hv : W.ownsRow W0.heap.size u 1 v x.length (encZ x)) (i : Nat) (hi : i < n) :
    (∃ u0, W.cell? ⟨g, i, none⟩ = some u0) ∧ W.frozen? ⟨g, i, none⟩ = false ∧ Kd.S (Kd.slice u (Kd.int .u64)) su (W.setCell ⟨g, i, none⟩ v) B (fun _ => True) (.slice (some ⟨g, 0, none⟩) n cap) (xs.set i x) := by
  have hg : g < W0.heap.size := Kd.S_lt h g (by simp [Value.ownBlock])
  have h1 : Kd.S (Kd.slice u (Kd.int .u64)) su W0 B (fun k => True ∧ ¬ (W0.heap.size ≤ k)) (.slice (some ⟨g, 0, none⟩) n cap) xs := Kd.S_mono (Kd.S_bound h) (fun k hk => ⟨trivial, by omega⟩)
  have h2 := Kd.S_below h1 hb
  obtain ⟨oki, c, hcl, hM, hcc, hfr, hoki, hH⟩ := Kd.S_elem h2 [] (i : Int) (by omega) (by omega)
  have hR : Kd.R (Kd.int .u64) u W W0.heap.size (fun _ => True) v x := Kd.R_of_own (by simpa [encZ, encs] using hv) (fun _ _ => trivial)
  have hR2 := Kd.R_lower (Kd.R_mono (Kd.R_bound hR) (ok' := fun k => W0.heap.size ≤ k) (fun k hk => hk.2.1)) hB
  have hcl' : c.length = 1 := hcl
  obtain ⟨c0, rfl⟩ := List.length_eq_one_iff.1 hcl'
  have hc0 : [c0].take 0 ++ [v] ++ [c0].drop (0 + [v].length) = [v] := by simp
  obtain ⟨h3, _⟩ := Kd.S_seg (okg := fun k => W0.heap.size ≤ k) (okp := fun k => W0.heap.size ≤ k) (seg := [v]) (j := 0) (x' := x) hH (by omega) (by omega) (by simp [Kd.slice]) (by rw [hc0]; exact ⟨v, rfl, hR2⟩) (fun k hk => .inr hk) (fun k hk => ⟨trivial, by omega⟩)
  refine ⟨?_, ?_, ?_⟩
  · have := hcc 0 c0 rfl
    simp only [Int.toNat_natCast, Kd.slice, Nat.mul_one, Nat.add_zero] at this
    exact ⟨_, this⟩
  · have := hfr 0
    simpa [Kd.slice] using this
  · simpa [Kd.slice, World.setCells] using h3
theorem S_start {su u : Nat} {w1 : World} {B g n : Nat} (hr : w1.ownsRow B su 1 (.slice (some ⟨g, 0, none⟩) n n) n (List.replicate n (.slice none 0 0))) :
    Kd.S (Kd.slice u (Kd.int .u64)) su w1 B (fun _ => True) (.slice (some ⟨g, 0, none⟩) n n) (List.replicate n []) := by
  refine ⟨fun _ => 0, fun _ _ => trivial, List.replicate n (.slice none 0 0), by rw [List.length_zipIdx, List.length_replicate]; exact hr, by simp [Kd.slice, Kd.tag], fun j p hj => ?_⟩
  have hjn : j < n := by
    have := (List.getElem?_eq_some_iff.1 hj).1
    simpa using this
  have hp : p = ([], j) := by
    have h1 : (List.replicate n ([] : List Int))[j]? = some [] := by simp [hjn]
    have h2 := Kd.zip_at h1
    rw [h2] at hj
    exact (Option.some.inj hj).symm
  subst hp
  refine ⟨.slice none 0 0, ?_, Kd.R_nil _ _ _ _ _⟩
  simp only [Kd.slice, Kd.tag, Nat.mul_one]
  obtain ⟨m, hm⟩ : ∃ m, n - j = m + 1 := ⟨n - j - 1, by omega⟩
  rw [List.drop_replicate, hm, List.replicate_succ]; rfl
theorem fillR (r : List (List Int)) (n k : Nat) (z : List Int) (hr : r[k]? = some z) (hn : r.length = n) : (r.take k ++ List.replicate (n - k) []).set k z = r.take (k + 1) ++ List.replicate (n - (k + 1)) [] := by
  obtain ⟨hl, rfl⟩ := List.getElem?_eq_some_iff.1 hr
  obtain ⟨m, hm⟩ : ∃ m, n - k = m + 1 := ⟨n - k - 1, by omega⟩
  have h := fill_step (r.take k) m [] r[k]
  have h2 : (r.take k).length = k := by simp; omega
  rw [h2] at h
  rw [hm, h, show n - (k + 1) = m by omega, List.take_succ_eq_append_getElem hl]
theorem own_slice {w : World} {base : Nat} {e : TypeId} {size n : Nat} {v : Value} {xs : List Value} (h : w.ownsRow base e size v n xs) : ∃ A c, v = .slice A n c := by
  rcases h.2 with ⟨rfl, rfl⟩ | ⟨g, cap, cur, rfl, _⟩
  · exact ⟨none, 0, rfl⟩
  · exact ⟨_, _, rfl⟩
set_option maxRecDepth 4000 in
set_option maxHeartbeats 1000000 in
theorem pairsR_calls (w : World) (id : Nat) (cap : Array Value) (hent : ∀ args w, (callFunc id args).run Try.prog w = .ok (.enter id args) w) (f : List Int → List Int → Option (List Int)) (I : World → Prop) (hI : ∀ a b, Ext a b → I a → I b) (h0 : I w)
    (hf : ∀ x y z wr B1 B2 c1 c2, I wr → f x y = some z → Kd.C (Kd.int .u64) wr B1 x.length x → x.length ≤ c1 → Kd.C (Kd.int .u64) wr B2 y.length y → y.length ≤ c2 →
      Calls Try.prog id (#[.slice B1 x.length c1, .slice B2 y.length c2] ++ cap) wr (Rets wr fun w' v => w'.ownsRow wr.heap.size 22 1 v z.length (encZ z)))
    {A1 A2 : Option Addr} {c1 c2 n m : Nat} {l1 l2 r : List (List Int)} (hn : l1.length = n) (hm : l2.length = m) (h1 : Kd.C (Kd.slice 22 (Kd.int .u64)) w A1 n l1) (h2 : Kd.C (Kd.slice 22 (Kd.int .u64)) w A2 m l2) (hn6 : n ≤ 1000000) (hz : zipG f l1 l2 = some r) :
    Calls Try.prog 61 #[.slice A1 n c1, .slice A2 m c2, .func (.func id) #[] cap] w (Rets w fun w' v => Kd.S (Kd.slice 22 (Kd.int .u64)) 23 w' w.heap.size (fun _ => True) v r) := by
  subst hn hm
  obtain ⟨z1, z2, z3⟩ := zipG_spec hz
  have HF := Hd.mk hf
  have HI := Hd.mk hI
  have HN := Hd.mk h0
  have HG : Hd (∀ k, k < l1.length → ∃ ad1 ad2 B1 B2 n1 c1 n2 c2 x y z, A1 = some ad1 ∧ A2 = some ad2 ∧ w.cell? (ad1.add k) = some (.slice B1 n1 c1) ∧ w.cell? (ad2.add k) = some (.slice B2 n2 c2) ∧ r[k]? = some z ∧ n1 = x.length ∧ n2 = y.length ∧ f x y = some z ∧
      x.length ≤ c1 ∧ y.length ≤ c2 ∧ Kd.C (Kd.int .u64) w B1 x.length x ∧ Kd.C (Kd.int .u64) w B2 y.length y) := ⟨fun k hk => by
    obtain ⟨y, z, q1, q2, q3⟩ := z3 k l1[k] (by simp [hk])
    obtain ⟨ad1, B1, c1, e1, e2, e3, e4⟩ := getCC h1 k l1[k] (by simp [hk])
    obtain ⟨ad2, B2, c2, e5, e6, e7, e8⟩ := getCC h2 k y q1
    exact ⟨ad1, ad2, B1, B2, _, c1, _, c2, _, _, _, e1, e5, e2, e6, q2, rfl, rfl, q3, e3, e7, e4, e8⟩⟩
  have HR := Hd.mk z1
  clear h1 h2 hf hI h0 hz z3 z1
  generalize hn : l1.length = n at *
  generalize hm : l2.length = m at *
  clear hn hm
  go_enter Try.func61, Try.ntmps61
  go_wp2_with (with_reducible first | refine hold_append rfl ?_ | refine hold_make rfl ?_)
  refine wpl_make tyM rfl w.heap.size (by rfl) (by rfl) n (by rfl) (by rfl) (by omega) (Nat.le_refl _) ?_
  intro w1 hown hE
  have hS0 : Hd (Kd.S (Kd.slice 22 (Kd.int .u64)) 23 w1 w.heap.size (fun _ => True) (.slice (some ⟨w.heap.size, 0, none⟩) n n) (r.take 0 ++ List.replicate (n - 0) [])) := ⟨by simpa using S_start hown⟩
  have HE := Hd.mk hE
  clear hown hE
  go_wp2_with fail
  go_loopw [14] (fun i wr => ∃ (k : Nat), k ≤ n ∧ i = .int .i64 (k : Nat) ∧ Hd (Kd.S (Kd.slice 22 (Kd.int .u64)) 23 wr w.heap.size (fun _ => True) (.slice (some ⟨w.heap.size, 0, none⟩) n n) (r.take k ++ List.replicate (n - k) [])) ∧ Hd (Ext w wr)) (fun i _ => n - (intOf i).toNat)
  case atStart => exact ⟨0, by omega, rfl, hS0, HE⟩
  case round =>
    clear hS0 HE
    obtain ⟨k, hk, rfl, hS, hE⟩ := hrel
    by_cases hlt : k < n
    · obtain ⟨ad1, ad2, B1, B2, n1, k1, n2, k2, x, y, z, rfl, rfl, q1, q2, q3, rfl, rfl, q4, q5, q6, q7, q8⟩ := HG.out k hlt
      have d1 := hE.out.cell q1
      have d2 := hE.out.cell q2
      have hE1 := hE.out.trans (Ext.drew wr)
      have HC := Hd.mk (HF.out x y z wr.drew B1 B2 k1 k2 (HI.out _ _ hE1 HN.out) q4 (Kd.C_below q7 hE1) q5 (Kd.C_below q8 hE1) q6)
      have hfill := Hd.mk (fillR r n k z q3 HR.out)
      have hm2 : k < m := by omega
      have HE1 := Hd.mk hE1
      clear q1 q2 q3 q4 q5 q6 q7 q8 hE1
      go_wp2_with fail
      have r1 : (0 : Int) ≤ (k : Int) := by omega
      have r2 : (k : Int) < (n : Int) := by omega
      have r3 : (k : Int) < (m : Int) := by omega
      refine wp_region_lex (EW 2) [some (0, 2), some (0, 2), some (0, 1), some (0, 2), some (0, 2), some (0, 2), some (0, 1), some (0, 2), some (0, 2), some (0, 2), some (0, 1), none, some (1, 2), none] (by kernel_rfl) (by kernel_rfl) ?_
      (repeat (refine lex_steady (fun K hK => ?_); go_simp; first | (refine ⟨_, fun _ _ => rfl, hK _ ?_⟩; clear hK K) | (refine ⟨?_, fun w' hw' => ?_, hK _ ?_⟩; rotate_left; (have hw'' := reach_ext hw' (by decide); have z0 := Ext.cell hw'' d1; have z1 := Ext.cell hw'' d2; go_simp; rfl); go_simp; clear hK K) | (refine hK _ ?_; clear hK K)))
      (refine lex_active (fun K hK => ?_); go_simp; refine (HC.out).mono ?_; rintro _ w2 ⟨v2, rfl, hv2, hE2⟩; refine ⟨_, rfl, fun _ => hE2, hK _ _ _ ?_⟩; clear hK K)
      obtain ⟨Av, cv, rfl⟩ := own_slice hv2
      obtain ⟨⟨u0, e1⟩, f1, o1⟩ := S_put (Kd.S_below hS.out (Ext.drew wr)) HE1.out.size hE2 hv2 k hlt
      rw [hfill.out] at o1
      have HO := Hd.mk o1
      have HE2 : Hd (Ext w (w2.setCell ⟨w.heap.size, k, none⟩ (.slice Av z.length cv))) := ⟨(HE1.out.trans hE2).setCell (q := ⟨w.heap.size, k, none⟩) (Nat.le_refl _) _⟩
      clear o1 hE hS HC hfill hv2
      (repeat (refine lex_steady (fun K hK => ?_); go_simp; first | (refine ⟨_, fun _ _ => rfl, hK _ ?_⟩; clear hK K) | (refine ⟨?_, fun w' hw' => ?_, hK _ ?_⟩; rotate_left; (have hw'' := reach_ext hw' (by decide); have z0 := Ext.cell hw'' d1; have z1 := Ext.cell hw'' d2; go_simp; rfl); go_simp; clear hK K) | (refine hK _ ?_; clear hK K)))
      (refine lex_active (fun K hK => ?_); go_simp; refine ⟨fun h => absurd h (by decide), hK _ _ _ ?_⟩; clear hK K)
      refine lex_nil ?_
      clear d1 d2 e1 f1 hE2
      generalize hw3 : w2.setCell ⟨w.heap.size, k, none⟩ (.slice Av z.length cv) = w3 at *
      clear hw3
      go_wp2_with fail
      go_roundw
      case rel => exact ⟨k + 1, by omega, by go_num, HO, HE2⟩
      case measure => simp [intOf] <;> omega
    · obtain rfl : k = n := by omega
      have HO : Hd (Kd.S (Kd.slice 22 (Kd.int .u64)) 23 wr w.heap.size (fun _ => True) (.slice (some ⟨w.heap.size, 0, none⟩) k k) r) := ⟨by
        have h := hS.out
        rw [List.take_of_length_le (by rw [HR.out]; omega), Nat.sub_self, List.replicate_zero, List.append_nil] at h
        exact h⟩
      go_wp2_with fail
      go_ret
      exact ⟨_, rfl, HO.out, hE.out⟩
/-! ### the closures -/
structure Wc (w : World) (gd gp : Nat) (vd vp : Value) : Prop where
  bd : Bx w gd vd
  bp : Bx w gp vp
theorem Wc.ext {w w' : World} {gd gp : Nat} {vd vp : Value} (h : Wc w gd gp vd vp) (he : Ext w w') : Wc w' gd gp vd vp := ⟨h.bd.ext he, h.bp.ext he⟩
set_option maxRecDepth 4000 in
theorem words11_calls (w : World) (id : Nat) (cap : Array Value) (hent : ∀ args w, (callFunc id args).run Try.prog w = .ok (.enter id args) w) {p x y z : Int} {gd gp : Nat} (hc : Wc w gd gp (.func (.func id) #[] cap) (.int .u64 p))
    (hf : Calls Try.prog id (#[.int .u64 p, .int .u64 x, .int .u64 y] ++ cap) w (Rets w fun _ v => v = .int .u64 z)) :
    Calls Try.prog 64 #[.int .u64 x, .int .u64 y, .pointer (some ⟨gd, 0, none⟩), .pointer (some ⟨gp, 0, none⟩)] w (Rets w fun _ v => v = .int .u64 z) := by
  have c1 := hc.bd.cell
  have c2 := hc.bp.cell
  have HF := Hd.mk hf
  clear hf hc
  go_enter Try.func64, Try.ntmps64
  go_wp2_with fail
  refine HF.out.mono ?_
  rintro _ w2 ⟨v, rfl, rfl, hE⟩
  clear c1 c2
  go_wp2_with fail
  go_ret
  exact ⟨_, rfl, rfl, hE⟩
set_option maxRecDepth 4000 in
theorem words1_calls (w : World) (id : Nat) (cap : Array Value) (hent : ∀ args w, (callFunc id args).run Try.prog w = .ok (.enter id args) w) {p : Int} {gd gp : Nat} (g : Int → Int → Option Int) (hc : Wc w gd gp (.func (.func id) #[] cap) (.int .u64 p))
    (J : World → Prop) (hJ : ∀ a b, Ext a b → J a → J b) (hJ0 : J w)
    (hf : ∀ x y z wr, J wr → g x y = some z → Calls Try.prog id (#[.int .u64 p, .int .u64 x, .int .u64 y] ++ cap) wr (Rets wr fun _ v => v = .int .u64 z)) {x y z : List Int} {B1 B2 : Option Addr} {c1 c2 : Nat}
    (h1 : Kd.C (Kd.int .u64) w B1 x.length x) (h2 : Kd.C (Kd.int .u64) w B2 y.length y) (hl : x.length ≤ 1000000) (hz : zipG g x y = some z) :
    Calls Try.prog 62 #[.slice B1 x.length c1, .slice B2 y.length c2, .pointer (some ⟨gd, 0, none⟩), .pointer (some ⟨gp, 0, none⟩)] w (Rets w fun w' v => w'.ownsRow w.heap.size 22 1 v z.length (encZ z)) := by
  have h := pairsU_calls w 64 #[.pointer (some ⟨gd, 0, none⟩), .pointer (some ⟨gp, 0, none⟩)] (fun _ _ => by rfl) g (fun wr => J wr ∧ Wc wr gd gp (.func (.func id) #[] cap) (.int .u64 p))
    (fun a b hab h => ⟨hJ a b hab h.1, h.2.ext hab⟩) ⟨hJ0, hc⟩ (fun x y z wr h hg => words11_calls wr id cap hent h.2 (hf x y z wr h.1 hg)) (c1 := c1) (c2 := c2) rfl rfl h1 h2 hl hz
  have HF := Hd.mk h
  have hzl := (zipG_spec hz).1
  clear h hf h1 h2 hc hz
  go_enter Try.func62, Try.ntmps62
  go_wp2_with fail
  refine HF.out.mono ?_
  rintro _ w2 ⟨v, rfl, hv, hE⟩
  have HV := Hd.mk hv
  clear hv
  go_wp2_with fail
  go_ret
  exact ⟨_, rfl, by rw [hzl]; exact HV.out, hE⟩
def rowZ (g : Int → Int → Option Int) (x y : List Int) : Option (List Int) := if x.length ≤ 1000000 then zipG g x y else none
def matZ (g : Int → Int → Option Int) (a b : List (List Int)) : Option (List (List Int)) := if a.length ≤ 1000000 then zipG (rowZ g) a b else none
theorem Bx.new (w : World) (u : Value) (T : TypeId) : Bx (w.alloc (.cells #[u] T)) w.heap.size u := ⟨⟨T, heap_alloc_new w _⟩⟩
set_option maxRecDepth 4000 in
set_option maxHeartbeats 1000000 in
theorem words_calls (w : World) (id : Nat) (cap : Array Value) (hent : ∀ args w, (callFunc id args).run Try.prog w = .ok (.enter id args) w) {p : Int} (g : Int → Int → Option Int)
    (J : World → Prop) (hJ : ∀ a b, Ext a b → J a → J b) (hJ0 : J w)
    (hf : ∀ x y z wr, J wr → g x y = some z → Calls Try.prog id (#[.int .u64 p, .int .u64 x, .int .u64 y] ++ cap) wr (Rets wr fun _ v => v = .int .u64 z)) {A1 A2 : Option Addr} {c1 c2 : Nat} {l1 l2 r : List (List Int)}
    (h1 : Kd.C (Kd.slice 22 (Kd.int .u64)) w A1 l1.length l1) (h2 : Kd.C (Kd.slice 22 (Kd.int .u64)) w A2 l2.length l2) (hz : matZ g l1 l2 = some r) :
    Calls Try.prog 37 #[.int .u64 p, .slice A1 l1.length c1, .slice A2 l2.length c2, .func (.func id) #[] cap] w (Rets w fun w' v => Kd.S (Kd.slice 22 (Kd.int .u64)) 23 w' w.heap.size (fun _ => True) v r) := by
  unfold matZ at hz
  split at hz
  case isFalse => cases hz
  rename_i hl
  have hbp : Bx ((w.alloc (.cells #[.int .u64 p] 22)).alloc (.cells #[.func (.func id) #[] cap] 63)) w.heap.size (.int .u64 p) := (Bx.new w _ _).ext (Ext.of_alloc _ _)
  have hbd : Bx ((w.alloc (.cells #[.int .u64 p] 22)).alloc (.cells #[.func (.func id) #[] cap] 63)) (w.heap.size + 1) (.func (.func id) #[] cap) := by
    have h := Bx.new (w.alloc (.cells #[.int .u64 p] 22)) (.func (.func id) #[] cap) 63
    have e : (w.alloc (.cells #[.int .u64 p] 22)).heap.size = w.heap.size + 1 := by simp
    rwa [e] at h
  have hE : Ext w ((w.alloc (.cells #[.int .u64 p] 22)).alloc (.cells #[.func (.func id) #[] cap] 63)) := (Ext.of_alloc _ _).trans (Ext.of_alloc _ _)
  have h := pairsR_calls ((w.alloc (.cells #[.int .u64 p] 22)).alloc (.cells #[.func (.func id) #[] cap] 63)) 62 #[.pointer (some ⟨w.heap.size + 1, 0, none⟩), .pointer (some ⟨w.heap.size, 0, none⟩)] (fun _ _ => by rfl) (rowZ g)
    (fun wr => J wr ∧ Wc wr (w.heap.size + 1) w.heap.size (.func (.func id) #[] cap) (.int .u64 p)) (fun a b hab h => ⟨hJ a b hab h.1, h.2.ext hab⟩) ⟨hJ _ _ hE hJ0, hbd, hbp⟩
    (fun x y z wr B1 B2 c1 c2 h hz q1 q2 q3 q4 => by
      unfold rowZ at hz
      split at hz
      case isFalse => cases hz
      rename_i hl
      exact words1_calls wr id cap hent g h.2 J hJ h.1 hf q1 q3 hl hz) (c1 := c1) (c2 := c2) rfl rfl (Kd.C_below h1 hE) (Kd.C_below h2 hE) hl hz
  have HF := Hd.mk h
  have HE := Hd.mk hE
  clear h hf h1 h2 hz hbp hbd hE hJ hJ0 hl
  generalize l1.length = n1 at *
  generalize l2.length = n2 at *
  go_enter Try.func37, Try.ntmps37
  go_wp2_with fail
  refine HF.out.mono ?_
  rintro _ w2 ⟨v, rfl, hv, hE2⟩
  have HV : Hd (Kd.S (Kd.slice 22 (Kd.int .u64)) 23 w2 w.heap.size (fun _ => True) v r) := ⟨Kd.S_lower hv HE.out.size⟩
  have HE2 := Hd.mk (HE.out.trans hE2)
  clear hv hE2
  go_wp2_with fail
  go_ret
  exact ⟨_, rfl, HV.out, HE2.out⟩
/-! ### the linear operations -/
set_option maxRecDepth 4000 in
theorem shAdd_calls (a0 : Int) (A1 : Option Addr) (c1 : Nat) (l1 : List (List Int)) (A2 : Option Addr) (c2 : Nat) (l2 : List (List Int)) (r : List (List Int)) (w : World) (hr1 : Kd.C (Kd.slice 22 (Kd.int .u64)) w A1 l1.length l1) (hr2 : Kd.C (Kd.slice 22 (Kd.int .u64)) w A2 l2.length l2) (h : matZ (fAdd a0) l1 l2 = some r) :
    Calls Try.prog 18 #[.int .u64 a0, .slice A1 l1.length c1, .slice A2 l2.length c2] w fun e w' => ∃ v0_ : Value, e = .returned v0_ ∧ Kd.S (Kd.slice 22 (Kd.int .u64)) 23 w' w.heap.size (fun _ => True) v0_ r ∧ Below w.heap.size w w' := by
  have hw := words_calls w 38 #[] (fun _ _ => by rfl) (p := a0) (fAdd a0) (fun _ => True) (fun _ _ _ _ => trivial) trivial (fun x y z wr _ hz => (fAdd_calls a0 x y z wr hz).mono fun e w' ⟨he, hd⟩ => ⟨_, he, rfl, hd.below⟩) (c1 := c1) (c2 := c2) hr1 hr2 h
  have HF := Hd.mk hw
  clear hw hr1 hr2 h
  generalize l1.length = n1 at *
  generalize l2.length = n2 at *
  go_enter Try.func18, Try.ntmps18
  go_wp2_with fail
  refine HF.out.mono ?_
  rintro _ w2 ⟨v, rfl, hv, hE2⟩
  have HV := Hd.mk hv
  clear hv
  go_wp2_with fail
  go_ret
  exact ⟨_, rfl, HV.out, hE2⟩
set_option maxRecDepth 4000 in
theorem shSub_calls (a0 : Int) (A1 : Option Addr) (c1 : Nat) (l1 : List (List Int)) (A2 : Option Addr) (c2 : Nat) (l2 : List (List Int)) (r : List (List Int)) (w : World) (hr1 : Kd.C (Kd.slice 22 (Kd.int .u64)) w A1 l1.length l1) (hr2 : Kd.C (Kd.slice 22 (Kd.int .u64)) w A2 l2.length l2) (h : matZ (fSub a0) l1 l2 = some r) :
    Calls Try.prog 20 #[.int .u64 a0, .slice A1 l1.length c1, .slice A2 l2.length c2] w fun e w' => ∃ v0_ : Value, e = .returned v0_ ∧ Kd.S (Kd.slice 22 (Kd.int .u64)) 23 w' w.heap.size (fun _ => True) v0_ r ∧ Below w.heap.size w w' := by
  have hw := words_calls w 40 #[] (fun _ _ => by rfl) (p := a0) (fSub a0) (fun _ => True) (fun _ _ _ _ => trivial) trivial (fun x y z wr _ hz => (fSub_calls a0 x y z wr hz).mono fun e w' ⟨he, hd⟩ => ⟨_, he, rfl, hd.below⟩) (c1 := c1) (c2 := c2) hr1 hr2 h
  have HF := Hd.mk hw
  clear hw hr1 hr2 h
  generalize l1.length = n1 at *
  generalize l2.length = n2 at *
  go_enter Try.func20, Try.ntmps20
  go_wp2_with fail
  refine HF.out.mono ?_
  rintro _ w2 ⟨v, rfl, hv, hE2⟩
  have HV := Hd.mk hv
  clear hv
  go_wp2_with fail
  go_ret
  exact ⟨_, rfl, HV.out, hE2⟩
set_option maxRecDepth 4000 in
theorem scale1_calls (w : World) {p k x y z : Int} {g : Nat} (hb : Bx w g (.int .u64 k)) (h : fMul p k x = some z) :
    Calls Try.prog 41 #[.int .u64 p, .int .u64 x, .int .u64 y, .pointer (some ⟨g, 0, none⟩)] w (Rets w fun _ v => v = .int .u64 z) := by
  have c1 := hb.cell
  have HF := Hd.mk (fMul_calls p k x z w h)
  clear hb h
  go_enter Try.func41, Try.ntmps41
  go_wp2_with fail
  refine HF.out.mono ?_
  rintro _ w2 ⟨rfl, hd⟩
  have hE := hd.below
  clear c1 hd
  go_wp2_with fail
  go_ret
  exact ⟨_, rfl, rfl, hE⟩
set_option maxRecDepth 4000 in
theorem shScale_calls (a0 a1 : Int) (A2 : Option Addr) (c2 : Nat) (l2 : List (List Int)) (r : List (List Int)) (w : World) (hr2 : Kd.C (Kd.slice 22 (Kd.int .u64)) w A2 l2.length l2) (h : matZ (fun x _ => fMul a0 a1 x) l2 l2 = some r) :
    Calls Try.prog 22 #[.int .u64 a0, .int .u64 a1, .slice A2 l2.length c2] w fun e w' => ∃ v0_ : Value, e = .returned v0_ ∧ Kd.S (Kd.slice 22 (Kd.int .u64)) 23 w' w.heap.size (fun _ => True) v0_ r ∧ Below w.heap.size w w' := by
  have hE := Ext.of_alloc w (.cells #[.int .u64 a1] 22)
  have hw := words_calls (w.alloc (.cells #[.int .u64 a1] 22)) 41 #[.pointer (some ⟨w.heap.size, 0, none⟩)] (fun _ _ => by rfl) (p := a0) (fun x _ => fMul a0 a1 x) (fun wr => Bx wr w.heap.size (.int .u64 a1)) (fun _ _ h hb => hb.ext h) (Bx.new w _ _)
    (fun x y z wr hb hz => scale1_calls wr hb hz) (c1 := c2) (c2 := c2) (Kd.C_below hr2 hE) (Kd.C_below hr2 hE) h
  have HF := Hd.mk hw
  have HE := Hd.mk hE
  clear hw hr2 h hE
  generalize l2.length = n2 at *
  go_enter Try.func22, Try.ntmps22
  go_wp2_with fail
  refine HF.out.mono ?_
  rintro _ w2 ⟨v, rfl, hv, hE2⟩
  have HV := Hd.mk (Kd.S_lower hv HE.out.size)
  have HE2 := Hd.mk (HE.out.trans hE2)
  clear hv hE2
  go_wp2_with fail
  go_ret
  exact ⟨_, rfl, HV.out, HE2.out⟩
end Go.Proofs.Ytiokpaknhbfenaa
