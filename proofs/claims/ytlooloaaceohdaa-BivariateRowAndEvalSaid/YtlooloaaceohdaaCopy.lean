/-
The builtin copy, from one row of whole numbers into another that the call owns.
-/
import Derived.Test.YtlooloaaceohdaaWWords
import Derived.Laws.CopyOwn
set_option linter.unusedVariables false
set_option linter.unusedSimpArgs false
namespace Go.Proofs.Ytlooloaaceohdaa
open Go.RowKit Go.Proofs.YtlooloaaceohdaaW.PrintWords
def copyL (xs ys : List Int) : List Int := ys.take xs.length ++ xs.drop ys.length
theorem copyL_length (xs ys : List Int) : (copyL xs ys).length = xs.length := by simp [copyL]; omega
theorem R_copy {P : Program} {ops : Array Oper} {rest : List Oper} {o : Oper} {a : Act} {Q : Exit → Act → World → Prop} {w0 W : World} (base : Nat) {k : IntKind} {e : Nat} (hgd : o.guard = none) (x y : Operand) (dT sT : TypeId)
    (ho : o.op = .call { callee := .builtin .copy, args := #[x, y], argTypes := #[dT, sT] }) (ht : P.underlying dT = some (.slice e)) (hsz : (P.info? e).map (·.size) = some 1)
    {v u : Value} {xs ys : List Int} {okv oku : Nat → Prop} (hx : a.eval x = v) (hy : a.eval y = u) (hv : Kd.R (Kd.int k) e W base okv v xs) (hu : Kd.R (Kd.int k) e W base oku u ys) (HB : Below base w0 W)
    (h : ∀ w1 z, Kd.R (Kd.int k) e w1 base okv v (copyL xs ys) → Below base w0 w1 → wpList P ops Q rest (a.put o.dst z) w1) : wpList P ops Q (o :: rest) a W := by
  obtain ⟨A, c, rfl, hac, hC⟩ := Kd.R_reads hu
  have hown := Kd.own_of_R hv
  have hok := hv.1
  have m1 : Nat.min ys.length xs.length ≤ ys.length := Nat.min_le_left _ _
  have m2 : Nat.min ys.length xs.length ≤ xs.length := Nat.min_le_right _ _
  have hcs : (encs (Value.int k) (ys.take xs.length)).length = Nat.min ys.length xs.length := by
    simp only [encs, List.length_map, List.length_take]
    exact Nat.min_comm _ _
  rcases hown.2 with ⟨rfl, h0⟩ | ⟨g, cap, cur, rfl, hg, hh, hnc, hcm, hcs2, htk⟩
  · have hx0 : xs = [] := List.eq_nil_of_length_eq_zero h0
    subst hx0
    refine wpList_copy_nothing hgd x y dT sT ho e ht hsz none A 0 0 ys.length c hx hy (by simp) ?_
    refine h _ _ ?_ HB
    simpa [copyL] using hv
  · rw [Nat.mul_one] at hcs2 htk
    refine wpList_copy_splice hgd x y dT sT ho e ht hsz (some ⟨g, 0, none⟩) A xs.length cap ys.length c hx hy g 0 cur.toList e (by simpa using hh) (encs (Value.int k) (ys.take xs.length)) hcs (fun hpos => ⟨rfl, ?_⟩) (by rw [hcs]; simp; omega) ?_ base w0 HB hg ?_
    · have hy0 : 0 < ys.length := by rw [hcs] at hpos; omega
      obtain ⟨ad, hA, _⟩ := hC.2.2 hy0
      refine ⟨ad, hA, fun j q hj => ?_⟩
      obtain ⟨hjl, rfl⟩ := List.getElem?_eq_some_iff.1 hj
      have hj2 : j < ys.length := by rw [hcs] at hjl; omega
      obtain ⟨ad', q1, q2⟩ := Kd.at_int hC (j : Int) (by omega) (by omega)
      rw [hA] at q1
      injection q1 with q1
      subst q1
      simpa [rd, hj2, encs] using q2
    · intro q hq
      obtain ⟨z, _, rfl⟩ := List.mem_map.1 hq
      rfl
    · intro w1 hh1 hb1
      refine h w1 _ (Kd.R_of_own ?_ hok) hb1
      have hl : (copyL xs ys).length = xs.length := copyL_length xs ys
      refine ⟨by simp [encs], .inr ⟨g, cap, (splice cur.toList 0 (encs (Value.int k) (ys.take xs.length))).toArray, by rw [hl], hg, hh1, by rw [hl]; exact hnc, hcm, ?_, ?_⟩⟩
      · have h1 := length_splice cur.toList 0 (encs (Value.int k) (ys.take xs.length)) (by rw [hcs]; simp; omega)
        simpa using h1.trans (by simpa using hcs2)
      · rw [hl, Nat.mul_one]
        have h1 : cur.toList = encs (Value.int k) xs ++ cur.toList.drop xs.length := by
          conv => lhs; rw [← List.take_append_drop xs.length cur.toList, htk]
        have hxl : (encs (Value.int k) xs).length = xs.length := by simp [encs]
        simp only [splice, List.take_zero, List.nil_append, Nat.zero_add, List.toList_toArray]
        rw [hcs]
        have h2 : cur.toList.drop (Nat.min ys.length xs.length) = (encs (Value.int k) xs).drop (Nat.min ys.length xs.length) ++ cur.toList.drop xs.length := by
          conv => lhs; rw [h1]
          rw [List.drop_append_of_le_length (by rw [hxl]; omega)]
        rw [h2, ← List.append_assoc]
        have h3 : (encs (Value.int k) (ys.take xs.length) ++ (encs (Value.int k) xs).drop (Nat.min ys.length xs.length)).length = xs.length := by
          rw [List.length_append, hcs, List.length_drop, hxl]; omega
        rw [List.take_append_of_le_length (by omega), List.take_of_length_le (by omega)]
        unfold copyL encs
        rw [List.map_append, ← List.map_drop]
        congr 2
        rcases Nat.le_total ys.length xs.length with h4 | h4
        · have h5 : Nat.min ys.length xs.length = ys.length := Nat.min_eq_left h4
          rw [h5]
        · have h5 : Nat.min ys.length xs.length = xs.length := Nat.min_eq_right h4
          rw [h5, List.drop_length, List.drop_of_length_le h4]
end Go.Proofs.Ytlooloaaceohdaa
