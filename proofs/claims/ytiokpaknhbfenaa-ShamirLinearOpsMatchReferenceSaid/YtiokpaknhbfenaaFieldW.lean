/-
A part of this claim's proof (FieldW): lemmas that the text of the law stands on.
-/
import Derived.WalkKit
import Derived.Test.YtiokpaknhbfenaaWalk
import Derived.Laws.Externs
import Derived.Shelf.Bits.Mul64
section
set_option linter.unusedVariables false
namespace Go.Proofs.Ytiokpaknhbfenaa
/-! ### the folding of a number modulo 2^q - 1, in plain numbers -/
theorem two64 (q : Nat) (hq : q ≤ 64) : 2 ^ (64 - q) * 2 ^ q = 18446744073709551616 := by
  rw [← Nat.pow_add, show 64 - q + q = 64 by omega]
theorem fold_or (X q : Nat) (hq : q ≤ 64) (h : X % 18446744073709551616 / 2 ^ q < 18446744073709551616) :
    (X % 18446744073709551616 / 2 ^ q) ||| ((X / 18446744073709551616 * 2 ^ (64 - q)) % 18446744073709551616) = X / 2 ^ q % 18446744073709551616 := by
  have e := two64 q hq
  have hp : 0 < 2 ^ q := Nat.two_pow_pos q
  have hr : 0 < 2 ^ (64 - q) := Nat.two_pow_pos _
  have e1 : (X / 18446744073709551616 * 2 ^ (64 - q)) % 18446744073709551616 = 2 ^ (64 - q) * (X / 18446744073709551616 % 2 ^ q) := by
    conv => lhs; rw [← e, Nat.mul_comm (X / (2 ^ (64 - q) * 2 ^ q))]
    rw [Nat.mul_mod_mul_left, e]
  have hlt : X % 18446744073709551616 / 2 ^ q < 2 ^ (64 - q) := by
    rw [Nat.div_lt_iff_lt_mul hp, e]; exact Nat.mod_lt _ (by omega)
  rw [e1, Nat.or_comm, ← Nat.two_pow_add_eq_or_of_lt hlt]
  -- X = 2^64 a + b
  have hX : X = 18446744073709551616 * (X / 18446744073709551616) + X % 18446744073709551616 := (Nat.div_add_mod X _).symm
  generalize X / 18446744073709551616 = a at *
  generalize hb : X % 18446744073709551616 = b at *
  have hd : X / 2 ^ q = 2 ^ (64 - q) * a + b / 2 ^ q := by
    rw [hX, ← e, Nat.mul_assoc, Nat.mul_left_comm, Nat.mul_add_div hp]
  rw [hd]
  have hm : a % 2 ^ q < 2 ^ q := Nat.mod_lt _ hp
  have hfit : 2 ^ (64 - q) * (a % 2 ^ q) + b / 2 ^ q < 18446744073709551616 := by
    calc 2 ^ (64 - q) * (a % 2 ^ q) + b / 2 ^ q < 2 ^ (64 - q) * (a % 2 ^ q) + 2 ^ (64 - q) := by omega
      _ = 2 ^ (64 - q) * (a % 2 ^ q + 1) := by rw [Nat.mul_add, Nat.mul_one]
      _ ≤ 2 ^ (64 - q) * 2 ^ q := Nat.mul_le_mul_left _ hm
      _ = 18446744073709551616 := e
  have hsplit : 2 ^ (64 - q) * a + b / 2 ^ q = 18446744073709551616 * (a / 2 ^ q) + (2 ^ (64 - q) * (a % 2 ^ q) + b / 2 ^ q) := by
    rw [← Nat.add_assoc]; congr 1
    rw [← e, Nat.mul_assoc, ← Nat.mul_add, Nat.div_add_mod]
  rw [hsplit, Nat.mul_add_mod, Nat.mod_eq_of_lt hfit]
theorem fold_hi (X q : Nat) : X / 18446744073709551616 / 2 ^ q = X / 2 ^ q / 18446744073709551616 := by
  rw [Nat.div_div_eq_div_mul, Nat.div_div_eq_div_mul, Nat.mul_comm]
theorem fold_low (X q : Nat) (hq : q ≤ 64) : (X % 18446744073709551616) % 2 ^ q = X % 2 ^ q := by
  rw [← two64 q hq]; exact Nat.mod_mul_left_mod ..
theorem fold_and (x q : Nat) : x &&& (2 ^ q - 1) = x % 2 ^ q := Nat.and_two_pow_sub_one_eq_mod ..
/-- the next number -/
def foldN (q X : Nat) : Nat := X / 2 ^ q + X % 2 ^ q
theorem foldN_lt (q X : Nat) (hq : 1 ≤ q) (h : 2 ^ q ≤ X) : foldN q X < X := by
  have h2 : 2 ≤ 2 ^ q := by
    calc 2 = 2 ^ 1 := rfl
      _ ≤ 2 ^ q := Nat.pow_le_pow_right (by omega) hq
  have hd := Nat.div_add_mod X (2 ^ q)
  have hpos : 0 < X / 2 ^ q := Nat.div_pos h (by omega)
  have : 2 * (X / 2 ^ q) ≤ 2 ^ q * (X / 2 ^ q) := Nat.mul_le_mul_right _ h2
  unfold foldN; omega
theorem foldN_mod (q X : Nat) (hq : 1 ≤ q) : foldN q X % (2 ^ q - 1) = X % (2 ^ q - 1) := by
  have h2 : 2 ≤ 2 ^ q := by
    calc 2 = 2 ^ 1 := rfl
      _ ≤ 2 ^ q := Nat.pow_le_pow_right (by omega) hq
  have hd := Nat.div_add_mod X (2 ^ q)
  conv => rhs; rw [← hd]
  unfold foldN
  have e : 2 ^ q * (X / 2 ^ q) = (2 ^ q - 1) * (X / 2 ^ q) + X / 2 ^ q := by
    conv => lhs; rw [show 2 ^ q = (2 ^ q - 1) + 1 by omega, Nat.add_mul, Nat.one_mul]
    rw [show 2 ^ q - 1 + 1 = 2 ^ q by omega]
  rw [e, Nat.add_assoc, Nat.mul_add_mod]
end Go.Proofs.Ytiokpaknhbfenaa
end
section
set_option linter.unusedVariables false
namespace Go.Proofs.Ytiokpaknhbfenaa
theorem wrapU (n : Nat) (h : n < 18446744073709551616) : IntKind.u64.wrap (n : Int) = n := by
  simp [IntKind.wrap, IntKind.signed, IntKind.bits]; omega
theorem mul61_split (a1 a0 b1 b0 c1 c0 : Nat) (h : a1 * b0 + a0 * b1 = 1073741824 * c1 + c0) :
    (2147483648 * a1 + a0) * (2147483648 * b1 + b0) = (2 * (a1 * b1) + c1 + c0 * 2147483648 + a0 * b0) + 2305843009213693951 * (2 * (a1 * b1) + c1) := by
  have e : (2147483648 * a1 + a0) * (2147483648 * b1 + b0) = 4611686018427387904 * (a1 * b1) + 2147483648 * (a1 * b0 + a0 * b1) + a0 * b0 := by grind
  rw [e, h]
  generalize a1 * b1 = X
  generalize a0 * b0 = W
  omega
/-- the product modulo 2^61 - 1 out of halves of 31 bits -/
theorem mul61 (a b : Nat) (ha : a < 2305843009213693951) (hb : b < 2305843009213693951) :
    (IntKind.u64.wrap (IntKind.u64.wrap (IntKind.u64.wrap (IntKind.u64.wrap (2 * ((a : Int) / 2147483648) * ((b : Int) / 2147483648)) +
        IntKind.u64.wrap (IntKind.u64.wrap ((a : Int) / 2147483648 * ((b : Int) % 2147483648)) + IntKind.u64.wrap ((a : Int) % 2147483648 * ((b : Int) / 2147483648))) / 1073741824) +
        IntKind.u64.wrap ((IntKind.u64.wrap (IntKind.u64.wrap ((a : Int) / 2147483648 * ((b : Int) % 2147483648)) + IntKind.u64.wrap ((a : Int) % 2147483648 * ((b : Int) / 2147483648)))).tmod 1073741824 * 2147483648)) +
        IntKind.u64.wrap ((a : Int) % 2147483648 * ((b : Int) % 2147483648)))).tmod 2305843009213693951 = ((a * b % 2305843009213693951 : Nat) : Int) := by
  have ea1 : (a : Int) / 2147483648 = ((a / 2147483648 : Nat) : Int) := by simp
  have ea0 : (a : Int) % 2147483648 = ((a % 2147483648 : Nat) : Int) := by simp
  have eb1 : (b : Int) / 2147483648 = ((b / 2147483648 : Nat) : Int) := by simp
  have eb0 : (b : Int) % 2147483648 = ((b % 2147483648 : Nat) : Int) := by simp
  rw [ea1, ea0, eb1, eb0]
  have hA : a = 2147483648 * (a / 2147483648) + a % 2147483648 := by omega
  have hB : b = 2147483648 * (b / 2147483648) + b % 2147483648 := by omega
  have ha1 : a / 2147483648 ≤ 1073741823 := by omega
  have ha0 : a % 2147483648 ≤ 2147483647 := by omega
  have hb1 : b / 2147483648 ≤ 1073741823 := by omega
  have hb0 : b % 2147483648 ≤ 2147483647 := by omega
  generalize a / 2147483648 = a1 at *
  generalize a % 2147483648 = a0 at *
  generalize b / 2147483648 = b1 at *
  generalize b % 2147483648 = b0 at *
  have k1 : a1 * b1 ≤ 1073741823 * 1073741823 := Nat.mul_le_mul ha1 hb1
  have k2 : a1 * b0 ≤ 1073741823 * 2147483647 := Nat.mul_le_mul ha1 hb0
  have k3 : a0 * b1 ≤ 2147483647 * 1073741823 := Nat.mul_le_mul ha0 hb1
  have k4 : a0 * b0 ≤ 2147483647 * 2147483647 := Nat.mul_le_mul ha0 hb0
  have e2 : (2 : Int) * (a1 : Int) * (b1 : Int) = ((2 * (a1 * b1) : Nat) : Int) := by simp [Int.mul_assoc]
  rw [e2, ← Int.natCast_mul a1 b0, ← Int.natCast_mul a0 b1, ← Int.natCast_mul a0 b0, wrapU (2 * (a1 * b1)) (by omega), wrapU (a1 * b0) (by omega), wrapU (a0 * b1) (by omega), wrapU (a0 * b0) (by omega),
    ← Int.natCast_add, wrapU (a1 * b0 + a0 * b1) (by omega)]
  have hsp := mul61_split a1 a0 b1 b0 ((a1 * b0 + a0 * b1) / 1073741824) ((a1 * b0 + a0 * b1) % 1073741824) (by omega)
  rw [← hA, ← hB] at hsp
  have hq : ((a1 * b0 + a0 * b1 : Nat) : Int) / 1073741824 = (((a1 * b0 + a0 * b1) / 1073741824 : Nat) : Int) := by simp
  have hr : ((a1 * b0 + a0 * b1 : Nat) : Int).tmod 1073741824 = (((a1 * b0 + a0 * b1) % 1073741824 : Nat) : Int) := by
    rw [Int.tmod_eq_emod_of_nonneg (by omega)]; simp
  rw [hq, hr]
  have hc1 : (a1 * b0 + a0 * b1) / 1073741824 ≤ 4294967296 := by omega
  have hc0 : (a1 * b0 + a0 * b1) % 1073741824 ≤ 1073741823 := by omega
  generalize (a1 * b0 + a0 * b1) / 1073741824 = c1 at *
  generalize (a1 * b0 + a0 * b1) % 1073741824 = c0 at *
  have e3 : (c0 : Int) * 2147483648 = ((c0 * 2147483648 : Nat) : Int) := by simp
  rw [e3, wrapU (c0 * 2147483648) (by omega), ← Int.natCast_add, wrapU _ (by omega), ← Int.natCast_add, wrapU _ (by omega), ← Int.natCast_add, wrapU _ (by omega), Int.tmod_eq_emod_of_nonneg (by omega)]
  rw [hsp, Nat.add_mul_mod_self_left]
  simp
end Go.Proofs.Ytiokpaknhbfenaa
end
section
set_option linter.unusedVariables false
namespace Go.Proofs.Ytiokpaknhbfenaa
open Go.RowKit

set_option maxRecDepth 4000 in
set_option maxHeartbeats 400000 in
theorem len64_calls (p q : Nat) (w : World) (h : (p = 31 ∧ q = 5) ∨ (p = 127 ∧ q = 7) ∨ (p = 8191 ∧ q = 13) ∨ (p = 131071 ∧ q = 17) ∨ (p = 524287 ∧ q = 19) ∨ (p = 2147483647 ∧ q = 31) ∨ (p = 2305843009213693951 ∧ q = 61)) :
    Calls Try.prog 84 #[.int .u64 p] w (Just (.int .i64 q) w) := by
  rcases h with ⟨rfl, rfl⟩ | ⟨rfl, rfl⟩ | ⟨rfl, rfl⟩ | ⟨rfl, rfl⟩ | ⟨rfl, rfl⟩ | ⟨rfl, rfl⟩ | ⟨rfl, rfl⟩
  all_goals
    go_enter Try.func84, Try.ntmps84
    go_wp2_with fail
    go_ret
    exact ⟨ret_int (by decide +kernel), rfl⟩
theorem width_calls (p q : Nat) (w : World) (h : (p = 31 ∧ q = 5) ∨ (p = 127 ∧ q = 7) ∨ (p = 8191 ∧ q = 13) ∨ (p = 131071 ∧ q = 17) ∨ (p = 524287 ∧ q = 19) ∨ (p = 2147483647 ∧ q = 31) ∨ (p = 2305843009213693951 ∧ q = 61)) :
    Calls Try.prog 78 #[.int .u64 p] w (Just (.int .u64 q) w) := by
  have hq : q ≤ 61 := by omega
  have H : Hd _ := ⟨h⟩
  clear h
  go_enter Try.func78, Try.ntmps78
  go_wp2_with fail
  refine (len64_calls p q _ H.out).mono ?_
  rintro e w' ⟨rfl, rfl⟩
  go_wp2_with fail
  go_ret
  exact ⟨rfl, rfl⟩

theorem run_Add64 (x y : Nat) (w : World) : (callFunc 79 #[.int .u64 x, .int .u64 y, .int .u64 0]).run Try.prog w =
    .ok (.value (.tuple #[.int .u64 (((x + y) % 18446744073709551616 : Nat) : Int), .int .u64 (((x + y) / 18446744073709551616 : Nat) : Int)])) w := by
  rw [run_callFunc_extern Try.func79 (by kernel_rfl) (by kernel_rfl) (by kernel_rfl) (e := add64Entry) (by kernel_rfl), run_add64 x y 0 (by omega) (by omega) (by omega) (by omega)]
  simp only [Result.andThen]
  congr 5 <;> omega
/-- the number in the two words is congruent to R -/
structure FoldInv (p R hi lo : Nat) : Prop where
  hiLt : hi < 18446744073709551616
  loLt : lo < 18446744073709551616
  mod : (hi * 18446744073709551616 + lo) % p = R
theorem carry_sum (H X M : Nat) : (H + X / M) * M + X % M = M * H + X := by
  rw [Nat.add_mul, Nat.add_assoc, Nat.div_add_mod', Nat.mul_comm]
/-- what one round does, in plain numbers -/
theorem fold_round (p q R hi lo : Nat) (hpq : p = 2 ^ q - 1) (hq1 : 5 ≤ q) (hq2 : q ≤ 61) (h : FoldInv p R hi lo) (hbig : ¬ (hi = 0 ∧ lo ≤ p)) :
    ∃ H L B C S : Nat, bits .or .u64 ((lo : Int) / 2 ^ q) (IntKind.u64.wrap ((hi : Int) * 2 ^ (64 - q))) = (L : Int) ∧ bits .and .u64 (lo : Int) (p : Int) = (B : Int) ∧
      (hi : Int) / 2 ^ q = (H : Int) ∧ L < 18446744073709551616 ∧ B < 18446744073709551616 ∧ H < 18446744073709551615 ∧ C ≤ 1 ∧ (L + B) % 18446744073709551616 = S ∧ (L + B) / 18446744073709551616 = C ∧
      FoldInv p R (H + C) S ∧ (H + C) * 18446744073709551616 + S < hi * 18446744073709551616 + lo := by
  obtain ⟨h1, h2, h3⟩ := h
  generalize hY : hi * 18446744073709551616 + lo = Y at *
  have ehi : hi = Y / 18446744073709551616 := by omega
  have elo : lo = Y % 18446744073709551616 := by omega
  have hpos : 0 < 2 ^ q := Nat.two_pow_pos q
  have hq5 : 32 ≤ 2 ^ q := by
    calc 32 = 2 ^ 5 := rfl
      _ ≤ 2 ^ q := Nat.pow_le_pow_right (by omega) hq1
  have hq64 : 2 ^ q ≤ 2305843009213693952 := by
    calc 2 ^ q ≤ 2 ^ 61 := Nat.pow_le_pow_right (by omega) hq2
      _ = 2305843009213693952 := rfl
  have hstep : 2 ^ q ≤ Y := by omega
  have hlt : Y % 18446744073709551616 / 2 ^ q < 18446744073709551616 := Nat.lt_of_le_of_lt (Nat.div_le_self _ _) (by omega)
  have hB : Y % 2 ^ q < 2 ^ q := Nat.mod_lt _ hpos
  have hdiv : Y / 2 ^ q ≤ Y / 32 := Nat.div_le_div_left hq5 (by omega)
  refine ⟨Y / 2 ^ q / 18446744073709551616, Y / 2 ^ q % 18446744073709551616, Y % 2 ^ q, _, _, ?_, ?_, ?_, by omega, by omega, by omega, ?_, rfl, rfl, ?_, ?_⟩
  · have e1 : ((lo : Int) / 2 ^ q) = ((Y % 18446744073709551616 / 2 ^ q : Nat) : Int) := by rw [elo]; simp
    have e2 : IntKind.u64.wrap ((hi : Int) * 2 ^ (64 - q)) = ((Y / 18446744073709551616 * 2 ^ (64 - q) % 18446744073709551616 : Nat) : Int) := by
      rw [ehi]; simp [IntKind.wrap, IntKind.signed, IntKind.bits]
    rw [e1, e2, u64_or_nat _ _ hlt (Nat.mod_lt _ (by omega)), fold_or Y q (by omega) hlt]
  · rw [u64_and_nat _ _ (by omega) (by omega), hpq, fold_and, elo, fold_low _ _ (by omega)]
  · rw [ehi, ← fold_hi]; simp
  · omega
  all_goals
    have hN : foldN q Y = 18446744073709551616 * (Y / 2 ^ q / 18446744073709551616) + Y / 2 ^ q % 18446744073709551616 + Y % 2 ^ q := by
      unfold foldN; rw [Nat.div_add_mod]
    have hLlt : Y / 2 ^ q % 18446744073709551616 < 18446744073709551616 := Nat.mod_lt _ (by omega)
    have hHlt : Y / 2 ^ q / 18446744073709551616 < 18446744073709551615 := by omega
    have hBlt : Y % 2 ^ q < 18446744073709551616 := by omega
    have hm := foldN_mod q Y (by omega)
    have hl := foldN_lt q Y (by omega) hstep
    rw [← hpq] at hm
    generalize Y / 2 ^ q / 18446744073709551616 = H at *
    generalize Y / 2 ^ q % 18446744073709551616 = L at *
    generalize Y % 2 ^ q = B at *
    generalize foldN q Y = Z at *
  · have e := (carry_sum H (L + B) 18446744073709551616).trans ((Nat.add_assoc _ _ _).symm.trans hN.symm)
    have h4 : ∀ u, u = Z → u % p = R := fun u hu => by subst hu; exact hm.trans h3
    exact ⟨by omega, Nat.mod_lt _ (by omega), h4 _ e⟩
  · have e := (carry_sum H (L + B) 18446744073709551616).trans ((Nat.add_assoc _ _ _).symm.trans hN.symm)
    exact Nat.lt_of_le_of_lt (Nat.le_of_eq e) hl
set_option maxRecDepth 4000 in
set_option maxHeartbeats 1000000 in
theorem fold_calls (p q hi lo R : Nat) (w : World) (h : Hd ((p = 31 ∧ q = 5) ∨ (p = 127 ∧ q = 7) ∨ (p = 8191 ∧ q = 13) ∨ (p = 131071 ∧ q = 17) ∨ (p = 524287 ∧ q = 19) ∨ (p = 2147483647 ∧ q = 31) ∨ (p = 2305843009213693951 ∧ q = 61)))
    (hpq : Hd (p = 2 ^ q - 1)) (hq1 : 5 ≤ q) (hq2 : q ≤ 61) (hp : p < 4611686018427387904) (hX : FoldInv p R hi lo) :
    Calls Try.prog 65 #[.int .u64 p, .int .u64 hi, .int .u64 lo] w (Just (.int .u64 R) w) := by
  have hi64 := hX.hiLt
  have lo64 := hX.loLt
  go_enter Try.func65, Try.ntmps65
  go_wp2_with fail
  refine (width_calls p q _ h.out).mono ?_
  rintro e w' ⟨rfl, rfl⟩
  go_wp2_with fail
  go_loop [1, 2, 8, 9, 10] (fun h l _ _ _ => ∃ hi lo : Nat, FoldInv p R hi lo ∧ h = .int .u64 hi ∧ l = .int .u64 lo) (fun h l _ _ _ => ((intOf h) * 18446744073709551616 + intOf l).toNat)
  case atStart => exact ⟨hi, lo, hX, rfl, rfl⟩
  case round =>
    clear hi64 lo64
    obtain ⟨hi, lo, hY, rfl, rfl⟩ := hrel
    have hi64 := hY.hiLt
    have lo64 := hY.loLt
    by_cases hc : Hd (hi = 0 ∧ lo ≤ p)
    · obtain ⟨⟨rfl, hlo⟩⟩ := hc
      by_cases he : Hd (lo = p)
      · have hb : (((lo : Nat) : Int) == ((p : Nat) : Int)) = true := by rw [he.out]; simp
        go_wp2_with fail
        go_ret
        refine ⟨ret_int ?_, rfl⟩
        have h1 := hY.mod; have h4 := he.out
        rw [← h1, h4]; simp
      · have hb : (((lo : Nat) : Int) == ((p : Nat) : Int)) = false := by
          rw [beq_eq_false_iff_ne]; intro h; exact he ⟨by omega⟩
        go_wp2_with fail
        go_ret
        refine ⟨ret_int ?_, rfl⟩
        have h1 := hY.mod
        have hne : lo ≠ p := fun h => he ⟨h⟩
        rw [Nat.zero_mul, Nat.zero_add, Nat.mod_eq_of_lt (by omega)] at h1
        show (lo : Int) = R
        rw [h1]
    · obtain ⟨H, L, B, C, S1, f1, f2, f3, hL, hB, hH, hC, f4, f5, hinv, hless⟩ := fold_round p q R hi lo hpq.out hq1 hq2 hY (fun h => hc ⟨h⟩)
      have hadd := run_Add64 L B w'
      rw [f4, f5] at hadd
      clear f4 f5
      have F1 := Hd.mk f1; have F2 := Hd.mk f2; have F3 := Hd.mk f3; have HA := Hd.mk hadd; have HL := Hd.mk hless
      clear f1 f2 f3 hadd hless
      by_cases hz : Hd (hi = 0)
      all_goals
        first
          | (have hzb : (((hi : Nat) : Int) != 0) = false := by simp [hz.out]
             have hlt : p < lo := by
               have h4 : ¬ (hi = 0 ∧ lo ≤ p) := fun h => hc ⟨h⟩
               have := hz.out; omega)
          | (have hzb : (((hi : Nat) : Int) != 0) = true := by
               rw [bne_iff_ne]; intro h; exact hz ⟨by omega⟩)
        go_wp2_with fail
        rw [F1.out, F2.out, F3.out, HA.out]
        go_wp2_with fail
        go_round
        case rel => exact ⟨H + C, S1, hinv, by go_num, rfl⟩
        case measure =>
          have h1 := HL.out
          simp [intOf]; omega

/-- the exponents of the supported primes -/
theorem Sup.exp {p : Nat} (h : Sup p) : ∃ q, ((p = 31 ∧ q = 5) ∨ (p = 127 ∧ q = 7) ∨ (p = 8191 ∧ q = 13) ∨ (p = 131071 ∧ q = 17) ∨ (p = 524287 ∧ q = 19) ∨ (p = 2147483647 ∧ q = 31) ∨ (p = 2305843009213693951 ∧ q = 61)) ∧
    p = 2 ^ q - 1 ∧ 5 ≤ q ∧ q ≤ 61 := by
  rcases h with rfl | rfl | rfl | rfl | rfl | rfl | rfl
  · exact ⟨5, by omega, by decide, by omega, by omega⟩
  · exact ⟨7, by omega, by decide, by omega, by omega⟩
  · exact ⟨13, by omega, by decide, by omega, by omega⟩
  · exact ⟨17, by omega, by decide, by omega, by omega⟩
  · exact ⟨19, by omega, by decide, by omega, by omega⟩
  · exact ⟨31, by omega, by decide, by omega, by omega⟩
  · exact ⟨61, by omega, by decide, by omega, by omega⟩

theorem foldS_calls {p : Nat} (hs : Sup p) (hi lo R : Nat) (w : World) (hX : FoldInv p R hi lo) :
    Calls Try.prog 65 #[.int .u64 p, .int .u64 hi, .int .u64 lo] w (Just (.int .u64 R) w) := by
  obtain ⟨q, h1, h2, h3, h4⟩ := hs.exp
  exact fold_calls p q hi lo R w ⟨h1⟩ ⟨h2⟩ h3 h4 (by have := hs.lt; omega) hX
theorem add_calls {p : Nat} (hs : Sup p) {a b : Int} {x y : Fin p} (ha : a = (x.val : Nat)) (hb : b = (y.val : Nat)) (w : World) :
    Calls Try.prog 38 #[.int .u64 p, .int .u64 a, .int .u64 b] w (Just (.int .u64 ((x + y).val : Nat)) w) := by
  subst ha hb
  have hp := hs.lt
  have hx := x.isLt
  have hy := y.isLt
  have hv : Hd ((x + y).val = (x.val + y.val) % p) := ⟨Fin.val_add x y⟩
  generalize (x + y).val = R at *
  generalize x.val = a at *
  generalize y.val = b at *
  go_enter Try.func38, Try.ntmps38
  go_wp2_with fail
  refine (foldS_calls hs 0 (a + b) R _ ⟨by omega, by omega, by rw [Nat.zero_mul, Nat.zero_add, hv.out]⟩).mono ?_
  rintro e w' ⟨rfl, rfl⟩
  go_wp2_with fail
  go_ret
  exact ⟨rfl, rfl⟩
end Go.Proofs.Ytiokpaknhbfenaa
end
section
set_option linter.unusedVariables false
namespace Go.Proofs.Ytiokpaknhbfenaa
open Go.RowKit

theorem neg_calls {p : Nat} [NeZero p] (hs : Sup p) {a : Int} {x : Fin p} (ha : a = (x.val : Nat)) (w : World) :
    Calls Try.prog 51 #[.int .u64 p, .int .u64 a] w (Just (.int .u64 ((-x).val : Nat)) w) := by
  subst ha
  have hp := hs.lt
  have hx := x.isLt
  have hv : Hd ((-x).val = if x.val = 0 then 0 else p - x.val) := ⟨by
    rw [Fin.neg_def]
    show (p - x.val) % p = _
    split
    · rename_i h; rw [h]; simp
    · exact Nat.mod_eq_of_lt (by omega)⟩
  generalize (-x).val = R at *
  generalize x.val = b at *
  by_cases h0 : b = 0
  · subst h0
    go_enter Try.func51, Try.ntmps51
    go_wp2_with fail
    go_ret
    exact ⟨ret_int (by have := hv.out; simp at this; omega), rfl⟩
  · have hb : (((b : Nat) : Int) == 0) = false := by simp [h0]
    have H0 := Hd.mk h0
    clear h0
    go_enter Try.func51, Try.ntmps51
    go_wp2_with fail
    go_ret
    exact ⟨ret_int (by have := hv.out; rw [if_neg H0.out] at this; omega), rfl⟩
theorem sub_calls {p : Nat} [NeZero p] (hs : Sup p) {a b : Int} {x y : Fin p} (ha : a = (x.val : Nat)) (hb : b = (y.val : Nat)) (w : World) :
    Calls Try.prog 40 #[.int .u64 p, .int .u64 a, .int .u64 b] w (Just (.int .u64 ((x - y).val : Nat)) w) := by
  subst ha hb
  go_enter Try.func40, Try.ntmps40
  go_wp2_with fail
  refine (neg_calls hs (x := y) rfl _).mono ?_
  rintro e w' ⟨rfl, rfl⟩
  go_wp2_with fail
  refine (add_calls hs (x := x) (y := -y) rfl rfl _).mono ?_
  rintro e w' ⟨rfl, rfl⟩
  go_wp2_with fail
  go_ret
  exact ⟨by rw [show x - y = x + -y by grind]; rfl, rfl⟩
def lays264_ren : Go.Shelf.Ren := ⟨fun | 264 => 66 | n => n, fun | 53 => 22 | 46 => 68 | n => n, fun | n => n⟩
theorem lays264 : Go.Proofs.Lays.n264 Try.prog lays264_ren := {
  mixed := by kernel_rfl
  f264 := Try.func66.trans (congrArg some (by kernel_rfl))
  t46 := Try.underlying68
  a46 := Try.isAgg68
  z46 := Try.sizeOf68
  v46 := Try.zeroValue68
  t53 := Try.underlying22
  a53 := Try.isAgg22
  z53 := Try.sizeOf22
  v53 := Try.zeroValue22 }
theorem mul_calls {p : Nat} [NeZero p] (hs : Sup p) {a b : Int} {x y : Fin p} (ha : a = (x.val : Nat)) (hb : b = (y.val : Nat)) (w : World) :
    Calls Try.prog 42 #[.int .u64 p, .int .u64 a, .int .u64 b] w (Just (.int .u64 ((x * y).val : Nat)) w) := by
  subst ha hb
  have hp := hs.lt
  have hx := x.isLt
  have hy := y.isLt
  have hv : Hd ((x * y).val = (x.val * y.val) % p) := ⟨Fin.val_mul x y⟩
  have hxy : Hd (x.val * y.val < 5316911983139663491615228241121378304) := ⟨by
    calc x.val * y.val ≤ 2305843009213693951 * 2305843009213693951 := Nat.mul_le_mul (by omega) (by omega)
      _ < 5316911983139663491615228241121378304 := by decide⟩
  have hm := Go.Proofs.Any.bits_Mul64 lays264 x.val y.val (by omega) (by omega) w
  have hinv : FoldInv p (x * y).val (x.val * y.val / 18446744073709551616) (x.val * y.val % 18446744073709551616) :=
    ⟨by have := hxy.out; omega, by omega, by rw [Nat.div_add_mod']; exact hv.out.symm⟩
  generalize (x * y).val = R at *
  generalize x.val * y.val / 18446744073709551616 = H at *
  generalize x.val * y.val % 18446744073709551616 = L at *
  generalize x.val = a at *
  generalize y.val = b at *
  have HM := Hd.mk hm
  clear hm
  go_enter Try.func42, Try.ntmps42
  go_wp2_with fail
  refine HM.out.mono ?_
  rintro e w' ⟨rfl, rfl⟩
  go_wp2_with fail
  refine (foldS_calls hs H L R _ hinv).mono ?_
  rintro e w' ⟨rfl, rfl⟩
  go_wp2_with fail
  go_ret
  exact ⟨rfl, rfl⟩

/-! ### powers by squaring -/
theorem fpow_half {p : Nat} [NeZero p] (r a : Fin p) (n : Nat) : (if n % 2 = 1 then r * a else r) * fpow (a * a) (n / 2) = r * fpow a n := by
  by_cases h : n % 2 = 1
  · rw [if_pos h]; conv => rhs; rw [show n = 2 * (n / 2) + 1 by omega, fpow_succ, fpow_two_mul]
    grind
  · rw [if_neg h]; conv => rhs; rw [show n = 2 * (n / 2) by omega, fpow_two_mul]
set_option maxRecDepth 4000 in
set_option maxHeartbeats 400000 in
theorem pow_calls {p : Nat} [NeZero p] (hs : Sup p) {a n : Int} {x : Fin p} {k : Nat} (ha : a = (x.val : Nat)) (hn : n = (k : Nat)) (hk : k < 4611686018427387904) (w : World) :
    Calls Try.prog 82 #[.int .u64 p, .int .u64 a, .int .u64 n] w (Just (.int .u64 ((fpow x k).val : Nat)) w) := by
  subst ha hn
  have h1v := Hd.mk hs.one_val
  obtain ⟨R, hR⟩ : ∃ R, R = fpow x k := ⟨_, rfl⟩
  rw [← hR]
  have hHR : Hd ((1 : Fin p) * fpow x k = R) := ⟨by rw [hR]; grind⟩
  clear hR
  go_enter Try.func82, Try.ntmps82
  go_wp2_with fail
  go_loop [1, 2, 7] (fun a n r => ∃ (x r' : Fin p) (k : Nat), k < 4611686018427387904 ∧ Hd (r' * fpow x k = R) ∧ a = .int .u64 (x.val : Nat) ∧ n = .int .u64 (k : Nat) ∧ r = .int .u64 (r'.val : Nat)) (fun _ n _ => (intOf n).toNat)
  case atStart => exact ⟨x, 1, k, hk, hHR, rfl, rfl, by rw [h1v.out]; rfl⟩
  case round =>
    clear hHR hk
    obtain ⟨x, r', k, hk, hR, rfl, rfl, rfl⟩ := hrel
    by_cases h0 : 0 < k
    · have hb : bits .and .u64 ((k : Nat) : Int) 1 = ((k % 2 : Nat) : Int) := by
        have := u64_and_nat k 1 (by omega) (by omega)
        rw [show ((1 : Nat) : Int) = 1 from rfl] at this
        rw [this, show (1 : Nat) = 2 ^ 1 - 1 from rfl, fold_and]
      have hstep : Hd ((if k % 2 = 1 then r' * x else r') * fpow (x * x) (k / 2) = R) := ⟨by rw [fpow_half]; exact hR.out⟩
      by_cases h2 : k % 2 = 1
      · have hb1 : (((bits .and .u64 ((k : Nat) : Int) 1 : Int)) == 1) = true := by rw [hb, h2]; rfl
        rw [if_pos h2] at hstep
        clear hb h2
        go_wp2_with fail
        refine (mul_calls hs (x := r') (y := x) rfl rfl _).mono ?_
        rintro e w' ⟨rfl, rfl⟩
        go_wp2_with fail
        refine (mul_calls hs (x := x) (y := x) rfl rfl _).mono ?_
        rintro e w' ⟨rfl, rfl⟩
        go_wp2_with fail
        go_round
        case rel => exact ⟨x * x, r' * x, k / 2, by omega, hstep, rfl, by go_num, rfl⟩
        case measure => simp [intOf]; omega
      · have hb1 : (((bits .and .u64 ((k : Nat) : Int) 1 : Int)) == 1) = false := by rw [hb, beq_eq_false_iff_ne]; omega
        rw [if_neg h2] at hstep
        clear hb h2
        go_wp2_with fail
        refine (mul_calls hs (x := x) (y := x) rfl rfl _).mono ?_
        rintro e w' ⟨rfl, rfl⟩
        go_wp2_with fail
        go_round
        case rel => exact ⟨x * x, r', k / 2, by omega, hstep, rfl, by go_num, rfl⟩
        case measure => simp [intOf]; omega
    · obtain rfl : k = 0 := by omega
      go_wp2_with fail
      go_ret
      refine ⟨ret_int ?_, rfl⟩
      have := hR.out
      rw [fpow_zero] at this
      rw [← this, show r' * 1 = r' by grind]
theorem finv_zero {p : Nat} [NeZero p] (hs : Sup p) : finv (0 : Fin p) = 0 := by
  have := hs.two_lt
  unfold finv; rw [show p - 2 = (p - 3) + 1 by omega, fpow_succ]; grind
def invErr {p : Nat} [NeZero p] (x : Fin p) : Int := if x = 0 then 8 else 0
theorem inv_calls {p : Nat} [NeZero p] (hs : Sup p) {a : Int} {x : Fin p} (ha : a = (x.val : Nat)) (w : World) :
    Calls Try.prog 71 #[.int .u64 p, .int .u64 a] w (Just (.tuple #[.int .u64 ((finv x).val : Nat), .int .i64 (invErr x)]) w) := by
  subst ha
  have hp := hs.lt
  have hp2 := hs.two_lt
  by_cases h0 : x = 0
  · subst h0
    have e1 : (finv (0 : Fin p)).val = 0 := by rw [finv_zero hs]; rfl
    rw [e1]
    rw [show invErr (0 : Fin p) = 8 by simp [invErr], show ((0 : Fin p).val : Nat) = 0 from rfl]
    go_enter Try.func71, Try.ntmps71
    go_wp2_with fail
    go_ret2
    exact ⟨rfl, rfl⟩
  · rw [show invErr x = 0 by simp [invErr, h0]]
    have hb : (((x.val : Nat) : Int) == 0) = false := by
      rw [beq_eq_false_iff_ne]; intro h; exact h0 (Fin.ext (by rw [zero_val]; omega))
    clear h0
    have hf : Hd (finv x = fpow x (p - 2)) := ⟨rfl⟩
    generalize finv x = R at *
    go_enter Try.func71, Try.ntmps71
    go_wp2_with fail
    refine (pow_calls hs (x := x) (k := p - 2) rfl (by omega) (by omega) _).mono ?_
    rw [← hf.out]
    rintro e w' ⟨rfl, rfl⟩
    go_wp2_with fail
    go_ret2
    exact ⟨rfl, rfl⟩
end Go.Proofs.Ytiokpaknhbfenaa
end
section
set_option linter.unusedVariables false
namespace Go.Proofs.Ytiokpaknhbfenaa
open Go.RowKit

theorem rAdd_calls {p : Nat} [NeZero p] (hs : Sup p) {a b : Int} {x y : Fin p} (ha : a = (x.val : Nat)) (hb : b = (y.val : Nat)) (w : World) :
    Calls Try.prog 39 #[.int .u64 p, .int .u64 a, .int .u64 b] w (Just (.int .u64 ((x + y).val : Nat)) w) := by
  subst ha hb
  have hp := hs.lt
  have hx := x.isLt
  have hy := y.isLt
  have hv : Hd (((x + y).val : Int) = ((x.val : Nat) + (y.val : Nat) : Int) % (p : Int)) := ⟨by rw [Fin.val_add x y]; simp⟩
  generalize (x + y).val = R at *
  generalize x.val = a at *
  generalize y.val = b at *
  have hpb : ((p : Nat) == 0) = false := by rw [beq_eq_false_iff_ne]; omega
  have hpb' : (((p : Nat) : Int) == 0) = false := by rw [beq_eq_false_iff_ne]; omega
  go_enter Try.func39, Try.ntmps39
  go_wp2_with fail
  go_ret
  exact ⟨ret_int hv.out.symm, rfl⟩
theorem rNeg_calls {p : Nat} [NeZero p] (hs : Sup p) {a : Int} {x : Fin p} (ha : a = (x.val : Nat)) (w : World) :
    Calls Try.prog 77 #[.int .u64 p, .int .u64 a] w (Just (.int .u64 ((-x).val : Nat)) w) := by
  subst ha
  have hp := hs.lt
  have hx := x.isLt
  have hv : Hd (((-x).val : Int) = ((p : Int) - (x.val : Nat)) % (p : Int)) := ⟨by
    rw [Fin.neg_def]
    show (((p - x.val) % p : Nat) : Int) = _
    rw [Int.natCast_emod, Int.ofNat_sub (by omega)]⟩
  generalize (-x).val = R at *
  generalize x.val = a at *
  have hpb : ((p : Nat) == 0) = false := by rw [beq_eq_false_iff_ne]; omega
  have hpb' : (((p : Nat) : Int) == 0) = false := by rw [beq_eq_false_iff_ne]; omega
  go_enter Try.func77, Try.ntmps77
  go_wp2_with fail
  go_ret
  exact ⟨ret_int hv.out.symm, rfl⟩
theorem rSub_calls {p : Nat} [NeZero p] (hs : Sup p) {a b : Int} {x y : Fin p} (ha : a = (x.val : Nat)) (hb : b = (y.val : Nat)) (w : World) :
    Calls Try.prog 75 #[.int .u64 p, .int .u64 a, .int .u64 b] w (Just (.int .u64 ((x - y).val : Nat)) w) := by
  subst ha hb
  have hp := hs.lt
  have hx := x.isLt
  have hy := y.isLt
  have hv : Hd (((x - y).val : Int) = ((x.val : Nat) + (p : Nat) - (y.val : Nat) : Int) % (p : Int)) := ⟨by
    rw [Fin.sub_def]
    show (((p - y.val + x.val) % p : Nat) : Int) = _
    rw [Int.natCast_emod, Int.natCast_add, Int.ofNat_sub (by omega)]
    congr 1; omega⟩
  generalize (x - y).val = R at *
  generalize x.val = a at *
  generalize y.val = b at *
  have hpb : ((p : Nat) == 0) = false := by rw [beq_eq_false_iff_ne]; omega
  have hpb' : (((p : Nat) : Int) == 0) = false := by rw [beq_eq_false_iff_ne]; omega
  go_enter Try.func75, Try.ntmps75
  go_wp2_with fail
  go_ret
  exact ⟨ret_int hv.out.symm, rfl⟩
set_option maxRecDepth 100000 in
set_option maxHeartbeats 1000000 in
theorem rMul_calls {p : Nat} [NeZero p] (hs : Sup p) {a b : Int} {x y : Fin p} (ha : a = (x.val : Nat)) (hb : b = (y.val : Nat)) (w : World) :
    Calls Try.prog 43 #[.int .u64 p, .int .u64 a, .int .u64 b] w (Just (.int .u64 ((x * y).val : Nat)) w) := by
  subst ha hb
  have hp := hs.lt
  have hp0 := hs.two_lt
  have hx := x.isLt
  have hy := y.isLt
  have hv : Hd ((x * y).val = (x.val * y.val) % p) := ⟨Fin.val_mul x y⟩
  have hpb : ((p : Nat) == 0) = false := by rw [beq_eq_false_iff_ne]; omega
  have hpb' : (((p : Nat) : Int) == 0) = false := by rw [beq_eq_false_iff_ne]; omega
  by_cases hsm : p < 2147483648
  · have hxy : Hd ((x.val : Int) * (y.val : Nat) < 4611686018427387904 ∧ 0 ≤ (x.val : Int) * (y.val : Nat)) := ⟨by
      have : x.val * y.val ≤ 2147483647 * 2147483647 := Nat.mul_le_mul (by omega) (by omega)
      rw [← Int.natCast_mul]; omega⟩
    have hv' : Hd ((((x * y).val : Nat) : Int) = (x.val : Int) * (y.val : Nat) % (p : Nat)) := ⟨by rw [hv.out]; simp⟩
    generalize (x * y).val = R at *
    generalize x.val = a at *
    generalize y.val = b at *
    have h1 := hxy.out.1
    have h2 := hxy.out.2
    have d0 : 0 < p := by omega
    have d1 : decide ((p : Int) < 2147483648) = true := by simp; omega
    have d2 : decide ((a : Int) < 2147483648) = true := by simp; omega
    have d3 : decide ((b : Int) < 2147483648) = true := by simp; omega
    go_enter Try.func43, Try.ntmps43
    go_wp2_with fail
    go_ret
    exact ⟨ret_int hv'.out.symm, rfl⟩
  · obtain rfl : p = 2305843009213693951 := by
      rcases hs with h | h | h | h | h | h | h <;> omega
    generalize (x * y).val = R at *
    generalize x.val = a at *
    generalize y.val = b at *
    have d2 : decide ((a : Int) < 2305843009213693951) = true := by simp; omega
    have d3 : decide ((b : Int) < 2305843009213693951) = true := by simp; omega
    go_enter Try.func43, Try.ntmps43
    go_wp2_with fail
    go_ret
    refine ⟨ret_int ?_, rfl⟩
    rw [hv.out]
    exact mul61 a b hx hy
set_option maxRecDepth 4000 in
set_option maxHeartbeats 400000 in
theorem rPow_calls {p : Nat} [NeZero p] (hs : Sup p) {a n : Int} {x : Fin p} {k : Nat} (ha : a = (x.val : Nat)) (hn : n = (k : Nat)) (hk : k < 4611686018427387904) (w : World) :
    Calls Try.prog 83 #[.int .u64 p, .int .u64 a, .int .u64 n] w (Just (.int .u64 ((fpow x k).val : Nat)) w) := by
  subst ha hn
  have h1v := Hd.mk hs.one_val
  obtain ⟨R, hR⟩ : ∃ R, R = fpow x k := ⟨_, rfl⟩
  rw [← hR]
  have hHR : Hd ((1 : Fin p) * fpow x k = R) := ⟨by rw [hR]; grind⟩
  clear hR
  go_enter Try.func83, Try.ntmps83
  go_wp2_with fail
  go_loop [1, 2, 7] (fun a n r => ∃ (x r' : Fin p) (k : Nat), k < 4611686018427387904 ∧ Hd (r' * fpow x k = R) ∧ a = .int .u64 (x.val : Nat) ∧ n = .int .u64 (k : Nat) ∧ r = .int .u64 (r'.val : Nat)) (fun _ n _ => (intOf n).toNat)
  case atStart => exact ⟨x, 1, k, hk, hHR, rfl, rfl, by rw [h1v.out]; rfl⟩
  case round =>
    clear hHR hk
    obtain ⟨x, r', k, hk, hR, rfl, rfl, rfl⟩ := hrel
    by_cases h0 : 0 < k
    · have hstep : Hd ((if k % 2 = 1 then r' * x else r') * fpow (x * x) (k / 2) = R) := ⟨by rw [fpow_half]; exact hR.out⟩
      by_cases h2 : k % 2 = 1
      · have hb1 : (((k : Int) % 2 : Int) == 1) = true := by rw [beq_iff_eq]; omega
        rw [if_pos h2] at hstep
        clear h2
        go_wp2_with fail
        refine (rMul_calls hs (x := r') (y := x) rfl rfl _).mono ?_
        rintro e w' ⟨rfl, rfl⟩
        go_wp2_with fail
        refine (rMul_calls hs (x := x) (y := x) rfl rfl _).mono ?_
        rintro e w' ⟨rfl, rfl⟩
        go_wp2_with fail
        go_round
        case rel => exact ⟨x * x, r' * x, k / 2, by omega, hstep, rfl, by go_num, rfl⟩
        case measure => simp [intOf]; omega
      · have hb1 : (((k : Int) % 2 : Int) == 1) = false := by rw [beq_eq_false_iff_ne]; omega
        rw [if_neg h2] at hstep
        clear h2
        go_wp2_with fail
        refine (rMul_calls hs (x := x) (y := x) rfl rfl _).mono ?_
        rintro e w' ⟨rfl, rfl⟩
        go_wp2_with fail
        go_round
        case rel => exact ⟨x * x, r', k / 2, by omega, hstep, rfl, by go_num, rfl⟩
        case measure => simp [intOf]; omega
    · obtain rfl : k = 0 := by omega
      go_wp2_with fail
      go_ret
      refine ⟨ret_int ?_, rfl⟩
      have := hR.out
      rw [fpow_zero] at this
      rw [← this, show r' * 1 = r' by grind]
theorem rInv_calls {p : Nat} [NeZero p] (hs : Sup p) {a : Int} {x : Fin p} (ha : a = (x.val : Nat)) (w : World) :
    Calls Try.prog 74 #[.int .u64 p, .int .u64 a] w (Just (.tuple #[.int .u64 ((finv x).val : Nat), .int .i64 (invErr x)]) w) := by
  subst ha
  have hp := hs.lt
  have hp2 := hs.two_lt
  by_cases h0 : x = 0
  · subst h0
    have e1 : (finv (0 : Fin p)).val = 0 := by rw [finv_zero hs]; rfl
    rw [e1]
    rw [show invErr (0 : Fin p) = 8 by simp [invErr], show ((0 : Fin p).val : Nat) = 0 from rfl]
    go_enter Try.func74, Try.ntmps74
    go_wp2_with fail
    go_ret2
    exact ⟨rfl, rfl⟩
  · rw [show invErr x = 0 by simp [invErr, h0]]
    have hb : (((x.val : Nat) : Int) == 0) = false := by
      rw [beq_eq_false_iff_ne]; intro h; exact h0 (Fin.ext (by rw [zero_val]; omega))
    clear h0
    have hf : Hd (finv x = fpow x (p - 2)) := ⟨rfl⟩
    generalize finv x = R at *
    go_enter Try.func74, Try.ntmps74
    go_wp2_with fail
    refine (rPow_calls hs (x := x) (k := p - 2) rfl (by omega) (by omega) _).mono ?_
    rw [← hf.out]
    rintro e w' ⟨rfl, rfl⟩
    go_wp2_with fail
    go_ret2
    exact ⟨rfl, rfl⟩
end Go.Proofs.Ytiokpaknhbfenaa
end
