/- math/bits.Sub32 and math/bits.Div32: what a call computes; for Sub32 the numbers are uint32s and the borrow is 0 or 1, for Div32 the divisor is above the high word. -/
import Derived.Test.YthhgfogdeaaidaaR0
import Derived.Laws.BitsAllLaws
namespace Go.Proofs.Ythhgfogdeaaidaa.R
open Go.RowKit Go.Proofs.YthhgfogdeaaidaaW.PrintWords Go.Proofs.YthhgfogdeaaidaaW.PrintLast Go.Proofs.YthhgfogdeaaidaaW.PrintMore
set_option linter.unusedVariables false
set_option linter.unusedSimpArgs false
theorem ret2_int {k k' : IntKind} {a b c d : Int} (h1 : a = c) (h2 : b = d) : Ending.returned (.tuple #[.int k a, .int k' b]) = .returned (.tuple #[.int k c, .int k' d]) := by rw [h1, h2]
theorem top_bit (n : Nat) (h : n < 4294967296) : n >>> 31 = if 2147483648 ≤ n then 1 else 0 := by
  rw [Nat.shiftRight_eq_div_pow]; split <;> omega
theorem top_xor (n : Nat) (h : n < 4294967296) : (4294967295 ^^^ n) < 4294967296 := by
  have := Nat.xor_lt_two_pow (x := 4294967295) (y := n) (n := 32) (by omega) (by omega); omega
theorem borrow_nat (a b c d : Nat) (ha : a < 4294967296) (hb : b < 4294967296) (hc : c ≤ 1) (hd : d < 4294967296) (hD : d = a - b - c ∧ b + c ≤ a ∨ d = a + 4294967296 - b - c ∧ a < b + c) :
    (((4294967295 ^^^ a) &&& b) ||| ((4294967295 ^^^ (a ^^^ b)) &&& d)) / 2147483648 = if a < b + c then 1 else 0 := by
  have h := Nat.shiftRight_eq_div_pow (((4294967295 ^^^ a) &&& b) ||| ((4294967295 ^^^ (a ^^^ b)) &&& d)) 31
  rw [show (2 : Nat) ^ 31 = 2147483648 by decide] at h
  rw [← h, Nat.shiftRight_or_distrib, Nat.shiftRight_and_distrib, Nat.shiftRight_and_distrib, Nat.shiftRight_xor_distrib, Nat.shiftRight_xor_distrib, Nat.shiftRight_xor_distrib, top_bit a ha, top_bit b hb, top_bit d hd]
  rw [show (4294967295 : Nat) >>> 31 = 1 by decide]
  by_cases h1 : 2147483648 ≤ a <;> by_cases h2 : 2147483648 ≤ b <;> by_cases h3 : 2147483648 ≤ d <;> simp only [h1, h2, h3, if_true, if_false] <;> (by_cases h4 : a < b + c <;> simp only [h4, if_true, if_false] <;> first | decide | (exfalso; omega))
theorem borrow_int (a b c : Int) (ha0 : 0 ≤ a) (ha : a < 4294967296) (hb0 : 0 ≤ b) (hb : b < 4294967296) (hc0 : 0 ≤ c) (hc : c ≤ 1) :
    (bits BinOp.or IntKind.u32 (bits BinOp.and IntKind.u32 (bits BinOp.xor IntKind.u32 IntKind.u32.max a) b) (bits BinOp.and IntKind.u32 (bits BinOp.xor IntKind.u32 IntKind.u32.max (bits BinOp.xor IntKind.u32 a b)) ((a - b - c) % 4294967296))) / 2147483648
      = if a < b + c then 1 else 0 := by
  obtain ⟨A, rfl⟩ := Int.eq_ofNat_of_zero_le ha0
  obtain ⟨B, rfl⟩ := Int.eq_ofNat_of_zero_le hb0
  obtain ⟨C, rfl⟩ := Int.eq_ofNat_of_zero_le hc0
  have hA : A < 4294967296 := by omega
  have hB : B < 4294967296 := by omega
  have hm : IntKind.u32.max = ((4294967295 : Nat) : Int) := by decide
  obtain ⟨D, hD⟩ : ∃ D : Nat, ((A : Int) - B - C) % 4294967296 = (D : Int) := Int.eq_ofNat_of_zero_le (Int.emod_nonneg _ (by omega))
  have hDl : D < 4294967296 := by omega
  have hx : A ^^^ B < 4294967296 := by have := Nat.xor_lt_two_pow (x := A) (y := B) (n := 32) (by omega) (by omega); omega
  have h1 := top_xor A hA
  have h2 := top_xor _ hx
  have h3 : (4294967295 ^^^ A) &&& B < 4294967296 := by have := Nat.and_lt_two_pow (4294967295 ^^^ A) (y := B) (n := 32) (by omega); omega
  have h4 : (4294967295 ^^^ (A ^^^ B)) &&& D < 4294967296 := by have := Nat.and_lt_two_pow (4294967295 ^^^ (A ^^^ B)) (y := D) (n := 32) (by omega); omega
  rw [hD, hm, u32_xor_nat _ _ (by omega) hA, u32_and_nat _ _ h1 hB, u32_xor_nat _ _ hA hB, u32_xor_nat _ _ (by omega) hx, u32_and_nat _ _ h2 hDl, u32_or_nat _ _ h3 h4]
  have := borrow_nat A B C D hA hB (by omega) hDl (by omega)
  rw [show (2147483648 : Int) = ((2147483648 : Nat) : Int) by decide, ← Int.natCast_ediv, this]
  by_cases h5 : A < B + C
  · rw [if_pos h5, if_pos (by omega)]; rfl
  · rw [if_neg h5, if_neg (by omega)]; rfl
def bits_Sub32.f (a0 : Int) (a1 : Int) (a2 : Int) : Option (Int × Int) :=
  if 0 ≤ a0 ∧ a0 < 4294967296 ∧ 0 ≤ a1 ∧ a1 < 4294967296 ∧ 0 ≤ a2 ∧ a2 ≤ 1 then some ((a0 - a1 - a2) % 4294967296, if a0 < a1 + a2 then 1 else 0) else none
theorem bits_Sub32.calls (a0 : Int) (a1 : Int) (a2 : Int) (r1 : Int) (r2 : Int) (w : World) (h : bits_Sub32.f a0 a1 a2 = some (r1, r2)) :
    Calls Try.prog 115 #[.int .u32 a0, .int .u32 a1, .int .u32 a2] w fun e w' => e = .returned (.tuple #[.int .u32 r1, .int .u32 r2]) ∧ Drawn0 w w' := by
  unfold bits_Sub32.f at h
  split at h
  case isFalse => exact absurd h (by simp)
  case isTrue hc =>
    obtain ⟨h0, h1, h2, h3, h4, h5⟩ := hc
    have hb := borrow_int a0 a1 a2 h0 h1 h2 h3 h4 h5
    have hsg : IntKind.u32.signed = false := rfl
    simp only [Option.some.injEq, Prod.mk.injEq] at h
    obtain ⟨e1, e2⟩ := h
    have E1 := Aside0.mk e1
    have E2 := Aside0.mk (hb.trans e2)
    clear e1 e2 hb h0 h1 h2 h3 h4 h5
    go_enter Try.func115, Try.ntmps115
    go_wp2
    go_ret2
    exact ⟨ret2_int ((by omega : ((a0 - a1) % 4294967296 - a2) % 4294967296 = (a0 - a1 - a2) % 4294967296).trans E1.out) E2.out, Drawn0.refl _⟩
theorem or_words (a b : Int) (ha0 : 0 ≤ a) (ha : a < 4294967296) (hb0 : 0 ≤ b) (hb : b < 4294967296) : bits BinOp.or IntKind.u64 (a * 4294967296) b = a * 4294967296 + b := by
  obtain ⟨A, rfl⟩ := Int.eq_ofNat_of_zero_le ha0
  obtain ⟨B, rfl⟩ := Int.eq_ofNat_of_zero_le hb0
  rw [show (A : Int) * 4294967296 = ((A * 4294967296 : Nat) : Int) by omega, u64_or_nat _ _ (by omega) (by omega)]
  have := Nat.shiftLeft_add_eq_or_of_lt (a := A) (b := B) (i := 32) (by omega)
  rw [Nat.shiftLeft_eq, show (2 : Nat) ^ 32 = 4294967296 by decide] at this
  rw [← this]; omega
theorem div_word (a b c : Int) (ha0 : 0 ≤ a) (ha : a < c) (hb0 : 0 ≤ b) (hb : b < 4294967296) : 0 ≤ (a * 4294967296 + b) / c ∧ (a * 4294967296 + b) / c < 4294967296 := by
  refine ⟨Int.ediv_nonneg (by omega) (by omega), Int.ediv_lt_of_lt_mul (by omega) ?_⟩
  have : (a + 1) * 4294967296 ≤ c * 4294967296 := Int.mul_le_mul_of_nonneg_right (by omega) (by omega)
  rw [Int.mul_comm 4294967296 c]; omega
def bits_Div32.f (a0 : Int) (a1 : Int) (a2 : Int) : Option (Int × Int) :=
  if 0 ≤ a0 ∧ a0 < a2 ∧ a2 < 4294967296 ∧ 0 ≤ a1 ∧ a1 < 4294967296 then some ((a0 * 4294967296 + a1) / a2, (a0 * 4294967296 + a1) % a2) else none
theorem bits_Div32.calls (a0 : Int) (a1 : Int) (a2 : Int) (r1 : Int) (r2 : Int) (w : World) (h : bits_Div32.f a0 a1 a2 = some (r1, r2)) :
    Calls Try.prog 107 #[.int .u32 a0, .int .u32 a1, .int .u32 a2] w fun e w' => e = .returned (.tuple #[.int .u32 r1, .int .u32 r2]) ∧ Drawn0 w w' := by
  unfold bits_Div32.f at h
  split at h
  case isFalse => exact absurd h (by simp)
  case isTrue hc =>
    obtain ⟨h0, h1, h2, h3, h4⟩ := hc
    simp only [Option.some.injEq, Prod.mk.injEq] at h
    obtain ⟨e1, e2⟩ := h
    have E1 := Aside0.mk e1
    have E2 := Aside0.mk e2
    clear e1 e2
    have k1 : (a2 != 0) = true := by rw [bne_iff_ne]; omega
    have k3 : ¬ a2 = 0 := by omega
    have k2 : decide (a2 ≤ a0) = false := decide_eq_false (by omega)
    have hor := or_words a0 a1 h0 (by omega) h3 h4
    obtain ⟨d0, d1⟩ := div_word a0 a1 a2 h0 h1 h3 h4
    have m0 : 0 ≤ (a0 * 4294967296 + a1) % a2 := Int.emod_nonneg _ k3
    have m1 : (a0 * 4294967296 + a1) % a2 < a2 := Int.emod_lt_of_pos _ (by omega)
    go_enter Try.func107, Try.ntmps107
    go_wp2
    go_quiet (fail)
    go_wp2
    go_ret2
    exact ⟨ret2_int E1.out E2.out, ⟨_, rfl⟩⟩
end Go.Proofs.Ythhgfogdeaaidaa.R
