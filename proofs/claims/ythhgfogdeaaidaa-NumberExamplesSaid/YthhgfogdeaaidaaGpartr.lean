/- Plain: quotients, rests and common divisors: the program's and the reference's functions on digits are those of the numbers. -/
import Derived.Test.YthhgfogdeaaidaaR0
import Derived.Test.YthhgfogdeaaidaaR8
import Derived.Test.YthhgfogdeaaidaaR13
import Derived.Test.YthhgfogdeaaidaaGparted
import Derived.Test.YthhgfogdeaaidaaR9
import Derived.Test.YthhgfogdeaaidaaGarith
import Derived.Test.YthhgfogdeaaidaaGsub
namespace Go.Proofs.Ythhgfogdeaaidaa.R
open Go.RowKit Go.Proofs.YthhgfogdeaaidaaW.PrintWords Go.Proofs.YthhgfogdeaaidaaW.PrintLast Go.Proofs.YthhgfogdeaaidaaW.PrintMore
set_option linter.unusedVariables false
set_option linter.unusedSimpArgs false
theorem val_take_drop' (l : List Int) (i : Nat) : val l = val (l.take i) + 4294967296 ^ i * val (l.drop i) := by
  by_cases h : i ≤ l.length
  · exact val_take_drop l i h
  · rw [take_all (by omega), List.drop_of_length_le (by omega)]
    simp [val]
theorem val_drop_div {l : List Int} (h : Dig l) (i : Nat) : val (l.drop i) = val l / 4294967296 ^ i := by
  have hp : 0 < 4294967296 ^ i := Nat.pow_pos (by decide)
  rw [val_take_drop' l i, Nat.add_mul_div_left _ _ hp, Nat.div_eq_of_lt (val_take_lt h i), Nat.zero_add]
theorem rd_val {l : List Int} (h : Dig l) (i : Nat) : rd l (i : Int) = ((val l / 4294967296 ^ i % 4294967296 : Nat) : Int) := by
  rw [← val_drop_div h]
  have h1 := h.rdok (i : Int)
  by_cases hi : i < l.length
  · rw [val_drop l i hi, Nat.add_mul_mod_self_left]
    omega
  · rw [rd_beyond l _ (by omega), List.drop_of_length_le (by omega)]
    rfl
theorem two_digits (x : Nat) (h : x < 18446744073709551616) : trimL [((x % 4294967296 : Nat) : Int), ((x / 4294967296 : Nat) : Int)] = digs x := by
  have h1 : Dig [((x % 4294967296 : Nat) : Int), ((x / 4294967296 : Nat) : Int)] := Dig.cons (by omega) (by omega) (Dig.cons (by omega) (by omega) Dig.nil)
  have h2 : val [((x % 4294967296 : Nat) : Int), ((x / 4294967296 : Nat) : Int)] = x := by
    simp only [val, Int.toNat_natCast]
    omega
  rw [← digs_val h1, h2]
theorem Of_f (x : Nat) (h : x < 18446744073709551616) : headendref01_Of.f (x : Int) = some (digs x) := by
  unfold headendref01_Of.f
  rw [low_nat, high_nat, u64n _ (by omega), show ((x / 4294967296 : Nat) : Int) % 4294967296 = ((x / 4294967296 : Nat) : Int) by omega, rtrim_f _ (by simp), Option.bind_some, two_digits x h]
/-! ### the reference's quotient and rest, bit by bit -/
/-! ### common divisors -/
theorem digs_ne {y : Nat} (h : y ≠ 0) : digs y ≠ [] := fun e => h (digs_nil.1 e)
theorem digs_pos_len {y : Nat} (h : y ≠ 0) : 0 < (digs y).length := List.length_pos_iff.2 (digs_ne h)
theorem parted_f (x y : Nat) (hy : y ≠ 0) (hx : (digs x).length < 1048576) (hyl : (digs y).length < 1048576) : number_parted.f (digs x) (digs y) = some (digs (x / y), digs (x % y)) := by
  unfold number_parted.f
  rw [if_pos, val_digs, val_digs]
  simp only [partOk, Bool.and_eq_true, beq_iff_eq, Bool.not_eq_true', List.isEmpty_eq_false_iff, decide_eq_true_eq]
  exact ⟨⟨⟨⟨⟨⟨digB_of (Dig.digs x), digB_of (Dig.digs y)⟩, trimL_digs x⟩, trimL_digs y⟩, digs_ne hy⟩, hx⟩, hyl⟩
theorem digs_length_mono {x y : Nat} (h : x ≤ y) : (digs x).length ≤ (digs y).length := by
  apply digs_length_le
  have := val_lt (Dig.digs y)
  rw [val_digs] at this
  omega
theorem common_l0 (L : Nat) (hL : L < 1048576) : ∀ (y x k : Nat), (digs x).length ≤ L → (digs y).length ≤ L → y < k → number_common.l0 k (digs x) (digs y) = some (digs (Nat.gcd x y)) := by
  intro y
  induction y using Nat.strongRecOn with
  | _ y ih =>
    intro x k hx hy hk
    obtain ⟨k, rfl⟩ : ∃ m, k = m + 1 := ⟨k - 1, by omega⟩
    simp only [number_common.l0]
    by_cases h0 : y = 0
    · subst h0
      rw [if_neg (by simp [digs_zero]), Nat.gcd_zero_right]
      unfold api_Natural_uint32_105.f
      rw [if_pos (by omega), Option.bind_some]
    · have := digs_pos_len h0
      have hm := Nat.mod_lt x (Nat.pos_of_ne_zero h0)
      rw [if_pos (by omega), parted_f x y h0 (by omega) (by omega), Option.bind_some, Nat.gcd_comm, Nat.gcd_rec, Nat.gcd_comm]
      exact ih (x % y) hm y k hy (Nat.le_trans (digs_length_mono (by omega)) hy) (by omega)
theorem common_f (x y k : Nat) (hx : (digs x).length < 1048576) (hy : (digs y).length < 1048576) (hk : y < k) : number_common.f k (digs x) (digs y) = some (digs (Nat.gcd x y)) :=
  common_l0 (max (digs x).length (digs y).length) (by omega) y x k (by omega) (by omega) hk
end Go.Proofs.Ythhgfogdeaaidaa.R

