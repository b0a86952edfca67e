/- NumberPower, the plain law: powers multiply as their exponents add. -/
import Derived.Test.YthhgfogdeaaidaaR23
import Derived.Test.YthhgfogdeaaidaaGval
import Derived.Test.YthhgfogdeaaidaaGmod
namespace Go.Proofs.Ythhgfogdeaaidaa.Pure
open Go.RowKit Go.Proofs.Ythhgfogdeaaidaa.R Go.Proofs.YthhgfogdeaaidaaW.PrintWords Go.Proofs.YthhgfogdeaaidaaW.PrintLast
theorem NumberPower : headendlaw01_NumberPower.Pure := by
  intro a i j m ha hi hj hm
  simp only [Lit.wf, IntKind.min, IntKind.max, IntKind.signed, IntKind.bits, Bool.and_eq_true, Bool.false_eq_true, if_false, decide_eq_true_eq] at ha hi hj hm
  obtain ⟨a, rfl⟩ := Int.eq_ofNat_of_zero_le (show 0 ≤ a by omega)
  obtain ⟨i, rfl⟩ := Int.eq_ofNat_of_zero_le (show 0 ≤ i by omega)
  obtain ⟨j, rfl⟩ := Int.eq_ofNat_of_zero_le (show 0 ≤ j by omega)
  obtain ⟨m, rfl⟩ := Int.eq_ofNat_of_zero_le (show 0 ≤ m by omega)
  obtain ⟨K, hK⟩ : ∃ K, i + j + 10 = K := ⟨_, rfl⟩
  refine ⟨K + 2, ?_⟩
  unfold headendlaw01_NumberPower.f
  rw [show headendlaw01_alive.f = some true from rfl, Option.bind_some]
  by_cases hbad : (m : Int) < 1 ∨ 4294967296 ≤ (m : Int)
  · rw [PowMod_bad _ _ _ _ hbad, Option.bind_some]
    have hj : ∀ t : Bool, t = true → headendlaw01_NumberPower.j0 (K + 2) (a : Int) (i : Int) (j : Int) (m : Int) true ((0 : Int), (2 : Int)).1 ((0 : Int), (2 : Int)).2 t = some true := by
      intro t ht
      rw [show K + 2 = K + 1 + 1 from rfl, headendlaw01_NumberPower.j0, if_pos ht, if_pos rfl]
      rfl
    by_cases h1 : (m : Int) < 1
    · rw [if_pos h1]
      exact hj _ rfl
    · rw [if_neg h1]
      exact hj _ (decide_eq_true (by omega))
  · have hm0 : 0 < m := by omega
    have hm1 : m < 4294967296 := by omega
    rw [PowMod_f a i m _ hm0 hm1 (by omega) (by omega), Option.bind_some, if_neg (by omega), decide_eq_false (by omega), show K + 2 = K + 1 + 1 from rfl, headendlaw01_NumberPower.j0, if_neg (by decide)]
    by_cases hi2 : (i : Int) > 4611686018427387904
    · rw [if_pos hi2, headendlaw01_NumberPower.j1, if_pos rfl]
    rw [if_neg hi2]
    by_cases hj2 : (j : Int) > 4611686018427387904
    · rw [decide_eq_true hj2, headendlaw01_NumberPower.j1, if_pos rfl]
    rw [decide_eq_false hj2, headendlaw01_NumberPower.j1, if_neg (by decide)]
    have h00 : number_PowMod.f K (a : Int) 0 (m : Int) = some (((a ^ 0 % m : Nat) : Int), 0) := PowMod_f a 0 m K hm0 hm1 (by omega) (by omega)
    have hx := Nat.mod_lt (a ^ i) hm0
    have hy := Nat.mod_lt (a ^ j) hm0
    have ham := Nat.mod_lt a hm0
    have p1 := mul_small hx hy hm1
    have p2 := mul_small hx ham hm1
    rw [PowMod_f a j m _ hm0 hm1 (by omega) (by omega), Option.bind_some, show (i : Int) + (j : Int) = ((i + j : Nat) : Int) from rfl, u64n (i + j) (by omega), PowMod_f a (i + j) m _ hm0 hm1 (by omega) (by omega), Option.bind_some, show (i : Int) + 1 = ((i + 1 : Nat) : Int) from rfl, u64n (i + 1) (by omega), PowMod_f a (i + 1) m _ hm0 hm1 (by omega) (by omega), Option.bind_some, h00, Option.bind_some]
    dsimp only
    rw [if_pos rfl, if_pos rfl, if_pos rfl, if_pos rfl, if_pos rfl, if_pos rfl, if_pos (by omega), if_pos (by omega), if_neg (by omega)]
    rw [show ((a ^ i % m : Nat) : Int) * ((a ^ j % m : Nat) : Int) = ((a ^ i % m * (a ^ j % m) : Nat) : Int) from (Int.natCast_mul _ _).symm, u64n _ p1, tmod_nat, tmod_nat, show ((a ^ i % m : Nat) : Int) * ((a % m : Nat) : Int) = ((a ^ i % m * (a % m) : Nat) : Int) from (Int.natCast_mul _ _).symm, u64n _ p2, tmod_nat]
    rw [if_pos (by rw [Nat.pow_add, Nat.mul_mod]), if_pos (by rw [Nat.pow_succ, Nat.mul_mod]), Nat.pow_zero, show (1 : Int) % (m : Int) = ((1 % m : Nat) : Int) from rfl, beq_self_eq_true]
end Go.Proofs.Ythhgfogdeaaidaa.Pure

