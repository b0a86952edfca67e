/- NumberPrime, the plain law: products are no primes. -/
import Derived.Test.YthhgfogdeaaidaaR24
import Derived.Test.YthhgfogdeaaidaaGval
import Derived.Test.YthhgfogdeaaidaaGmod
namespace Go.Proofs.Ythhgfogdeaaidaa.Pure
open Go.RowKit Go.Proofs.Ythhgfogdeaaidaa.R Go.Proofs.YthhgfogdeaaidaaW.PrintWords Go.Proofs.YthhgfogdeaaidaaW.PrintLast
theorem prime_j0 (a b : Nat) (ha : a ≤ 1048575) (hb : b < 18446744073709551616) (k : Nat) (hk : 1200 ≤ k) (t : Bool) (ht : t = false) : headendlaw01_NumberPrime.j0 k (a : Int) (b : Int) true t = some true := by
  obtain ⟨k, rfl⟩ : ∃ j, k = j + 1 := ⟨k - 1, by omega⟩
  rw [headendlaw01_NumberPrime.j0, ht, if_neg (by decide)]
  by_cases h1 : a < 2
  · rw [if_pos (by omega)]
  by_cases h2 : b < 2
  · rw [if_neg (by omega), if_pos (by omega)]
  rw [if_neg (by omega), if_neg (by omega), if_neg (by omega), show Int.tdiv (1048575 : Int) (a : Int) = ((1048575 / a : Nat) : Int) from rfl, u64n _ (by have := Nat.div_le_self 1048575 a; omega)]
  by_cases h3 : 1048575 / a < b
  · rw [if_pos (by omega)]
  rw [if_neg (by omega)]
  have hab : a * b ≤ 1048575 := Nat.le_trans (Nat.mul_le_mul_left _ (Nat.le_of_not_lt h3)) (Nat.mul_div_le _ _)
  rw [show (a : Int) * (b : Int) = ((a * b : Nat) : Int) from (Int.natCast_mul a b).symm, u64n _ (by omega)]
  obtain ⟨q, hq, hp⟩ := Prime_f (a * b) k hab (by omega)
  have : q = false := by
    cases q
    · rfl
    · exact absurd (hp.1 rfl) (product_not (by omega) (by omega))
  rw [hq, Option.bind_some, if_pos rfl, if_pos rfl, this]
  rfl
theorem NumberPrime : headendlaw01_NumberPrime.Pure := by
  intro a b ha hb
  simp only [Lit.wf, IntKind.min, IntKind.max, IntKind.signed, IntKind.bits, Bool.and_eq_true, Bool.false_eq_true, if_false, decide_eq_true_eq] at ha hb
  obtain ⟨a, rfl⟩ := Int.eq_ofNat_of_zero_le (show 0 ≤ a by omega)
  obtain ⟨b, rfl⟩ := Int.eq_ofNat_of_zero_le (show 0 ≤ b by omega)
  refine ⟨1300, ?_⟩
  unfold headendlaw01_NumberPrime.f
  rw [show headendlaw01_alive.f = some true from rfl, Option.bind_some]
  by_cases hm : (a : Int) > 1048575
  · rw [Prime_many _ _ hm, Option.bind_some, if_pos hm, if_pos rfl]
    rfl
  obtain ⟨p, hp, hpp⟩ := Prime_f a 1300 (by omega) (by decide)
  have hj := prime_j0 a b (by omega) (by omega) 1300 (by decide)
  rw [hp, Option.bind_some, if_neg hm, if_pos rfl]
  by_cases hpt : p = true
  · have hP := hpp.1 hpt
    have h2 : decide ((a : Int) < 2) = false := decide_eq_false (by have := hP.1; omega)
    rw [if_pos hpt]
    by_cases hb2 : (b : Int) ≥ 2
    · rw [if_pos hb2]
      by_cases hba : (b : Int) < (a : Int)
      · have hnd := hP.nodiv (b := b) (by omega) (by omega)
        rw [if_pos hba, if_neg (by omega), tmod_nat, if_neg (by omega)]
        exact hj _ h2
      · rw [if_neg hba]
        exact hj _ h2
    · rw [if_neg hb2]
      exact hj _ h2
  · rw [if_neg hpt]
    exact hj _ rfl
end Go.Proofs.Ythhgfogdeaaidaa.Pure

