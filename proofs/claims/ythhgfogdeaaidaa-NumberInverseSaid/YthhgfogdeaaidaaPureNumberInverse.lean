/- NumberInverse, the plain law: inverses, exactly where there are any. -/
import Derived.Test.YthhgfogdeaaidaaR23
import Derived.Test.YthhgfogdeaaidaaGval
import Derived.Test.YthhgfogdeaaidaaGmod
namespace Go.Proofs.Ythhgfogdeaaidaa.Pure
open Go.RowKit Go.Proofs.Ythhgfogdeaaidaa.R Go.Proofs.YthhgfogdeaaidaaW.PrintWords Go.Proofs.YthhgfogdeaaidaaW.PrintLast
theorem NumberInverse : headendlaw01_NumberInverse.Pure := by
  intro a m ha hm
  simp only [Lit.wf, IntKind.min, IntKind.max, IntKind.signed, IntKind.bits, Bool.and_eq_true, Bool.false_eq_true, if_false, decide_eq_true_eq] at ha hm
  obtain ⟨a, rfl⟩ := Int.eq_ofNat_of_zero_le (show 0 ≤ a by omega)
  obtain ⟨m, rfl⟩ := Int.eq_ofNat_of_zero_le (show 0 ≤ m by omega)
  have hB : (18446744073709551616 : Nat) ≤ 4294967296 ^ 16 := by decide
  obtain ⟨K, hK⟩ : ∃ K, m + 2000 = K := ⟨_, rfl⟩
  refine ⟨K + 1, ?_⟩
  unfold headendlaw01_NumberInverse.f
  rw [show headendlaw01_alive.f = some true from rfl, Option.bind_some]
  by_cases hbad : (m : Int) < 1 ∨ 4294967296 ≤ (m : Int)
  · rw [InvMod_bad _ _ _ hbad, Option.bind_some]
    have hj : ∀ t : Bool, t = true → headendlaw01_NumberInverse.j0 (K + 1) (a : Int) (m : Int) true ((0 : Int), (2 : Int)).1 ((0 : Int), (2 : Int)).2 t = some true := by
      intro t ht
      rw [headendlaw01_NumberInverse.j0, if_pos ht, if_pos rfl]
      rfl
    by_cases h1 : (m : Int) < 1
    · rw [if_pos h1]
      exact hj _ rfl
    · rw [if_neg h1]
      exact hj _ (decide_eq_true (by omega))
  have hm0 : 0 < m := by omega
  have hm1 : m < 4294967296 := by omega
  obtain ⟨r, hr, hinv⟩ := InvMod_f a m (K + 1) hm0 hm1 (by omega)
  rw [hr, Option.bind_some, if_neg (by omega), decide_eq_false (by omega), headendlaw01_NumberInverse.j0, if_neg (by decide), n_f a (by omega), Option.bind_some, n_f m (by omega), Option.bind_some, number_Gcd_f (Dig.digs _) (Dig.digs _) _ (by rw [val_digs]; omega), Option.bind_some, gcdS_digs (by omega) (by omega), if_pos rfl]
  dsimp only
  have hgl : (digs (Nat.gcd a m)).length ≤ 1 := digs_length_le _ _ (Nat.lt_of_le_of_lt (Nat.gcd_le_right _ hm0) (by omega))
  have h1d : digs 1 = [1] := by decide
  rw [is_f _ _ _ (by omega) (by omega), Option.bind_some]
  rcases hinv with ⟨hg, he, hx0, hx1, hdv⟩ | ⟨hg, rfl⟩
  case inr =>
    have hne : digs (Nat.gcd a m) ≠ [1] := fun e => hg (digs_inj (e.trans h1d.symm))
    rw [decide_eq_false hne, if_neg (by decide), if_pos rfl]
    rfl
  rw [hg, h1d, decide_eq_true rfl, if_pos rfl]
  obtain ⟨x, hx⟩ := Int.eq_ofNat_of_zero_le hx0
  have hxm : x < m := by omega
  have ham := Nat.mod_lt a hm0
  have hmul := mul_small ham hxm hm1
  have hone : Int.tmod (IntKind.u64.wrap (Int.tmod (a : Int) (m : Int) * r.1)) (m : Int) = (1 : Int) % (m : Int) := by
    rw [tmod_nat, hx, show ((a % m : Nat) : Int) * (x : Int) = ((a % m * x : Nat) : Int) from (Int.natCast_mul _ _).symm, u64n _ hmul, tmod_nat]
    rw [hx] at hdv
    have h3 : ((a % m * x % m : Nat) : Int) = ((x : Int) * (a : Int)) % (m : Int) := by
      rw [Nat.mul_mod, Nat.mod_mod, ← Nat.mul_mod, Nat.mul_comm]
      rfl
    rw [h3]
    exact (Int.emod_emod_of_dvd _ (Int.dvd_refl _)).symm.trans (by
      rw [Int.emod_emod]
      exact Int.emod_eq_emod_iff_emod_sub_eq_zero.2 (Int.emod_eq_zero_of_dvd hdv))
  have hlast : ((if r.2 = 0 then (if r.1 < (m : Int) then (some ((Int.tmod (IntKind.u64.wrap ((Int.tmod (a : Int) (m : Int)) * r.1)) (m : Int)) == ((1 : Int) % (m : Int)))) else (some false)) else (some false)) : Option Bool) = some true := by
    rw [if_pos he, if_pos hx1, hone, beq_self_eq_true]
  have hlast2 : ((if r.2 = 0 then (if r.1 < (m : Int) then (if (m : Int) = 0 then none else (some ((Int.tmod (IntKind.u64.wrap ((Int.tmod (a : Int) (m : Int)) * r.1)) (m : Int)) == ((1 : Int) % (m : Int))))) else (some false)) else (some false)) : Option Bool) = some true := by
    rw [if_pos he, if_pos hx1, if_neg (by omega), hone, beq_self_eq_true]
  by_cases hp : (m : Int) > 1048575
  · rw [Prime_many _ _ hp, Option.bind_some, if_neg (by decide), if_pos rfl]
    exact hlast2
  · obtain ⟨p, hpf, hpp⟩ := Prime_f m K (by omega) (by omega)
    rw [hpf, Option.bind_some, if_pos rfl]
    by_cases hpt : p = true
    · have hP := hpp.1 hpt
      have hna : ¬ a % m = 0 := by
        intro e
        have hd : m ∣ a := Nat.dvd_of_mod_eq_zero e
        have : m ∣ Nat.gcd a m := Nat.dvd_gcd hd (Nat.dvd_refl m)
        rw [hg] at this
        have := Nat.le_of_dvd (by decide) this
        have := hP.1
        omega
      rw [if_pos hpt, if_neg (by omega), if_neg (by rw [tmod_nat]; omega), if_pos rfl]
      exact hlast
    · rw [if_neg hpt, if_pos rfl]
      exact hlast2
end Go.Proofs.Ythhgfogdeaaidaa.Pure

