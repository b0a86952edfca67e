/- NumberElements, the plain law: powers of a group's generator are equal exactly if their exponents are, modulo the group's order. -/
import Derived.Test.YthhgfogdeaaidaaR24
import Derived.Test.YthhgfogdeaaidaaGval
import Derived.Test.YthhgfogdeaaidaaGmod
import Derived.Test.YthhgfogdeaaidaaPureNumberGroups
import Derived.Test.YthhgfogdeaaidaaPureNumberModular
namespace Go.Proofs.Ythhgfogdeaaidaa.Pure
open Go.RowKit Go.Proofs.Ythhgfogdeaaidaa.R Go.Proofs.YthhgfogdeaaidaaW.PrintWords Go.Proofs.YthhgfogdeaaidaaW.PrintLast
theorem isPrime_l0 (p : Nat) (hp : p ≤ 1048575) : ∀ (n d k : Nat), 2 ≤ d → d + n = 1025 → n < k → (∀ e, 2 ≤ e → e < d → e * e ≤ p → p % e ≠ 0) → ∃ b, headendref01_IsPrime.l0 k (p : Int) (d : Int) = some b ∧ (b = true ↔ IsP p) := by
  intro n
  induction n with
  | zero =>
    intro d k hd hdn hk he
    obtain ⟨k, rfl⟩ : ∃ j, k = j + 1 := ⟨k - 1, by omega⟩
    obtain rfl : d = 1025 := by omega
    simp only [headendref01_IsPrime.l0]
    rw [show ((1025 : Nat) : Int) * ((1025 : Nat) : Int) = ((1050625 : Nat) : Int) from rfl, u64n _ (by decide), if_neg (by omega)]
    refine ⟨_, rfl, ⟨fun h => ⟨by have := of_decide_eq_true h; omega, fun e h2 hle => he e h2 ?_ hle⟩, fun h => decide_eq_true (by have := h.1; omega)⟩⟩
    rcases Nat.lt_or_ge e 1025 with h | h
    · exact h
    · have := Nat.mul_le_mul h h
      omega
  | succ n ih =>
    intro d k hd hdn hk he
    obtain ⟨k, rfl⟩ : ∃ j, k = j + 1 := ⟨k - 1, by omega⟩
    have hdd : d * d ≤ 1025 * 1025 := Nat.mul_le_mul (by omega) (by omega)
    simp only [headendref01_IsPrime.l0]
    rw [show (d : Int) * (d : Int) = ((d * d : Nat) : Int) from (Int.natCast_mul d d).symm, u64n (d * d) (by omega)]
    by_cases h1 : d * d ≤ p
    · rw [if_pos (by omega), if_neg (by omega), tmod_nat]
      by_cases h2 : p % d = 0
      · rw [if_pos (by omega)]
        exact ⟨false, rfl, fun h => by simp at h, fun h => absurd h2 (h.2 d hd h1)⟩
      · rw [if_neg (by omega), show (d : Int) + 1 = ((d + 1 : Nat) : Int) from rfl, u64n (d + 1) (by omega)]
        exact ih (d + 1) k (by omega) (by omega) (by omega) (fun e h3 h4 h5 => by
          by_cases h6 : e = d
          · subst h6; exact h2
          · exact he e h3 (by omega) h5)
    · rw [if_neg (by omega)]
      refine ⟨_, rfl, ⟨fun h => ⟨by have := of_decide_eq_true h; omega, fun e h2 hle => he e h2 ?_ hle⟩, fun h => decide_eq_true (by have := h.1; omega)⟩⟩
      rcases Nat.lt_or_ge e d with h | h
      · exact h
      · have := Nat.mul_le_mul h h
        omega
theorem isPrime_f (p k : Nat) (hp : p ≤ 1048575) (hk : 1100 ≤ k) : ∃ b, headendref01_IsPrime.f k (p : Int) = some b ∧ (b = true ↔ IsP p) :=
  isPrime_l0 p hp 1023 2 k (by omega) (by omega) (by omega) (fun e h3 h4 => by omega)
theorem refPower_f (g q p k : Nat) (hp : 0 < p) (hp1 : p < 4294967296) (hq : q < 18446744073709551616) (hk : q < k) : headendref01_Power.f k (g : Int) (q : Int) (p : Int) = some ((g ^ q % p : Nat) : Int) := by
  unfold headendref01_Power.f
  rw [if_neg (by omega), ← power_same k _ _ _ _ (Int.natCast_nonneg _) (by omega), tmod_nat, show (1 : Int) % (p : Int) = ((1 % p : Nat) : Int) from rfl, power_l0 p hp hp1 q k _ _ (Nat.mod_lt _ hp) (Nat.mod_lt _ hp) hq hk]
  congr 2
  rw [Nat.mul_mod, Nat.mod_mod, ← Nat.pow_mod, ← Nat.mul_mod, Nat.one_mul]
/-- A valid group. -/
def Grp (p q g : Nat) : Prop := p ≤ 1048575 ∧ IsP p ∧ q ≤ 1048575 ∧ IsP q ∧ 2 ≤ g ∧ g < p ∧ g ^ q % p = 1
theorem validGroup_f (p q g k : Nat) (hp : p < 18446744073709551616) (hk : 1048576 + 1100 ≤ k) : ∃ b, headendref01_ValidGroup.f k (p : Int) (q : Int) (g : Int) = some b ∧ (b = true → Grp p q g) := by
  unfold headendref01_ValidGroup.f
  by_cases h1 : (p : Int) > 1048575
  · rw [if_pos h1]
    exact ⟨_, rfl, fun h => by simp at h⟩
  obtain ⟨bp, hbp, ip⟩ := isPrime_f p k (by omega) (by omega)
  rw [if_neg h1, hbp, Option.bind_some]
  by_cases h2 : bp = true
  case neg => rw [if_neg h2]; exact ⟨_, rfl, fun h => by simp at h⟩
  rw [if_pos h2]
  by_cases h3 : (q : Int) > 1048575
  · rw [if_pos h3]
    exact ⟨_, rfl, fun h => by simp at h⟩
  obtain ⟨bq, hbq, iq⟩ := isPrime_f q k (by omega) (by omega)
  rw [if_neg h3, hbq, Option.bind_some]
  by_cases h4 : bq = true
  case neg => rw [if_neg h4]; exact ⟨_, rfl, fun h => by simp at h⟩
  have hP := ip.1 h2
  have hQ := iq.1 h4
  rw [if_pos h4, if_neg (by have := hQ.1; omega)]
  split
  case isFalse => exact ⟨_, rfl, fun h => by simp at h⟩
  split
  case isFalse => exact ⟨_, rfl, fun h => by simp at h⟩
  split
  case isFalse => exact ⟨_, rfl, fun h => by simp at h⟩
  rename_i _ h6 h7
  rw [refPower_f g q p k (by have := hP.1; omega) (by omega) (by omega) (by omega), Option.bind_some]
  refine ⟨_, rfl, fun h => ⟨by omega, hP, by omega, hQ, by omega, by omega, ?_⟩⟩
  rw [beq_iff_eq] at h
  omega
/-! ### powers of the generator -/
theorem pow_red {p q g : Nat} (h : g ^ q % p = 1 % p) (i : Nat) : g ^ i % p = g ^ (i % q) % p := by
  conv => lhs; rw [← Nat.div_add_mod i q, Nat.pow_add, Nat.pow_mul, Nat.mul_mod, Nat.pow_mod, h, ← Nat.pow_mod, Nat.one_pow, ← Nat.mul_mod, Nat.one_mul]
theorem pow_gcd {p g : Nat} : ∀ (n m : Nat), g ^ n % p = 1 % p → g ^ m % p = 1 % p → g ^ (Nat.gcd n m) % p = 1 % p := by
  intro n
  induction n using Nat.strongRecOn with
  | _ n ih =>
    intro m hn hm
    by_cases h0 : n = 0
    · subst h0
      rw [Nat.gcd_zero_left]
      exact hm
    · rw [Nat.gcd_rec]
      have h1 : g ^ (m % n) % p = 1 % p := (pow_red hn m).symm.trans hm
      exact ih (m % n) (Nat.mod_lt _ (Nat.pos_of_ne_zero h0)) n h1 hn
theorem pow_one_only {p q g d : Nat} (h : Grp p q g) (hd : d < q) (h1 : g ^ d % p = 1 % p) : d = 0 := by
  obtain ⟨_, hP, _, hQ, hg2, hgp, hgq⟩ := h
  have hp2 := hP.1
  have e1 : 1 % p = 1 := Nat.mod_eq_of_lt (by omega)
  have hgc := pow_gcd d q h1 (by rw [hgq, e1])
  rcases Nat.eq_zero_or_pos d with h0 | h0
  · exact h0
  · have hle : Nat.gcd d q ≤ d := Nat.gcd_le_left _ h0
    have hpos : 0 < Nat.gcd d q := Nat.gcd_pos_of_pos_left _ h0
    have hone : Nat.gcd d q = 1 := by
      rcases Nat.lt_or_ge (Nat.gcd d q) 2 with h2 | h2
      · omega
      · exact absurd (Nat.mod_eq_zero_of_dvd (Nat.gcd_dvd_right d q)) (hQ.nodiv h2 (by omega))
    rw [hone, Nat.pow_one, Nat.mod_eq_of_lt hgp, e1] at hgc
    omega
theorem pow_inj_le {p q g a b : Nat} (h : Grp p q g) (hab : a ≤ b) (hb : b < q) (he : g ^ a % p = g ^ b % p) : a = b := by
  have hgq := h.2.2.2.2.2.2
  have hp2 := h.2.1.1
  have e1 : 1 % p = 1 := Nat.mod_eq_of_lt (by omega)
  have e2 : g ^ (a + (q - a)) % p = g ^ (b + (q - a)) % p := by
    rw [Nat.pow_add, Nat.pow_add, Nat.mul_mod, he, ← Nat.mul_mod]
  have e3 : a + (q - a) = q := by omega
  have e4 : b + (q - a) = q + (b - a) := by omega
  rw [e3, e4, Nat.pow_add, Nat.mul_mod, hgq] at e2
  have e5 : g ^ (b - a) % p = 1 % p := by
    rw [Nat.one_mul, Nat.mod_mod] at e2
    rw [← e2, e1]
  have := pow_one_only h (show b - a < q by omega) e5
  omega
theorem pow_iff {p q g : Nat} (h : Grp p q g) (i j : Nat) : g ^ i % p = g ^ j % p ↔ i % q = j % q := by
  have hgq := h.2.2.2.2.2.2
  have hp2 := h.2.1.1
  have hq2 := h.2.2.2.1.1
  have e1 : g ^ q % p = 1 % p := by rw [hgq, Nat.mod_eq_of_lt (by omega)]
  constructor
  · intro he
    rw [pow_red e1 i, pow_red e1 j] at he
    have hi := Nat.mod_lt i (show 0 < q by omega)
    have hj := Nat.mod_lt j (show 0 < q by omega)
    rcases Nat.le_total (i % q) (j % q) with hl | hl
    · exact pow_inj_le h hl hj he
    · exact (pow_inj_le h hl hi he.symm).symm
  · intro he
    rw [pow_red e1 i, pow_red e1 j, he]
theorem NumberElements (p q g i j : Int) (hp : (Lit.int .u64 p).wf = true) (hq : (Lit.int .u64 q).wf = true) (hg : (Lit.int .u64 g).wf = true) (hi : (Lit.int .u64 i).wf = true) (hj : (Lit.int .u64 j).wf = true) : ∃ k, headendlaw01_NumberElements.f k p q g i j = some true := by
  simp only [Lit.wf, IntKind.min, IntKind.max, IntKind.signed, IntKind.bits, Bool.and_eq_true, Bool.false_eq_true, if_false, decide_eq_true_eq] at hp hq hg hi hj
  obtain ⟨kc, rc, hc1, hc2⟩ := group_same p q g (by omega) (by omega) (by omega) (by omega)
  obtain ⟨p, rfl⟩ := Int.eq_ofNat_of_zero_le (show 0 ≤ p by omega)
  obtain ⟨q, rfl⟩ := Int.eq_ofNat_of_zero_le (show 0 ≤ q by omega)
  obtain ⟨g, rfl⟩ := Int.eq_ofNat_of_zero_le (show 0 ≤ g by omega)
  obtain ⟨i, rfl⟩ := Int.eq_ofNat_of_zero_le (show 0 ≤ i by omega)
  obtain ⟨j, rfl⟩ := Int.eq_ofNat_of_zero_le (show 0 ≤ j by omega)
  obtain ⟨K, hK⟩ : ∃ K, kc + i + j + 2000000 = K := ⟨_, rfl⟩
  have hcn := leO_from (F := fun k => number_CheckGroup.f k (p : Int) (q : Int) (g : Int)) (fun k => number_CheckGroup.mono _ _ _ k) hc1 (show kc ≤ K by omega)
  have hcr := leO_from (F := fun k => headendref01_CheckGroup.f k (p : Int) (q : Int) (g : Int)) (fun k => headendref01_CheckGroup.mono _ _ _ k) hc2 (show kc ≤ K by omega)
  obtain ⟨v, hv, hgrp⟩ := validGroup_f p q g K (by omega) (by omega)
  unfold headendref01_CheckGroup.f at hcr
  rw [hv, Option.bind_some] at hcr
  refine ⟨K, ?_⟩
  unfold headendlaw01_NumberElements.f
  rw [show headendlaw01_alive.f = some true from rfl, Option.bind_some, hv, Option.bind_some]
  by_cases hvt : v = true
  · have hG := hgrp hvt
    rw [if_pos hvt] at hcr
    have hrc : rc = 0 := (Option.some.inj hcr).symm
    have hp2 := hG.2.1.1
    have hq2 := hG.2.2.2.1.1
    have hpm := hG.1
    have hqm := hG.2.2.1
    obtain ⟨bp, hbp, ip⟩ := Prime_f p K hpm (by omega)
    obtain ⟨bq, hbq, iq⟩ := Prime_f q K hqm (by omega)
    rw [if_pos hvt, PowMod_f g i p K (by omega) (by omega) (by omega) (by omega), Option.bind_some, PowMod_f g j p K (by omega) (by omega) (by omega) (by omega), Option.bind_some, hbp, Option.bind_some, hbq, Option.bind_some, if_pos rfl, hcn, Option.bind_some, if_pos hrc, if_pos rfl, if_pos rfl, if_pos rfl, if_pos (ip.2 hG.2.1), if_pos rfl, if_pos (iq.2 hG.2.2.2.1), if_neg (by omega), tmod_nat, tmod_nat]
    have hiff := pow_iff hG i j
    congr 1
    by_cases he : i % q = j % q
    · rw [hiff.2 he, he, beq_self_eq_true, beq_self_eq_true]
      rfl
    · have h1 : (((g ^ i % p : Nat) : Int) == ((g ^ j % p : Nat) : Int)) = false := beq_eq_false_iff_ne.2 (fun e => he (hiff.1 (by omega)))
      have h2 : (((i % q : Nat) : Int) == ((j % q : Nat) : Int)) = false := beq_eq_false_iff_ne.2 (fun e => he (by omega))
      dsimp only
      rw [h1, h2]
      rfl
  · rw [if_neg hvt] at hcr
    have hrc : rc = 13 := (Option.some.inj hcr).symm
    rw [if_neg hvt, if_pos rfl, hcn, Option.bind_some, hrc]
    rfl
end Go.Proofs.Ythhgfogdeaaidaa.Pure

