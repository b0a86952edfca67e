/- Plain: powers and inverses to a modulus below 2^32: the program's and the reference's are one. -/
import Derived.Test.YthhgfogdeaaidaaR1
namespace Go.Proofs.Ythhgfogdeaaidaa.Pure
open Go.RowKit Go.Proofs.Ythhgfogdeaaidaa.R Go.Proofs.YthhgfogdeaaidaaW.PrintWords Go.Proofs.YthhgfogdeaaidaaW.PrintLast
set_option linter.unusedVariables false
theorem u64w (x : Int) (h0 : 0 ≤ x) (h1 : x < 18446744073709551616) : IntKind.u64.wrap x = x := by
  show x % 18446744073709551616 = x
  omega
theorem w64_in (x : Int) (h : -9223372036854775808 ≤ x ∧ x ≤ 9223372036854775807) : wrap64 x = x := by unfold wrap64; omega
theorem low_bit (x : Int) (h0 : 0 ≤ x) (h1 : x < 18446744073709551616) : Go.bits .and .u64 x 1 = x % 2 := by
  obtain ⟨n, rfl⟩ := Int.eq_ofNat_of_zero_le h0
  have := u64_and_nat n 1 (by omega) (by omega)
  rw [show ((1 : Nat) : Int) = 1 from rfl] at this
  rw [this, Nat.and_one_is_mod]
  omega
theorem tmod_two (x : Int) (h0 : 0 ≤ x) : Int.tmod x 2 = x % 2 := Int.tmod_eq_emod_of_nonneg h0
theorem tdiv_two (x : Int) (h0 : 0 ≤ x) : Int.tdiv x 2 = x / 2 := Int.tdiv_eq_ediv_of_nonneg h0
theorem power_same : ∀ (k : Nat) (b x m acc : Int), 0 ≤ x → x < 18446744073709551616 → number_power.l0 k b x m acc = headendref01_Power.l0 k x m acc b
  | 0, _, _, _, _, _, _ => rfl
  | k + 1, b, x, m, acc, h0, h1 => by
    unfold number_power.l0 headendref01_Power.l0
    rw [low_bit x h0 h1, tmod_two x h0, tdiv_two x h0, u64w (x / 2) (by omega) (by omega)]
    by_cases c : x > 0
    · rw [if_pos c, if_pos c]
      rw [power_same k _ (x / 2) m _ (by omega) (by omega), power_same k _ (x / 2) m _ (by omega) (by omega)]
    · rw [if_neg c, if_neg c]
theorem power_ends (m : Int) (hm : m ≠ 0) : ∀ (n : Nat) (x acc b : Int), 0 ≤ x → x < 18446744073709551616 → x.toNat ≤ n → ∃ k r, headendref01_Power.l0 k x m acc b = some r
  | 0, x, acc, b, h0, h1, hn => ⟨1, acc, by unfold headendref01_Power.l0; rw [if_neg (by omega)]⟩
  | n + 1, x, acc, b, h0, h1, hn => by
    by_cases c : x > 0
    · have hd : (x / 2).toNat ≤ n := by omega
      by_cases c2 : x % 2 = 1
      · obtain ⟨k, r, h⟩ := power_ends m hm n (x / 2) (Int.tmod (IntKind.u64.wrap (acc * b)) m) (Int.tmod (IntKind.u64.wrap (b * b)) m) (by omega) (by omega) hd
        refine ⟨k + 1, r, ?_⟩
        unfold headendref01_Power.l0
        rw [if_pos c, tmod_two x h0, if_pos c2, if_neg hm, tdiv_two x h0, u64w (x / 2) (by omega) (by omega)]
        exact h
      · obtain ⟨k, r, h⟩ := power_ends m hm n (x / 2) acc (Int.tmod (IntKind.u64.wrap (b * b)) m) (by omega) (by omega) hd
        refine ⟨k + 1, r, ?_⟩
        unfold headendref01_Power.l0
        rw [if_pos c, tmod_two x h0, if_neg c2, if_neg hm, tdiv_two x h0, u64w (x / 2) (by omega) (by omega)]
        exact h
    · exact ⟨1, acc, by unfold headendref01_Power.l0; rw [if_neg c]⟩
theorem powMod_same (a b m : Int) (hb0 : 0 ≤ b) (hb : b < 18446744073709551616) (hm0 : 0 ≤ m) : ∃ k r, number_PowMod.f k a b m = some r ∧ headendref01_PowMod.f k a b m = some r := by
  by_cases c1 : m < 1
  · refine ⟨0, (0, 2), ?_, ?_⟩
    · unfold number_PowMod.f number_modulus.f
      rw [if_neg (by omega)]
      rfl
    · unfold headendref01_PowMod.f
      rw [if_pos c1]
  · by_cases c2 : m ≥ 4294967296
    · refine ⟨0, (0, 2), ?_, ?_⟩
      · unfold number_PowMod.f number_modulus.f
        rw [if_pos (by omega), decide_eq_false (by omega)]
        rfl
      · unfold headendref01_PowMod.f
        rw [if_neg c1, if_pos c2]
    · obtain ⟨k, r, h⟩ := power_ends m (by omega) _ b ((1 : Int) % m) (Int.tmod a m) hb0 hb (Nat.le_refl _)
      refine ⟨k, (r, 0), ?_, ?_⟩
      · unfold number_PowMod.f number_modulus.f number_power.f
        rw [if_pos (by omega), decide_eq_true (by omega)]
        rw [Option.bind_some, if_pos rfl, if_neg (by omega), power_same k _ b m _ hb0 hb, h]
        rfl
      · unfold headendref01_PowMod.f headendref01_Power.f
        rw [if_neg c1, if_neg c2, if_neg (by omega), h]
        rfl
/-! ### the inverse -/
theorem iabs_mul (a b : Int) : (a * b).natAbs = a.natAbs * b.natAbs := Int.natAbs_mul a b
/-- A round of Euclid's: what the coefficients stay below. -/
theorem euclid_bound {m r0 r1 : Nat} {t0 t1 : Int} (h1 : 0 < r1) (h : t0.natAbs * r1 + t1.natAbs * r0 ≤ m) :
    (((r0 / r1 : Nat) : Int) * t1).natAbs ≤ m ∧ (t0 - ((r0 / r1 : Nat) : Int) * t1).natAbs ≤ m ∧ t1.natAbs * (r0 % r1) + (t0 - ((r0 / r1 : Nat) : Int) * t1).natAbs * r1 ≤ m := by
  have hd := Nat.div_add_mod r0 r1
  generalize r0 / r1 = q at *
  generalize r0 % r1 = r2 at *
  have hq : ((q : Int) * t1).natAbs = q * t1.natAbs := by rw [iabs_mul]; rfl
  have hs : (t0 - (q : Int) * t1).natAbs ≤ t0.natAbs + q * t1.natAbs := by rw [← hq]; omega
  generalize (t0 - (q : Int) * t1).natAbs = T2 at *
  generalize t0.natAbs = T0 at *
  generalize t1.natAbs = T1 at *
  have e : T1 * r0 = T1 * r2 + q * T1 * r1 := by
    rw [← hd, Nat.mul_add, Nat.add_comm]
    congr 1
    rw [Nat.mul_comm q T1, Nat.mul_assoc, Nat.mul_comm q r1]
  have f : T2 * r1 ≤ (T0 + q * T1) * r1 := Nat.mul_le_mul_right _ hs
  rw [Nat.add_mul] at f
  have g1 : q * T1 ≤ q * T1 * r1 := Nat.le_mul_of_pos_right _ h1
  have g2 : T2 ≤ T2 * r1 := Nat.le_mul_of_pos_right _ h1
  rw [hq]
  generalize q * T1 * r1 = A at *
  generalize T1 * r2 = B at *
  generalize T0 * r1 = C at *
  generalize T1 * r0 = D at *
  generalize T2 * r1 = E at *
  generalize q * T1 = G at *
  omega
/-- The reference's coefficient. -/
theorem coef_step {m q x7 x9 : Int} {t0 t1 : Int} (hm : 0 < m) (hm1 : m < 4294967296) (hq0 : 0 ≤ q) (h7 : x7 = t0 % m) (h9 : x9 = t1 % m) :
    Int.tmod (IntKind.u64.wrap (x7 + (IntKind.u64.wrap (m - (Int.tmod (IntKind.u64.wrap ((Int.tmod q m) * x9)) m))))) m = (t0 - q * t1) % m := by
  have b7 : 0 ≤ x7 ∧ x7 < m := by rw [h7]; exact ⟨Int.emod_nonneg _ (by omega), Int.emod_lt_of_pos _ hm⟩
  have b9 : 0 ≤ x9 ∧ x9 < m := by rw [h9]; exact ⟨Int.emod_nonneg _ (by omega), Int.emod_lt_of_pos _ hm⟩
  rw [Int.tmod_eq_emod_of_nonneg hq0]
  have bq : 0 ≤ q % m ∧ q % m < m := ⟨Int.emod_nonneg _ (by omega), Int.emod_lt_of_pos _ hm⟩
  have p0 : 0 ≤ q % m * x9 := Int.mul_nonneg bq.1 b9.1
  have p1 : q % m * x9 < 18446744073709551616 := by
    have : q % m * x9 ≤ 4294967295 * 4294967295 := Int.mul_le_mul (by omega) (by omega) b9.1 (by omega)
    exact Int.lt_of_le_of_lt this (by decide)
  rw [u64w _ p0 p1, Int.tmod_eq_emod_of_nonneg p0]
  have bp : 0 ≤ q % m * x9 % m ∧ q % m * x9 % m < m := ⟨Int.emod_nonneg _ (by omega), Int.emod_lt_of_pos _ hm⟩
  rw [u64w (m - q % m * x9 % m) (by omega) (by omega), u64w (x7 + (m - q % m * x9 % m)) (by omega) (by omega), Int.tmod_eq_emod_of_nonneg (by omega)]
  have e : x7 + (m - q % m * x9 % m) = (x7 - q % m * x9 % m) + m := by omega
  rw [e, Int.add_emod_right, h7, h9]
  rw [Int.mul_emod (q % m) (t1 % m), Int.emod_emod, Int.emod_emod, ← Int.mul_emod, Int.sub_emod (t0 % m), Int.emod_emod, Int.emod_emod, ← Int.sub_emod]
theorem inv_walk (m : Int) (hm : 0 < m) (hm1 : m < 4294967296) : ∀ (n : Nat) (r0 r1 : Nat) (t0 t1 : Int), r1 ≤ n → (r0 : Int) ≤ m → (r1 : Int) ≤ m → t0.natAbs ≤ m.toNat → t1.natAbs ≤ m.toNat → t0.natAbs * r1 + t1.natAbs * r0 ≤ m.toNat →
    ∃ k x g, number_InvMod.l0 k m (r0 : Int) (r1 : Int) t0 t1 = some (if g = true then (x, 0) else (0, 10)) ∧ headendref01_Inverse.l0 k m (r0 : Int) (t0 % m) (r1 : Int) (t1 % m) = some (x, g) := by
  intro n
  induction n with
  | zero =>
    intro r0 r1 t0 t1 hn _ _ ht0 _ _
    obtain rfl : r1 = 0 := by omega
    have hw : wrap64 m = m := w64_in m (by omega)
    have e1 : wrap64 (Int.tmod t0 m + m) = Int.tmod t0 m + m := w64_in _ (by
      have := Int.tmod_lt_of_pos t0 hm
      have := Int.lt_tmod_of_pos t0 hm
      omega)
    have e2 : Int.tmod (Int.tmod t0 m + m) m = t0 % m := by
      have h1 := Int.lt_tmod_of_pos t0 hm
      rw [Int.tmod_eq_emod_of_nonneg (by omega), Int.add_emod_right]
      rw [Int.tmod_eq_emod]
      split
      · show (t0 % m - 0) % m = t0 % m
        rw [Int.sub_zero, Int.emod_emod]
      · rw [Int.sub_emod, Int.emod_emod, show ((m.natAbs : Nat) : Int) = m by omega, Int.emod_self, Int.sub_zero, Int.emod_emod]
    have e3 : IntKind.u64.wrap (t0 % m) = t0 % m := u64w _ (Int.emod_nonneg _ (by omega)) (by have := Int.emod_lt_of_pos t0 hm; omega)
    refine ⟨1, t0 % m, ((r0 : Int) == 1), ?_, ?_⟩
    · unfold number_InvMod.l0
      rw [if_pos (show ((0 : Nat) : Int) = 0 from rfl), hw, e1, e2, e3]
      by_cases c : (r0 : Int) = 1
      · rw [if_pos c, if_neg (by omega), c]; rfl
      · rw [if_neg c, if_neg (by simpa using c)]
    · unfold headendref01_Inverse.l0
      rw [if_pos (show ((0 : Nat) : Int) = 0 from rfl)]
  | succ n ih =>
    intro r0 r1 t0 t1 hn hr0 hr1 ht0 ht1 hb
    by_cases c : r1 = 0
    · exact ih r0 r1 t0 t1 (by omega) hr0 hr1 ht0 ht1 hb
    · have hp : 0 < r1 := by omega
      obtain ⟨b1, b2, b3⟩ := euclid_bound hp hb
      have hmod := Nat.mod_lt r0 hp
      have hdm := Nat.div_add_mod r0 r1
      have hqle : r0 / r1 ≤ r0 := Nat.div_le_self _ _
      obtain ⟨k, x, g, h1, h2⟩ := ih r1 (r0 % r1) t1 (t0 - ((r0 / r1 : Nat) : Int) * t1) (by omega) hr1 (by omega) ht1 b2 b3
      have q1 : Int.tdiv (r0 : Int) (r1 : Int) = ((r0 / r1 : Nat) : Int) := rfl
      have hc : ¬ ((r1 : Int) = 0) := by omega
      have hmul : ((r0 / r1 : Nat) : Int) * (r1 : Int) = ((r1 * (r0 / r1) : Nat) : Int) := by rw [Nat.mul_comm, Int.natCast_mul]
      generalize hqq : r0 / r1 = q at *
      generalize hrr : r0 % r1 = r2 at *
      generalize hpp : r1 * q = p at *
      have hpr : (p : Int) = r0 - r2 := by omega
      have m1 : ((r0 : Int) - (p : Int)) = (r2 : Int) := by omega
      refine ⟨k + 1, x, g, ?_, ?_⟩
      · unfold number_InvMod.l0
        rw [if_neg hc, q1, w64_in (q : Int) (by omega), hmul, w64_in (p : Int) (by omega), m1, w64_in (r2 : Int) (by omega), w64_in ((q : Int) * t1) (by omega), w64_in (t0 - (q : Int) * t1) (by omega)]
        exact h1
      · unfold headendref01_Inverse.l0
        rw [if_neg hc, if_neg (by omega), q1, u64w (q : Int) (by omega) (by omega), coef_step hm hm1 (by omega) rfl rfl, hmul, u64w (p : Int) (by omega) (by omega), m1, u64w (r2 : Int) (by omega) (by omega)]
        exact h2
theorem invMod_same (a m : Int) (ha0 : 0 ≤ a) (hm0 : 0 ≤ m) : ∃ k r, number_InvMod.f k a m = some r ∧ headendref01_InvMod.f k a m = some r := by
  by_cases c1 : m < 1
  · refine ⟨1, (0, 2), ?_, ?_⟩
    · unfold number_InvMod.f number_modulus.f
      rw [if_neg (by omega)]
      rfl
    · unfold headendref01_InvMod.f headendref01_InvMod.j0
      rw [if_pos c1]
      rfl
  · by_cases c2 : m ≥ 4294967296
    · refine ⟨1, (0, 2), ?_, ?_⟩
      · unfold number_InvMod.f number_modulus.f
        rw [if_pos (by omega), decide_eq_false (by omega)]
        rfl
      · unfold headendref01_InvMod.f headendref01_InvMod.j0
        rw [if_neg c1, decide_eq_true c2]
        rfl
    · have hm : 0 < m := by omega
      have ham : 0 ≤ a % m ∧ a % m < m := ⟨Int.emod_nonneg _ (by omega), Int.emod_lt_of_pos _ hm⟩
      have hta : Int.tmod a m = a % m := Int.tmod_eq_emod_of_nonneg ha0
      obtain ⟨A, hA⟩ := Int.eq_ofNat_of_zero_le ham.1
      obtain ⟨M, hM⟩ := Int.eq_ofNat_of_zero_le hm0
      obtain ⟨k, x, g, h1, h2⟩ := inv_walk m hm (by omega) A M A 0 1 (Nat.le_refl _) (by omega) (by omega) (by simp) (by simp; omega) (by simp; omega)
      -- the reference's first round turns (a mod m, m) round
      have h3 : headendref01_Inverse.l0 (k + 1) m (A : Int) (1 % m) m 0 = some (x, g) := by
        unfold headendref01_Inverse.l0
        have q1 : Int.tdiv (A : Int) m = 0 := by rw [Int.tdiv_eq_ediv_of_nonneg (by omega), Int.ediv_eq_zero_of_lt (by omega) (by omega)]
        rw [if_neg (by omega), if_neg (by omega), q1, u64w 0 (by omega) (by omega), coef_step (t0 := 1) (t1 := 0) hm (by omega) (by omega) rfl (by simp)]
        rw [Int.zero_mul, u64w 0 (by omega) (by omega), Int.sub_zero, u64w (A : Int) (by omega) (by omega), Int.zero_mul, Int.sub_zero]
        rw [show (0 : Int) % m = 0 by simp, ← hM] at h2
        exact h2
      refine ⟨k + 2, (if g = true then (x, 0) else (0, 10)), ?_, ?_⟩
      · unfold number_InvMod.f number_modulus.f
        rw [if_pos (by omega), decide_eq_true (by omega)]
        rw [Option.bind_some, if_pos rfl, if_neg (by omega), hta, hA, w64_in m (by omega), w64_in (A : Int) (by omega)]
        rw [← hM] at h1
        exact number_InvMod.mono_l _ _ _ _ _ _ _ (number_InvMod.mono_l k _ _ _ _ _ _ h1)
      · unfold headendref01_InvMod.f headendref01_InvMod.j0 headendref01_Inverse.f
        rw [if_neg c1, decide_eq_false (by omega)]
        show (if false = true then _ else Option.bind _ _) = _
        rw [if_neg (by simp), if_neg (by omega), hta, hA, h3, Option.bind_some]
        by_cases hg : g = true
        · rw [if_pos hg, if_pos hg]
        · rw [if_neg hg, if_neg hg]
theorem powMod_mono {k n a b m} {r} (h : number_PowMod.f k a b m = some r) : number_PowMod.f (k + n) a b m = some r := by
  induction n with
  | zero => exact h
  | succ n ih => exact number_PowMod.mono _ _ _ _ _ ih
theorem refPowMod_mono {k n a b m} {r} (h : headendref01_PowMod.f k a b m = some r) : headendref01_PowMod.f (k + n) a b m = some r := by
  induction n with
  | zero => exact h
  | succ n ih => exact headendref01_PowMod.mono _ _ _ _ _ ih
theorem invMod_mono {k n a m} {r} (h : number_InvMod.f k a m = some r) : number_InvMod.f (k + n) a m = some r := by
  induction n with
  | zero => exact h
  | succ n ih => exact number_InvMod.mono _ _ _ _ ih
theorem refInvMod_mono {k n a m} {r} (h : headendref01_InvMod.f k a m = some r) : headendref01_InvMod.f (k + n) a m = some r := by
  induction n with
  | zero => exact h
  | succ n ih => exact headendref01_InvMod.mono _ _ _ _ ih
theorem NumberModular : headendlaw01_NumberModular.Pure := by
  intro a b m ha hb hm
  simp only [Lit.wf, IntKind.min, IntKind.max, IntKind.signed, IntKind.bits, Bool.and_eq_true, Bool.false_eq_true, if_false, decide_eq_true_eq] at ha hb hm
  obtain ⟨k1, r1, h1, h2⟩ := powMod_same a b m (by omega) (by omega) (by omega)
  obtain ⟨k2, r2, h3, h4⟩ := invMod_same a m (by omega) (by omega)
  refine ⟨k1 + k2 + 1, ?_⟩
  unfold headendlaw01_NumberModular.f
  rw [Nat.add_assoc, powMod_mono h1, refPowMod_mono h2, Option.bind_some, Option.bind_some, if_pos rfl]
  have e : (r1.2 != r1.2) = false := by simp
  rw [e, ← Nat.add_assoc]
  unfold headendlaw01_NumberModular.j0
  show (if (false : Bool) = true then some false else Option.bind _ _) = _
  rw [if_neg (by simp), Nat.add_comm k1 k2, invMod_mono h3, refInvMod_mono h4, Option.bind_some, Option.bind_some, if_pos rfl]
  simp
end Go.Proofs.Ythhgfogdeaaidaa.Pure

