/- Plain: powers, inverses and primes: what the program answers, as facts of natural numbers. -/
import Derived.Test.YthhgfogdeaaidaaR0
import Derived.Test.YthhgfogdeaaidaaR1
import Derived.Test.YthhgfogdeaaidaaR2
import Derived.Test.YthhgfogdeaaidaaGtimes
namespace Go.Proofs.Ythhgfogdeaaidaa.R
open Go.RowKit Go.Proofs.YthhgfogdeaaidaaW.PrintWords Go.Proofs.YthhgfogdeaaidaaW.PrintLast Go.Proofs.YthhgfogdeaaidaaW.PrintMore
set_option linter.unusedVariables false
set_option linter.unusedSimpArgs false
theorem low_bit (x : Nat) (h1 : x < 18446744073709551616) : Go.bits .and .u64 (x : Int) 1 = ((x % 2 : Nat) : Int) := by
  have h : Go.bits .and .u64 (x : Int) ((1 : Nat) : Int) = ((x &&& 1 : Nat) : Int) := u64_and_nat _ _ h1 (by decide)
  rw [show (1 : Int) = ((1 : Nat) : Int) from rfl, h, Nat.and_one_is_mod]
theorem mul_small {a b m : Nat} (ha : a < m) (hb : b < m) (hm : m < 4294967296) : a * b < 18446744073709551616 := by
  have : a * b ≤ 4294967295 * 4294967295 := Nat.mul_le_mul (by omega) (by omega)
  omega
theorem pow_two (b x : Nat) : b ^ x = (b * b) ^ (x / 2) * b ^ (x % 2) := by
  rw [← Nat.pow_two, ← Nat.pow_mul, ← Nat.pow_add, Nat.div_add_mod]
theorem power_l0 (m : Nat) (hm0 : 0 < m) (hm : m < 4294967296) : ∀ (x k acc b : Nat), acc < m → b < m → x < 18446744073709551616 → x < k →
    number_power.l0 k (b : Int) (x : Int) (m : Int) (acc : Int) = some ((acc * b ^ x % m : Nat) : Int) := by
  intro x
  induction x using Nat.strongRecOn with
  | _ x ih =>
    intro k acc b ha hb hx hk
    obtain ⟨k, rfl⟩ : ∃ n, k = n + 1 := ⟨k - 1, by omega⟩
    simp only [number_power.l0]
    by_cases h0 : x = 0
    · subst h0
      rw [if_neg (by decide), Nat.pow_zero, Nat.mul_one, Nat.mod_eq_of_lt ha]
    · have hbb := mul_small hb hb hm
      have hab := mul_small ha hb hm
      have hlt : x / 2 < x := by omega
      have hmn : ¬ (m : Int) = 0 := by omega
      have e1 : Int.tmod (IntKind.u64.wrap ((b : Int) * (b : Int))) (m : Int) = ((b * b % m : Nat) : Int) := by
        rw [show (b : Int) * (b : Int) = ((b * b : Nat) : Int) from (Int.natCast_mul b b).symm, u64n (b * b) hbb, tmod_nat]
      have e2 : Int.tmod (IntKind.u64.wrap ((acc : Int) * (b : Int))) (m : Int) = ((acc * b % m : Nat) : Int) := by
        rw [show (acc : Int) * (b : Int) = ((acc * b : Nat) : Int) from (Int.natCast_mul acc b).symm, u64n (acc * b) hab, tmod_nat]
      have e3 : (x : Int) / 2 = ((x / 2 : Nat) : Int) := rfl
      rw [if_pos (show (x : Int) > 0 by omega), low_bit x hx, if_neg hmn, if_neg hmn, e1, e2, e3]
      by_cases hodd : x % 2 = 1
      · rw [if_pos (by omega), ih (x / 2) hlt k _ _ (Nat.mod_lt _ hm0) (Nat.mod_lt _ hm0) (by omega) (by omega)]
        congr 2
        conv => rhs; rw [pow_two b x, hodd, Nat.pow_one]
        rw [Nat.mul_mod, Nat.mod_mod, ← Nat.pow_mod, ← Nat.mul_mod, Nat.mul_assoc, Nat.mul_comm b]
      · have hev : x % 2 = 0 := by omega
        rw [if_neg (by omega), ih (x / 2) hlt k _ _ ha (Nat.mod_lt _ hm0) (by omega) (by omega)]
        congr 2
        conv => rhs; rw [pow_two b x, hev, Nat.pow_zero, Nat.mul_one]
        rw [Nat.mul_mod, ← Nat.pow_mod, ← Nat.mul_mod]
theorem PowMod_f (a x m k : Nat) (hm0 : 0 < m) (hm : m < 4294967296) (hx : x < 18446744073709551616) (hk : x < k) : number_PowMod.f k (a : Int) (x : Int) (m : Int) = some (((a ^ x % m : Nat) : Int), 0) := by
  unfold number_PowMod.f number_modulus.f
  rw [if_pos (show (m : Int) ≥ 1 by omega), Option.bind_some, decide_eq_true (by omega), if_pos rfl]
  unfold number_power.f
  rw [if_neg (show ¬ (m : Int) = 0 by omega), tmod_nat, show (1 : Int) % (m : Int) = ((1 % m : Nat) : Int) from rfl, power_l0 m hm0 hm x k _ _ (Nat.mod_lt _ hm0) (Nat.mod_lt _ hm0) hx hk, Option.bind_some]
  congr 3
  rw [Nat.mul_mod, Nat.mod_mod, ← Nat.pow_mod, ← Nat.mul_mod, Nat.one_mul]
theorem PowMod_bad (a x m : Int) (k : Nat) (h : m < 1 ∨ 4294967296 ≤ m) : number_PowMod.f k a x m = some (0, 2) := by
  unfold number_PowMod.f number_modulus.f
  by_cases h1 : m ≥ 1
  · rw [if_pos h1, Option.bind_some, decide_eq_false (by omega), if_neg (by decide)]
  · rw [if_neg h1, Option.bind_some, if_neg (by decide)]
/-! ### inverses -/
theorem euclid_bound {m r0 r1 : Nat} {t0 t1 : Int} (h1 : 0 < r1) (h : t0.natAbs * r1 + t1.natAbs * r0 ≤ m) :
    (((r0 / r1 : Nat) : Int) * t1).natAbs ≤ m ∧ (t0 - ((r0 / r1 : Nat) : Int) * t1).natAbs ≤ m ∧ t1.natAbs * (r0 % r1) + (t0 - ((r0 / r1 : Nat) : Int) * t1).natAbs * r1 ≤ m := by
  have hd := Nat.div_add_mod r0 r1
  generalize r0 / r1 = q at *
  generalize r0 % r1 = r2 at *
  have hq : ((q : Int) * t1).natAbs = q * t1.natAbs := by rw [Int.natAbs_mul]; rfl
  have hs : (t0 - (q : Int) * t1).natAbs ≤ t0.natAbs + q * t1.natAbs := by rw [← hq]; omega
  generalize (t0 - (q : Int) * t1).natAbs = T2 at *
  generalize t0.natAbs = T0 at *
  generalize t1.natAbs = T1 at *
  have e : T1 * r0 = T1 * r2 + q * T1 * r1 := by
    rw [← hd, Nat.mul_add, Nat.add_comm]
    congr 1
    rw [Nat.mul_comm q T1, Nat.mul_assoc, Nat.mul_comm q r1]
  have f : T2 * r1 ≤ (T0 + q * T1) * r1 := Nat.mul_le_mul_right _ hs
  rw [Nat.add_mul] at f
  have g1 : q * T1 ≤ q * T1 * r1 := Nat.le_mul_of_pos_right _ h1
  have g2 : T2 ≤ T2 * r1 := Nat.le_mul_of_pos_right _ h1
  rw [hq]
  generalize q * T1 * r1 = A at *
  generalize T1 * r2 = B at *
  generalize T0 * r1 = C at *
  generalize T1 * r0 = D at *
  generalize T2 * r1 = E at *
  generalize q * T1 = G at *
  omega
/-- What an inverse is. -/
def InvOf (a : Int) (m : Nat) (G : Nat) (r : Int × Int) : Prop := (G = 1 ∧ r.2 = 0 ∧ 0 ≤ r.1 ∧ r.1 < (m : Int) ∧ (m : Int) ∣ r.1 * a - 1) ∨ (G ≠ 1 ∧ r = (0, 10))
theorem inv_l0 (a : Int) (m : Nat) (hm : 0 < m) (hm1 : m < 4294967296) : ∀ (n r0 r1 k : Nat) (t0 t1 : Int), r1 ≤ n → n < k → r0 ≤ m → r1 ≤ m → t0.natAbs ≤ m → t1.natAbs ≤ m → t0.natAbs * r1 + t1.natAbs * r0 ≤ m →
    (m : Int) ∣ t0 * a - (r0 : Int) → (m : Int) ∣ t1 * a - (r1 : Int) → ∃ r, number_InvMod.l0 k (m : Int) (r0 : Int) (r1 : Int) t0 t1 = some r ∧ InvOf a m (Nat.gcd r0 r1) r := by
  intro n
  induction n with
  | zero =>
    intro r0 r1 k t0 t1 hn hk _ _ ht0 _ _ d0 _
    obtain ⟨k, rfl⟩ : ∃ j, k = j + 1 := ⟨k - 1, by omega⟩
    obtain rfl : r1 = 0 := by omega
    have hmi : (0 : Int) < (m : Int) := by omega
    have hw : wrap64 (m : Int) = (m : Int) := w64 _ (by omega) (by omega)
    have e1 : wrap64 (Int.tmod t0 m + m) = Int.tmod t0 m + m := by
      have h1 := Int.tmod_lt_of_pos t0 hmi
      have h2 := Int.lt_tmod_of_pos t0 hmi
      exact w64 _ (by omega) (by omega)
    have e2 : Int.tmod (Int.tmod t0 m + m) m = t0 % m := by
      have h1 := Int.lt_tmod_of_pos t0 hmi
      rw [Int.tmod_eq_emod_of_nonneg (by omega), Int.add_emod_right]
      rw [Int.tmod_eq_emod]
      split
      · show (t0 % m - 0) % m = t0 % m
        rw [Int.sub_zero, Int.emod_emod]
      · rw [Int.sub_emod, Int.emod_emod, show (((m : Int).natAbs : Nat) : Int) = (m : Int) by omega, Int.emod_self, Int.sub_zero, Int.emod_emod]
    have p0 := Int.emod_nonneg t0 (show (m : Int) ≠ 0 by omega)
    have p1 := Int.emod_lt_of_pos t0 hmi
    have e3 : IntKind.u64.wrap (t0 % m) = t0 % m := u64_in _ p0 (by omega)
    unfold number_InvMod.l0
    rw [if_pos (show ((0 : Nat) : Int) = 0 from rfl), hw, e1, e2, e3, Nat.gcd_zero_right]
    by_cases c : (r0 : Int) = 1
    · rw [if_pos c, if_neg (by omega)]
      refine ⟨_, rfl, .inl ⟨by omega, rfl, p0, p1, ?_⟩⟩
      rw [c] at d0
      obtain ⟨z, hz⟩ := d0
      refine ⟨z - t0 / m * a, ?_⟩
      have h3 := Int.mul_ediv_add_emod t0 m
      have h4 : (t0 % m) * a = t0 * a - (m : Int) * (t0 / m * a) := by
        conv => rhs; lhs; rw [← h3]
        rw [Int.add_mul, Int.mul_assoc]
        omega
      show t0 % m * a - 1 = _
      rw [h4, Int.mul_sub]
      omega
    · rw [if_neg c]
      exact ⟨_, rfl, .inr ⟨by omega, rfl⟩⟩
  | succ n ih =>
    intro r0 r1 k t0 t1 hn hk hr0 hr1 ht0 ht1 hb d0 d1
    by_cases c : r1 = 0
    · exact ih r0 r1 k t0 t1 (by omega) (by omega) hr0 hr1 ht0 ht1 hb d0 d1
    · obtain ⟨k, rfl⟩ : ∃ j, k = j + 1 := ⟨k - 1, by omega⟩
      have hp : 0 < r1 := by omega
      obtain ⟨b1, b2, b3⟩ := euclid_bound hp hb
      have hmod := Nat.mod_lt r0 hp
      have hdm := Nat.div_add_mod r0 r1
      have hqle : r0 / r1 ≤ r0 := Nat.div_le_self _ _
      have d2 : (m : Int) ∣ (t0 - ((r0 / r1 : Nat) : Int) * t1) * a - ((r0 % r1 : Nat) : Int) := by
        obtain ⟨y, hy⟩ := d0
        obtain ⟨z, hz⟩ := d1
        refine ⟨y - ((r0 / r1 : Nat) : Int) * z, ?_⟩
        have h5 : (r0 : Int) = (r1 : Int) * ((r0 / r1 : Nat) : Int) + ((r0 % r1 : Nat) : Int) := by
          conv => lhs; rw [← hdm]
          rw [Int.natCast_add, Int.natCast_mul]
        have h6 : ((r0 / r1 : Nat) : Int) * (t1 * a - (r1 : Int)) = (m : Int) * (((r0 / r1 : Nat) : Int) * z) := by rw [hz, Int.mul_left_comm]
        rw [Int.mul_sub] at h6
        rw [Int.sub_mul, Int.mul_sub, ← hy, ← h6, Int.mul_assoc, Int.mul_comm ((r0 / r1 : Nat) : Int) (r1 : Int)]
        omega
      obtain ⟨r, h1, h2⟩ := ih r1 (r0 % r1) k t1 (t0 - ((r0 / r1 : Nat) : Int) * t1) (by omega) (by omega) hr1 (by omega) ht1 b2 b3 d1 d2
      have hg : Nat.gcd r0 r1 = Nat.gcd r1 (r0 % r1) := by rw [Nat.gcd_comm, Nat.gcd_rec, Nat.gcd_comm]
      rw [hg]
      have q1 : Int.tdiv (r0 : Int) (r1 : Int) = ((r0 / r1 : Nat) : Int) := rfl
      have hc : ¬ ((r1 : Int) = 0) := by omega
      have hmul : ((r0 / r1 : Nat) : Int) * (r1 : Int) = ((r1 * (r0 / r1) : Nat) : Int) := by rw [Nat.mul_comm, Int.natCast_mul]
      generalize hqq : r0 / r1 = q at *
      generalize hrr : r0 % r1 = r2 at *
      generalize hpp : r1 * q = p at *
      have m1 : ((r0 : Int) - (p : Int)) = (r2 : Int) := by omega
      refine ⟨r, ?_, h2⟩
      unfold number_InvMod.l0
      rw [if_neg hc, q1, w64 (q : Int) (by omega) (by omega), hmul, w64 (p : Int) (by omega) (by omega), m1, w64 (r2 : Int) (by omega) (by omega), w64 ((q : Int) * t1) (by omega) (by omega), w64 (t0 - (q : Int) * t1) (by omega) (by omega)]
      exact h1
theorem InvMod_f (a m k : Nat) (hm : 0 < m) (hm1 : m < 4294967296) (hk : m + 1 < k) : ∃ r, number_InvMod.f k (a : Int) (m : Int) = some r ∧ InvOf (a : Int) m (Nat.gcd a m) r := by
  have hlt := Nat.mod_lt a hm
  obtain ⟨r, h1, h2⟩ := inv_l0 (a : Int) m hm hm1 m m (a % m) k 0 1 (by omega) (by omega) (by omega) (by omega) (by simp) (by simp; omega) (by simp) ⟨-1, by omega⟩ (by
    refine ⟨((a / m : Nat) : Int), ?_⟩
    have := Nat.div_add_mod a m
    rw [← Int.natCast_mul]
    omega)
  refine ⟨r, ?_, ?_⟩
  · unfold number_InvMod.f number_modulus.f
    rw [if_pos (show (m : Int) ≥ 1 by omega), Option.bind_some, decide_eq_true (by omega), if_pos rfl, if_neg (by omega), tmod_nat, w64 _ (by omega) (by omega), w64 _ (by omega) (by omega)]
    exact h1
  · rwa [show Nat.gcd a m = Nat.gcd m (a % m) by rw [Nat.gcd_comm, Nat.gcd_rec, Nat.gcd_comm]]
theorem InvMod_bad (a m : Int) (k : Nat) (h : m < 1 ∨ 4294967296 ≤ m) : number_InvMod.f k a m = some (0, 2) := by
  unfold number_InvMod.f number_modulus.f
  by_cases h1 : m ≥ 1
  · rw [if_pos h1, Option.bind_some, decide_eq_false (by omega), if_neg (by decide)]
  · rw [if_neg h1, Option.bind_some, if_neg (by decide)]
/-! ### primes -/
def NoDiv (p : Nat) : Prop := ∀ e, 2 ≤ e → e * e ≤ p → p % e ≠ 0
def IsP (p : Nat) : Prop := 2 ≤ p ∧ NoDiv p
theorem prime_l0 (p : Nat) (hp : p ≤ 1048575) : ∀ (n d k : Nat), 2 ≤ d → d + n = 1025 → n < k → (∀ e, 2 ≤ e → e < d → p % e ≠ 0) → ∃ b, number_prime.l0 k (p : Int) (d : Int) = some b ∧ (b = true ↔ NoDiv p) := by
  intro n
  induction n with
  | zero =>
    intro d k hd hdn hk he
    obtain ⟨k, rfl⟩ : ∃ j, k = j + 1 := ⟨k - 1, by omega⟩
    obtain rfl : d = 1025 := by omega
    simp only [number_prime.l0]
    rw [show ((1025 : Nat) : Int) * ((1025 : Nat) : Int) = ((1050625 : Nat) : Int) from rfl, u64n _ (by decide), if_neg (by omega)]
    refine ⟨true, rfl, fun _ e h2 hle => he e h2 ?_, fun _ => rfl⟩
    rcases Nat.lt_or_ge e 1025 with h | h
    · exact h
    · have := Nat.mul_le_mul h h
      omega
  | succ n ih =>
    intro d k hd hdn hk he
    obtain ⟨k, rfl⟩ : ∃ j, k = j + 1 := ⟨k - 1, by omega⟩
    have hdd : d * d ≤ 1025 * 1025 := Nat.mul_le_mul (by omega) (by omega)
    simp only [number_prime.l0]
    rw [show (d : Int) * (d : Int) = ((d * d : Nat) : Int) from (Int.natCast_mul d d).symm, u64n (d * d) (by omega)]
    by_cases h1 : d * d ≤ p
    · rw [if_pos (by omega), if_neg (by omega), tmod_nat]
      by_cases h2 : p % d = 0
      · rw [if_pos (by omega)]
        exact ⟨false, rfl, fun h => by simp at h, fun h => absurd h2 (h d hd h1)⟩
      · rw [if_neg (by omega), show (d : Int) + 1 = ((d + 1 : Nat) : Int) from rfl, u64n (d + 1) (by omega)]
        exact ih (d + 1) k (by omega) (by omega) (by omega) (fun e h3 h4 => by
          by_cases h5 : e = d
          · subst h5; exact h2
          · exact he e h3 (by omega))
    · rw [if_neg (by omega)]
      refine ⟨true, rfl, fun _ e h2 hle => he e h2 ?_, fun _ => rfl⟩
      rcases Nat.lt_or_ge e d with h | h
      · exact h
      · have := Nat.mul_le_mul h h
        omega
theorem prime_f (p k : Nat) (hp : p ≤ 1048575) (hk : 1100 ≤ k) : ∃ b, number_prime.f k (p : Int) = some b ∧ (b = true ↔ IsP p) := by
  obtain ⟨k, rfl⟩ : ∃ j, k = j + 1 := ⟨k - 1, by omega⟩
  unfold number_prime.f
  by_cases h : p < 2
  · rw [if_pos (by omega), number_prime.j0, if_pos rfl]
    exact ⟨false, rfl, fun h => by simp at h, fun h2 => by have := h2.1; omega⟩
  · rw [if_neg (by omega), decide_eq_false (by omega), number_prime.j0, if_neg (by decide)]
    obtain ⟨b, h1, h2⟩ := prime_l0 p hp 1023 2 k (by omega) (by omega) (by omega) (fun e h3 h4 => by omega)
    exact ⟨b, h1, h2.trans ⟨fun h3 => ⟨by omega, h3⟩, fun h3 => h3.2⟩⟩
theorem Prime_f (p k : Nat) (hp : p ≤ 1048575) (hk : 1100 ≤ k) : ∃ b, number_Prime.f k (p : Int) = some (b, 0) ∧ (b = true ↔ IsP p) := by
  obtain ⟨b, h1, h2⟩ := prime_f p k hp hk
  unfold number_Prime.f
  rw [if_neg (by omega), h1, Option.bind_some]
  exact ⟨b, rfl, h2⟩
theorem Prime_many (p : Int) (k : Nat) (hp : 1048575 < p) : number_Prime.f k p = some (false, 4) := by
  unfold number_Prime.f
  rw [if_pos (by omega)]
/-- a prime has no divisor between 1 and itself -/
theorem IsP.nodiv {p b : Nat} (h : IsP p) (h2 : 2 ≤ b) (hb : b < p) : p % b ≠ 0 := by
  intro hz
  obtain ⟨c, hc⟩ := Nat.dvd_of_mod_eq_zero hz
  have hc2 : 2 ≤ c := by
    rcases Nat.lt_or_ge c 2 with h3 | h3
    · have : b * c ≤ b * 1 := Nat.mul_le_mul_left _ (by omega)
      omega
    · exact h3
  rcases Nat.le_total b c with h4 | h4
  · have : b * b ≤ b * c := Nat.mul_le_mul_left _ h4
    exact h.2 b h2 (by omega) hz
  · have : c * c ≤ b * c := Nat.mul_le_mul_right _ h4
    exact h.2 c hc2 (by omega) (by rw [hc, Nat.mul_comm]; exact Nat.mul_mod_right _ _)
theorem product_not {a b : Nat} (ha : 2 ≤ a) (hb : 2 ≤ b) : ¬ IsP (a * b) := by
  intro h
  rcases Nat.le_total a b with h4 | h4
  · exact h.2 a ha (Nat.mul_le_mul_left _ h4) (Nat.mul_mod_right _ _)
  · exact h.2 b hb (Nat.mul_le_mul_right _ h4) (by rw [Nat.mul_comm]; exact Nat.mul_mod_right _ _)
end Go.Proofs.Ythhgfogdeaaidaa.R

