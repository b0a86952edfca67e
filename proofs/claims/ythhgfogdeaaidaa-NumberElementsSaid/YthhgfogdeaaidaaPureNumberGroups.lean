/- Plain: primes and groups: the program's trial division and its check of a group answer as the reference's. -/
import Derived.Test.YthhgfogdeaaidaaR3
import Derived.Test.YthhgfogdeaaidaaPureNumberModular
namespace Go.Proofs.Ythhgfogdeaaidaa.Pure
open Go.RowKit Go.Proofs.Ythhgfogdeaaidaa.R Go.Proofs.YthhgfogdeaaidaaW.PrintWords Go.Proofs.YthhgfogdeaaidaaW.PrintLast
set_option linter.unusedVariables false
theorem prime_same (p : Int) : ∀ (k : Nat) (d : Int), headendref01_IsPrime.l0 k p d = (number_prime.l0 k p d).map fun b => b && decide (p ≥ 2)
  | 0, _ => rfl
  | k + 1, d => by
    unfold headendref01_IsPrime.l0 number_prime.l0
    by_cases c : IntKind.u64.wrap (d * d) ≤ p
    · rw [if_pos c, if_pos c]
      by_cases c0 : d = 0
      · rw [if_pos c0, if_pos c0]; rfl
      · rw [if_neg c0, if_neg c0]
        by_cases c1 : Int.tmod p d = 0
        · rw [if_pos c1, if_pos c1]; rfl
        · rw [if_neg c1, if_neg c1, prime_same p k]
    · rw [if_neg c, if_neg c]; simp
/-- The trial division ends: the divisor stays below 2^11. -/
theorem prime_ends (p : Int) (h0 : 0 ≤ p) (h1 : p ≤ 1048575) : ∀ (n : Nat) (d : Int), 2 ≤ d → d + n = 1025 → ∃ k b, number_prime.l0 k p d = some b
  | 0, d, hd, hn => by
    refine ⟨1, true, ?_⟩
    unfold number_prime.l0
    have e : d = 1025 := by omega
    subst e
    rw [show IntKind.u64.wrap (1025 * 1025) = 1050625 by decide, if_neg (by omega)]
  | n + 1, d, hd, hn => by
    obtain ⟨k, b, h⟩ := prime_ends p h0 h1 n (d + 1) (by omega) (by omega)
    by_cases c : IntKind.u64.wrap (d * d) ≤ p
    · by_cases c1 : Int.tmod p d = 0
      · exact ⟨1, false, by unfold number_prime.l0; rw [if_pos c, if_neg (by omega), if_pos c1]⟩
      · exact ⟨k + 1, b, by unfold number_prime.l0; rw [if_pos c, if_neg (by omega), if_neg c1, u64w (d + 1) (by omega) (by omega)]; exact h⟩
    · exact ⟨1, true, by unfold number_prime.l0; rw [if_neg c]⟩
/-- One answer of both, for a number that is not too great. -/
theorem prime_one (p : Int) (h0 : 0 ≤ p) (h1 : p ≤ 1048575) : ∃ k b, number_prime.f k p = some b ∧ headendref01_IsPrime.f k p = some b := by
  by_cases c : p < 2
  · refine ⟨1, false, ?_, ?_⟩
    · unfold number_prime.f
      rw [if_pos c]
      rfl
    · unfold headendref01_IsPrime.f headendref01_IsPrime.l0
      rw [show IntKind.u64.wrap (2 * 2) = 4 by decide, if_neg (by omega), decide_eq_false (by omega)]
  · obtain ⟨k, b, h⟩ := prime_ends p h0 h1 1023 2 (by omega) (by omega)
    refine ⟨k + 1, b, ?_, ?_⟩
    · unfold number_prime.f
      rw [if_neg c, decide_eq_false (by omega)]
      unfold number_prime.j0
      show (if (false : Bool) = true then _ else number_prime.l0 k p 2) = _
      rw [if_neg (by simp)]
      exact h
    · unfold headendref01_IsPrime.f
      rw [prime_same, (number_prime.mono_l k).2 _ _ _ h]
      simp
      omega
theorem prime_big (p : Int) (h1 : ¬ p ≤ 1048575) : number_prime.f 1 p = some false := by
  unfold number_prime.f
  rw [if_neg (by omega), decide_eq_true (by omega)]
  rfl
theorem primef_mono {k n p} {r} (h : number_prime.f k p = some r) : number_prime.f (k + n) p = some r := by
  induction n with
  | zero => exact h
  | succ n ih => exact number_prime.mono _ _ _ ih
theorem isPrime_mono {k n p} {r} (h : headendref01_IsPrime.f k p = some r) : headendref01_IsPrime.f (k + n) p = some r := by
  induction n with
  | zero => exact h
  | succ n ih => exact headendref01_IsPrime.mono _ _ _ ih
theorem Prime_same (p : Int) (h0 : 0 ≤ p) : ∃ k r, number_Prime.f k p = some r ∧ headendref01_Prime.f k p = some r := by
  by_cases c : p > 1048575
  · refine ⟨0, (false, 4), ?_, ?_⟩
    · unfold number_Prime.f; rw [if_pos c]
    · unfold headendref01_Prime.f; rw [if_pos c]
  · obtain ⟨k, b, h1, h2⟩ := prime_one p h0 (by omega)
    refine ⟨k, (b, 0), ?_, ?_⟩
    · unfold number_Prime.f; rw [if_neg c, h1]; rfl
    · unfold headendref01_Prime.f; rw [if_neg c, h2]; rfl
theorem Power_mono {k n m x b acc} {r} (h : headendref01_Power.l0 k x m acc b = some r) : headendref01_Power.l0 (k + n) x m acc b = some r := by
  induction n with
  | zero => exact h
  | succ n ih => exact headendref01_Power.mono_l _ _ _ _ _ _ ih
theorem group_same (p q g : Int) (hp : 0 ≤ p) (hq : 0 ≤ q) (hg : 0 ≤ g) (hq1 : q < 18446744073709551616) : ∃ k r, number_CheckGroup.f k p q g = some r ∧ headendref01_CheckGroup.f k p q g = some r := by
  by_cases cp : p ≤ 1048575
  · obtain ⟨k1, b1, h1, h2⟩ := prime_one p hp cp
    cases b1 with
    | false =>
      refine ⟨k1, 13, ?_, ?_⟩
      · unfold number_CheckGroup.f; rw [h1]; rfl
      · unfold headendref01_CheckGroup.f headendref01_ValidGroup.f; rw [if_neg (by omega), h2]; rfl
    | true =>
      by_cases cq : q ≤ 1048575
      · obtain ⟨k2, b2, h3, h4⟩ := prime_one q hq cq
        cases b2 with
        | false =>
          refine ⟨k1 + k2, 13, ?_, ?_⟩
          · unfold number_CheckGroup.f; rw [primef_mono h1, Nat.add_comm, primef_mono h3]; rfl
          · unfold headendref01_CheckGroup.f headendref01_ValidGroup.f; rw [if_neg (by omega), isPrime_mono h2, Option.bind_some, if_pos rfl, if_neg (by omega), Nat.add_comm, isPrime_mono h4]; rfl
        | true =>
          have hq0 : q ≠ 0 := by
            rintro rfl
            have := prime_one 0 (by omega) (by omega)
            have h5 : number_prime.f (1 + k2) 0 = some false := primef_mono (by unfold number_prime.f; rw [if_pos (by omega)]; rfl)
            rw [Nat.add_comm] at h5
            rw [primef_mono h3] at h5
            cases h5
          have hp2 : ¬ p < 2 := by
            intro c
            have h5 : number_prime.f (1 + k1) p = some false := primef_mono (by unfold number_prime.f; rw [if_pos c]; rfl)
            rw [Nat.add_comm, primef_mono h1] at h5
            cases h5
          by_cases cd : Int.tmod (IntKind.u64.wrap (p - 1)) q = 0
          · by_cases cg : g < 2
            · refine ⟨k1 + k2, 13, ?_, ?_⟩
              · unfold number_CheckGroup.f; rw [primef_mono h1, Option.bind_some, if_pos rfl, Nat.add_comm, primef_mono h3, Option.bind_some, if_pos rfl, if_neg hq0, if_pos cd, if_pos cg]
              · unfold headendref01_CheckGroup.f headendref01_ValidGroup.f; rw [if_neg (by omega), isPrime_mono h2, Option.bind_some, if_pos rfl, if_neg (by omega), Nat.add_comm, isPrime_mono h4, Option.bind_some, if_pos rfl, if_neg hq0, if_pos cd, if_neg (by omega)]; rfl
            · by_cases cg2 : g ≥ p
              · refine ⟨k1 + k2, 13, ?_, ?_⟩
                · unfold number_CheckGroup.f; rw [primef_mono h1, Option.bind_some, if_pos rfl, Nat.add_comm, primef_mono h3, Option.bind_some, if_pos rfl, if_neg hq0, if_pos cd, if_neg cg, if_pos cg2]
                · unfold headendref01_CheckGroup.f headendref01_ValidGroup.f; rw [if_neg (by omega), isPrime_mono h2, Option.bind_some, if_pos rfl, if_neg (by omega), Nat.add_comm, isPrime_mono h4, Option.bind_some, if_pos rfl, if_neg hq0, if_pos cd, if_pos (by omega), if_neg (by omega)]; rfl
              · obtain ⟨k3, v, h5⟩ := power_ends p (by omega) _ q ((1 : Int) % p) (Int.tmod g p) hq hq1 (Nat.le_refl _)
                have h6 : headendref01_Power.f (k3 + (k1 + k2)) g q p = some v := by unfold headendref01_Power.f; rw [if_neg (by omega)]; exact Power_mono h5
                have h7 : number_power.f (k3 + (k1 + k2)) g q p = some v := by
                  unfold number_power.f; rw [if_neg (by omega), power_same _ _ q p _ hq hq1]; exact Power_mono h5
                have e1 : k3 + (k1 + k2) = k1 + (k2 + k3) := by omega
                have e2 : k3 + (k1 + k2) = k2 + (k1 + k3) := by omega
                refine ⟨k3 + (k1 + k2), if v = 1 then 0 else 13, ?_, ?_⟩
                · unfold number_CheckGroup.f
                  rw [h7, e1, primef_mono h1, ← e1, Option.bind_some, if_pos rfl, e2, primef_mono h3, Option.bind_some, if_pos rfl, if_neg hq0, if_pos cd, if_neg cg, if_neg cg2, Option.bind_some]
                  by_cases cv : v = 1
                  · rw [if_pos cv, if_pos cv]
                  · rw [if_neg cv, if_neg cv]
                · unfold headendref01_CheckGroup.f headendref01_ValidGroup.f
                  rw [h6, e1, if_neg (by omega), isPrime_mono h2, ← e1, Option.bind_some, if_pos rfl, if_neg (by omega), e2, isPrime_mono h4, Option.bind_some, if_pos rfl, if_neg hq0, if_pos cd, if_pos (by omega), if_pos (by omega), Option.bind_some, Option.bind_some]
                  by_cases cv : v = 1
                  · rw [if_pos (by simpa using cv), if_pos cv]
                  · rw [if_neg (by simpa using cv), if_neg cv]
          · refine ⟨k1 + k2, 13, ?_, ?_⟩
            · unfold number_CheckGroup.f; rw [primef_mono h1, Option.bind_some, if_pos rfl, Nat.add_comm, primef_mono h3, Option.bind_some, if_pos rfl, if_neg hq0, if_neg cd]
            · unfold headendref01_CheckGroup.f headendref01_ValidGroup.f; rw [if_neg (by omega), isPrime_mono h2, Option.bind_some, if_pos rfl, if_neg (by omega), Nat.add_comm, isPrime_mono h4, Option.bind_some, if_pos rfl, if_neg hq0, if_neg cd]; rfl
      · refine ⟨k1 + 1, 13, ?_, ?_⟩
        · unfold number_CheckGroup.f; rw [primef_mono h1, Option.bind_some, if_pos rfl, Nat.add_comm, primef_mono (prime_big q cq)]; rfl
        · unfold headendref01_CheckGroup.f headendref01_ValidGroup.f; rw [if_neg (by omega), isPrime_mono h2, Option.bind_some, if_pos rfl, if_pos (by omega)]; rfl
  · refine ⟨1, 13, ?_, ?_⟩
    · unfold number_CheckGroup.f; rw [prime_big p cp]; rfl
    · unfold headendref01_CheckGroup.f headendref01_ValidGroup.f; rw [if_pos (by omega)]; rfl
theorem PrimeN_mono {k n p} {r} (h : number_Prime.f k p = some r) : number_Prime.f (k + n) p = some r := by
  induction n with
  | zero => exact h
  | succ n ih => exact number_Prime.mono _ _ _ ih
theorem PrimeR_mono {k n p} {r} (h : headendref01_Prime.f k p = some r) : headendref01_Prime.f (k + n) p = some r := by
  induction n with
  | zero => exact h
  | succ n ih => exact headendref01_Prime.mono _ _ _ ih
theorem CheckN_mono {k n p q g} {r} (h : number_CheckGroup.f k p q g = some r) : number_CheckGroup.f (k + n) p q g = some r := by
  induction n with
  | zero => exact h
  | succ n ih => exact number_CheckGroup.mono _ _ _ _ _ ih
theorem CheckR_mono {k n p q g} {r} (h : headendref01_CheckGroup.f k p q g = some r) : headendref01_CheckGroup.f (k + n) p q g = some r := by
  induction n with
  | zero => exact h
  | succ n ih => exact headendref01_CheckGroup.mono _ _ _ _ _ ih
theorem NumberGroups (a p q g : Int) (ha : (Lit.int .u64 a).wf = true) (hp : (Lit.int .u64 p).wf = true) (hq : (Lit.int .u64 q).wf = true) (hg : (Lit.int .u64 g).wf = true) : ∃ k, headendlaw01_NumberGroups.f k a p q g = some true := by
  simp only [Lit.wf, IntKind.min, IntKind.max, IntKind.signed, IntKind.bits, Bool.and_eq_true, Bool.false_eq_true, if_false, decide_eq_true_eq] at ha hp hq hg
  obtain ⟨k1, r1, h1, h2⟩ := Prime_same a (by omega)
  obtain ⟨k2, r2, h3, h4⟩ := group_same p q g (by omega) (by omega) (by omega) (by omega)
  refine ⟨k1 + k2, ?_⟩
  unfold headendlaw01_NumberGroups.f
  rw [PrimeN_mono h1, PrimeR_mono h2, Nat.add_comm, CheckN_mono h3, CheckR_mono h4, Option.bind_some, Option.bind_some, if_pos (by simp), if_pos rfl, Option.bind_some, Option.bind_some]
  simp
end Go.Proofs.Ythhgfogdeaaidaa.Pure

