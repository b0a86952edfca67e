/- Plain: fractions: what the program's functions answer, as facts of natural numbers. -/
import Derived.Test.YthhgfogdeaaidaaR0
import Derived.Test.YthhgfogdeaaidaaR14
import Derived.Test.YthhgfogdeaaidaaGcross
import Derived.Test.YthhgfogdeaaidaaGval
namespace Go.Proofs.Ythhgfogdeaaidaa.R
open Go.RowKit Go.Proofs.YthhgfogdeaaidaaW.PrintWords Go.Proofs.YthhgfogdeaaidaaW.PrintLast Go.Proofs.YthhgfogdeaaidaaW.PrintMore
set_option linter.unusedVariables false
set_option linter.unusedSimpArgs false
/-- a valid fraction -/
def frOk (a b : List Int) : Bool := numOk a && numOk b && !(val b == 0) && (Nat.gcd (val a) (val b) == 1)
theorem CheckFr_f {a b : List Int} (ha : Dig a) (hb : Dig b) (k : Nat) (hk : val b + 1 < k) : number_CheckFraction.f k a b = some (if frOk a b = true then 0 else 8) := by
  obtain ⟨k, rfl⟩ : ∃ m, k = m + 1 := ⟨k - 1, by omega⟩
  unfold number_CheckFraction.f frOk
  rw [valid2_f, Option.bind_some]
  by_cases h : numOk a = true ∧ numOk b = true
  case neg =>
    rw [both_false h, if_neg (by decide), number_CheckFraction.j0, if_pos rfl]
    simp
  have h1 := numOk_len h.1
  have h2 := numOk_len h.2
  have hz := len_zero hb h.2
  rw [h.1, h.2, if_pos (by rfl), number_CheckFraction.j0]
  by_cases h0 : val b = 0
  · rw [if_pos (beq_iff_eq.2 (hz.2 h0))]
    simp [h0]
  · rw [if_neg (by simpa using fun e => h0 (hz.1 (by simpa using e)))]
    have hp := common_f (val a) (val b) k (by rw [← numOk_as ha h.1]; omega) (by rw [← numOk_as hb h.2]; omega) (by omega)
    rw [← numOk_as ha h.1, ← numOk_as hb h.2] at hp
    rw [hp, Option.bind_some]
    have hg1 : digs 1 = [1] := by decide
    by_cases hg : Nat.gcd (val a) (val b) = 1
    · rw [hg, hg1]
      simp [h0, rd]
    · have hne : ¬ (true && true && !(val b == 0) && (Nat.gcd (val a) (val b) == 1)) = true := by simp [hg]
      rw [if_neg hne]
      by_cases hl : ((digs (Nat.gcd (val a) (val b))).length : Int) = 1
      · rw [if_pos hl, if_pos (by omega), if_neg]
        intro e
        apply hg
        have h3 := val_lt_pow (Dig.digs (Nat.gcd (val a) (val b))) (n := 1) (by omega)
        rw [val_digs] at h3
        rw [small_digit _ (by omega)] at e
        omega
      · rw [if_neg hl]
theorem frOk_digs {x y : Nat} (hx : x < 4294967296 ^ 16) (hy : y < 4294967296 ^ 16) (h0 : y ≠ 0) (hg : Nat.gcd x y = 1) : frOk (digs x) (digs y) = true := by
  unfold frOk
  rw [ok_digs hx, ok_digs hy, val_digs, val_digs, hg, beq_eq_false_iff_ne.2 h0]
  rfl
theorem order_digs (x y : Nat) : number_order.f (digs x) (digs y) = some (cmpN x y) := by
  have := order_val (Dig.digs x) (Dig.digs y) (trimL_digs x) (trimL_digs y)
  rwa [val_digs, val_digs] at this
theorem times_digs (x y k : Nat) (hx : (digs x).length ≤ 16) (hy : (digs y).length ≤ 16) (hk : 500 ≤ k) : number_times.f k (digs x) (digs y) = some (digs (x * y)) := by
  have h : (digs x).length * ((digs y).length + 2) ≤ 16 * 18 := Nat.mul_le_mul hx (by omega)
  have := times_f (Dig.digs x) (Dig.digs y) k (by omega) (by omega) (by omega)
  rwa [val_digs, val_digs] at this
theorem plus_digs (x y k : Nat) (hx : (digs x).length ≤ 40) (hy : (digs y).length ≤ 40) (hk : 100 ≤ k) : number_plus.f k (digs x) (digs y) = some (digs (x + y)) := by
  have := plus_f (Dig.digs x) (Dig.digs y) k (by omega) (by omega) (by omega)
  rwa [val_digs, val_digs] at this
theorem bounded_fit {a b : List Int} (ha : a.length ≤ 16) (hb : b.length ≤ 16) : number_bounded.f a b 0 = some (a, b, 0) := by
  unfold number_bounded.f
  rw [if_pos rfl, if_neg (by omega), if_neg (by omega)]
theorem len_mul {x y m n : Nat} (hx : x < 4294967296 ^ m) (hy : y < 4294967296 ^ n) : x * y < 4294967296 ^ (m + n) := by
  rw [Nat.pow_add]
  exact Nat.mul_lt_mul'' hx hy
/-! ### lowest terms -/
theorem cmpN_scale {x y m : Nat} (hm : 0 < m) : cmpN (x * m) (y * m) = cmpN x y := by
  rcases Nat.lt_trichotomy x y with h | h | h
  · rw [cmpN_lt h, cmpN_lt (Nat.mul_lt_mul_of_pos_right h hm)]
  · rw [h, cmpN_eq, cmpN_eq]
  · rw [cmpN_gt h, cmpN_gt (Nat.mul_lt_mul_of_pos_right h hm)]
theorem cmpN_zero {x y : Nat} : cmpN x y = 0 ↔ x = y := by
  rcases Nat.lt_trichotomy x y with h | h | h
  · rw [cmpN_lt h]
    constructor
    · intro e; exact absurd e (by decide)
    · intro e; omega
  · rw [h, cmpN_eq]
    simp
  · rw [cmpN_gt h]
    constructor
    · intro e; exact absurd e (by decide)
    · intro e; omega
theorem gcd_lowest {x y : Nat} (h : y ≠ 0) : Nat.gcd (x / Nat.gcd x y) (y / Nat.gcd x y) = 1 ∧ y / Nat.gcd x y ≠ 0 ∧ x / Nat.gcd x y * Nat.gcd x y = x ∧ y / Nat.gcd x y * Nat.gcd x y = y := by
  have hg : Nat.gcd x y ≠ 0 := fun e => h (Nat.eq_zero_of_gcd_eq_zero_right e)
  have hp := Nat.pos_of_ne_zero hg
  have e1 := Nat.div_mul_cancel (Nat.gcd_dvd_left x y)
  have e2 := Nat.div_mul_cancel (Nat.gcd_dvd_right x y)
  refine ⟨?_, ?_, e1, e2⟩
  · have := Nat.gcd_div (Nat.gcd_dvd_left x y) (Nat.gcd_dvd_right x y)
    rw [this, Nat.div_self hp]
  · intro e
    rw [e, Nat.zero_mul] at e2
    exact h e2.symm
/-- Two fractions in lowest terms with equal cross products are the same. -/
theorem lowest_same {a b c d : Nat} (h1 : Nat.gcd a b = 1) (h2 : Nat.gcd c d = 1) (hb : b ≠ 0) (hd : d ≠ 0) (h : a * d = c * b) : a = c ∧ b = d := by
  have d1 : a ∣ c := (Nat.Coprime.dvd_of_dvd_mul_right (show Nat.Coprime a b from h1) ⟨d, h.symm⟩)
  have d2 : c ∣ a := (Nat.Coprime.dvd_of_dvd_mul_right (show Nat.Coprime c d from h2) ⟨b, h⟩)
  have e := Nat.dvd_antisymm d1 d2
  subst e
  refine ⟨rfl, ?_⟩
  by_cases h0 : a = 0
  · subst h0
    rw [Nat.gcd_zero_left] at h1 h2
    omega
  · exact (Nat.eq_of_mul_eq_mul_left (Nat.pos_of_ne_zero h0) h).symm
/-- Lowest terms do not change if both parts are multiplied. -/
theorem lowest_scale {x y m : Nat} (hm : 0 < m) : x * m / Nat.gcd (x * m) (y * m) = x / Nat.gcd x y ∧ y * m / Nat.gcd (x * m) (y * m) = y / Nat.gcd x y := by
  rw [Nat.gcd_mul_right]
  exact ⟨Nat.mul_div_mul_right _ _ hm, Nat.mul_div_mul_right _ _ hm⟩
end Go.Proofs.Ythhgfogdeaaidaa.R

