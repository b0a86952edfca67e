/- Plain: fractions: what the program's functions answer, as facts of natural numbers. -/
import Derived.Test.YthhgfogdeaaidaaR0
import Derived.Test.YthhgfogdeaaidaaR14
import Derived.Test.YthhgfogdeaaidaaGcross
import Derived.Test.YthhgfogdeaaidaaGval
namespace Go.Proofs.Ythhgfogdeaaidaa.R
open Go.RowKit Go.Proofs.YthhgfogdeaaidaaW.PrintWords Go.Proofs.YthhgfogdeaaidaaW.PrintLast Go.Proofs.YthhgfogdeaaidaaW.PrintMore
set_option linter.unusedVariables false
set_option linter.unusedSimpArgs false
def frOk (a b : List Int) : Bool := numOk a && numOk b && !(val b == 0) && (Nat.gcd (val a) (val b) == 1)
theorem CheckFr_f {a b : List Int} (ha : Dig a) (hb : Dig b) (k : Nat) (hk : val b + 1 < k) : number_CheckFraction.f k a b = some (if frOk a b = true then 0 else 8) := by
  obtain ⟨k, rfl⟩ : ∃ m, k = m + 1 := ⟨k - 1, by omega⟩
  unfold number_CheckFraction.f frOk
  rw [valid2_f, Option.bind_some]
  by_cases h : numOk a = true ∧ numOk b = true
  case neg =>
    rw [both_false h, if_neg (by decide), number_CheckFraction.j0, if_pos rfl]
    simp
  have h1 := numOk_len h.1
  have h2 := numOk_len h.2
  have hz := len_zero hb h.2
  rw [h.1, h.2, if_pos (by rfl), number_CheckFraction.j0]
  by_cases h0 : val b = 0
  · rw [if_pos (beq_iff_eq.2 (hz.2 h0))]
    simp [h0]
  · rw [if_neg (by simpa using fun e => h0 (hz.1 (by simpa using e)))]
    have hp := common_f (val a) (val b) k (by rw [← numOk_as ha h.1]; omega) (by rw [← numOk_as hb h.2]; omega) (by omega)
    rw [← numOk_as ha h.1, ← numOk_as hb h.2] at hp
    rw [hp, Option.bind_some]
    have hg1 : digs 1 = [1] := by decide
    by_cases hg : Nat.gcd (val a) (val b) = 1
    · rw [hg, hg1]
      simp [h0, rd]
    · have hne : ¬ (true && true && !(val b == 0) && (Nat.gcd (val a) (val b) == 1)) = true := by simp [hg]
      rw [if_neg hne]
      by_cases hl : ((digs (Nat.gcd (val a) (val b))).length : Int) = 1
      · rw [if_pos hl, if_pos (by omega), if_neg]
        intro e
        apply hg
        have h3 := val_lt_pow (Dig.digs (Nat.gcd (val a) (val b))) (n := 1) (by omega)
        rw [val_digs] at h3
        rw [small_digit _ (by omega)] at e
        omega
      · rw [if_neg hl]
theorem order_digs (x y : Nat) : number_order.f (digs x) (digs y) = some (cmpN x y) := by
  have := order_val (Dig.digs x) (Dig.digs y) (trimL_digs x) (trimL_digs y)
  rwa [val_digs, val_digs] at this
theorem plus_digs (x y k : Nat) (hx : (digs x).length ≤ 40) (hy : (digs y).length ≤ 40) (hk : 100 ≤ k) : number_plus.f k (digs x) (digs y) = some (digs (x + y)) := by
  have := plus_f (Dig.digs x) (Dig.digs y) k (by omega) (by omega) (by omega)
  rwa [val_digs, val_digs] at this
theorem len_mul {x y m n : Nat} (hx : x < 4294967296 ^ m) (hy : y < 4294967296 ^ n) : x * y < 4294967296 ^ (m + n) := by
  rw [Nat.pow_add]
  exact Nat.mul_lt_mul'' hx hy
end Go.Proofs.Ythhgfogdeaaidaa.R
