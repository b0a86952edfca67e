/- Plain: the comparison of two numbers by their digits is the comparison of the numbers. -/
import Derived.Test.YthhgfogdeaaidaaR0
import Derived.Test.YthhgfogdeaaidaaGnum
import Derived.Test.YthhgfogdeaaidaaGorder
namespace Go.Proofs.Ythhgfogdeaaidaa.R
open Go.Proofs.YthhgfogdeaaidaaW.PrintWords
set_option linter.unusedVariables false
def cmpN (a b : Nat) : Int := if a < b then -1 else if b < a then 1 else 0
theorem val_take_succ2 (l : List Int) (i : Nat) : val (l.take (i + 1)) = val (l.take i) + 4294967296 ^ i * (rd l (i : Int)).toNat := by
  by_cases h : i < l.length
  · exact val_take_succ l i h
  · rw [List.take_of_length_le (by omega), List.take_of_length_le (by omega), rd_beyond l _ (by omega), Int.toNat_zero, Nat.mul_zero, Nat.add_zero]
theorem val_take_lt {l : List Int} (h : Dig l) (i : Nat) : val (l.take i) < 4294967296 ^ i := by
  have h1 := val_lt (h.take i)
  have h2 : 4294967296 ^ (l.take i).length ≤ 4294967296 ^ i := Nat.pow_le_pow_right (by omega) (List.length_take_le _ _)
  omega
theorem lt_of_digit {a b P x y : Nat} (ha : a < P) (h : x < y) : a + P * x < b + P * y := by
  have : P * (x + 1) ≤ P * y := Nat.mul_le_mul_left _ h
  rw [Nat.mul_add, Nat.mul_one] at this
  omega
theorem ordTo_val {a b : List Int} (ha : Dig a) (hb : Dig b) : ∀ k, ordTo a b k = cmpN (val (a.take k)) (val (b.take k))
  | 0 => rfl
  | k + 1 => by
    have ih := ordTo_val ha hb k
    have h1 := val_take_lt ha k
    have h2 := val_take_lt hb k
    have x := ha.rdok (k : Int)
    have y := hb.rdok (k : Int)
    rw [val_take_succ2, val_take_succ2]
    simp only [ordTo]
    by_cases c1 : rd a (k : Int) < rd b (k : Int)
    · rw [if_pos c1]
      unfold cmpN
      rw [if_pos (lt_of_digit h1 (by omega))]
    · rw [if_neg c1]
      by_cases c2 : rd b (k : Int) < rd a (k : Int)
      · rw [if_pos c2]
        have := lt_of_digit (b := val (a.take k)) h2 (show (rd b (k : Int)).toNat < (rd a (k : Int)).toNat by omega)
        unfold cmpN
        rw [if_neg (by omega), if_pos this]
      · rw [if_neg c2, ih, show rd a (k : Int) = rd b (k : Int) by omega]
        unfold cmpN
        generalize 4294967296 ^ k * (rd b (k : Int)).toNat = z
        simp only [Nat.add_lt_add_iff_right]
theorem val_ge {l : List Int} (hd : Dig l) (ht : trimL l = l) (h : l ≠ []) : 4294967296 ^ (l.length - 1) ≤ val l := by
  obtain ⟨m, hm⟩ : ∃ m, l.length = m + 1 := ⟨l.length - 1, by have := List.length_pos_iff.2 h; omega⟩
  have h1 := last_of_trimL h ht
  rw [hm, show ((m + 1 : Nat) : Int) - 1 = (m : Int) by omega] at h1
  have h2 := val_take_succ2 l m
  rw [← hm, List.take_length] at h2
  have h3 := hd.rdok (m : Int)
  have h4 : 4294967296 ^ m * 1 ≤ 4294967296 ^ m * (rd l (m : Int)).toNat := Nat.mul_le_mul_left _ (by omega)
  rw [hm, Nat.add_sub_cancel]
  omega
theorem val_lt_of_shorter {a b : List Int} (ha : Dig a) (hb : Dig b) (ht : trimL b = b) (h : a.length < b.length) : val a < val b := by
  have h1 := val_lt ha
  have h2 := val_ge hb ht (by intro e; rw [e] at h; simp at h)
  have h3 : 4294967296 ^ a.length ≤ 4294967296 ^ (b.length - 1) := Nat.pow_le_pow_right (by omega) (by omega)
  omega
theorem order_val {a b : List Int} (ha : Dig a) (hb : Dig b) (hta : trimL a = a) (htb : trimL b = b) : number_order.f a b = some (cmpN (val a) (val b)) := by
  unfold number_order.f
  congr 1
  by_cases h : a.length = b.length
  · rw [if_pos h, ordTo_val ha hb, List.take_length, h, List.take_length]
  · rw [if_neg h]
    unfold cmpN
    by_cases h2 : a.length < b.length
    · rw [if_pos h2, if_pos (val_lt_of_shorter ha hb htb h2)]
    · have := val_lt_of_shorter hb ha hta (show b.length < a.length by omega)
      rw [if_neg h2, if_neg (by omega), if_pos this]
end Go.Proofs.Ythhgfogdeaaidaa.R
