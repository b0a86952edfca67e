/- Plain: what the program's and the reference's functions of natural numbers answer, at any digits. -/
import Derived.Test.YthhgfogdeaaidaaR0
import Derived.Test.YthhgfogdeaaidaaR13
import Derived.Test.YthhgfogdeaaidaaR7
import Derived.Test.YthhgfogdeaaidaaR18
import Derived.Test.YthhgfogdeaaidaaR17
import Derived.Test.YthhgfogdeaaidaaR19
import Derived.Test.YthhgfogdeaaidaaR9
import Derived.Test.YthhgfogdeaaidaaR16
import Derived.Test.YthhgfogdeaaidaaGpartr
import Derived.Test.YthhgfogdeaaidaaGtimes
import Derived.Test.YthhgfogdeaaidaaGvalid
namespace Go.Proofs.Ythhgfogdeaaidaa.R
open Go.RowKit Go.Proofs.YthhgfogdeaaidaaW.PrintWords Go.Proofs.YthhgfogdeaaidaaW.PrintLast Go.Proofs.YthhgfogdeaaidaaW.PrintMore
set_option linter.unusedVariables false
set_option linter.unusedSimpArgs false
theorem numOk_len {l : List Int} (h : numOk l = true) : l.length ≤ 16 := by
  unfold numOk at h
  split at h
  · assumption
  · exact absurd h (by simp)
theorem numOk_trim {l : List Int} (h : numOk l = true) : trimL l = l := by
  have hl := numOk_len h
  unfold numOk at h
  rw [if_pos hl] at h
  by_cases h0 : l.length = 0
  · rw [List.length_eq_zero_iff.1 h0]; rfl
  · rw [if_neg h0] at h
    exact trimL_last l (fun e => h0 (by rw [e]; rfl)) (by simpa using h)
theorem numOk_of {l : List Int} (hl : l.length ≤ 16) (ht : trimL l = l) : numOk l = true := by
  unfold numOk
  rw [if_pos hl]
  by_cases h0 : l.length = 0
  · rw [if_pos h0]
  · rw [if_neg h0]
    have := last_of_trimL (fun e => h0 (by rw [e]; rfl)) ht
    simpa using this
/-- a number of at most 16 digits -/
theorem numOk_digs {x : Nat} : numOk (digs x) = decide ((digs x).length ≤ 16) := by
  by_cases h : (digs x).length ≤ 16
  · rw [numOk_of h (trimL_digs x), decide_eq_true h]
  · rw [decide_eq_false h]
    unfold numOk
    rw [if_neg h]
theorem numOk_as {l : List Int} (hd : Dig l) (h : numOk l = true) : l = digs (val l) := (digs_val_of hd (numOk_trim h)).symm
theorem valid2_f (a b : List Int) : number_valid.f [a, b] = some (numOk a && numOk b) := by simp [number_valid.f]
theorem valid1_f (a : List Int) : number_valid.f [a] = some (numOk a) := by simp [number_valid.f]
/-! ### the same digits -/
theorem Same_l0 (a b : List Int) (hl : a.length = b.length) (hb : a.length < 4611686018427387904) : ∀ (d i k : Nat), a.length - i = d → i ≤ a.length → d < k → headendref01_Same.l0 k a b (i : Int) = some (decide (a.drop i = b.drop i))
  | 0, i, k, hd, hi, hk => by
    obtain ⟨k, rfl⟩ : ∃ m, k = m + 1 := ⟨k - 1, by omega⟩
    obtain rfl : i = a.length := by omega
    simp only [headendref01_Same.l0]
    rw [if_neg (by omega), List.drop_length, hl, List.drop_length]
    rfl
  | d + 1, i, k, hd, hi, hk => by
    obtain ⟨k, rfl⟩ : ∃ m, k = m + 1 := ⟨k - 1, by omega⟩
    have h1 : i < a.length := by omega
    have h2 : i < b.length := by omega
    simp only [headendref01_Same.l0]
    rw [if_pos (show (i : Int) < (a.length : Int) by omega), if_pos (show (0 : Int) ≤ (i : Int) by omega), if_pos (show (i : Int) < (b.length : Int) by omega), w64n i (by omega), rd_nat _ _ h1, rd_nat _ _ h2, Same_l0 a b hl hb d (i + 1) k (by omega) (by omega) (by omega), List.drop_eq_getElem_cons h1, List.drop_eq_getElem_cons h2]
    by_cases he : a[i] = b[i]
    · rw [if_pos he, he]
      simp only [List.cons.injEq, true_and]
    · rw [if_neg he]
      simp only [List.cons.injEq, he, false_and, decide_false]
theorem Same_f (a b : List Int) (k : Nat) (hb : a.length < 4611686018427387904) (hk : a.length < k) : headendref01_Same.f k a b = some (decide (a = b)) := by
  unfold headendref01_Same.f
  by_cases h : a.length = b.length
  · rw [if_pos (by omega)]
    have := Same_l0 a b h hb a.length 0 k rfl (by omega) hk
    rw [List.drop_zero, List.drop_zero] at this
    exact this
  · rw [if_neg (by omega), decide_eq_false (fun e => h (by rw [e]))]
/-! ### the functions -/
def limN (l : List Int) : List Int × Int := if l.length ≤ 16 then (l, 0) else ([], 4)
theorem limited_f (l : List Int) : number_limited.f l = some (limN l) := by
  unfold number_limited.f limN
  by_cases h : l.length ≤ 16
  · rw [if_neg (by omega), if_pos h]
  · rw [if_pos (by omega), if_neg h]
def addS (a b : List Int) : List Int × Int := if numOk a = true ∧ numOk b = true then limN (digs (val a + val b)) else ([], 8)
def subS (a b : List Int) : List Int × Int := if numOk a = true ∧ numOk b = true then (if val a < val b then ([], 11) else (digs (val a - val b), 0)) else ([], 8)
def mulS (a b : List Int) : List Int × Int := if numOk a = true ∧ numOk b = true then limN (digs (val a * val b)) else ([], 8)
def divS (a b : List Int) : List Int × List Int × Int := if numOk a = true ∧ numOk b = true then (if val b = 0 then ([], [], 10) else (digs (val a / val b), digs (val a % val b), 0)) else ([], [], 8)
def gcdS (a b : List Int) : List Int × Int := if numOk a = true ∧ numOk b = true then (digs (Nat.gcd (val a) (val b)), 0) else ([], 8)
theorem cmpN_neg {x y : Nat} : cmpN x y < 0 ↔ x < y := by
  unfold cmpN
  split
  · simp [*]
  · split <;> simp [*]
theorem both_false {a b : List Int} (h : ¬ (numOk a = true ∧ numOk b = true)) : (numOk a && numOk b) = false := by
  cases ha : numOk a <;> cases hb : numOk b <;> simp_all
theorem len_prod {a b : List Int} (h : numOk a = true ∧ numOk b = true) : a.length * (b.length + 2) ≤ 288 := by
  have h1 := numOk_len h.1
  have h2 := numOk_len h.2
  exact Nat.le_trans (Nat.mul_le_mul h1 (Nat.add_le_add_right h2 2)) (by decide)
theorem len_zero {b : List Int} (hb : Dig b) (h : numOk b = true) : ((b.length : Int) = 0) ↔ val b = 0 := by
  constructor
  · intro e
    have e0 : b = [] := List.length_eq_zero_iff.1 (by omega)
    rw [e0]
    rfl
  · intro e
    rw [numOk_as hb h, e, digs_zero]
    rfl
section
variable {a b : List Int} (ha : Dig a) (hb : Dig b)
include ha hb
theorem number_Add_f (k : Nat) (hk : 50 ≤ k) : number_Add.f k a b = some (addS a b) := by
  unfold number_Add.f addS
  rw [valid2_f, Option.bind_some]
  by_cases h : numOk a = true ∧ numOk b = true
  · have h1 := numOk_len h.1
    have h2 := numOk_len h.2
    rw [if_pos h, h.1, h.2, if_pos (by rfl), plus_f ha hb k (by omega) (by omega) (by omega), Option.bind_some, limited_f, Option.bind_some]
  · rw [if_neg h, both_false h, if_neg (by decide)]
theorem sub_len (h : numOk a = true ∧ numOk b = true) (hv : ¬ val a < val b) : b.length ≤ a.length := by
  rcases Nat.lt_or_ge a.length b.length with h1 | h1
  · exact absurd (val_lt_of_shorter ha hb (numOk_trim h.2) h1) hv
  · exact h1
theorem number_Sub_f (k : Nat) (hk : 50 ≤ k) : number_Sub.f k a b = some (subS a b) := by
  unfold number_Sub.f subS
  rw [valid2_f, Option.bind_some]
  by_cases h : numOk a = true ∧ numOk b = true
  · have h1 := numOk_len h.1
    have h2 := numOk_len h.2
    rw [if_pos h, h.1, h.2, if_pos (by rfl), order_val ha hb (numOk_trim h.1) (numOk_trim h.2), Option.bind_some]
    by_cases hv : val a < val b
    · rw [if_pos hv, if_pos (cmpN_neg.2 hv)]
    · rw [if_neg hv, if_neg (fun e => hv (cmpN_neg.1 e)), minus_f ha hb k (sub_len ha hb h hv) (by omega) (by omega) (by omega), Option.bind_some]
  · rw [if_neg h, both_false h, if_neg (by decide)]
theorem number_Mul_f (k : Nat) (hk : 500 ≤ k) : number_Mul.f k a b = some (mulS a b) := by
  unfold number_Mul.f mulS
  rw [valid2_f, Option.bind_some]
  by_cases h : numOk a = true ∧ numOk b = true
  · have h1 := numOk_len h.1
    have h2 := numOk_len h.2
    have h3 := len_prod h
    rw [if_pos h, h.1, h.2, if_pos (by rfl), times_f ha hb k (by omega) (by omega) (by omega), Option.bind_some, limited_f, Option.bind_some]
  · rw [if_neg h, both_false h, if_neg (by decide)]
theorem number_Div_f : number_Div.f a b = some (divS a b) := by
  unfold number_Div.f divS
  rw [valid2_f, Option.bind_some]
  by_cases h : numOk a = true ∧ numOk b = true
  · have h1 := numOk_len h.1
    have h2 := numOk_len h.2
    rw [if_pos h, h.1, h.2, if_pos (by rfl)]
    by_cases h0 : val b = 0
    · rw [if_pos h0, if_pos ((len_zero hb h.2).2 h0)]
    · rw [if_neg h0, if_neg (fun e => h0 ((len_zero hb h.2).1 e))]
      have hp := parted_f (val a) (val b) h0 (by rw [← numOk_as ha h.1]; omega) (by rw [← numOk_as hb h.2]; omega)
      rw [← numOk_as ha h.1, ← numOk_as hb h.2] at hp
      rw [hp, Option.bind_some]
  · rw [if_neg h, both_false h, if_neg (by decide)]
theorem number_Gcd_f (k : Nat) (hk : val b < k) : number_Gcd.f k a b = some (gcdS a b) := by
  unfold number_Gcd.f gcdS
  rw [valid2_f, Option.bind_some]
  by_cases h : numOk a = true ∧ numOk b = true
  · have h1 := numOk_len h.1
    have h2 := numOk_len h.2
    have hp := common_f (val a) (val b) k (by rw [← numOk_as ha h.1]; omega) (by rw [← numOk_as hb h.2]; omega) hk
    rw [← numOk_as ha h.1, ← numOk_as hb h.2] at hp
    rw [if_pos h, h.1, h.2, if_pos (by rfl), hp, Option.bind_some]
  · rw [if_neg h, both_false h, if_neg (by decide)]
end
def checkS (a : List Int) : Int := if numOk a = true then 0 else 8
theorem number_Check_f (a : List Int) : number_Check.f a = some (checkS a) := by
  unfold number_Check.f checkS
  rw [valid1_f, Option.bind_some]
  split <;> rfl
theorem number_Of_f (x k : Nat) (h : x < 18446744073709551616) (hk : 3 ≤ k) : number_Of.f k (x : Int) = some (digs x) := by
  unfold number_Of.f
  rw [show (x : Int) % 4294967296 = ((x % 4294967296 : Nat) : Int) from rfl, show (x : Int) / 4294967296 % 4294967296 = ((x / 4294967296 : Nat) : Int) by omega, trim_f _ _ (by simp) (by simp; omega), Option.bind_some, two_digits x h]
/-! lengths of results -/
end Go.Proofs.Ythhgfogdeaaidaa.R

