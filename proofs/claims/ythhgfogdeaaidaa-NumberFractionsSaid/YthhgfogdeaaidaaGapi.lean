/- Plain: what the program's and the reference's functions of natural numbers answer, at any digits. -/
import Derived.Test.YthhgfogdeaaidaaR0
import Derived.Test.YthhgfogdeaaidaaR13
import Derived.Test.YthhgfogdeaaidaaR7
import Derived.Test.YthhgfogdeaaidaaR18
import Derived.Test.YthhgfogdeaaidaaR17
import Derived.Test.YthhgfogdeaaidaaR19
import Derived.Test.YthhgfogdeaaidaaR9
import Derived.Test.YthhgfogdeaaidaaR16
import Derived.Test.YthhgfogdeaaidaaGpartr
import Derived.Test.YthhgfogdeaaidaaGtimes
import Derived.Test.YthhgfogdeaaidaaGvalid
namespace Go.Proofs.Ythhgfogdeaaidaa.R
open Go.RowKit Go.Proofs.YthhgfogdeaaidaaW.PrintWords Go.Proofs.YthhgfogdeaaidaaW.PrintLast Go.Proofs.YthhgfogdeaaidaaW.PrintMore
set_option linter.unusedVariables false
set_option linter.unusedSimpArgs false
theorem Dig.of_wf {l : List Int} (h : ∀ x ∈ l, (Lit.int .u32 x).wf = true) : Dig l := fun x hx => by
  have := h x hx
  simp only [Lit.wf, IntKind.min, IntKind.max, IntKind.signed, IntKind.bits, Bool.and_eq_true, Bool.false_eq_true, if_false, decide_eq_true_eq] at this
  omega
theorem numOk_len {l : List Int} (h : numOk l = true) : l.length ≤ 16 := by
  unfold numOk at h
  split at h
  · assumption
  · exact absurd h (by simp)
theorem numOk_trim {l : List Int} (h : numOk l = true) : trimL l = l := by
  have hl := numOk_len h
  unfold numOk at h
  rw [if_pos hl] at h
  by_cases h0 : l.length = 0
  · rw [List.length_eq_zero_iff.1 h0]; rfl
  · rw [if_neg h0] at h
    exact trimL_last l (fun e => h0 (by rw [e]; rfl)) (by simpa using h)
theorem numOk_as {l : List Int} (hd : Dig l) (h : numOk l = true) : l = digs (val l) := (digs_val_of hd (numOk_trim h)).symm
theorem valid_f (l : List Int) : headendref01_Valid.f l = some (numOk l) := by
  unfold headendref01_Valid.f numOk
  by_cases h : l.length ≤ 16
  · rw [if_pos (show (l.length : Int) ≤ 16 by omega), if_pos h]
    by_cases h0 : l.length = 0
    · rw [if_pos (show (l.length : Int) = 0 by omega), if_pos h0]
    · rw [if_neg (show ¬ (l.length : Int) = 0 by omega), if_neg h0, w64 _ (by omega) (by omega), if_pos (show (0 : Int) ≤ (l.length : Int) - 1 by omega), if_pos (show (l.length : Int) - 1 < (l.length : Int) by omega)]
  · rw [if_neg (show ¬ (l.length : Int) ≤ 16 by omega), if_neg h]
theorem valid2_f (a b : List Int) : number_valid.f [a, b] = some (numOk a && numOk b) := by simp [number_valid.f]
theorem Same_l0 (a b : List Int) (hl : a.length = b.length) (hb : a.length < 4611686018427387904) : ∀ (d i k : Nat), a.length - i = d → i ≤ a.length → d < k → headendref01_Same.l0 k a b (i : Int) = some (decide (a.drop i = b.drop i))
  | 0, i, k, hd, hi, hk => by
    obtain ⟨k, rfl⟩ : ∃ m, k = m + 1 := ⟨k - 1, by omega⟩
    obtain rfl : i = a.length := by omega
    simp only [headendref01_Same.l0]
    rw [if_neg (by omega), List.drop_length, hl, List.drop_length]
    rfl
  | d + 1, i, k, hd, hi, hk => by
    obtain ⟨k, rfl⟩ : ∃ m, k = m + 1 := ⟨k - 1, by omega⟩
    have h1 : i < a.length := by omega
    have h2 : i < b.length := by omega
    simp only [headendref01_Same.l0]
    rw [if_pos (show (i : Int) < (a.length : Int) by omega), if_pos (show (0 : Int) ≤ (i : Int) by omega), if_pos (show (i : Int) < (b.length : Int) by omega), w64n i (by omega), rd_nat _ _ h1, rd_nat _ _ h2, Same_l0 a b hl hb d (i + 1) k (by omega) (by omega) (by omega), List.drop_eq_getElem_cons h1, List.drop_eq_getElem_cons h2]
    by_cases he : a[i] = b[i]
    · rw [if_pos he, he]
      simp only [List.cons.injEq, true_and]
    · rw [if_neg he]
      simp only [List.cons.injEq, he, false_and, decide_false]
theorem Same_f (a b : List Int) (k : Nat) (hb : a.length < 4611686018427387904) (hk : a.length < k) : headendref01_Same.f k a b = some (decide (a = b)) := by
  unfold headendref01_Same.f
  by_cases h : a.length = b.length
  · rw [if_pos (by omega)]
    have := Same_l0 a b h hb a.length 0 k rfl (by omega) hk
    rw [List.drop_zero, List.drop_zero] at this
    exact this
  · rw [if_neg (by omega), decide_eq_false (fun e => h (by rw [e]))]
theorem both_false {a b : List Int} (h : ¬ (numOk a = true ∧ numOk b = true)) : (numOk a && numOk b) = false := by
  cases ha : numOk a <;> cases hb : numOk b <;> simp_all
theorem len_zero {b : List Int} (hb : Dig b) (h : numOk b = true) : ((b.length : Int) = 0) ↔ val b = 0 := by
  constructor
  · intro e
    have e0 : b = [] := List.length_eq_zero_iff.1 (by omega)
    rw [e0]
    rfl
  · intro e
    rw [numOk_as hb h, e, digs_zero]
    rfl
section
variable {a b : List Int} (ha : Dig a) (hb : Dig b)
include ha hb
end
theorem twin_f (l : List Int) (h : l.length < 35184372088832) : headendlaw01_twin.f l = some l := by
  unfold headendlaw01_twin.f
  rw [Option.bind_some, if_pos (by simpa using h), List.nil_append]
theorem spoil_l0 : ∀ (d i k : Nat) (l : List Int), l.length - i = d → i ≤ l.length → d < k → l.length < 4611686018427387904 → ∃ r, headendlaw01_spoil.l0 k l (i : Int) = some r
  | 0, i, k, l, hd, hi, hk, hb => by
    obtain ⟨k, rfl⟩ : ∃ m, k = m + 1 := ⟨k - 1, by omega⟩
    simp only [headendlaw01_spoil.l0]
    rw [if_neg (show ¬ (i : Int) < (l.length : Int) by omega)]
    exact ⟨_, rfl⟩
  | d + 1, i, k, l, hd, hi, hk, hb => by
    obtain ⟨k, rfl⟩ : ∃ m, k = m + 1 := ⟨k - 1, by omega⟩
    simp only [headendlaw01_spoil.l0]
    rw [if_pos (show (i : Int) < (l.length : Int) by omega), if_pos (show (0 : Int) ≤ (i : Int) by omega), w64n i (by omega)]
    exact spoil_l0 d (i + 1) k _ (by simp; omega) (by simp; omega) (by omega) (by simpa using hb)
theorem spoil_f (l : List Int) (k : Nat) (hb : l.length < 4611686018427387904) (hk : l.length < k) : ∃ r, headendlaw01_spoil.f k l = some r := spoil_l0 l.length 0 k l rfl (by omega) hk hb
end Go.Proofs.Ythhgfogdeaaidaa.R
