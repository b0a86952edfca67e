/- Plain: comparisons and differences of valid numbers, by their values. -/
import Derived.Test.YthhgfogdeaaidaaR0
import Derived.Test.YthhgfogdeaaidaaGalive
namespace Go.Proofs.Ythhgfogdeaaidaa.R
open Go.RowKit Go.Proofs.YthhgfogdeaaidaaW.PrintWords Go.Proofs.YthhgfogdeaaidaaW.PrintLast Go.Proofs.YthhgfogdeaaidaaW.PrintMore
set_option linter.unusedVariables false
set_option linter.unusedSimpArgs false
theorem cmpS_digs {x y : Nat} (hx : x < 4294967296 ^ 16) (hy : y < 4294967296 ^ 16) : cmpS (digs x) (digs y) = (cmpN x y, 0) := by
  unfold cmpS
  rw [if_pos ⟨ok_digs hx, ok_digs hy⟩, val_digs, val_digs]
theorem cmpN_lt {x y : Nat} (h : x < y) : cmpN x y = -1 := by unfold cmpN; rw [if_pos h]
theorem cmpN_gt {x y : Nat} (h : y < x) : cmpN x y = 1 := by unfold cmpN; rw [if_neg (by omega), if_pos h]
theorem cmpN_eq (x : Nat) : cmpN x x = 0 := by unfold cmpN; rw [if_neg (by omega), if_neg (by omega)]
theorem subS_lt {x y : Nat} (hx : x < 4294967296 ^ 16) (hy : y < 4294967296 ^ 16) (h : x < y) : subS (digs x) (digs y) = ([], 11) := by
  unfold subS
  rw [if_pos ⟨ok_digs hx, ok_digs hy⟩, val_digs, val_digs, if_pos h]
theorem subS_ge {x y : Nat} (hx : x < 4294967296 ^ 16) (hy : y < 4294967296 ^ 16) (h : y ≤ x) : subS (digs x) (digs y) = (digs (x - y), 0) := by
  unfold subS
  rw [if_pos ⟨ok_digs hx, ok_digs hy⟩, val_digs, val_digs, if_neg (by omega)]
theorem addS_val {x y : Nat} (hx : x < 4294967296 ^ 16) (hy : y < 4294967296 ^ 16) : addS (digs x) (digs y) = limN (digs (x + y)) := by
  unfold addS
  rw [if_pos ⟨ok_digs hx, ok_digs hy⟩, val_digs, val_digs]
theorem mulS_val {x y : Nat} (hx : x < 4294967296 ^ 16) (hy : y < 4294967296 ^ 16) : mulS (digs x) (digs y) = limN (digs (x * y)) := by
  unfold mulS
  rw [if_pos ⟨ok_digs hx, ok_digs hy⟩, val_digs, val_digs]
theorem limN_fit {x : Nat} (h : x < 4294967296 ^ 16) : limN (digs x) = (digs x, 0) := by
  unfold limN
  rw [if_pos (digs_length_le _ _ h)]
theorem limN_over {x : Nat} (h : ¬ x < 4294967296 ^ 16) : limN (digs x) = ([], 4) := by
  unfold limN
  rw [if_neg]
  intro hl
  have := val_lt_pow (Dig.digs x) hl
  rw [val_digs] at this
  exact h this
theorem digs_len16 {x : Nat} (h : x < 4294967296 ^ 16) : (digs x).length ≤ 16 := digs_length_le _ _ h
/-- A valid number by its value. -/
theorem valid_as {a : List Int} (ha : Dig a) (h : numOk a = true) : ∃ x, a = digs x ∧ x < 4294967296 ^ 16 := ⟨val a, numOk_as ha h, val_lt_pow ha (numOk_len h)⟩
theorem same_digs (x y k : Nat) (hl : (digs x).length ≤ 16) (hk : 20 ≤ k) : headendref01_Same.f k (digs x) (digs y) = some (decide (x = y)) := by
  rw [Same_f _ _ k (by omega) (by omega)]
  congr 1
  by_cases h : x = y
  · rw [h, decide_eq_true rfl, decide_eq_true rfl]
  · rw [decide_eq_false h, decide_eq_false (fun e => h (digs_inj e))]
end Go.Proofs.Ythhgfogdeaaidaa.R

