/- Plain: comparisons and differences of valid numbers, by their values. -/
import Derived.Test.YthhgfogdeaaidaaR0
import Derived.Test.YthhgfogdeaaidaaGalive
namespace Go.Proofs.Ythhgfogdeaaidaa.R
open Go.RowKit Go.Proofs.YthhgfogdeaaidaaW.PrintWords Go.Proofs.YthhgfogdeaaidaaW.PrintLast Go.Proofs.YthhgfogdeaaidaaW.PrintMore
set_option linter.unusedVariables false
set_option linter.unusedSimpArgs false
theorem subS_lt {x y : Nat} (hx : x < 4294967296 ^ 16) (hy : y < 4294967296 ^ 16) (h : x < y) : subS (digs x) (digs y) = ([], 11) := by
  unfold subS
  rw [if_pos ⟨ok_digs hx, ok_digs hy⟩, val_digs, val_digs, if_pos h]
theorem subS_ge {x y : Nat} (hx : x < 4294967296 ^ 16) (hy : y < 4294967296 ^ 16) (h : y ≤ x) : subS (digs x) (digs y) = (digs (x - y), 0) := by
  unfold subS
  rw [if_pos ⟨ok_digs hx, ok_digs hy⟩, val_digs, val_digs, if_neg (by omega)]
theorem limN_over {x : Nat} (h : ¬ x < 4294967296 ^ 16) : limN (digs x) = ([], 4) := by
  unfold limN
  rw [if_neg]
  intro hl
  have := val_lt_pow (Dig.digs x) hl
  rw [val_digs] at this
  exact h this
theorem digs_len16 {x : Nat} (h : x < 4294967296 ^ 16) : (digs x).length ≤ 16 := digs_length_le _ _ h
end Go.Proofs.Ythhgfogdeaaidaa.R

