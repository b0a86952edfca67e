/- Plain: comparisons and differences of valid numbers, by their values. -/
import Derived.Test.YthhgfogdeaaidaaR0
import Derived.Test.YthhgfogdeaaidaaGalive
namespace Go.Proofs.Ythhgfogdeaaidaa.R
open Go.RowKit Go.Proofs.YthhgfogdeaaidaaW.PrintWords Go.Proofs.YthhgfogdeaaidaaW.PrintLast Go.Proofs.YthhgfogdeaaidaaW.PrintMore
set_option linter.unusedVariables false
set_option linter.unusedSimpArgs false
theorem cmpS_digs {x y : Nat} (hx : x < 4294967296 ^ 16) (hy : y < 4294967296 ^ 16) : cmpS (digs x) (digs y) = (cmpN x y, 0) := by
  unfold cmpS
  rw [if_pos ⟨ok_digs hx, ok_digs hy⟩, val_digs, val_digs]
theorem cmpN_lt {x y : Nat} (h : x < y) : cmpN x y = -1 := by unfold cmpN; rw [if_pos h]
theorem cmpN_gt {x y : Nat} (h : y < x) : cmpN x y = 1 := by unfold cmpN; rw [if_neg (by omega), if_pos h]
theorem cmpN_eq (x : Nat) : cmpN x x = 0 := by unfold cmpN; rw [if_neg (by omega), if_neg (by omega)]
theorem digs_len16 {x : Nat} (h : x < 4294967296 ^ 16) : (digs x).length ≤ 16 := digs_length_le _ _ h
end Go.Proofs.Ythhgfogdeaaidaa.R

