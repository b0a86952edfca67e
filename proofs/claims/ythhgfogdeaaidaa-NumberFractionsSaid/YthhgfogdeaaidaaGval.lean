/- Plain: comparisons and differences of valid numbers, by their values. -/
import Derived.Test.YthhgfogdeaaidaaR0
import Derived.Test.YthhgfogdeaaidaaGalive
namespace Go.Proofs.Ythhgfogdeaaidaa.R
open Go.RowKit Go.Proofs.YthhgfogdeaaidaaW.PrintWords Go.Proofs.YthhgfogdeaaidaaW.PrintLast Go.Proofs.YthhgfogdeaaidaaW.PrintMore
set_option linter.unusedVariables false
set_option linter.unusedSimpArgs false
theorem digs_len16 {x : Nat} (h : x < 4294967296 ^ 16) : (digs x).length ≤ 16 := digs_length_le _ _ h
theorem same_digs (x y k : Nat) (hl : (digs x).length ≤ 16) (hk : 20 ≤ k) : headendref01_Same.f k (digs x) (digs y) = some (decide (x = y)) := by
  rw [Same_f _ _ k (by omega) (by omega)]
  congr 1
  by_cases h : x = y
  · rw [h, decide_eq_true rfl, decide_eq_true rfl]
  · rw [decide_eq_false h, decide_eq_false (fun e => h (digs_inj e))]
end Go.Proofs.Ythhgfogdeaaidaa.R
