-- Written by a program of this session (wip/printmore.py over the kit's print.py): callers of hand-proved contracts. Lean checks it.
import Derived.Test.YthhgfogdeaaidaaR0
import Derived.Test.YthhgfogdeaaidaaR2
namespace Go.Proofs.Ythhgfogdeaaidaa.R
open Go.RowKit Go.Proofs.YthhgfogdeaaidaaW.PrintWords Go.Proofs.YthhgfogdeaaidaaW.PrintLast Go.Proofs.YthhgfogdeaaidaaW.PrintMore
attribute [local go_sem] max2_int min2_int max_two min_two max_three min_three max_four min_four   -- for this text's walks alone
set_option linter.unusedVariables false
set_option linter.unusedSimpArgs false
/-! ### headendlaw01_NumberGroups: function 4 -/
def headendlaw01_NumberGroups.f (k : Nat) (a0 : Int) (a1_0 : Int) (a1_1 : Int) (a1_2 : Int) : Option (Bool) := (number_Prime.f k a0).bind fun bt128 => ((headendref01_Prime.f k a0).bind fun bt130 => (if (bt128.1 == bt130.1) = true then (if bt128.2 = bt130.2 then ((number_CheckGroup.f k a1_0 a1_1 a1_2).bind fun t132 => ((headendref01_CheckGroup.f k a1_0 a1_1 a1_2).bind fun t133 => (some (t132 == t133)))) else (some false)) else (some false)))
end Go.Proofs.Ythhgfogdeaaidaa.R

