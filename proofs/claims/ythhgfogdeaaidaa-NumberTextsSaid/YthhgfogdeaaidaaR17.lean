-- Written by a program of this session (wip/printmore.py over the kit's print.py): callers of hand-proved contracts. Lean checks it.
import Derived.Test.YthhgfogdeaaidaaR0
import Derived.Test.YthhgfogdeaaidaaR8
import Derived.Test.YthhgfogdeaaidaaR9
import Derived.Test.YthhgfogdeaaidaaR11
import Derived.Test.YthhgfogdeaaidaaR13
import Derived.Test.YthhgfogdeaaidaaR14
import Derived.Test.YthhgfogdeaaidaaR16
import Derived.Test.YthhgfogdeaaidaaGparted
import Derived.Test.YthhgfogdeaaidaaGvalid
namespace Go.Proofs.Ythhgfogdeaaidaa.R
open Go.RowKit Go.Proofs.YthhgfogdeaaidaaW.PrintWords Go.Proofs.YthhgfogdeaaidaaW.PrintLast Go.Proofs.YthhgfogdeaaidaaW.PrintMore
attribute [local go_sem] max2_int min2_int max_two min_two max_three min_three max_four min_four   -- for this text's walks alone
set_option linter.unusedVariables false
set_option linter.unusedSimpArgs false
/-! ### headendref01_MulFractions: function 46 -/
/-! ### number_Mul: function 49 -/
/-! ### number_Add: function 50 -/
/-! ### number_Div: function 59 -/
/-! ### number_Gcd: function 61 -/
/-! ### headendlaw01_n: function 63 -/
/-! ### headendlaw01_is: function 65 -/
/-! ### headendlaw01_fraction: function 66 -/
end Go.Proofs.Ythhgfogdeaaidaa.R

