/- Plain: decimal texts: what Text and Parse answer, the program's and the reference's. -/
import Derived.Test.YthhgfogdeaaidaaR0
import Derived.Test.YthhgfogdeaaidaaR7
import Derived.Test.YthhgfogdeaaidaaR9
import Derived.Test.YthhgfogdeaaidaaR10
import Derived.Test.YthhgfogdeaaidaaR12
import Derived.Test.YthhgfogdeaaidaaGapi
namespace Go.Proofs.Ythhgfogdeaaidaa.R
open Go.RowKit Go.Proofs.YthhgfogdeaaidaaW.PrintWords Go.Proofs.YthhgfogdeaaidaaW.PrintLast Go.Proofs.YthhgfogdeaaidaaW.PrintMore
set_option linter.unusedVariables false
set_option linter.unusedSimpArgs false
theorem small_digit (x : Nat) (h : x < 4294967296) : rd (digs x) 0 = (x : Int) := by
  have := rd_val (Dig.digs x) 0
  rw [val_digs, Nat.pow_zero, Nat.div_one, Nat.mod_eq_of_lt h] at this
  exact this
def allDig (s : ByteArray) : Prop := ∀ i : Nat, i < s.size → 48 ≤ bt s (i : Int) ∧ bt s (i : Int) ≤ 57
instance (s : ByteArray) : Decidable (allDig s) := Nat.decidableBallLT _ _
def lead (s : ByteArray) : Prop := s.size = 0 ∨ (1 < s.size ∧ bt s 0 = 48)
instance (s : ByteArray) : Decidable (lead s) := inferInstanceAs (Decidable (_ ∨ _))
end Go.Proofs.Ythhgfogdeaaidaa.R
