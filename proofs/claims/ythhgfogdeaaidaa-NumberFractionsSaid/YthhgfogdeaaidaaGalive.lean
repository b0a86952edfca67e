/- headendlaw01.alive: the chapter's examples hold, whatever else is asked. -/
import Derived.Test.YthhgfogdeaaidaaR0
import Derived.Test.YthhgfogdeaaidaaR17
import Derived.Test.YthhgfogdeaaidaaR14
import Derived.Test.YthhgfogdeaaidaaR1
import Derived.Test.YthhgfogdeaaidaaR2
import Derived.Test.YthhgfogdeaaidaaR13
import Derived.Test.YthhgfogdeaaidaaGalwalk
import Derived.Test.YthhgfogdeaaidaaGtext
namespace Go.Proofs.Ythhgfogdeaaidaa.R
open Go.RowKit Go.Proofs.YthhgfogdeaaidaaW.PrintWords Go.Proofs.YthhgfogdeaaidaaW.PrintLast Go.Proofs.YthhgfogdeaaidaaW.PrintMore
set_option linter.unusedVariables false
set_option linter.unusedSimpArgs false
theorem lowest_f {x y : Nat} (hx : (digs x).length ≤ 16) (hy : (digs y).length ≤ 16) (h0 : y ≠ 0) (k : Nat) (hk : y < k) : number_lowest.f k (digs x) (digs y) = some (digs (x / Nat.gcd x y), digs (y / Nat.gcd x y)) := by
  have hg : Nat.gcd x y ≠ 0 := fun e => h0 (Nat.eq_zero_of_gcd_eq_zero_right e)
  have hgl : (digs (Nat.gcd x y)).length ≤ 16 := Nat.le_trans (digs_length_mono (Nat.gcd_le_right _ (Nat.pos_of_ne_zero h0))) hy
  unfold number_lowest.f
  rw [common_f x y k (by omega) (by omega) hk, Option.bind_some, parted_f x _ hg (by omega) (by omega), Option.bind_some, parted_f y _ hg (by omega) (by omega), Option.bind_some]
def ratioS (a b : List Int) : List Int × List Int × Int := if numOk a = true ∧ numOk b = true then (if val b = 0 then ([], [], 10) else (digs (val a / Nat.gcd (val a) (val b)), digs (val b / Nat.gcd (val a) (val b)), 0)) else ([], [], 8)
theorem number_Ratio_f {a b : List Int} (ha : Dig a) (hb : Dig b) (k : Nat) (hk : val b < k) : number_Ratio.f k a b = some (ratioS a b) := by
  unfold number_Ratio.f ratioS
  rw [valid2_f, Option.bind_some]
  by_cases h : numOk a = true ∧ numOk b = true
  · have h1 := numOk_len h.1
    have h2 := numOk_len h.2
    rw [if_pos h, h.1, h.2, if_pos (by rfl)]
    by_cases h0 : val b = 0
    · rw [if_pos h0, if_pos ((len_zero hb h.2).2 h0)]
    · rw [if_neg h0, if_neg (fun e => h0 ((len_zero hb h.2).1 e))]
      have hp := lowest_f (x := val a) (y := val b) (by rw [← numOk_as ha h.1]; omega) (by rw [← numOk_as hb h.2]; omega) h0 k hk
      rw [← numOk_as ha h.1, ← numOk_as hb h.2] at hp
      rw [hp, Option.bind_some]
  · rw [if_neg h, both_false h, if_neg (by decide)]
theorem SameFraction_f (a b c d : List Int) (k : Nat) (ha : a.length < 4611686018427387904) (hb : b.length < 4611686018427387904) (hk : a.length < k) (hk' : b.length < k) : headendref01_SameFraction.f k a b c d = some (decide (a = c ∧ b = d)) := by
  unfold headendref01_SameFraction.f
  rw [Same_f a c k ha hk, Option.bind_some]
  by_cases h : a = c
  · rw [if_pos (by simpa using h), Same_f b d k hb hk', Option.bind_some]
    simp [h]
  · rw [if_neg (by simpa using h), decide_eq_false (fun e => h e.1)]
end Go.Proofs.Ythhgfogdeaaidaa.R
