/- NumberBack, the plain law: differences undo sums, and the order. -/
import Derived.Test.YthhgfogdeaaidaaR26
import Derived.Test.YthhgfogdeaaidaaGval
namespace Go.Proofs.Ythhgfogdeaaidaa.Pure
open Go.RowKit Go.Proofs.Ythhgfogdeaaidaa.R Go.Proofs.YthhgfogdeaaidaaW.PrintWords Go.Proofs.YthhgfogdeaaidaaW.PrintLast
theorem back_j1 (x y : Nat) (hx : x < 4294967296 ^ 16) (hy : y < 4294967296 ^ 16) : headendlaw01_NumberBack.j1 1002 (digs x) (digs y) true = some true := by
  have hlx := digs_len16 hx
  rw [show 1002 = 1001 + 1 from rfl, headendlaw01_NumberBack.j1, number_Compare_f (Dig.digs _) (Dig.digs _), Option.bind_some, number_Compare_f (Dig.digs _) (Dig.digs _), Option.bind_some, number_Sub_f (Dig.digs _) (Dig.digs _) _ (by decide), Option.bind_some, cmpS_digs hx hy, cmpS_digs hy hx]
  rcases Nat.lt_trichotomy x y with h | h | h
  · rw [subS_lt hx hy h, cmpN_lt h, cmpN_gt h, if_pos rfl, if_pos rfl, if_pos (by rw [w64 _ (by decide) (by decide)] <;> rfl), if_neg (by simp)]
    dsimp only
    rw [same_digs _ _ _ hlx (by decide), Option.bind_some, decide_eq_false (by omega), show 1001 = 1000 + 1 from rfl, headendlaw01_NumberBack.j2, if_neg (by decide), if_neg (by decide), if_pos rfl]
    rfl
  · subst h
    rw [subS_ge hx hy (Nat.le_refl _), cmpN_eq, if_pos rfl, if_pos rfl, if_pos (by rw [w64 _ (by decide) (by decide)] <;> rfl), if_neg (by simp)]
    dsimp only
    rw [same_digs _ _ _ hlx (by decide), Option.bind_some, decide_eq_true rfl, show 1001 = 1000 + 1 from rfl, headendlaw01_NumberBack.j2, if_neg (by decide), if_pos rfl, number_Add_f (Dig.digs _) (Dig.digs _) _ (by decide), addS_digs (by omega) hy (by omega), Option.bind_some, if_pos rfl, if_pos rfl]
    dsimp only
    rw [same_digs _ _ _ (by rw [show x - x + x = x by omega]; exact hlx) (by decide), Option.bind_some, decide_eq_true (by omega)]
  · rw [subS_ge hx hy (by omega), cmpN_gt h, cmpN_lt h, if_pos rfl, if_pos rfl, if_pos (by rw [w64 _ (by decide) (by decide)] <;> rfl), if_neg (by simp)]
    dsimp only
    rw [same_digs _ _ _ hlx (by decide), Option.bind_some, decide_eq_false (by omega), show 1001 = 1000 + 1 from rfl, headendlaw01_NumberBack.j2, if_neg (by decide), if_pos rfl, number_Add_f (Dig.digs _) (Dig.digs _) _ (by decide), addS_digs (by omega) hy (by omega), Option.bind_some, if_pos rfl, if_pos rfl]
    dsimp only
    rw [same_digs _ _ _ (by rw [show x - y + y = x by omega]; exact hlx) (by decide), Option.bind_some, decide_eq_true (by omega)]
theorem NumberBack : headendlaw01_NumberBack.Pure := by
  intro a b _ hla hwa _ hlb hwb
  have ha := Dig.of_wf hwa
  have hb := Dig.of_wf hwb
  refine ⟨1002 + 1, ?_⟩
  unfold headendlaw01_NumberBack.f
  rw [show headendlaw01_alive.f = some true from rfl, Option.bind_some, valid_f, Option.bind_some]
  by_cases h1 : numOk a = true
  case neg => rw [if_neg h1, headendlaw01_NumberBack.j0, if_pos rfl]
  rw [if_pos h1, valid_f, Option.bind_some, headendlaw01_NumberBack.j0]
  by_cases h2 : numOk b = true
  case neg => rw [if_pos (by simpa using h2)]
  rw [if_neg (by simp [h2])]
  obtain ⟨x, rfl, hx⟩ := valid_as ha h1
  obtain ⟨y, rfl, hy⟩ := valid_as hb h2
  clear hla hwa hlb hwb
  have hj := back_j1 x y hx hy
  rw [number_Add_f ha hb _ (by decide), Option.bind_some, addS_val hx hy]
  by_cases f1 : x + y < 4294967296 ^ 16
  case neg =>
    rw [limN_over f1, if_neg (by decide)]
    exact hj
  rw [limN_fit f1, if_pos rfl]
  dsimp only
  rw [number_Sub_f (Dig.digs _) hb _ (by decide), Option.bind_some, subS_ge f1 hy (by omega), number_Compare_f (Dig.digs _) ha, Option.bind_some, cmpS_digs f1 hx, if_pos rfl]
  dsimp only
  rw [same_digs _ _ _ (by rw [show x + y - y = x by omega]; exact digs_len16 hx) (by decide), Option.bind_some, if_pos (by simp), if_pos rfl]
  by_cases h0 : y = 0
  · subst h0
    rw [show x + 0 = x from rfl, cmpN_eq, if_neg (by decide), if_neg (by decide), if_pos rfl]
    exact hj
  · have hp := digs_pos_len h0
    rw [cmpN_gt (show x < x + y by omega), if_pos rfl, if_neg (by decide), if_neg (by omega)]
    exact hj
end Go.Proofs.Ythhgfogdeaaidaa.Pure

