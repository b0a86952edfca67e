/- NumberDivides, the plain law: quotient times divisor plus rest is the number, and the rest is less than the divisor. -/
import Derived.Test.YthhgfogdeaaidaaR25
import Derived.Test.YthhgfogdeaaidaaGval
namespace Go.Proofs.Ythhgfogdeaaidaa.Pure
open Go.RowKit Go.Proofs.Ythhgfogdeaaidaa.R Go.Proofs.YthhgfogdeaaidaaW.PrintWords Go.Proofs.YthhgfogdeaaidaaW.PrintLast
theorem NumberDivides : headendlaw01_NumberDivides.Pure := by
  intro a b _ hla hwa _ hlb hwb
  have ha := Dig.of_wf hwa
  have hb := Dig.of_wf hwb
  refine ⟨1000 + 1, ?_⟩
  unfold headendlaw01_NumberDivides.f
  rw [show headendlaw01_alive.f = some true from rfl, Option.bind_some, valid_f, Option.bind_some]
  by_cases h1 : numOk a = true
  case neg => rw [if_neg h1, headendlaw01_NumberDivides.j0, if_pos rfl]
  rw [if_pos h1, valid_f, Option.bind_some, headendlaw01_NumberDivides.j0]
  by_cases h2 : numOk b = true
  case neg => rw [if_pos (by simpa using h2)]
  rw [if_neg (by simp [h2]), number_Div_f ha hb, Option.bind_some]
  obtain ⟨x, rfl, hx⟩ := valid_as ha h1
  obtain ⟨y, rfl, hy⟩ := valid_as hb h2
  clear hla hwa hlb hwb
  by_cases h0 : y = 0
  · rw [if_pos ((digs_len_zero y).2 h0), if_pos rfl]
    unfold divS
    rw [if_pos ⟨h1, h2⟩, val_digs, val_digs, if_pos h0]
    rfl
  · have hq : x / y * y ≤ x := Nat.div_mul_le_self x y
    have hqx : x / y ≤ x := Nat.div_le_self x y
    have hr := Nat.mod_lt x (Nat.pos_of_ne_zero h0)
    have hs : x / y * y + x % y = x := Nat.div_add_mod' x y
    rw [if_neg (fun e => h0 ((digs_len_zero y).1 e)), divS_digs hx hy h0]
    dsimp only
    rw [number_Mul_f (Dig.digs _) (Dig.digs _) 1000 (by decide), mulS_digs (by omega) hy (by omega), Option.bind_some]
    dsimp only
    rw [number_Add_f (Dig.digs _) (Dig.digs _) 1000 (by decide), addS_digs (by omega) (by omega) (by omega), Option.bind_some, number_Compare_f (Dig.digs _) (Dig.digs _), Option.bind_some, hs, if_pos rfl, if_pos rfl, if_pos rfl, if_pos rfl, cmpS_digs (by omega) hy, cmpN_lt hr]
    dsimp only
    rw [same_digs _ _ _ (digs_len16 hx) (by decide), Option.bind_some, if_pos (by simp), if_pos rfl]
    rfl
end Go.Proofs.Ythhgfogdeaaidaa.Pure

