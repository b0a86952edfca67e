/- NumberRing, the plain law: sums and products commute, associate and distribute. -/
import Derived.Test.YthhgfogdeaaidaaR21
import Derived.Test.YthhgfogdeaaidaaGval
namespace Go.Proofs.Ythhgfogdeaaidaa.Pure
open Go.RowKit Go.Proofs.Ythhgfogdeaaidaa.R Go.Proofs.YthhgfogdeaaidaaW.PrintWords Go.Proofs.YthhgfogdeaaidaaW.PrintLast
theorem NumberRing : headendlaw01_NumberRing.Pure := by
  intro a b c _ hla hwa _ hlb hwb _ hlc hwc
  have ha := Dig.of_wf hwa
  have hb := Dig.of_wf hwb
  have hc := Dig.of_wf hwc
  refine ⟨1000 + 4, ?_⟩
  unfold headendlaw01_NumberRing.f
  rw [show headendlaw01_alive.f = some true from rfl, Option.bind_some, valid_f, Option.bind_some]
  by_cases h1 : numOk a = true
  case neg => rw [if_neg h1, show 1000 + 4 = 1003 + 1 from rfl, headendlaw01_NumberRing.j0, if_pos rfl]
  rw [if_pos h1, valid_f, Option.bind_some]
  by_cases h2 : numOk b = true
  case neg => rw [if_neg h2, show 1000 + 4 = 1003 + 1 from rfl, headendlaw01_NumberRing.j0, if_pos rfl]
  rw [if_pos h2, valid_f, Option.bind_some, show 1000 + 4 = 1003 + 1 from rfl, headendlaw01_NumberRing.j0]
  by_cases h3 : numOk c = true
  case neg => rw [if_pos (by simpa using h3)]
  rw [if_neg (by simp [h3])]
  obtain ⟨x, rfl, hx⟩ := valid_as ha h1
  obtain ⟨y, rfl, hy⟩ := valid_as hb h2
  obtain ⟨z, rfl, hz⟩ := valid_as hc h3
  clear hla hwa hlb hwb hlc hwc
  have hl1 := limN_len (digs (x + y))
  have hl2 := limN_len (digs (x * y))
  rw [number_Add_f ha hb _ (by decide), Option.bind_some, number_Add_f hb ha _ (by decide), Option.bind_some, number_Mul_f ha hb _ (by decide), Option.bind_some, number_Mul_f hb ha _ (by decide), Option.bind_some, addS_val hx hy, addS_val hy hx, mulS_val hx hy, mulS_val hy hx, Nat.add_comm y x, Nat.mul_comm y x, if_pos rfl, if_pos rfl, Same_refl _ _ (by omega) (by omega), Option.bind_some, if_pos rfl, Same_refl _ _ (by omega) (by omega), Option.bind_some]
  rw [show 1003 = 1002 + 1 from rfl, headendlaw01_NumberRing.j1, if_neg (by decide)]
  by_cases f1 : x + y < 4294967296 ^ 16
  case neg =>
    rw [limN_over f1, if_neg (by decide), show 1002 = 1001 + 1 from rfl, headendlaw01_NumberRing.j2, if_pos rfl, if_pos rfl, if_neg (by decide), if_pos rfl]
    by_cases f2 : x * y < 4294967296 ^ 16
    · rw [limN_fit f2, if_pos rfl]
    · rw [limN_over f2, if_neg (by decide)]
      rfl
  by_cases f2 : x * y < 4294967296 ^ 16
  case neg =>
    rw [limN_fit f1, limN_over f2, if_pos rfl, show 1002 = 1001 + 1 from rfl, headendlaw01_NumberRing.j2, if_pos (by decide), if_pos rfl, if_pos rfl, if_neg (by decide)]
    rfl
  rw [limN_fit f1, limN_fit f2, if_pos rfl, show 1002 = 1001 + 1 from rfl, headendlaw01_NumberRing.j2, if_neg (by simp)]
  rw [number_Mul_f (Dig.digs _) hc _ (by decide), Option.bind_some, number_Mul_f ha hc _ (by decide), Option.bind_some, number_Mul_f hb hc _ (by decide), Option.bind_some, mulS_val f1 hz, mulS_val hx hz, mulS_val hy hz]
  by_cases f3 : (x + y) * z < 4294967296 ^ 16
  case neg => rw [limN_over f3, if_neg (by decide), show 1001 = 1000 + 1 from rfl, headendlaw01_NumberRing.j3, if_pos rfl]
  by_cases f4 : x * z < 4294967296 ^ 16
  case neg => rw [limN_fit f3, limN_over f4, if_pos rfl, if_neg (by decide), show 1001 = 1000 + 1 from rfl, headendlaw01_NumberRing.j3, if_pos rfl]
  by_cases f5 : y * z < 4294967296 ^ 16
  case neg => rw [limN_fit f3, limN_fit f4, limN_over f5, if_pos rfl, if_pos rfl, show 1001 = 1000 + 1 from rfl, headendlaw01_NumberRing.j3, if_pos (by decide)]
  have hd : x * z + y * z = (x + y) * z := (Nat.add_mul x y z).symm
  have hm : x * (y * z) = x * y * z := (Nat.mul_assoc x y z).symm
  have hl3 := limN_len (digs (x * y * z))
  rw [limN_fit f3, limN_fit f4, limN_fit f5, if_pos rfl, if_pos rfl, show 1001 = 1000 + 1 from rfl, headendlaw01_NumberRing.j3, if_neg (by simp)]
  rw [number_Add_f (Dig.digs _) (Dig.digs _) _ (by decide), Option.bind_some, number_Mul_f (Dig.digs _) hc _ (by decide), Option.bind_some, number_Mul_f ha (Dig.digs _) _ (by decide), Option.bind_some, addS_val f4 f5, mulS_val f2 hz, mulS_val hx f5, hd, hm, limN_fit f3, if_pos rfl, if_pos rfl]
  dsimp only
  rw [same_digs _ _ _ (digs_len16 f3) (by decide), Option.bind_some, if_pos (by simp), if_pos rfl, Same_refl _ _ (by omega) (by omega), Option.bind_some]
end Go.Proofs.Ythhgfogdeaaidaa.Pure

