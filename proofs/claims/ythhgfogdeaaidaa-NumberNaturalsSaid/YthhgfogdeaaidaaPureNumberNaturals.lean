/- NumberNaturals, the plain law: the program's arithmetic of naturals answers as the reference's does. -/
import Derived.Test.YthhgfogdeaaidaaR21
import Derived.Test.YthhgfogdeaaidaaGapi
namespace Go.Proofs.Ythhgfogdeaaidaa.Pure
open Go.RowKit Go.Proofs.Ythhgfogdeaaidaa.R Go.Proofs.YthhgfogdeaaidaaW.PrintWords Go.Proofs.YthhgfogdeaaidaaW.PrintLast
theorem NumberNaturals : headendlaw01_NumberNaturals.Pure := by
  intro a b _ hla hwa _ hlb hwb
  have ha := Dig.of_wf hwa
  have hb := Dig.of_wf hwb
  have la : a.length < 35184372088832 := by omega
  have lb : b.length < 35184372088832 := by omega
  obtain ⟨K, hK⟩ : ∃ K, val b + 40000000 + a.length + b.length + 1 = K := ⟨_, rfl⟩
  refine ⟨K + 6, ?_⟩
  have l1 := addS_len a b
  have l2 := subS_len (b := b) ha
  have l3 := mulS_len a b
  have l4 := divS_len ha hb
  have l5 := gcdS_len ha hb
  obtain ⟨s1, e1⟩ := spoil_f (addS a b).1 (K + 4) (by omega) (by omega)
  obtain ⟨s2, e2⟩ := spoil_f (subS a b).1 (K + 3) (by omega) (by omega)
  obtain ⟨s3, e3⟩ := spoil_f (mulS a b).1 (K + 2) (by omega) (by omega)
  obtain ⟨s4, e4⟩ := spoil_f (divS a b).1 (K + 1) (by omega) (by omega)
  obtain ⟨s5, e5⟩ := spoil_f (divS a b).2.1 (K + 1) (by omega) (by omega)
  obtain ⟨s6, e6⟩ := spoil_f (gcdS a b).1 K (by omega) (by omega)
  unfold headendlaw01_NumberNaturals.f
  rw [twin_f a la, Option.bind_some, twin_f b lb, Option.bind_some, number_Compare_f ha hb, Option.bind_some, Compare_f ha hb _ (by omega), Option.bind_some, if_pos rfl, if_pos rfl, number_Check_f, Option.bind_some, Check_f, Option.bind_some, bne_self_eq_false]
  rw [show K + 6 = K + 5 + 1 from rfl, headendlaw01_NumberNaturals.j0, if_neg (by decide), number_Add_f ha hb _ (by omega), Option.bind_some, Add_f ha hb _ (by omega), Option.bind_some, Same_refl _ _ (by omega) (by omega), Option.bind_some, if_pos rfl, bne_self_eq_false]
  rw [show K + 5 = K + 4 + 1 from rfl, headendlaw01_NumberNaturals.j1, if_neg (by decide), e1, Option.bind_some, number_Sub_f ha hb _ (by omega), Option.bind_some, Sub_f ha hb _ (by omega), Option.bind_some, Same_refl _ _ (by omega) (by omega), Option.bind_some, if_pos rfl, bne_self_eq_false]
  rw [show K + 4 = K + 3 + 1 from rfl, headendlaw01_NumberNaturals.j2, if_neg (by decide), e2, Option.bind_some, number_Mul_f ha hb _ (by omega), Option.bind_some, Mul_f ha hb _ (by omega), Option.bind_some, Same_refl _ _ (by omega) (by omega), Option.bind_some, if_pos rfl, bne_self_eq_false]
  rw [show K + 3 = K + 2 + 1 from rfl, headendlaw01_NumberNaturals.j3, if_neg (by decide), e3, Option.bind_some, number_Div_f ha hb, Option.bind_some, Div_f ha hb _ (by omega), Option.bind_some, Same_refl _ _ (by omega) (by omega), Option.bind_some, if_pos rfl, Same_refl _ _ (by omega) (by omega), Option.bind_some, if_pos rfl, bne_self_eq_false]
  rw [show K + 2 = K + 1 + 1 from rfl, headendlaw01_NumberNaturals.j4, if_neg (by decide), e4, Option.bind_some, e5, Option.bind_some, number_Gcd_f ha hb _ (by omega), Option.bind_some, Gcd_f ha hb _ (by omega), Option.bind_some, Same_refl _ _ (by omega) (by omega), Option.bind_some, if_pos rfl, bne_self_eq_false]
  rw [headendlaw01_NumberNaturals.j5, if_neg (by decide), e6, Option.bind_some, Same_refl _ _ (by omega) (by omega), Option.bind_some, if_pos rfl, Same_refl _ _ (by omega) (by omega), Option.bind_some]
end Go.Proofs.Ythhgfogdeaaidaa.Pure

