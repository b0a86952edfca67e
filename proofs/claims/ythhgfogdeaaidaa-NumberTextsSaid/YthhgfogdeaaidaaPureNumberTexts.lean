/- NumberTexts, the plain law: the program's texts and numbers of texts are the reference's. -/
import Derived.Test.YthhgfogdeaaidaaR13
import Derived.Test.YthhgfogdeaaidaaGtext
namespace Go.Proofs.Ythhgfogdeaaidaa.Pure
open Go.RowKit Go.Proofs.Ythhgfogdeaaidaa.R Go.Proofs.YthhgfogdeaaidaaW.PrintWords Go.Proofs.YthhgfogdeaaidaaW.PrintLast
theorem NumberTexts : headendlaw01_NumberTexts.Pure := by
  intro a s n _ hla hwa hs hn
  have ha := Dig.of_wf hwa
  simp only [Lit.wf, IntKind.min, IntKind.max, IntKind.signed, IntKind.bits, Bool.and_eq_true, Bool.false_eq_true, if_false, decide_eq_true_eq] at hn
  obtain ⟨x, rfl⟩ := Int.eq_ofNat_of_zero_le (show 0 ≤ n by omega)
  have hx : x < 18446744073709551616 := by omega
  obtain ⟨K, hK⟩ : ∃ K, val a + 1200 + 3 * s.size + 400 = K := ⟨_, rfl⟩
  refine ⟨K + 1, ?_⟩
  have hl := parseS_len s
  have hd : (digs x).length ≤ 2 := digs_length_le _ _ (by omega)
  unfold headendlaw01_NumberTexts.f
  by_cases h7 : (s.size : Int) > 700
  · rw [if_pos h7]
  · rw [if_neg h7, number_Text_f ha _ (by omega), Option.bind_some, Text_f ha _ (by omega), Option.bind_some, if_pos rfl, bne_self_eq_false]
    rw [headendlaw01_NumberTexts.j0, if_neg (by decide), number_Parse_f s (by omega) _ (by omega), Option.bind_some, Parse_f s (by omega) _ (by omega), Option.bind_some, Same_refl _ _ (by omega) (by omega), Option.bind_some, if_pos rfl, if_pos rfl]
    rw [number_Of_f x _ hx (by omega), Option.bind_some, Of_f x hx, Option.bind_some, Same_refl _ _ (by omega) (by omega), Option.bind_some]
end Go.Proofs.Ythhgfogdeaaidaa.Pure

