/- NumberCommon, the plain law: the greatest common divisor. -/
import Derived.Test.YthhgfogdeaaidaaR22
import Derived.Test.YthhgfogdeaaidaaGval
namespace Go.Proofs.Ythhgfogdeaaidaa.Pure
open Go.RowKit Go.Proofs.Ythhgfogdeaaidaa.R Go.Proofs.YthhgfogdeaaidaaW.PrintWords Go.Proofs.YthhgfogdeaaidaaW.PrintLast
theorem gcd_parts {x y : Nat} (h : Nat.gcd x y ≠ 0) : Nat.gcd (x / Nat.gcd x y) (y / Nat.gcd x y) = 1 := by
  have hg := Nat.pos_of_ne_zero h
  have := Nat.gcd_div (Nat.gcd_dvd_left x y) (Nat.gcd_dvd_right x y)
  rw [this, Nat.div_self hg]
theorem NumberCommon : headendlaw01_NumberCommon.Pure := by
  intro a b c _ hla hwa _ hlb hwb _ hlc hwc
  have ha := Dig.of_wf hwa
  have hb := Dig.of_wf hwb
  have hc := Dig.of_wf hwc
  obtain ⟨K, hK⟩ : ∃ K, val a + val b + 1000 = K := ⟨_, rfl⟩
  refine ⟨K + 3, ?_⟩
  unfold headendlaw01_NumberCommon.f
  rw [show headendlaw01_alive.f = some true from rfl, Option.bind_some, valid_f, Option.bind_some]
  by_cases h1 : numOk a = true
  case neg => rw [if_neg h1, show K + 3 = K + 2 + 1 from rfl, headendlaw01_NumberCommon.j0, if_pos rfl]
  rw [if_pos h1, valid_f, Option.bind_some]
  by_cases h2 : numOk b = true
  case neg => rw [if_neg h2, show K + 3 = K + 2 + 1 from rfl, headendlaw01_NumberCommon.j0, if_pos rfl]
  rw [if_pos h2, valid_f, Option.bind_some, show K + 3 = K + 2 + 1 from rfl, headendlaw01_NumberCommon.j0]
  by_cases h3 : numOk c = true
  case neg => rw [if_pos (by simpa using h3)]
  rw [if_neg (by simp [h3])]
  obtain ⟨x, rfl, hx⟩ := valid_as ha h1
  obtain ⟨y, rfl, hy⟩ := valid_as hb h2
  obtain ⟨z, rfl, hz⟩ := valid_as hc h3
  rw [val_digs, val_digs] at hK
  clear hla hwa hlb hwb hlc hwc
  rw [number_Gcd_f ha hb _ (by rw [val_digs]; omega), Option.bind_some, gcdS_digs hx hy]
  dsimp only
  have hlen : ∀ w : Nat, (((digs w).length : Int) == 0) = decide (w = 0) := fun w => by
    by_cases h : w = 0
    · rw [decide_eq_true h, beq_iff_eq]
      exact (digs_len_zero w).2 h
    · rw [decide_eq_false h, beq_eq_false_iff_ne]
      exact fun e => h ((digs_len_zero w).1 e)
  have hgo : ∀ t : Bool, (t = true → False) → Nat.gcd x y ≠ 0 → headendlaw01_NumberCommon.j1 (K + 2) (digs x) (digs y) (digs z) true (digs (Nat.gcd x y)) 0 t = some true := by
    intro t ht hg
    have hgx : Nat.gcd x y ∣ x := Nat.gcd_dvd_left x y
    have hgy : Nat.gcd x y ∣ y := Nat.gcd_dvd_right x y
    have hglt : Nat.gcd x y < 4294967296 ^ 16 := by
      by_cases h0 : x = 0
      · subst h0
        rw [Nat.gcd_zero_left]
        exact hy
      · exact Nat.lt_of_le_of_lt (Nat.le_of_dvd (Nat.pos_of_ne_zero h0) hgx) hx
    have hone := gcd_parts hg
    have l1 : x / Nat.gcd x y ≤ x := Nat.div_le_self _ _
    have l2 : y / Nat.gcd x y ≤ y := Nat.div_le_self _ _
    have m1 : x % Nat.gcd x y = 0 := Nat.mod_eq_zero_of_dvd hgx
    have m2 : y % Nat.gcd x y = 0 := Nat.mod_eq_zero_of_dvd hgy
    rw [show K + 2 = K + 1 + 1 from rfl, headendlaw01_NumberCommon.j1, if_neg (fun e => ht e), number_Div_f ha (Dig.digs _), Option.bind_some, divS_digs hx hglt hg, number_Div_f hb (Dig.digs _), Option.bind_some, divS_digs hy hglt hg]
    dsimp only
    rw [number_Gcd_f (Dig.digs _) (Dig.digs _) _ (by rw [val_digs]; omega), Option.bind_some, gcdS_digs (by omega) (by omega), hone, m1, m2, if_pos rfl, if_pos rfl, if_pos rfl, if_pos (by rfl), if_pos (by rfl)]
    dsimp only
    rw [is_f _ _ _ (by decide) (Nat.lt_of_le_of_lt (show (digs 1).length ≤ 1 by decide) (by omega)), Option.bind_some, show (!decide (digs 1 = [1])) = false by decide, headendlaw01_NumberCommon.j2, if_neg (by decide)]
    by_cases h0 : z = 0
    · rw [if_pos ((digs_len_zero z).2 h0)]
    · rw [if_neg (fun e => h0 ((digs_len_zero z).1 e)), number_Div_f ha hc, Option.bind_some, divS_digs hx hz h0, number_Div_f hb hc, Option.bind_some, divS_digs hy hz h0, number_Div_f (Dig.digs _) hc, Option.bind_some, divS_digs hglt hz h0, if_pos rfl, if_pos rfl, if_pos rfl, if_pos rfl]
      dsimp only
      have hm1 := Nat.mod_lt x (Nat.pos_of_ne_zero h0)
      have hm2 := Nat.mod_lt y (Nat.pos_of_ne_zero h0)
      have e1 := digs_len16 (show x % z < 4294967296 ^ 16 by omega)
      have e2 := digs_len16 (show y % z < 4294967296 ^ 16 by omega)
      rw [w64 _ (by omega) (by omega)]
      by_cases hs : ((digs (x % z)).length : Int) + ((digs (y % z)).length : Int) > 0
      · rw [if_pos hs]
      · have z1 : x % z = 0 := (digs_len_zero _).1 (by omega)
        have z2 : y % z = 0 := (digs_len_zero _).1 (by omega)
        have hd := Nat.dvd_gcd (Nat.dvd_of_mod_eq_zero z1) (Nat.dvd_of_mod_eq_zero z2)
        rw [if_neg hs, hlen, decide_eq_true (Nat.mod_eq_zero_of_dvd hd)]
  by_cases hx0 : x = 0
  · rw [if_pos ((digs_len_zero x).2 hx0), hlen]
    by_cases hy0 : y = 0
    · subst hx0 hy0
      rw [decide_eq_true rfl, show K + 2 = K + 1 + 1 from rfl, headendlaw01_NumberCommon.j1, if_pos rfl, if_pos rfl, Nat.gcd_zero_left, is_f _ _ _ (by decide) (by show 0 < K + 1; omega), Option.bind_some]
      rfl
    · exact hgo _ (by simp [hy0]) (fun e => hy0 (Nat.eq_zero_of_gcd_eq_zero_right e))
  · rw [if_neg (fun e => hx0 ((digs_len_zero x).1 e))]
    exact hgo _ (by simp) (fun e => hx0 (Nat.eq_zero_of_gcd_eq_zero_left e))
end Go.Proofs.Ythhgfogdeaaidaa.Pure

