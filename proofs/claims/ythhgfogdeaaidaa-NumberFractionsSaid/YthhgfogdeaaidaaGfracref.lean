/- Plain: fractions: what the reference's functions answer, and that the program's answer the same. -/
import Derived.Test.YthhgfogdeaaidaaR0
import Derived.Test.YthhgfogdeaaidaaR14
import Derived.Test.YthhgfogdeaaidaaR15
import Derived.Test.YthhgfogdeaaidaaR16
import Derived.Test.YthhgfogdeaaidaaR17
import Derived.Test.YthhgfogdeaaidaaGfrac
namespace Go.Proofs.Ythhgfogdeaaidaa.R
open Go.RowKit Go.Proofs.YthhgfogdeaaidaaW.PrintWords Go.Proofs.YthhgfogdeaaidaaW.PrintLast Go.Proofs.YthhgfogdeaaidaaW.PrintMore
set_option linter.unusedVariables false
set_option linter.unusedSimpArgs false
theorem lowest_g {x y : Nat} (hx : (digs x).length ≤ 100) (hy : (digs y).length ≤ 100) (h0 : y ≠ 0) (k : Nat) (hk : y < k) : number_lowest.f k (digs x) (digs y) = some (digs (x / Nat.gcd x y), digs (y / Nat.gcd x y)) := by
  have hg : Nat.gcd x y ≠ 0 := fun e => h0 (Nat.eq_zero_of_gcd_eq_zero_right e)
  have hgl : (digs (Nat.gcd x y)).length ≤ 100 := Nat.le_trans (digs_length_mono (Nat.gcd_le_right _ (Nat.pos_of_ne_zero h0))) hy
  unfold number_lowest.f
  rw [common_f x y k (by omega) (by omega) hk, Option.bind_some, parted_f x _ hg (by omega) (by omega), Option.bind_some, parted_f y _ hg (by omega) (by omega), Option.bind_some]
theorem Lowest_g {x y : Nat} (hx : (digs x).length ≤ 100) (hy : (digs y).length ≤ 100) (h0 : y ≠ 0) (k : Nat) (hk : y + 40000000 < k) : headendref01_Lowest.f k (digs x) (digs y) = some (digs (x / Nat.gcd x y), digs (y / Nat.gcd x y)) := by
  have hg : Nat.gcd x y ≠ 0 := fun e => h0 (Nat.eq_zero_of_gcd_eq_zero_right e)
  have hgl : (digs (Nat.gcd x y)).length ≤ 100 := Nat.le_trans (digs_length_mono (Nat.gcd_le_right _ (Nat.pos_of_ne_zero h0))) hy
  have hc := Common_f (Dig.digs x) y k (by omega) (by omega) hk
  rw [val_digs] at hc
  have p1 := Parted_f (Dig.digs x) (Dig.digs (Nat.gcd x y)) (trimL_digs _) (digs_ne hg) k (by omega) (by omega) (by omega)
  have p2 := Parted_f (Dig.digs y) (Dig.digs (Nat.gcd x y)) (trimL_digs _) (digs_ne hg) k (by omega) (by omega) (by omega)
  rw [val_digs, val_digs] at p1 p2
  unfold headendref01_Lowest.f
  rw [hc, Option.bind_some, p1, Option.bind_some, p2, Option.bind_some]
theorem Ratio_f {a b : List Int} (ha : Dig a) (hb : Dig b) (k : Nat) (hk : val b + 40000001 < k) : headendref01_Ratio.f k a b = some (ratioS a b) := by
  obtain ⟨k, rfl⟩ : ∃ m, k = m + 1 := ⟨k - 1, by omega⟩
  unfold headendref01_Ratio.f ratioS
  simp only [headendref01_Ratio.j0]
  rw [valid_f, Option.bind_some, valid_f, Option.bind_some]
  by_cases h : numOk a = true ∧ numOk b = true
  · have h1 := numOk_len h.1
    have h2 := numOk_len h.2
    rw [if_pos h, if_pos h.1, h.2, if_neg (by decide)]
    by_cases h0 : val b = 0
    · rw [if_pos h0, if_pos ((len_zero hb h.2).2 h0)]
    · have hp := Lowest_g (x := val a) (y := val b) (by rw [← numOk_as ha h.1]; omega) (by rw [← numOk_as hb h.2]; omega) h0 k (by omega)
      rw [← numOk_as ha h.1, ← numOk_as hb h.2] at hp
      rw [if_neg h0, if_neg (fun e => h0 ((len_zero hb h.2).1 e)), hp, Option.bind_some]
  · rw [if_neg h]
    by_cases h1 : numOk a = true
    · rw [if_pos h1, if_pos (by cases h2 : numOk b; rfl; exact absurd ⟨h1, h2⟩ h)]
    · rw [if_neg h1, if_pos trivial]
theorem validFr_f {a b : List Int} (ha : Dig a) (hb : Dig b) (k : Nat) (hk : val b + 40000001 < k) : headendref01_ValidFraction.f k a b = some (frOk a b) := by
  unfold headendref01_ValidFraction.f frOk
  rw [valid_f, Option.bind_some]
  by_cases h1 : numOk a = true
  case neg =>
    rw [if_neg h1]
    simp [h1]
  rw [if_pos h1, valid_f, Option.bind_some]
  by_cases h2 : numOk b = true
  case neg =>
    rw [if_neg h2]
    simp [h2]
  have l1 := numOk_len h1
  have l2 := numOk_len h2
  have hz := len_zero hb h2
  rw [if_pos h2]
  by_cases h0 : val b = 0
  · have := hz.2 h0
    rw [if_neg (by omega)]
    simp [h0]
  · have hne : ¬ (b.length : Int) = 0 := fun e => h0 (hz.1 e)
    have hp := Common_f ha (val b) k (by omega) (by rw [← numOk_as hb h2]; omega) (by omega)
    rw [← numOk_as hb h2] at hp
    have hgl : (digs (Nat.gcd (val a) (val b))).length ≤ 16 := Nat.le_trans (digs_length_mono (Nat.gcd_le_right _ (Nat.pos_of_ne_zero h0))) (by rw [← numOk_as hb h2]; omega)
    have ho := Of_f 1 (by decide)
    rw [show ((1 : Nat) : Int) = 1 from rfl] at ho
    rw [if_pos (by omega), hp, Option.bind_some, ho, Option.bind_some, same_digs _ _ k hgl (by omega), Option.bind_some, h1, h2]
    congr 1
    by_cases hg : Nat.gcd (val a) (val b) = 1
    · simp [hg, h0]
    · simp [hg, h0]
theorem CheckFraction_f {a b : List Int} (ha : Dig a) (hb : Dig b) (k : Nat) (hk : val b + 40000001 < k) : headendref01_CheckFraction.f k a b = some (if frOk a b = true then 0 else 8) := by
  unfold headendref01_CheckFraction.f
  rw [validFr_f ha hb k hk, Option.bind_some]
  split <;> rfl
theorem frOk_as {a b : List Int} (ha : Dig a) (hb : Dig b) (h : frOk a b = true) : ∃ x y, a = digs x ∧ b = digs y ∧ x < 4294967296 ^ 16 ∧ y < 4294967296 ^ 16 ∧ y ≠ 0 := by
  unfold frOk at h
  simp only [Bool.and_eq_true, Bool.not_eq_true', beq_eq_false_iff_ne] at h
  obtain ⟨⟨⟨h1, h2⟩, h3⟩, _⟩ := h
  exact ⟨val a, val b, numOk_as ha h1, numOk_as hb h2, val_lt_pow ha (numOk_len h1), val_lt_pow hb (numOk_len h2), h3⟩
def bnd (a b : List Int) : List Int × List Int × Int := if a.length ≤ 16 ∧ b.length ≤ 16 then (a, b, 0) else ([], [], 4)
theorem bnd_f (a b : List Int) : number_bounded.f a b 0 = some (bnd a b) := by
  unfold number_bounded.f bnd
  rw [if_pos rfl]
  by_cases h1 : a.length ≤ 16
  · rw [if_neg (by omega)]
    by_cases h2 : b.length ≤ 16
    · rw [if_neg (by omega), if_pos ⟨h1, h2⟩]
    · rw [if_pos (by omega), if_neg (fun e => h2 e.2)]
  · rw [if_pos (by omega), if_neg (fun e => h1 e.1)]
theorem Bnd_f (a b : List Int) : headendref01_bounded.f a b = some (bnd a b) := by
  unfold headendref01_bounded.f bnd
  by_cases h1 : a.length ≤ 16
  · rw [if_neg (by omega)]
    by_cases h2 : b.length ≤ 16
    · rw [if_neg (by omega), if_pos ⟨h1, h2⟩]
    · rw [if_pos (by omega), if_neg (fun e => h2 e.2)]
  · rw [if_pos (by omega), if_neg (fun e => h1 e.1)]
theorem bnd_len (a b : List Int) : (bnd a b).1.length ≤ 16 ∧ (bnd a b).2.1.length ≤ 16 := by
  unfold bnd
  split
  · assumption
  · simp
theorem times_d (x y k : Nat) (hx : (digs x).length ≤ 40) (hy : (digs y).length ≤ 40) (hk : 3000 ≤ k) : number_times.f k (digs x) (digs y) = some (digs (x * y)) ∧ headendref01_Times.f k (digs x) (digs y) = some (digs (x * y)) := by
  have h : (digs x).length * ((digs y).length + 2) ≤ 40 * 42 := Nat.mul_le_mul hx (by omega)
  have h1 := times_f (Dig.digs x) (Dig.digs y) k (by omega) (by omega) (by omega)
  have h2 := Times_f (Dig.digs x) (Dig.digs y) k (by omega) (by omega) (by omega)
  rw [val_digs, val_digs] at h1 h2
  exact ⟨h1, h2⟩
theorem fractions_same {a b c d : List Int} (ha : Dig a) (hb : Dig b) (hc : Dig c) (hd : Dig d) (k : Nat) (hk : val b + val d + 4294967296 ^ 34 + 100000000 ≤ k) :
    (∃ r, number_CompareFractions.f k a b c d = some r ∧ headendref01_CompareFractions.f k a b c d = some r) ∧
    (∃ r : List Int × List Int × Int, number_AddFractions.f k a b c d = some r ∧ headendref01_AddFractions.f k a b c d = some r ∧ r.1.length ≤ 16 ∧ r.2.1.length ≤ 16) ∧
    (∃ r : List Int × List Int × Int, number_MulFractions.f k a b c d = some r ∧ headendref01_MulFractions.f k a b c d = some r ∧ r.1.length ≤ 16 ∧ r.2.1.length ≤ 16) := by
  obtain ⟨j, rfl⟩ : ∃ m, k = m + 1 := ⟨k - 1, by omega⟩
  have e1 := CheckFr_f ha hb (j + 1) (by omega)
  have e2 := CheckFr_f hc hd (j + 1) (by omega)
  have v1 := validFr_f ha hb (j + 1) (by omega)
  have v2 := validFr_f hc hd (j + 1) (by omega)
  have b8 : number_bounded.f [] [] 8 = some (([] : List Int), ([] : List Int), (8 : Int)) := rfl
  by_cases h1 : frOk a b = true
  case neg =>
    have h1' : frOk a b = false := by simpa using h1
    rw [if_neg h1] at e1
    rw [h1'] at v1
    refine ⟨⟨(0, 8), ?_, ?_⟩, ⟨([], [], 8), ?_, ?_, by simp, by simp⟩, ⟨([], [], 8), ?_, ?_, by simp, by simp⟩⟩
    · unfold number_CompareFractions.f; rw [e1, Option.bind_some, if_neg (by decide)]
    · unfold headendref01_CompareFractions.f; rw [v1, Option.bind_some, if_neg (by decide)]; rw [headendref01_CompareFractions.j0, if_pos rfl]
    · unfold number_AddFractions.f; rw [e1, Option.bind_some, if_neg (by decide)]; exact b8
    · unfold headendref01_AddFractions.f; rw [v1, Option.bind_some, if_neg (by decide)]; rw [headendref01_AddFractions.j0, if_pos rfl]
    · unfold number_MulFractions.f; rw [e1, Option.bind_some, if_neg (by decide)]; exact b8
    · unfold headendref01_MulFractions.f; rw [v1, Option.bind_some, if_neg (by decide)]; rw [headendref01_MulFractions.j0, if_pos rfl]
  have E1 := e1
  rw [if_pos h1] at E1
  have V1 := v1
  rw [h1] at V1
  by_cases h2 : frOk c d = true
  case neg =>
    have h2' : frOk c d = false := by simpa using h2
    rw [if_neg h2] at e2
    rw [h2'] at v2
    refine ⟨⟨(0, 8), ?_, ?_⟩, ⟨([], [], 8), ?_, ?_, by simp, by simp⟩, ⟨([], [], 8), ?_, ?_, by simp, by simp⟩⟩
    · unfold number_CompareFractions.f; rw [E1, Option.bind_some, if_pos rfl, e2, Option.bind_some, if_neg (by decide)]
    · unfold headendref01_CompareFractions.f; rw [V1, Option.bind_some, if_pos rfl, v2, Option.bind_some]; rw [headendref01_CompareFractions.j0, if_pos (by rfl)]
    · unfold number_AddFractions.f; rw [E1, Option.bind_some, if_pos rfl, e2, Option.bind_some, if_neg (by decide)]; exact b8
    · unfold headendref01_AddFractions.f; rw [V1, Option.bind_some, if_pos rfl, v2, Option.bind_some]; rw [headendref01_AddFractions.j0, if_pos (by rfl)]
    · unfold number_MulFractions.f; rw [E1, Option.bind_some, if_pos rfl, e2, Option.bind_some, if_neg (by decide)]; exact b8
    · unfold headendref01_MulFractions.f; rw [V1, Option.bind_some, if_pos rfl, v2, Option.bind_some]; rw [headendref01_MulFractions.j0, if_pos (by rfl)]
  have E2 := e2
  rw [if_pos h2] at E2
  have V2 := v2
  rw [h2] at V2
  obtain ⟨x1, x2, rfl, rfl, hx1, hx2, n2⟩ := frOk_as ha hb h1
  obtain ⟨y1, y2, rfl, rfl, hy1, hy2, n4⟩ := frOk_as hc hd h2
  have l1 := digs_len16 hx1
  have l2 := digs_len16 hx2
  have l3 := digs_len16 hy1
  have l4 := digs_len16 hy2
  have p1 := len_mul (m := 16) (n := 16) hx1 hy2
  have p2 := len_mul (m := 16) (n := 16) hy1 hx2
  have p3 := len_mul (m := 16) (n := 16) hx2 hy2
  have p4 := len_mul (m := 16) (n := 16) hx1 hy1
  have hB : 4294967296 ^ (16 + 16) + 4294967296 ^ (16 + 16) ≤ 4294967296 ^ 33 := by decide
  have hB2 : 4294967296 ^ 33 ≤ 4294967296 ^ 34 := by decide
  have hS : x1 * y2 + y1 * x2 < 4294967296 ^ 33 := by omega
  have q1 : (digs (x1 * y2)).length ≤ 32 := digs_length_le _ _ p1
  have q2 : (digs (y1 * x2)).length ≤ 32 := digs_length_le _ _ p2
  have q3 : (digs (x2 * y2)).length ≤ 32 := digs_length_le _ _ p3
  have q4 : (digs (x1 * y1)).length ≤ 32 := digs_length_le _ _ p4
  have qS : (digs (x1 * y2 + y1 * x2)).length ≤ 33 := digs_length_le _ _ hS
  have hD0 : x2 * y2 ≠ 0 := Nat.mul_ne_zero n2 n4
  have t1 := times_d x1 y2 (j + 1) (by omega) (by omega) (by omega)
  have t2 := times_d y1 x2 (j + 1) (by omega) (by omega) (by omega)
  have t3 := times_d x2 y2 (j + 1) (by omega) (by omega) (by omega)
  have t4 := times_d x1 y1 (j + 1) (by omega) (by omega) (by omega)
  have u1 := times_d x1 y2 j (by omega) (by omega) (by omega)
  have u2 := times_d y1 x2 j (by omega) (by omega) (by omega)
  have u3 := times_d x2 y2 j (by omega) (by omega) (by omega)
  have u4 := times_d x1 y1 j (by omega) (by omega) (by omega)
  have hP := Plus_f (Dig.digs (x1 * y2)) (Dig.digs (y1 * x2)) j (by omega) (by omega) (by omega)
  rw [val_digs, val_digs] at hP
  have hO := Order_f (Dig.digs (x1 * y2)) (Dig.digs (y1 * x2)) j (by omega) (by omega) (by omega)
  rw [val_digs, val_digs] at hO
  have LG := lowest_g (x := x1 * y2 + y1 * x2) (y := x2 * y2) (by omega) (by omega) hD0 (j + 1) (by omega)
  have LR := Lowest_g (x := x1 * y2 + y1 * x2) (y := x2 * y2) (by omega) (by omega) hD0 j (by omega)
  have MG := lowest_g (x := x1 * y1) (y := x2 * y2) (by omega) (by omega) hD0 (j + 1) (by omega)
  have MR := Lowest_g (x := x1 * y1) (y := x2 * y2) (by omega) (by omega) hD0 j (by omega)
  have hp := plus_digs (x1 * y2) (y1 * x2) (j + 1) (by omega) (by omega) (by omega)
  refine ⟨⟨(cmpN (x1 * y2) (y1 * x2), 0), ?_, ?_⟩, ⟨bnd (digs ((x1 * y2 + y1 * x2) / Nat.gcd (x1 * y2 + y1 * x2) (x2 * y2))) (digs (x2 * y2 / Nat.gcd (x1 * y2 + y1 * x2) (x2 * y2))), ?_, ?_, (bnd_len _ _).1, (bnd_len _ _).2⟩, ⟨bnd (digs (x1 * y1 / Nat.gcd (x1 * y1) (x2 * y2))) (digs (x2 * y2 / Nat.gcd (x1 * y1) (x2 * y2))), ?_, ?_, (bnd_len _ _).1, (bnd_len _ _).2⟩⟩
  · unfold number_CompareFractions.f
    rw [E1, Option.bind_some, if_pos rfl, E2, Option.bind_some, if_pos rfl, t1.1, Option.bind_some, t2.1, Option.bind_some, order_digs, Option.bind_some]
  · unfold headendref01_CompareFractions.f
    rw [V1, Option.bind_some, if_pos rfl, V2, Option.bind_some]
    rw [headendref01_CompareFractions.j0, if_neg (by decide), u1.2, Option.bind_some, u2.2, Option.bind_some, hO, Option.bind_some]
  · unfold number_AddFractions.f
    rw [E1, Option.bind_some, if_pos rfl, E2, Option.bind_some, if_pos rfl, t1.1, Option.bind_some, t2.1, Option.bind_some, hp, Option.bind_some, t3.1, Option.bind_some, LG, Option.bind_some]
    exact bnd_f _ _
  · unfold headendref01_AddFractions.f
    rw [V1, Option.bind_some, if_pos rfl, V2, Option.bind_some]
    rw [headendref01_AddFractions.j0, if_neg (by decide), u1.2, Option.bind_some, u2.2, Option.bind_some, hP, Option.bind_some, u3.2, Option.bind_some, LR, Option.bind_some, Bnd_f, Option.bind_some]
  · unfold number_MulFractions.f
    rw [E1, Option.bind_some, if_pos rfl, E2, Option.bind_some, if_pos rfl, t1.1, Option.bind_some, t2.1, Option.bind_some, t4.1, Option.bind_some, t3.1, Option.bind_some, MG, Option.bind_some]
    exact bnd_f _ _
  · unfold headendref01_MulFractions.f
    rw [V1, Option.bind_some, if_pos rfl, V2, Option.bind_some]
    rw [headendref01_MulFractions.j0, if_neg (by decide), u4.2, Option.bind_some, u3.2, Option.bind_some, MR, Option.bind_some, Bnd_f, Option.bind_some]
end Go.Proofs.Ythhgfogdeaaidaa.R
