/- Plain: what number.subtract and giveBack compute, as natural numbers; the leading zeros of a digit. -/
import Derived.Test.YthhgfogdeaaidaaR0
import Derived.Test.YthhgfogdeaaidaaR5
import Derived.Test.YthhgfogdeaaidaaR6
import Derived.Test.YthhgfogdeaaidaaGshift
namespace Go.Proofs.Ythhgfogdeaaidaa.R
open Go.RowKit Go.Proofs.YthhgfogdeaaidaaW.PrintWords Go.Proofs.YthhgfogdeaaidaaW.PrintLast Go.Proofs.YthhgfogdeaaidaaW.PrintMore
set_option linter.unusedVariables false
set_option linter.unusedSimpArgs false
theorem rd_set_eq (l : List Int) (i : Nat) (x : Int) (h : i < l.length) : rd (l.set i x) (i : Int) = x := by
  rw [rd_nat _ _ (by simpa using h)]; simp
theorem take_set_same (l : List Int) (i : Nat) (x : Int) : (l.set i x).take i = l.take i := by rw [List.take_set_of_le (Nat.le_refl _)]
theorem val_take_succ' (l : List Int) (i : Nat) : val (l.take (i + 1)) = val (l.take i) + 4294967296 ^ i * (rd l (i : Int)).toNat := by
  by_cases h : i < l.length
  · exact val_take_succ l i h
  · rw [List.take_of_length_le (by omega), List.take_of_length_le (by omega), rd_beyond l _ (by omega)]; simp
theorem sub_digit (a x v c b : Nat) (ha : a < 4294967296) (hx : x < 4294967296) (hv : v < 4294967296) (hc : c < 4294967296) (hb : b ≤ 1) :
    ∃ d c' b' : Nat, (a : Int) - ((x * v + c) % 4294967296 : Nat) - b = (d : Int) - 4294967296 * (b' : Int) ∧ d < 4294967296 ∧ b' ≤ 1 ∧ c' < 4294967296 ∧ c' = (x * v + c) / 4294967296 ∧ d + x * v + c + b = a + 4294967296 * (c' + b') ∧ (((a : Int) - ((x * v + c) % 4294967296 : Nat) - b) % 4294967296 = (d : Int)) ∧ (b' = if (a : Int) < (((x * v + c) % 4294967296 : Nat) : Int) + b then 1 else 0) := by
  have hxv : x * v ≤ 4294967295 * 4294967295 := Nat.mul_le_mul (by omega) (by omega)
  generalize x * v = t at hxv ⊢
  by_cases h : a < (t + c) % 4294967296 + b
  · refine ⟨a + 4294967296 - (t + c) % 4294967296 - b, (t + c) / 4294967296, 1, by omega, by omega, by omega, by omega, rfl, by omega, by omega, ?_⟩
    rw [if_pos (by omega)]
  · refine ⟨a - (t + c) % 4294967296 - b, (t + c) / 4294967296, 0, by omega, by omega, by omega, by omega, rfl, by omega, by omega, ?_⟩
    rw [if_neg (by omega)]
theorem subtract_l0 (p0 v : List Int) (x : Nat) (hx : x < 4294967296) (hp : Dig p0) (hv : Dig v) (hb : p0.length < 4611686018427387904) : ∀ (d i k : Nat) (p : List Int) (c b : Nat), p0.length - i = d → i ≤ p0.length → d < k → Dig p → p.length = p0.length →
    (∀ j : Nat, i ≤ j → rd p (j : Int) = rd p0 (j : Int)) → c < 4294967296 → b ≤ 1 → (v.length < i → c = 0) →
    val (p.take i) + x * val (v.take i) = val (p0.take i) + 4294967296 ^ i * (c + b) →
    ∃ (p' : List Int) (c' b' : Nat), number_subtract.l0 k p v (x : Int) (c : Int) (b : Int) (p0.length : Int) (i : Int) = some (decide (b' = 1), p') ∧ Dig p' ∧ p'.length = p0.length ∧ b' ≤ 1 ∧ (v.length < p0.length → c' = 0) ∧ val p' + x * val (v.take p0.length) = val p0 + 4294967296 ^ p0.length * (c' + b')
  | 0, i, k, p, c, b, hd, hi, hk, h1, h2, h3, h4, h5, h6, h7 => by
    obtain ⟨k, rfl⟩ : ∃ m, k = m + 1 := ⟨k - 1, by omega⟩
    obtain rfl : i = p0.length := by omega
    refine ⟨p, c, b, ?_, h1, h2, h5, h6, ?_⟩
    · simp only [number_subtract.l0]
      rw [if_neg (by omega)]
      have : b = 0 ∨ b = 1 := by omega
      rcases this with rfl | rfl <;> rfl
    · have e1 : p.take p0.length = p := by rw [← h2, List.take_length]
      rw [e1, List.take_length] at h7
      exact h7
  | d + 1, i, k, p, c, b, hd, hi, hk, h1, h2, h3, h4, h5, h6, h7 => by
    obtain ⟨k, rfl⟩ : ∃ m, k = m + 1 := ⟨k - 1, by omega⟩
    have hi2 : i < p0.length := by omega
    obtain ⟨x0, x1⟩ := h1.rdok (i : Int)
    obtain ⟨y0, y1⟩ := hv.rdok (i : Int)
    obtain ⟨X, hX⟩ := Int.eq_ofNat_of_zero_le x0
    obtain ⟨Y, hY⟩ := Int.eq_ofNat_of_zero_le y0
    obtain ⟨D, C, E, q1, q2, q3, q4, q5, q6, q7, q8⟩ := sub_digit X x Y c b (by omega) hx (by omega) h4 h5
    have hxY : x * Y ≤ 4294967295 * 4294967295 := Nat.mul_le_mul (by omega) (by omega)
    obtain ⟨p', c', b', hr, hr2⟩ := subtract_l0 p0 v x hx hp hv hb d (i + 1) k (p.set i (D : Int)) C E (by omega) (by omega) (by omega) (h1.set i (by omega) (by omega)) (by simp [h2])
      (fun j hj => by rw [rd_set_ne _ _ _ _ (by omega)]; exact h3 j (by omega)) q4 q3
      (fun hlt => by
        have hy : Y = 0 := by
          have := rd_beyond v (i : Int) (by omega)
          omega
        subst hy
        rw [q5, Nat.mul_zero, Nat.zero_add]
        exact Nat.div_eq_of_lt h4)
      (by
        rw [val_take_succ _ i (by simp; omega), take_set_same, rd_set_eq _ _ _ (by omega), val_take_succ' v i, val_take_succ p0 i hi2, hY, ← h3 i (Nat.le_refl _), hX]
        simp only [Int.toNat_natCast]
        rw [Nat.mul_add, Nat.pow_succ, Nat.mul_assoc (4294967296 ^ i) 4294967296, Nat.mul_left_comm x (4294967296 ^ i) Y]
        have h8 : 4294967296 ^ i * D + 4294967296 ^ i * (x * Y) + 4294967296 ^ i * (c + b) = 4294967296 ^ i * X + 4294967296 ^ i * (4294967296 * (C + E)) := by
          rw [← Nat.mul_add, ← Nat.mul_add, ← Nat.mul_add, ← q6]; congr 1; omega
        generalize 4294967296 ^ i * D = g1 at h8 ⊢
        generalize 4294967296 ^ i * (x * Y) = g2 at h8 ⊢
        generalize 4294967296 ^ i * (c + b) = g3 at h8 h7
        generalize 4294967296 ^ i * X = g4 at h8 ⊢
        generalize 4294967296 ^ i * (4294967296 * (C + E)) = g5 at h8 ⊢
        generalize x * val (v.take i) = g6 at h7 ⊢
        omega)
    refine ⟨p', c', b', ?_, hr2⟩
    have e1 : IntKind.u64.wrap (IntKind.u64.wrap ((x : Int) * (Y : Int)) + (c : Int)) = ((x * Y + c : Nat) : Int) := by
      rw [show (x : Int) * (Y : Int) = ((x * Y : Nat) : Int) by simp]
      generalize x * Y = t at hxY ⊢
      rw [u64_in (t : Int) (by omega) (by omega), u64_in _ (by omega) (by omega)]; omega
    simp only [number_subtract.l0]
    rw [if_pos (by omega), digit_f hv _ (by omega), Option.bind_some, hY, e1]
    simp only [number_halves_uint64_uint32.f, Option.bind_some]
    rw [if_pos (by omega), if_pos (by omega), hX]
    have e2 : bits_Sub32.f (X : Int) (((x * Y + c : Nat) : Int) % 4294967296) (b : Int) = some ((D : Int), (E : Int)) := by
      unfold bits_Sub32.f
      generalize x * Y = t at hxY q1 q5 q6 q7 q8 ⊢
      have e3 : ((t + c : Nat) : Int) % 4294967296 = (((t + c) % 4294967296 : Nat) : Int) := by omega
      rw [e3, if_pos (by omega), q7, q8]
      congr 2
      split <;> rfl
    rw [e2, Option.bind_some]
    rw [show wrap64 ((i : Int) + 1) = ((i + 1 : Nat) : Int) by rw [w64 _ (by omega) (by omega)]; omega, Int.toNat_natCast]
    have e4 : ((x * Y + c : Nat) : Int) / 4294967296 = (C : Int) := by rw [q5]; omega
    rw [e4]
    exact hr
theorem subtract_f (p v : List Int) (x k : Nat) (hx : x < 4294967296) (hp : Dig p) (hv : Dig v) (hl : p.length = v.length + 1) (hb : p.length < 70368744177664) (hk : p.length < k) :
    ∃ (p' : List Int) (b : Nat), number_subtract.f k p v (x : Int) = some (decide (b = 1), p') ∧ Dig p' ∧ p'.length = p.length ∧ b ≤ 1 ∧ val p' + x * val v = val p + 4294967296 ^ p.length * b := by
  obtain ⟨p', c', b', hr, h1, h2, h3, h4, h5⟩ := subtract_l0 p v x hx hp hv (by omega) p.length 0 k p 0 0 (by omega) (by omega) hk hp rfl (fun _ _ => rfl) (by omega) (by omega) (fun _ => rfl) (by simp [val])
  refine ⟨p', b', hr, h1, h2, h3, ?_⟩
  rw [h4 (by omega), List.take_of_length_le (by omega), Nat.zero_add] at h5
  exact h5
theorem add32_f (a b c : Nat) (ha : a < 4294967296) (hb : b < 4294967296) (hc : c ≤ 1) : bits_Add32.f (a : Int) (b : Int) (c : Int) = some ((((a + b + c) % 4294967296 : Nat) : Int), (((a + b + c) / 4294967296 : Nat) : Int)) := by
  unfold bits_Add32.f
  rw [u64_in (a : Int) (by omega) (by omega), u64_in (b : Int) (by omega) (by omega), u64_in (c : Int) (by omega) (by omega), u64_in ((a : Int) + (b : Int)) (by omega) (by omega), u64_in _ (by omega) (by omega)]
  congr 2
  omega
theorem giveBack_l0 (p0 v : List Int) (hp : Dig p0) (hv : Dig v) (hb : p0.length < 4611686018427387904) : ∀ (d i k : Nat) (p : List Int) (c : Nat), p0.length - i = d → i ≤ p0.length → d < k → Dig p → p.length = p0.length →
    (∀ j : Nat, i ≤ j → rd p (j : Int) = rd p0 (j : Int)) → c ≤ 1 →
    val (p.take i) + 4294967296 ^ i * c = val (p0.take i) + val (v.take i) →
    ∃ (p' : List Int) (c' : Nat), number_giveBack.l0 k p v (c : Int) (p0.length : Int) (i : Int) = some p' ∧ Dig p' ∧ p'.length = p0.length ∧ c' ≤ 1 ∧ val p' + 4294967296 ^ p0.length * c' = val p0 + val (v.take p0.length)
  | 0, i, k, p, c, hd, hi, hk, h1, h2, h3, h4, h7 => by
    obtain ⟨k, rfl⟩ : ∃ m, k = m + 1 := ⟨k - 1, by omega⟩
    obtain rfl : i = p0.length := by omega
    refine ⟨p, c, ?_, h1, h2, h4, ?_⟩
    · simp only [number_giveBack.l0]
      rw [if_neg (by omega)]
    · have e1 : p.take p0.length = p := by rw [← h2, List.take_length]
      rw [e1, List.take_length] at h7
      exact h7
  | d + 1, i, k, p, c, hd, hi, hk, h1, h2, h3, h4, h7 => by
    obtain ⟨k, rfl⟩ : ∃ m, k = m + 1 := ⟨k - 1, by omega⟩
    have hi2 : i < p0.length := by omega
    obtain ⟨x0, x1⟩ := h1.rdok (i : Int)
    obtain ⟨y0, y1⟩ := hv.rdok (i : Int)
    obtain ⟨X, hX⟩ := Int.eq_ofNat_of_zero_le x0
    obtain ⟨Y, hY⟩ := Int.eq_ofNat_of_zero_le y0
    obtain ⟨p', c', hr, hr2⟩ := giveBack_l0 p0 v hp hv hb d (i + 1) k (p.set i (((X + Y + c) % 4294967296 : Nat) : Int)) ((X + Y + c) / 4294967296) (by omega) (by omega) (by omega) (h1.set i (by omega) (by omega)) (by simp [h2])
      (fun j hj => by rw [rd_set_ne _ _ _ _ (by omega)]; exact h3 j (by omega)) (by omega)
      (by
        rw [val_take_succ _ i (by simp; omega), take_set_same, rd_set_eq _ _ _ (by omega), val_take_succ' v i, val_take_succ p0 i hi2, hY, ← h3 i (Nat.le_refl _), hX]
        simp only [Int.toNat_natCast]
        rw [Nat.pow_succ, Nat.mul_assoc (4294967296 ^ i) 4294967296]
        have h8 : 4294967296 ^ i * ((X + Y + c) % 4294967296) + 4294967296 ^ i * (4294967296 * ((X + Y + c) / 4294967296)) = 4294967296 ^ i * X + 4294967296 ^ i * Y + 4294967296 ^ i * c := by
          rw [← Nat.mul_add, ← Nat.mul_add, ← Nat.mul_add]; congr 1; omega
        generalize 4294967296 ^ i * ((X + Y + c) % 4294967296) = g1 at h8 ⊢
        generalize 4294967296 ^ i * (4294967296 * ((X + Y + c) / 4294967296)) = g2 at h8 ⊢
        generalize 4294967296 ^ i * c = g3 at h8 h7
        generalize 4294967296 ^ i * X = g4 at h8 ⊢
        generalize 4294967296 ^ i * Y = g5 at h8 ⊢
        omega)
    refine ⟨p', c', ?_, hr2⟩
    simp only [number_giveBack.l0]
    rw [if_pos (by omega), if_pos (by omega), if_pos (by omega), digit_f hv _ (by omega), Option.bind_some, hY, hX]
    rw [show (Y : Int) % 4294967296 = (Y : Int) by omega, add32_f X Y c (by omega) (by omega) h4, Option.bind_some]
    rw [show wrap64 ((i : Int) + 1) = ((i + 1 : Nat) : Int) by rw [w64 _ (by omega) (by omega)]; omega, Int.toNat_natCast]
    exact hr
theorem giveBack_f (p v : List Int) (k : Nat) (hp : Dig p) (hv : Dig v) (hl : p.length = v.length + 1) (hb : p.length < 70368744177664) (hk : p.length < k) :
    ∃ (p' : List Int) (c : Nat), number_giveBack.f k p v = some p' ∧ Dig p' ∧ p'.length = p.length ∧ c ≤ 1 ∧ val p' + 4294967296 ^ p.length * c = val p + val v := by
  obtain ⟨p', c', hr, h1, h2, h3, h5⟩ := giveBack_l0 p v hp hv (by omega) p.length 0 k p 0 (by omega) (by omega) hk hp rfl (fun _ _ => rfl) (by omega) (by simp [val])
  rw [List.take_of_length_le (by omega)] at h5
  exact ⟨p', c', hr, h1, h2, h3, h5⟩
def lenTab : ByteArray := ⟨#[0, 1, 2, 2, 3, 3, 3, 3, 4, 4, 4, 4, 4, 4, 4, 4, 5, 5, 5, 5, 5, 5, 5, 5, 5, 5, 5, 5, 5, 5, 5, 5, 6, 6, 6, 6, 6, 6, 6, 6, 6, 6, 6, 6, 6, 6, 6, 6, 6, 6, 6, 6, 6, 6, 6, 6, 6, 6, 6, 6, 6, 6, 6, 6, 7, 7, 7, 7, 7, 7, 7, 7, 7, 7, 7, 7, 7, 7, 7, 7, 7, 7, 7, 7, 7, 7, 7, 7, 7, 7, 7, 7, 7, 7, 7, 7, 7, 7, 7, 7, 7, 7, 7, 7, 7, 7, 7, 7, 7, 7, 7, 7, 7, 7, 7, 7, 7, 7, 7, 7, 7, 7, 7, 7, 7, 7, 7, 7, 8, 8, 8, 8, 8, 8, 8, 8, 8, 8, 8, 8, 8, 8, 8, 8, 8, 8, 8, 8, 8, 8, 8, 8, 8, 8, 8, 8, 8, 8, 8, 8, 8, 8, 8, 8, 8, 8, 8, 8, 8, 8, 8, 8, 8, 8, 8, 8, 8, 8, 8, 8, 8, 8, 8, 8, 8, 8, 8, 8, 8, 8, 8, 8, 8, 8, 8, 8, 8, 8, 8, 8, 8, 8, 8, 8, 8, 8, 8, 8, 8, 8, 8, 8, 8, 8, 8, 8, 8, 8, 8, 8, 8, 8, 8, 8, 8, 8, 8, 8, 8, 8, 8, 8, 8, 8, 8, 8, 8, 8, 8, 8, 8, 8, 8, 8, 8, 8, 8, 8, 8, 8, 8, 8, 8, 8, 8, 8]⟩
theorem lenTab_ok : ∀ y : Nat, y < 256 → 0 < y → ∃ L : Nat, L < 8 ∧ bt lenTab (y : Int) = ((L + 1 : Nat) : Int) ∧ 2 ^ L ≤ y ∧ y < 2 ^ (L + 1) := by
  have h : ∀ y : Nat, y < 256 → 0 < y → ((bt lenTab (y : Int)).toNat - 1 < 8 ∧ bt lenTab (y : Int) = (((bt lenTab (y : Int)).toNat - 1 + 1 : Nat) : Int) ∧ 2 ^ ((bt lenTab (y : Int)).toNat - 1) ≤ y ∧ y < 2 ^ ((bt lenTab (y : Int)).toNat - 1 + 1)) := by decide +kernel
  intro y h1 h2
  exact ⟨_, h y h1 h2⟩
theorem len_f (x : Nat) (h0 : 0 < x) (h : x < 4294967296) : ∃ L : Nat, L < 32 ∧ bits_Len32.f (x : Int) = some ((L + 1 : Nat) : Int) ∧ 2 ^ L ≤ x ∧ x < 2 ^ (L + 1) := by
  have step : ∀ (y c : Nat), y < 256 → 0 < y → c ≤ 24 → y * 2 ^ c ≤ x → x < (y + 1) * 2 ^ c → ∃ L : Nat, L < 32 ∧ wrap64 ((c : Int) + wrap64 (bt lenTab (y : Int))) = ((L + 1 : Nat) : Int) ∧ 2 ^ L ≤ x ∧ x < 2 ^ (L + 1) := by
    intro y c hy hy0 hc h1 h2
    obtain ⟨L, l1, l2, l3, l4⟩ := lenTab_ok y hy hy0
    refine ⟨c + L, by omega, ?_, ?_, ?_⟩
    · rw [l2, w64 ((L + 1 : Nat) : Int) (by omega) (by omega), w64 _ (by omega) (by omega)]; omega
    · rw [Nat.pow_add, Nat.mul_comm]; exact Nat.le_trans (Nat.mul_le_mul_right _ l3) h1
    · rw [show c + L + 1 = (L + 1) + c by omega, Nat.pow_add]; exact Nat.lt_of_lt_of_le h2 (Nat.mul_le_mul_right _ l4)
  show ∃ L : Nat, L < 32 ∧ (if (x : Int) ≥ 65536 then (if ((x : Int) / 65536) ≥ 256 then (if 0 ≤ ((((x : Int) / 65536) / 256) % 256) then (if ((((x : Int) / 65536) / 256) % 256) < 256 then (some (wrap64 ((16 + 8) + (wrap64 (bt lenTab ((((x : Int) / 65536) / 256) % 256)))))) else (none)) else (none)) else (if 0 ≤ (((x : Int) / 65536) % 256) then (if (((x : Int) / 65536) % 256) < 256 then (some (wrap64 (16 + (wrap64 (bt lenTab (((x : Int) / 65536) % 256)))))) else (none)) else (none))) else (if (x : Int) ≥ 256 then (if 0 ≤ (((x : Int) / 256) % 256) then (if (((x : Int) / 256) % 256) < 256 then (some (wrap64 ((0 + 8) + (wrap64 (bt lenTab (((x : Int) / 256) % 256)))))) else (none)) else (none)) else (if 0 ≤ (((x : Int)) % 256) then (if (((x : Int)) % 256) < 256 then (some (wrap64 (0 + (wrap64 (bt lenTab (((x : Int)) % 256)))))) else (none)) else (none)))) = some ((L + 1 : Nat) : Int) ∧ _ ∧ _
  by_cases c1 : x ≥ 65536
  · rw [if_pos (by omega)]
    by_cases c2 : x / 65536 ≥ 256
    · obtain ⟨L, l1, l2, l3⟩ := step (x / 16777216) 24 (by omega) (by omega) (by omega) (by omega) (by omega)
      refine ⟨L, l1, ?_, l3⟩
      rw [if_pos (by omega), show (x : Int) / 65536 / 256 % 256 = ((x / 16777216 : Nat) : Int) by omega, if_pos (by omega), if_pos (by omega)]
      exact congrArg some l2
    · obtain ⟨L, l1, l2, l3⟩ := step (x / 65536) 16 (by omega) (by omega) (by omega) (by omega) (by omega)
      refine ⟨L, l1, ?_, l3⟩
      rw [if_neg (by omega), show (x : Int) / 65536 % 256 = ((x / 65536 : Nat) : Int) by omega, if_pos (by omega), if_pos (by omega)]
      exact congrArg some l2
  · rw [if_neg (by omega)]
    by_cases c2 : x ≥ 256
    · obtain ⟨L, l1, l2, l3⟩ := step (x / 256) 8 (by omega) (by omega) (by omega) (by omega) (by omega)
      refine ⟨L, l1, ?_, l3⟩
      rw [if_pos (by omega), show (x : Int) / 256 % 256 = ((x / 256 : Nat) : Int) by omega, if_pos (by omega), if_pos (by omega)]
      exact congrArg some l2
    · obtain ⟨L, l1, l2, l3⟩ := step x 0 (by omega) (by omega) (by omega) (by omega) (by omega)
      refine ⟨L, l1, ?_, l3⟩
      rw [if_neg (by omega), show (x : Int) % 256 = ((x : Nat) : Int) by omega, if_pos (by omega), if_pos (by omega)]
      exact congrArg some l2
theorem lz_f (x : Int) (h0 : 0 < x) (h : x < 4294967296) : ∃ s : Nat, s < 32 ∧ bits_LeadingZeros32.f x = some (s : Int) ∧ 2147483648 ≤ x.toNat * 2 ^ s ∧ x.toNat * 2 ^ s < 4294967296 := by
  obtain ⟨X, rfl⟩ := Int.eq_ofNat_of_zero_le (by omega : 0 ≤ x)
  obtain ⟨L, l1, l2, l3, l4⟩ := len_f X (by omega) (by omega)
  refine ⟨31 - L, by omega, ?_, ?_, ?_⟩
  · unfold bits_LeadingZeros32.f
    rw [l2, Option.bind_some, w64 _ (by omega) (by omega)]
    congr 1; omega
  · rw [Int.toNat_natCast, show (2147483648 : Nat) = 2 ^ L * 2 ^ (31 - L) by rw [← Nat.pow_add, show L + (31 - L) = 31 by omega]]
    exact Nat.mul_le_mul_right _ l3
  · rw [Int.toNat_natCast, show (4294967296 : Nat) = 2 ^ (L + 1) * 2 ^ (31 - L) by rw [← Nat.pow_add, show L + 1 + (31 - L) = 32 by omega]]
    exact Nat.mul_lt_mul_of_pos_right l4 (Nat.pos_of_ne_zero (by simp))
end Go.Proofs.Ythhgfogdeaaidaa.R
