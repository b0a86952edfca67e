/- Plain: what number.trim, shifted, unshifted, subtract and giveBack compute, as natural numbers. -/
import Derived.Test.YthhgfogdeaaidaaR0
import Derived.Test.YthhgfogdeaaidaaR4
import Derived.Test.YthhgfogdeaaidaaR5
import Derived.Test.YthhgfogdeaaidaaR6
import Derived.Test.YthhgfogdeaaidaaGsmall
import Derived.Test.YthhgfogdeaaidaaGnum
namespace Go.Proofs.Ythhgfogdeaaidaa.R
open Go.RowKit Go.Proofs.YthhgfogdeaaidaaW.PrintWords Go.Proofs.YthhgfogdeaaidaaW.PrintLast Go.Proofs.YthhgfogdeaaidaaW.PrintMore
set_option linter.unusedVariables false
set_option linter.unusedSimpArgs false
theorem w64 (x : Int) (h0 : -9223372036854775808 ≤ x) (h1 : x < 9223372036854775808) : wrap64 x = x := by unfold wrap64; omega
theorem u64_in (x : Int) (h0 : 0 ≤ x) (h1 : x < 18446744073709551616) : IntKind.u64.wrap x = x := by
  simp only [IntKind.wrap, IntKind.bits, IntKind.signed]; simp; omega
theorem trim_l0 (l : List Int) (hl : l.length < 9223372036854775807) : ∀ (n k : Nat), n ≤ l.length → n < k → number_trim.l0 k l (n : Int) = some (trimL (l.take n))
  | 0, k, _, hk => by
    obtain ⟨k, rfl⟩ : ∃ m, k = m + 1 := ⟨k - 1, by omega⟩
    simp only [number_trim.l0]
    rw [if_neg (by omega), if_pos (by omega), if_pos (by omega)]
    simp [trimL]
  | n + 1, k, hn, hk => by
    obtain ⟨k, rfl⟩ : ∃ m, k = m + 1 := ⟨k - 1, by omega⟩
    simp only [number_trim.l0]
    rw [if_pos (by omega), show wrap64 (((n + 1 : Nat) : Int) - 1) = (n : Int) by rw [w64 _ (by omega) (by omega)]; omega, if_pos (by omega), if_pos (by omega)]
    by_cases hz : rd l (n : Int) = 0
    · rw [if_pos hz, trim_l0 l hl n k (by omega) (by omega), trimL_take_zero l n (by omega) hz]
    · rw [if_neg hz, if_pos (by omega), if_pos (by omega), trimL_take l n (by omega) hz, Int.toNat_natCast]
theorem trim_f (l : List Int) (k : Nat) (hl : l.length < 9223372036854775807) (hk : l.length < k) : number_trim.f k l = some (trimL l) := by
  unfold number_trim.f
  rw [trim_l0 l hl l.length k (Nat.le_refl _) hk, List.take_length]
theorem digit_f {l : List Int} (hd : Dig l) (i : Int) (h0 : 0 ≤ i) : api_Natural_uint32_76.f l i = some (rd l i) := by
  unfold api_Natural_uint32_76.f
  have := hd.rdok i
  by_cases h : i ≥ (l.length : Int)
  · rw [if_pos h, rd_beyond l i h]
  · rw [if_neg h, if_pos h0, if_pos (by omega), u64_in _ this.1 (by omega)]
theorem two_pow_le {s : Nat} (h : s < 32) : 2 ^ s ≤ 2147483648 := by
  have := Nat.pow_le_pow_right (n := 2) (by omega) (show s ≤ 31 by omega)
  simpa using this
theorem shl32 (x : Int) (s : Nat) (hs : s < 32) : shl .u32 x (s : Int) = x * 2 ^ s % 4294967296 := by
  simp only [shl, IntKind.wrap, IntKind.bits, IntKind.signed]
  simp [Nat.min_eq_left (show s ≤ 32 by omega)]
theorem shl64 (x : Int) (s : Nat) (hs : s < 32) : shl .u64 x (s : Int) = x * 2 ^ s % 18446744073709551616 := by
  simp only [shl, IntKind.wrap, IntKind.bits, IntKind.signed]
  simp [Nat.min_eq_left (show s ≤ 64 by omega)]
theorem shr64 (x : Int) (s : Nat) (hs : s < 32) : shr .u64 x (s : Int) = x / 2 ^ s := by
  simp only [shr, IntKind.bits]
  simp [Nat.min_eq_left (show s ≤ 64 by omega)]
theorem shift_parts (x s : Nat) (hx : x < 4294967296) (hs : s < 32) :
    x * 2 ^ s % 4294967296 + 4294967296 * (x * 2 ^ s / 4294967296 % 4294967296) = x * 2 ^ s ∧ x * 2 ^ s / 4294967296 % 4294967296 < 2 ^ s ∧ (x * 2 ^ s % 4294967296) % 2 ^ s = 0 := by
  have h1 : x * 2 ^ s < 4294967296 * 2 ^ s := Nat.mul_lt_mul_of_pos_right hx (Nat.pos_of_ne_zero (by simp))
  have h2 := two_pow_le hs
  have h3 : x * 2 ^ s / 4294967296 < 2 ^ s := Nat.div_lt_of_lt_mul h1
  have h4 : x * 2 ^ s / 4294967296 % 4294967296 = x * 2 ^ s / 4294967296 := Nat.mod_eq_of_lt (by omega)
  refine ⟨by rw [h4]; omega, by rw [h4]; exact h3, ?_⟩
  have : (2 ^ s) ∣ 4294967296 := ⟨2 ^ (32 - s), by rw [← Nat.pow_add, show s + (32 - s) = 32 by omega]⟩
  rw [Nat.mod_mod_of_dvd _ this]
  exact Nat.mul_mod_left _ _
theorem or_low (x y s : Nat) (hx : x < 2 ^ s) (hy : y % 2 ^ s = 0) : x ||| y = x + y := by
  obtain ⟨z, rfl⟩ := Nat.dvd_of_mod_eq_zero hy
  have := Nat.two_pow_add_eq_or_of_lt hx z
  rw [Nat.or_comm, ← this]; omega
theorem shifted_step (u l : List Int) (i s : Nat) (hs : s < 32) (hu : Dig u) (hl : Dig l) (hul : u.length = l.length + 1) (hi : i < l.length)
    (hlow : (rd u (i : Int)).toNat < 2 ^ s) (hz : rd u ((i + 1 : Nat) : Int) = 0) (hv : val u = val (l.take i) * 2 ^ s) :
    let u' := (u.set i (Go.bits .or .u32 (rd u (i : Int)) (shl .u32 (rd l (i : Int)) (s : Int)))).set (i + 1) (shl .u64 (IntKind.u64.wrap (rd l (i : Int))) (s : Int) / 4294967296 % 4294967296)
    Dig u' ∧ u'.length = l.length + 1 ∧ (rd u' ((i + 1 : Nat) : Int)).toNat < 2 ^ s ∧ val u' = val (l.take (i + 1)) * 2 ^ s := by
  intro u'
  obtain ⟨x0, x1⟩ := hl.rdok (i : Int)
  obtain ⟨y0, y1⟩ := hu.rdok (i : Int)
  obtain ⟨X, hX⟩ := Int.eq_ofNat_of_zero_le x0
  obtain ⟨Y, hY⟩ := Int.eq_ofNat_of_zero_le y0
  have h2 := two_pow_le hs
  rw [hX] at x1; rw [hY] at y1
  obtain ⟨p1, p2, p3⟩ := shift_parts X s (by omega) hs
  have e1 : shl .u32 (rd l (i : Int)) (s : Int) = ((X * 2 ^ s % 4294967296 : Nat) : Int) := by rw [shl32 _ s hs, hX]; simp
  have e2 : shl .u64 (IntKind.u64.wrap (rd l (i : Int))) (s : Int) / 4294967296 % 4294967296 = ((X * 2 ^ s / 4294967296 % 4294967296 : Nat) : Int) := by
    rw [hX, u64_in _ (by omega) (by omega), shl64 _ s hs]
    have h3 : X * 2 ^ s < 18446744073709551616 := by
      have : X * 2 ^ s ≤ 4294967296 * 2147483648 := Nat.mul_le_mul (by omega) h2
      omega
    have h4 : ∀ Z : Nat, Z < 18446744073709551616 → (Z : Int) % 18446744073709551616 / 4294967296 % 4294967296 = ((Z / 4294967296 % 4294967296 : Nat) : Int) := by intro Z hZ; omega
    rw [show ((X : Nat) : Int) * 2 ^ s = ((X * 2 ^ s : Nat) : Int) by simp, h4 _ h3]
  have e3 : Go.bits .or .u32 (rd u (i : Int)) (shl .u32 (rd l (i : Int)) (s : Int)) = ((Y + X * 2 ^ s % 4294967296 : Nat) : Int) := by
    rw [e1, hY, u32_or_nat _ _ (by omega) (Nat.mod_lt _ (by omega)), or_low Y _ s (by rw [hY] at hlow; simpa using hlow) p3]
  have hlt : Y + X * 2 ^ s % 4294967296 < 4294967296 := by
    have hb : Y ||| (X * 2 ^ s % 4294967296) < 2 ^ 32 := Nat.or_lt_two_pow (by omega) (by have := Nat.mod_lt (X * 2 ^ s) (show 4294967296 > 0 by omega); omega)
    rw [or_low Y _ s (by rw [hY] at hlow; simpa using hlow) p3] at hb
    simpa using hb
  have hu' : u' = (u.set i ((Y + X * 2 ^ s % 4294967296 : Nat) : Int)).set (i + 1) ((X * 2 ^ s / 4294967296 % 4294967296 : Nat) : Int) := by
    show (u.set i _).set (i + 1) _ = _
    rw [e3, e2]
  have hd1 : Dig (u.set i ((Y + X * 2 ^ s % 4294967296 : Nat) : Int)) := hu.set i (by omega) (by omega)
  have hlen : (u.set i ((Y + X * 2 ^ s % 4294967296 : Nat) : Int)).length = u.length := by simp
  have hr : rd (u.set i ((Y + X * 2 ^ s % 4294967296 : Nat) : Int)) ((i + 1 : Nat) : Int) = 0 := by
    rw [← hz]
    unfold rd
    rw [Int.toNat_natCast, List.getD_eq_getElem?_getD, List.getD_eq_getElem?_getD, List.getElem?_set_ne (by omega)]
  have v1 := val_set u i ((Y + X * 2 ^ s % 4294967296 : Nat) : Int) (by omega)
  have v2 := val_set (u.set i ((Y + X * 2 ^ s % 4294967296 : Nat) : Int)) (i + 1) ((X * 2 ^ s / 4294967296 % 4294967296 : Nat) : Int) (by omega)
  rw [hr] at v2
  rw [hY] at v1
  simp only [Int.toNat_natCast] at v1 v2
  rw [Int.toNat_zero, Nat.mul_zero, Nat.add_zero] at v2
  rw [hu']
  refine ⟨hd1.set (i + 1) (by omega) (by omega), by simp [hul], ?_, ?_⟩
  · rw [rd_nat _ _ (by simp; omega)]
    simp only [List.getElem_set_self, Int.toNat_natCast]
    exact p2
  · rw [v2, val_take_succ l i hi, hX, Int.toNat_natCast, Nat.add_mul, ← hv, Nat.pow_succ]
    have : 4294967296 ^ i * X * 2 ^ s = 4294967296 ^ i * (X * 2 ^ s % 4294967296) + 4294967296 ^ i * 4294967296 * (X * 2 ^ s / 4294967296 % 4294967296) := by
      rw [Nat.mul_assoc (4294967296 ^ i) X, ← p1, Nat.mul_add]
      rw [p1, Nat.mul_assoc]
    rw [this, Nat.mul_add] at *
    omega
theorem rd_replicate (n : Nat) (i : Int) : rd (List.replicate n 0) i = 0 := by
  unfold rd
  rw [List.getD_eq_getElem?_getD, List.getElem?_replicate]
  split <;> rfl
theorem rd_set_ne (l : List Int) (i j : Nat) (x : Int) (h : i ≠ j) : rd (l.set i x) (j : Int) = rd l (j : Int) := by
  simp only [rd, Int.toNat_natCast, List.getD_eq_getElem?_getD]
  rw [List.getElem?_set_ne h]
theorem shifted_l0 (l : List Int) (s : Nat) (hs : s < 32) (hl : Dig l) (hb : l.length < 4611686018427387904) : ∀ (d i k : Nat) (u : List Int), l.length - i = d → i ≤ l.length → d < k → Dig u → u.length = l.length + 1 →
    (rd u (i : Int)).toNat < 2 ^ s → (∀ j : Nat, i < j → rd u (j : Int) = 0) → val u = val (l.take i) * 2 ^ s →
    ∃ r, number_shifted.l0 k (s : Int) u l (l.length : Int) (i : Int) = some r ∧ Dig r ∧ r.length = l.length + 1 ∧ val r = val l * 2 ^ s ∧ (rd r (l.length : Int)).toNat < 2 ^ s
  | 0, i, k, u, hd, hi, hk, h1, h2, h3, h4, h5 => by
    obtain ⟨k, rfl⟩ : ∃ m, k = m + 1 := ⟨k - 1, by omega⟩
    obtain rfl : i = l.length := by omega
    refine ⟨u, ?_, h1, h2, by rw [h5, List.take_length], h3⟩
    simp only [number_shifted.l0]
    rw [if_neg (by omega)]
  | d + 1, i, k, u, hd, hi, hk, h1, h2, h3, h4, h5 => by
    obtain ⟨k, rfl⟩ : ∃ m, k = m + 1 := ⟨k - 1, by omega⟩
    have hi2 : i < l.length := by omega
    have hst := shifted_step u l i s hs h1 hl h2 hi2 h3 (h4 (i + 1) (by omega)) h5
    obtain ⟨q1, q2, q3, q4⟩ := hst
    obtain ⟨r, hr, hr2⟩ := shifted_l0 l s hs hl hb d (i + 1) k _ (by omega) (by omega) (by omega) q1 q2 q3 (fun j hj => by rw [rd_set_ne _ _ _ _ (by omega), rd_set_ne _ _ _ _ (by omega)]; exact h4 j (by omega)) q4
    refine ⟨r, ?_, hr2⟩
    simp only [number_shifted.l0]
    rw [show wrap64 ((i : Int) + 1) = ((i + 1 : Nat) : Int) by rw [w64 _ (by omega) (by omega)]; omega]
    rw [if_pos (by omega), if_pos (by omega), if_pos (by omega), if_pos (by omega), if_pos (by omega), if_pos (by omega), if_pos (by omega)]
    rw [Int.toNat_natCast, Int.toNat_natCast]
    exact hr
theorem shifted_f (l : List Int) (s k : Nat) (hs : s < 32) (hl : Dig l) (hb : l.length < 70368744177664) (hk : l.length < k) :
    ∃ r, number_shifted.f k l (s : Int) = some r ∧ Dig r ∧ r.length = l.length + 1 ∧ val r = val l * 2 ^ s ∧ (rd r (l.length : Int)).toNat < 2 ^ s := by
  obtain ⟨r, hr, h⟩ := shifted_l0 l s hs hl (by omega) l.length 0 k (List.replicate (l.length + 1) 0) (by omega) (by omega) hk (Dig.replicate _) (by simp)
    (by rw [rd_replicate]; exact Nat.pos_of_ne_zero (by simp)) (fun j _ => rd_replicate _ _) (by rw [val_replicate]; simp [val])
  refine ⟨r, ?_, h⟩
  unfold number_shifted.f
  rw [show wrap64 ((l.length : Int) + 1) = ((l.length + 1 : Nat) : Int) by rw [w64 _ (by omega) (by omega)]; omega]
  rw [if_pos (by omega), if_pos (by omega), Int.toNat_natCast]
  exact hr
theorem unshift_digit (x y s : Nat) (hx : x < 4294967296) (hy : y < 4294967296) (hs : s < 32) :
    (y * 4294967296 + x) / 2 ^ s % 4294967296 * 2 ^ s + x % 2 ^ s = x + (y % 2 ^ s) * 4294967296 := by
  have hp : 0 < 2 ^ s := Nat.pos_of_ne_zero (by simp)
  have hB : 4294967296 = 2 ^ (32 - s) * 2 ^ s := by rw [← Nat.pow_add, show 32 - s + s = 32 by omega]
  have e1 : (y * 4294967296 + x) / 2 ^ s = y * 2 ^ (32 - s) + x / 2 ^ s := by
    conv => lhs; rw [hB, ← Nat.mul_assoc]
    rw [Nat.add_comm, Nat.add_mul_div_right _ _ hp, Nat.add_comm]
  have hx2 : x / 2 ^ s < 2 ^ (32 - s) := Nat.div_lt_of_lt_mul (by rw [Nat.mul_comm, ← hB]; exact hx)
  have e2 : y * 2 ^ (32 - s) = y / 2 ^ s * 4294967296 + y % 2 ^ s * 2 ^ (32 - s) := by
    conv => lhs; rw [← Nat.div_add_mod y (2 ^ s)]
    rw [Nat.add_mul, hB, Nat.mul_comm (2 ^ s) (y / 2 ^ s), Nat.mul_assoc, Nat.mul_comm (2 ^ s) (2 ^ (32 - s))]
  have hy2 : y % 2 ^ s * 2 ^ (32 - s) + x / 2 ^ s < 4294967296 := by
    have h1 : y % 2 ^ s < 2 ^ s := Nat.mod_lt _ hp
    have h2 : (y % 2 ^ s + 1) * 2 ^ (32 - s) ≤ 2 ^ s * 2 ^ (32 - s) := Nat.mul_le_mul_right _ h1
    rw [Nat.mul_comm (2 ^ s), ← hB, Nat.add_mul, Nat.one_mul] at h2
    omega
  have e3 : (y * 4294967296 + x) / 2 ^ s % 4294967296 = y % 2 ^ s * 2 ^ (32 - s) + x / 2 ^ s := by
    rw [e1, e2, Nat.add_assoc, Nat.add_comm (y / 2 ^ s * 4294967296), Nat.add_mul_mod_self_right, Nat.mod_eq_of_lt hy2]
  rw [e3, Nat.add_mul, Nat.mul_assoc, ← hB]
  have := Nat.div_add_mod x (2 ^ s)
  rw [Nat.mul_comm] at this
  omega
theorem unshifted_step (l u : List Int) (i s : Nat) (hs : s < 32) (hl : Dig l) (hu : Dig u) (hul : u.length = l.length) (hi : i < l.length)
    (hv : val (u.take i) * 2 ^ s + (rd l 0).toNat % 2 ^ s = val (l.take i) + (rd l (i : Int)).toNat % 2 ^ s * 4294967296 ^ i) :
    let y := shr .u64 (Go.bits .or .u64 (IntKind.u64.wrap (rd l ((i + 1 : Nat) : Int) * 4294967296)) (rd l (i : Int))) (s : Int) % 4294967296
    0 ≤ y ∧ y < 4294967296 ∧ val ((u.set i y).take (i + 1)) * 2 ^ s + (rd l 0).toNat % 2 ^ s = val (l.take (i + 1)) + (rd l ((i + 1 : Nat) : Int)).toNat % 2 ^ s * 4294967296 ^ (i + 1) := by
  intro y
  obtain ⟨x0, x1⟩ := hl.rdok (i : Int)
  obtain ⟨y0, y1⟩ := hl.rdok ((i + 1 : Nat) : Int)
  obtain ⟨X, hX⟩ := Int.eq_ofNat_of_zero_le x0
  obtain ⟨Y, hY⟩ := Int.eq_ofNat_of_zero_le y0
  rw [hX] at x1; rw [hY] at y1
  have ey : y = (((Y * 4294967296 + X) / 2 ^ s % 4294967296 : Nat) : Int) := by
    show shr .u64 (Go.bits .or .u64 (IntKind.u64.wrap (rd l ((i + 1 : Nat) : Int) * 4294967296)) (rd l (i : Int))) (s : Int) % 4294967296 = _
    rw [hX, hY, u64_in _ (by omega) (by omega), or_words _ _ (by omega) (by omega) (by omega) (by omega), shr64 _ s hs]
    have : ((Y : Int) * 4294967296 + X) / 2 ^ s = (((Y * 4294967296 + X) / 2 ^ s : Nat) : Int) := by simp
    rw [this]; simp
  have hd := unshift_digit X Y s (by omega) (by omega) hs
  obtain ⟨N, hN⟩ : ∃ N, (Y * 4294967296 + X) / 2 ^ s = N := ⟨_, rfl⟩
  rw [hN] at hd ey
  clear hN
  clear_value y
  subst ey
  refine ⟨by omega, by omega, ?_⟩
  have et : (u.set i ((N % 4294967296 : Nat) : Int)).take i = u.take i := by rw [List.take_set_of_le (Nat.le_refl _)]
  rw [val_take_succ _ i (by simp; omega), val_take_succ l i hi, et, rd_nat _ _ (by simp; omega), hX, hY]
  rw [hX] at hv
  simp only [List.getElem_set_self, Int.toNat_natCast] at hv ⊢
  rw [Nat.add_mul, Nat.pow_succ, Nat.mul_assoc (4294967296 ^ i)]
  generalize N % 4294967296 * 2 ^ s = Z at hd ⊢
  have h3 : 4294967296 ^ i * Z + 4294967296 ^ i * (X % 2 ^ s) = 4294967296 ^ i * X + Y % 2 ^ s * (4294967296 ^ i * 4294967296) := by
    rw [← Nat.mul_add, hd, Nat.mul_add, Nat.mul_comm (4294967296 ^ i) (Y % 2 ^ s * 4294967296), Nat.mul_assoc (Y % 2 ^ s), Nat.mul_comm 4294967296]
  rw [Nat.mul_comm (X % 2 ^ s)] at hv
  generalize 4294967296 ^ i * Z = c1 at h3 ⊢
  generalize 4294967296 ^ i * (X % 2 ^ s) = c2 at h3 hv
  generalize 4294967296 ^ i * X = c3 at h3 ⊢
  generalize Y % 2 ^ s * (4294967296 ^ i * 4294967296) = c4 at h3 ⊢
  generalize val (u.take i) * 2 ^ s = c5 at hv ⊢
  generalize (rd l 0).toNat % 2 ^ s = c6 at hv ⊢
  omega
theorem unshifted_l0 (l : List Int) (s : Nat) (hs : s < 32) (hl : Dig l) (hb : l.length < 4611686018427387904) : ∀ (d i k : Nat) (u : List Int), l.length - i = d → i ≤ l.length → l.length + d + 1 < k → Dig u → u.length = l.length →
    val (u.take i) * 2 ^ s + (rd l 0).toNat % 2 ^ s = val (l.take i) + (rd l (i : Int)).toNat % 2 ^ s * 4294967296 ^ i →
    number_unshifted.l0 k l (s : Int) u (l.length : Int) (i : Int) = some (digs (val l / 2 ^ s))
  | 0, i, k, u, hd, hi, hk, h1, h2, h3 => by
    obtain ⟨k, rfl⟩ : ∃ m, k = m + 1 := ⟨k - 1, by omega⟩
    obtain rfl : i = l.length := by omega
    simp only [number_unshifted.l0]
    rw [if_neg (by omega), trim_f u k (by omega) (by omega), Option.bind_some]
    rw [← h2, List.take_length, h2, List.take_length, rd_beyond l (l.length : Int) (by omega)] at h3
    have hp : 0 < 2 ^ s := Nat.pos_of_ne_zero (by simp)
    have h4 : val l / 2 ^ s = val u := by
      have : (rd l 0).toNat % 2 ^ s < 2 ^ s := Nat.mod_lt _ hp
      rw [Int.toNat_zero, Nat.zero_mod, Nat.zero_mul, Nat.add_zero] at h3
      rw [← h3, Nat.add_comm, Nat.add_mul_div_right _ _ hp, Nat.div_eq_of_lt this, Nat.zero_add]
    rw [h4, digs_val h1]
  | d + 1, i, k, u, hd, hi, hk, h1, h2, h3 => by
    obtain ⟨k, rfl⟩ : ∃ m, k = m + 1 := ⟨k - 1, by omega⟩
    obtain ⟨q1, q2, q3⟩ := unshifted_step l u i s hs hl h1 h2 (by omega) h3
    have ih := unshifted_l0 l s hs hl hb d (i + 1) k _ (by omega) (by omega) (by omega) (h1.set i q1 q2) (by simp [h2]) q3
    simp only [number_unshifted.l0]
    rw [show wrap64 ((i : Int) + 1) = ((i + 1 : Nat) : Int) by rw [w64 _ (by omega) (by omega)]; omega]
    rw [if_pos (by omega), digit_f hl _ (by omega), Option.bind_some, digit_f hl _ (by omega), Option.bind_some, if_pos (by omega), if_pos (by omega), if_pos (by omega), Int.toNat_natCast]
    exact ih
theorem unshifted_f (l : List Int) (s k : Nat) (hs : s < 32) (hl : Dig l) (hb : l.length < 70368744177664) (hk : 2 * l.length + 1 < k) : number_unshifted.f k l (s : Int) = some (digs (val l / 2 ^ s)) := by
  unfold number_unshifted.f
  rw [if_pos (by omega), if_pos (by omega), Int.toNat_natCast]
  refine unshifted_l0 l s hs hl (by omega) l.length 0 k _ (by omega) (by omega) (by omega) (Dig.replicate _) (by simp) ?_
  simp [val]
end Go.Proofs.Ythhgfogdeaaidaa.R
