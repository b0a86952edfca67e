/- Plain: sums, differences, comparisons: the program's and the reference's functions on digits are those of the numbers. -/
import Derived.Test.YthhgfogdeaaidaaR0
import Derived.Test.YthhgfogdeaaidaaR8
import Derived.Test.YthhgfogdeaaidaaR9
import Derived.Test.YthhgfogdeaaidaaR18
import Derived.Test.YthhgfogdeaaidaaGcmp
import Derived.Test.YthhgfogdeaaidaaGknuth
namespace Go.Proofs.Ythhgfogdeaaidaa.R
open Go.RowKit Go.Proofs.YthhgfogdeaaidaaW.PrintWords Go.Proofs.YthhgfogdeaaidaaW.PrintLast Go.Proofs.YthhgfogdeaaidaaW.PrintMore
set_option linter.unusedVariables false
set_option linter.unusedSimpArgs false
theorem carry_step {P v c A s d c' : Nat} (h : v + P * c = s) (e : d + 4294967296 * c' = A + c) : v + P * d + P * 4294967296 * c' = s + P * A := by
  have h1 : P * (d + 4294967296 * c') = P * (A + c) := by rw [e]
  rw [Nat.mul_add, Nat.mul_add, ← Nat.mul_assoc] at h1
  omega
theorem borrow_step {P v t s A D c d c' : Nat} (h : v + t = s + P * c) (e : d + D + c = A + 4294967296 * c') : v + P * d + (t + P * D) = s + P * A + P * 4294967296 * c' := by
  have h1 : P * (d + D + c) = P * (A + 4294967296 * c') := by rw [e]
  rw [Nat.mul_add, Nat.mul_add, Nat.mul_add, ← Nat.mul_assoc] at h1
  omega
theorem rtrim_f (l : List Int) (h : l.length < 35184372088832) : headendref01_trim.f l = some (trimL l) := if_pos h
theorem at_f {l : List Int} (hd : Dig l) (i : Nat) : headendref01_at.f l (i : Int) = some (rd l (i : Int)) := by
  unfold headendref01_at.f
  have h := hd.rdok (i : Int)
  by_cases hi : (i : Int) < (l.length : Int)
  · rw [if_pos hi, if_pos (Int.natCast_nonneg _), u64_in _ h.1 (by omega)]
  · rw [if_neg hi, rd_beyond l _ (by omega)]
theorem rd_toNat {l : List Int} (hd : Dig l) (i : Nat) : ∃ x : Nat, rd l (i : Int) = (x : Int) ∧ x < 4294967296 := by
  have h := hd.rdok (i : Int)
  exact ⟨(rd l (i : Int)).toNat, by omega, by omega⟩
theorem w64n (i : Nat) (h : i < 4611686018427387904) : wrap64 ((i : Int) + 1) = ((i + 1 : Nat) : Int) := by rw [w64 _ (by omega) (by omega)]; omega
theorem u64n (x : Nat) (h : x < 18446744073709551616) : IntKind.u64.wrap (x : Int) = (x : Int) := u64_in _ (Int.natCast_nonneg _) (by omega)
theorem tmod_nat (x : Nat) (m : Nat) : Int.tmod (x : Int) (m : Int) = ((x % m : Nat) : Int) := rfl
theorem tdiv_nat (x : Nat) (m : Nat) : Int.tdiv (x : Int) (m : Int) = ((x / m : Nat) : Int) := rfl
theorem low_nat (x : Nat) : Int.tmod (x : Int) 4294967296 % 4294967296 = ((x % 4294967296 : Nat) : Int) := by
  rw [show (4294967296 : Int) = ((4294967296 : Nat) : Int) from rfl, tmod_nat]; omega
theorem high_nat (x : Nat) : Int.tdiv (x : Int) 4294967296 = ((x / 4294967296 : Nat) : Int) := tdiv_nat x 4294967296
theorem mx_le {a b N : Nat} (h : mx (a : Int) (b : Int) = (N : Int)) : a ≤ N ∧ b ≤ N := by
  unfold mx at h
  split at h <;> omega
theorem mx_nat (a b : Nat) : mx (a : Int) (b : Int) = ((max a b : Nat) : Int) := by
  unfold mx
  split <;> omega
theorem take_all {l : List Int} {n : Nat} (h : l.length ≤ n) : l.take n = l := List.take_of_length_le h
theorem val_lt_pow {l : List Int} (hd : Dig l) {n : Nat} (h : l.length ≤ n) : val l < 4294967296 ^ n := by
  have h1 := val_lt hd
  have h2 : 4294967296 ^ l.length ≤ 4294967296 ^ n := Nat.pow_le_pow_right (by omega) h
  omega
theorem snoc_val (l : List Int) (x : Nat) : val (l ++ [(x : Int)]) = val l + 4294967296 ^ l.length * x := by
  rw [val_append]; simp [val]
theorem zero_of_small {P v c s : Nat} (h : v + P * c = s) (hs : s < P) : c = 0 := by
  rcases Nat.eq_zero_or_pos c with h0 | h0
  · exact h0
  · have := Nat.le_mul_of_pos_right P h0
    omega
theorem Plus_l0 (a b : List Int) (ha : Dig a) (hb : Dig b) (N : Nat) (hN : mx (a.length : Int) (b.length : Int) = (N : Int)) (hNb : N < 17592186044416) : ∀ (d i k : Nat) (out : List Int) (c : Nat), N + 1 - i = d → i ≤ N + 1 → d < k → Dig out → out.length = i → c ≤ 1 →
    val out + 4294967296 ^ i * c = val (a.take i) + val (b.take i) → headendref01_Plus.l0 k a b out (c : Int) (i : Int) = some (digs (val a + val b))
  | 0, i, k, out, c, hd, hi, hk, h1, h2, h3, h4 => by
    obtain ⟨k, rfl⟩ : ∃ m, k = m + 1 := ⟨k - 1, by omega⟩
    obtain rfl : i = N + 1 := by omega
    have hl := mx_le hN
    simp only [headendref01_Plus.l0]
    rw [if_neg (by rw [hN]; omega), rtrim_f _ (by omega)]
    rw [take_all (by omega), take_all (by omega)] at h4
    have h5 := val_lt_pow ha hl.1
    have h6 := val_lt_pow hb hl.2
    have h7 : val a + val b < 4294967296 ^ (N + 1) := by rw [Nat.pow_succ]; omega
    obtain rfl := zero_of_small h4 h7
    rw [Nat.mul_zero, Nat.add_zero] at h4
    show some (trimL out) = _
    rw [← digs_val h1, h4]
  | d + 1, i, k, out, c, hd, hi, hk, h1, h2, h3, h4 => by
    obtain ⟨k, rfl⟩ : ∃ m, k = m + 1 := ⟨k - 1, by omega⟩
    obtain ⟨A, eA, hA⟩ := rd_toNat ha i
    obtain ⟨D, eD, hD⟩ := rd_toNat hb i
    simp only [headendref01_Plus.l0]
    rw [if_pos (by rw [hN]; omega), at_f ha, at_f hb, eA, eD]
    simp only [Option.bind_some]
    rw [if_pos (by omega), w64n i (by omega), show (A : Int) + (D : Int) = ((A + D : Nat) : Int) from rfl, u64n (A + D) (by omega), show ((A + D : Nat) : Int) + (c : Int) = ((A + D + c : Nat) : Int) from rfl, u64n (A + D + c) (by omega), low_nat, high_nat, u64n ((A + D + c) / 4294967296) (by omega)]
    have hdg : ((A + D + c) % 4294967296 : Nat) < 4294967296 := Nat.mod_lt _ (by omega)
    refine Plus_l0 a b ha hb N hN hNb d (i + 1) k _ _ (by omega) (by omega) (by omega) (h1.append (Dig.cons (by omega) (by omega) Dig.nil)) (by simp [h2]) (by omega) ?_
    rw [snoc_val, h2, val_take_succ2, val_take_succ2, eA, eD, Nat.pow_succ, carry_step h4 (A := A + D) (by omega), Int.toNat_natCast, Int.toNat_natCast, Nat.mul_add]
    omega
theorem Plus_f {a b : List Int} (ha : Dig a) (hb : Dig b) (k : Nat) (hl : a.length < 17592186044416) (hl' : b.length < 17592186044416) (hk : max a.length b.length + 1 < k) : headendref01_Plus.f k a b = some (digs (val a + val b)) := by
  unfold headendref01_Plus.f
  exact Plus_l0 a b ha hb (max a.length b.length) (mx_nat _ _) (by omega) _ 0 k [] 0 rfl (by omega) (by omega) Dig.nil rfl (by omega) (by simp [val])
theorem Order_l0 (a b : List Int) (ha : Dig a) (hb : Dig b) : ∀ (n k : Nat), n < 4611686018427387904 → n < k → headendref01_Order.l0 k a b ((n : Int) - 1) = some (ordTo a b n)
  | 0, k, hn, hk => by
    obtain ⟨k, rfl⟩ : ∃ m, k = m + 1 := ⟨k - 1, by omega⟩
    simp only [headendref01_Order.l0]
    rw [if_neg (by omega)]
    rfl
  | n + 1, k, hn, hk => by
    obtain ⟨k, rfl⟩ : ∃ m, k = m + 1 := ⟨k - 1, by omega⟩
    have e : ((n + 1 : Nat) : Int) - 1 = (n : Int) := by omega
    simp only [headendref01_Order.l0]
    rw [e, if_pos (by omega), at_f ha, at_f hb]
    simp only [Option.bind_some, ordTo]
    split
    · rfl
    · split
      · rfl
      · rw [w64 _ (by omega) (by omega)]
        exact Order_l0 a b ha hb n k (by omega) (by omega)
theorem Order_f {a b : List Int} (ha : Dig a) (hb : Dig b) (k : Nat) (hl : a.length < 17592186044416) (hl' : b.length < 17592186044416) (hk : max a.length b.length < k) : headendref01_Order.f k a b = some (cmpN (val a) (val b)) := by
  unfold headendref01_Order.f
  rw [mx_nat, w64 _ (by omega) (by omega), Order_l0 a b ha hb _ k (by omega) hk, ordTo_val ha hb, take_all (by omega), take_all (by omega)]
theorem Minus_l0 (a b : List Int) (ha : Dig a) (hb : Dig b) (hle : b.length ≤ a.length) (hv : val b ≤ val a) (hN : a.length < 17592186044416) : ∀ (d i k : Nat) (out : List Int) (c : Nat), a.length - i = d → i ≤ a.length → d < k → Dig out → out.length = i → c ≤ 1 →
    val out + val (b.take i) = val (a.take i) + 4294967296 ^ i * c → headendref01_Minus.l0 k a b out (c : Int) (i : Int) = some (digs (val a - val b))
  | 0, i, k, out, c, hd, hi, hk, h1, h2, h3, h4 => by
    obtain ⟨k, rfl⟩ : ∃ m, k = m + 1 := ⟨k - 1, by omega⟩
    obtain rfl : i = a.length := by omega
    simp only [headendref01_Minus.l0]
    rw [if_neg (by omega), rtrim_f _ (by omega)]
    rw [take_all (by omega), take_all (by omega)] at h4
    have h5 := val_lt h1
    rw [h2] at h5
    have h6 : c = 0 := by
      rcases Nat.eq_zero_or_pos c with h0 | h0
      · exact h0
      · obtain rfl : c = 1 := by omega
        omega
    subst h6
    rw [Nat.mul_zero, Nat.add_zero] at h4
    have h8 : val out = val a - val b := by omega
    show some (trimL out) = _
    rw [← digs_val h1, h8]
  | d + 1, i, k, out, c, hd, hi, hk, h1, h2, h3, h4 => by
    obtain ⟨k, rfl⟩ : ∃ m, k = m + 1 := ⟨k - 1, by omega⟩
    obtain ⟨A, eA, hA⟩ := rd_toNat ha i
    obtain ⟨D, eD, hD⟩ := rd_toNat hb i
    simp only [headendref01_Minus.l0]
    rw [if_pos (by omega), at_f ha, at_f hb, eA, eD]
    simp only [Option.bind_some]
    obtain ⟨x, hx⟩ : ∃ x : Nat, 4294967296 + A - D - c = x := ⟨_, rfl⟩
    rw [if_pos (by omega), w64n i (by omega), show (4294967296 : Int) + (A : Int) = ((4294967296 + A : Nat) : Int) by omega, u64n (4294967296 + A) (by omega), show ((4294967296 + A : Nat) : Int) - (D : Int) = ((4294967296 + A - D : Nat) : Int) by omega, u64n (4294967296 + A - D) (by omega), show ((4294967296 + A - D : Nat) : Int) - (c : Int) = ((x : Nat) : Int) by omega, u64n x (by omega), low_nat, high_nat, u64n (x / 4294967296) (by omega), show (1 : Int) - ((x / 4294967296 : Nat) : Int) = ((1 - x / 4294967296 : Nat) : Int) by omega, u64n (1 - x / 4294967296) (by omega)]
    refine Minus_l0 a b ha hb hle hv hN d (i + 1) k _ _ (by omega) (by omega) (by omega) (h1.append (Dig.cons (by omega) (by omega) Dig.nil)) (by simp [h2]) (by omega) ?_
    rw [snoc_val, h2, val_take_succ2, val_take_succ2, eA, eD, Nat.pow_succ, Int.toNat_natCast, Int.toNat_natCast]
    exact borrow_step h4 (by omega)
theorem Minus_f {a b : List Int} (ha : Dig a) (hb : Dig b) (k : Nat) (hle : b.length ≤ a.length) (hv : val b ≤ val a) (hl : a.length < 17592186044416) (hk : a.length < k) : headendref01_Minus.f k a b = some (digs (val a - val b)) := by
  unfold headendref01_Minus.f
  exact Minus_l0 a b ha hb hle hv hl _ 0 k [] 0 rfl (by omega) (by omega) Dig.nil rfl (by omega) (by simp [val])
theorem plus_l0 (a b : List Int) (ha : Dig a) (hb : Dig b) (N : Nat) (hN : a.length ≤ N ∧ b.length ≤ N) (hNb : N < 17592186044416) : ∀ (d i k : Nat) (u : List Int) (c : Nat), N - i = d → i ≤ N → N + d + 2 < k → Dig u → u.length = N + 1 → (∀ j : Nat, i ≤ j → rd u (j : Int) = 0) → c ≤ 1 →
    val u + 4294967296 ^ i * c = val (a.take i) + val (b.take i) → number_plus.l0 k a b (N : Int) u (c : Int) (N : Int) (i : Int) = some (digs (val a + val b))
  | 0, i, k, u, c, hd, hi, hk, h1, h2, hz, h3, h4 => by
    obtain ⟨k, rfl⟩ : ∃ m, k = m + 1 := ⟨k - 1, by omega⟩
    obtain rfl : i = N := by omega
    simp only [number_plus.l0]
    rw [if_neg (by omega), if_pos (by omega), if_pos (by omega), Int.toNat_natCast]
    have e : (c : Int) % 4294967296 = (c : Int) := by omega
    rw [e, trim_f _ _ (by simp; omega) (by simp; omega)]
    have hs := val_set u i (c : Int) (by omega)
    rw [hz i (by omega), Int.toNat_zero, Nat.mul_zero, Nat.add_zero, Int.toNat_natCast, h4, take_all (by omega), take_all (by omega)] at hs
    show some (trimL _) = _
    rw [← digs_val (h1.set i (by omega) (by omega)), hs]
  | d + 1, i, k, u, c, hd, hi, hk, h1, h2, hz, h3, h4 => by
    obtain ⟨k, rfl⟩ : ∃ m, k = m + 1 := ⟨k - 1, by omega⟩
    obtain ⟨A, eA, hA⟩ := rd_toNat ha i
    obtain ⟨D, eD, hD⟩ := rd_toNat hb i
    simp only [number_plus.l0]
    rw [if_pos (by omega), digit_f ha _ (by omega), digit_f hb _ (by omega), eA, eD]
    simp only [Option.bind_some]
    rw [show (A : Int) + (D : Int) = ((A + D : Nat) : Int) from rfl, u64n (A + D) (by omega), show ((A + D : Nat) : Int) + (c : Int) = ((A + D + c : Nat) : Int) from rfl, u64n (A + D + c) (by omega)]
    simp only [number_halves_uint64_uint32.f, Option.bind_some]
    rw [if_pos (by omega), if_pos (by omega), w64n i (by omega), Int.toNat_natCast, show ((A + D + c : Nat) : Int) % 4294967296 = (((A + D + c) % 4294967296 : Nat) : Int) by omega, show ((A + D + c : Nat) : Int) / 4294967296 = (((A + D + c) / 4294967296 : Nat) : Int) by omega]
    have hs := val_set u i (((A + D + c) % 4294967296 : Nat) : Int) (by omega)
    rw [hz i (by omega), Int.toNat_zero, Nat.mul_zero, Nat.add_zero, Int.toNat_natCast] at hs
    refine plus_l0 a b ha hb N hN hNb d (i + 1) k _ _ (by omega) (by omega) (by omega) (h1.set i (by omega) (by omega)) (by simp [h2]) (fun j hj => by rw [rd_set_ne _ _ _ _ (by omega)]; exact hz j (by omega)) (by omega) ?_
    rw [hs, val_take_succ2, val_take_succ2, eA, eD, Nat.pow_succ, carry_step h4 (A := A + D) (by omega), Int.toNat_natCast, Int.toNat_natCast, Nat.mul_add]
    omega
theorem plus_f {a b : List Int} (ha : Dig a) (hb : Dig b) (k : Nat) (hl : a.length < 17592186044416) (hl' : b.length < 17592186044416) (hk : 2 * max a.length b.length + 2 < k) : number_plus.f k a b = some (digs (val a + val b)) := by
  unfold number_plus.f
  rw [mx_nat, w64n _ (by omega), if_pos (by omega), if_pos (by omega), Int.toNat_natCast]
  exact plus_l0 a b ha hb _ (by omega) (by omega) _ 0 k _ 0 rfl (by omega) (by omega) (Dig.replicate _) (by simp) (fun j _ => rd_replicate _ _) (by omega) (by rw [val_replicate]; simp [val])
end Go.Proofs.Ythhgfogdeaaidaa.R
