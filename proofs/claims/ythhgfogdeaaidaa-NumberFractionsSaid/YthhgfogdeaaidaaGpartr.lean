/- Plain: quotients, rests and common divisors: the program's and the reference's functions on digits are those of the numbers. -/
import Derived.Test.YthhgfogdeaaidaaR0
import Derived.Test.YthhgfogdeaaidaaR8
import Derived.Test.YthhgfogdeaaidaaR13
import Derived.Test.YthhgfogdeaaidaaGparted
import Derived.Test.YthhgfogdeaaidaaR9
import Derived.Test.YthhgfogdeaaidaaGarith
import Derived.Test.YthhgfogdeaaidaaGsub
namespace Go.Proofs.Ythhgfogdeaaidaa.R
open Go.RowKit Go.Proofs.YthhgfogdeaaidaaW.PrintWords Go.Proofs.YthhgfogdeaaidaaW.PrintLast Go.Proofs.YthhgfogdeaaidaaW.PrintMore
set_option linter.unusedVariables false
set_option linter.unusedSimpArgs false
theorem val_take_drop' (l : List Int) (i : Nat) : val l = val (l.take i) + 4294967296 ^ i * val (l.drop i) := by
  by_cases h : i ≤ l.length
  · exact val_take_drop l i h
  · rw [take_all (by omega), List.drop_of_length_le (by omega)]
    simp [val]
theorem val_drop_div {l : List Int} (h : Dig l) (i : Nat) : val (l.drop i) = val l / 4294967296 ^ i := by
  have hp : 0 < 4294967296 ^ i := Nat.pow_pos (by decide)
  rw [val_take_drop' l i, Nat.add_mul_div_left _ _ hp, Nat.div_eq_of_lt (val_take_lt h i), Nat.zero_add]
theorem rd_val {l : List Int} (h : Dig l) (i : Nat) : rd l (i : Int) = ((val l / 4294967296 ^ i % 4294967296 : Nat) : Int) := by
  rw [← val_drop_div h]
  have h1 := h.rdok (i : Int)
  by_cases hi : i < l.length
  · rw [val_drop l i hi, Nat.add_mul_mod_self_left]
    omega
  · rw [rd_beyond l _ (by omega), List.drop_of_length_le (by omega)]
    rfl
theorem pow_B (n : Nat) : 4294967296 ^ n = 2 ^ (32 * n) := by rw [Nat.pow_mul]
theorem tdiv32 (i : Nat) : Int.tdiv (i : Int) 32 = ((i / 32 : Nat) : Int) := tdiv_nat i 32
theorem tmod32 (i : Nat) : Int.tmod (i : Int) 32 = ((i % 32 : Nat) : Int) := tmod_nat i 32
theorem bit_nat (x s : Nat) (hs : s < 32) : x % 4294967296 / 2 ^ s % 2 = x / 2 ^ s % 2 := by
  have e : 4294967296 = 2 ^ s * (2 ^ (31 - s) * 2) := by rw [← Nat.pow_succ, ← Nat.pow_add, show s + (31 - s).succ = 32 by omega]
  rw [e, Nat.mod_mul_right_div_self]
  exact Nat.mod_mod_of_dvd _ (Nat.dvd_mul_left _ _)
theorem val_div_bits (x i : Nat) : x / 4294967296 ^ (i / 32) / 2 ^ (i % 32) = x / 2 ^ i := by
  rw [Nat.div_div_eq_div_mul, pow_B, ← Nat.pow_add, Nat.div_add_mod]
theorem bit_f {l : List Int} (hd : Dig l) (i : Nat) (h : i < 4611686018427387904) : headendref01_bit.f l (i : Int) = some ((val l / 2 ^ i % 2 : Nat) : Int) := by
  unfold headendref01_bit.f
  rw [tdiv32, tmod32, w64 _ (by omega) (by omega), at_f hd, Option.bind_some, if_pos (Int.natCast_nonneg _), shr64 _ _ (Nat.mod_lt _ (by decide)), rd_val hd]
  rw [show (((val l / 4294967296 ^ (i / 32) % 4294967296 : Nat) : Int) / 2 ^ (i % 32)) = ((val l / 4294967296 ^ (i / 32) % 4294967296 / 2 ^ (i % 32) : Nat) : Int) by rw [Int.natCast_ediv, Int.natCast_pow]; rfl]
  rw [show (2 : Int) = ((2 : Nat) : Int) from rfl, tmod_nat, bit_nat _ _ (Nat.mod_lt _ (by decide)), val_div_bits]
theorem two_digits (x : Nat) (h : x < 18446744073709551616) : trimL [((x % 4294967296 : Nat) : Int), ((x / 4294967296 : Nat) : Int)] = digs x := by
  have h1 : Dig [((x % 4294967296 : Nat) : Int), ((x / 4294967296 : Nat) : Int)] := Dig.cons (by omega) (by omega) (Dig.cons (by omega) (by omega) Dig.nil)
  have h2 : val [((x % 4294967296 : Nat) : Int), ((x / 4294967296 : Nat) : Int)] = x := by
    simp only [val, Int.toNat_natCast]
    omega
  rw [← digs_val h1, h2]
theorem Of_f (x : Nat) (h : x < 18446744073709551616) : headendref01_Of.f (x : Int) = some (digs x) := by
  unfold headendref01_Of.f
  rw [low_nat, high_nat, u64n _ (by omega), show ((x / 4294967296 : Nat) : Int) % 4294967296 = ((x / 4294967296 : Nat) : Int) by omega, rtrim_f _ (by simp), Option.bind_some, two_digits x h]
theorem divmod_of {n V q r : Nat} (e : n = V * q + r) (h : r < V) : n / V = q ∧ n % V = r := by
  have hV : 0 < V := by omega
  subst e
  constructor
  · rw [Nat.mul_add_div hV, Nat.div_eq_of_lt h, Nat.add_zero]
  · rw [Nat.mul_add_mod, Nat.mod_eq_of_lt h]
theorem quot_step {W V T bt : Nat} (hV : 0 < V) (hT : T = W % V + W % V + bt) (hb : bt < 2) :
    (V ≤ T → (2 * W + bt) / V = 2 * (W / V) + 1 ∧ (2 * W + bt) % V = T - V) ∧ (T < V → (2 * W + bt) / V = 2 * (W / V) ∧ (2 * W + bt) % V = T) := by
  have h1 := Nat.div_add_mod W V
  have h2 := Nat.mod_lt W hV
  have h3 : V * (2 * (W / V)) = 2 * (V * (W / V)) := Nat.mul_left_comm ..
  constructor
  · intro h
    exact divmod_of (by rw [Nat.mul_add, h3]; omega) (by omega)
  · intro h
    exact divmod_of (by rw [h3]; omega) h
theorem half_step (x n : Nat) : x / 2 ^ n = 2 * (x / 2 ^ (n + 1)) + x / 2 ^ n % 2 := by
  rw [Nat.pow_succ, ← Nat.div_div_eq_div_mul]; omega
theorem quot_room {q : List Int} {Z i : Nat} (hq : Dig q) (hv : val q = Z * 2 ^ (i + 1)) : ∃ D : Nat, rd q ((i / 32 : Nat) : Int) = (D : Int) ∧ D + 2 ^ (i % 32) < 4294967296 := by
  refine ⟨_, rd_val hq _, ?_⟩
  have hs : i % 32 < 32 := Nat.mod_lt _ (by decide)
  generalize hss : i % 32 = s at *
  have e1 : 2 ^ (i + 1) = 4294967296 ^ (i / 32) * 2 ^ (s + 1) := by
    rw [pow_B, ← Nat.pow_add]
    congr 1
    omega
  have hp : 0 < 4294967296 ^ (i / 32) := Nat.pow_pos (by decide)
  rw [hv, e1, Nat.mul_left_comm, Nat.mul_div_cancel_left _ hp]
  have e2 : 4294967296 = 2 ^ (31 - s) * 2 ^ (s + 1) := by rw [← Nat.pow_add, show 31 - s + (s + 1) = 32 by omega]
  have h1 : Z * 2 ^ (s + 1) % 4294967296 = Z % 2 ^ (31 - s) * 2 ^ (s + 1) := by
    conv => lhs; rw [e2]
    exact Nat.mul_mod_mul_right _ _ _
  have h2 : Z % 2 ^ (31 - s) < 2 ^ (31 - s) := Nat.mod_lt _ (Nat.pow_pos (by decide))
  have h3 : (Z % 2 ^ (31 - s) + 1) * 2 ^ (s + 1) ≤ 2 ^ (31 - s) * 2 ^ (s + 1) := Nat.mul_le_mul_right _ h2
  rw [← e2, Nat.add_mul, Nat.one_mul] at h3
  rw [h1]
  have h4 : 2 ^ (s + 1) = 2 ^ s * 2 := Nat.pow_succ ..
  have h5 : 0 < 2 ^ s := Nat.pow_pos (by decide)
  omega
theorem Parted_l0 (a b : List Int) (ha : Dig a) (hb : Dig b) (ht : trimL b = b) (hV : 0 < val b) (hl : a.length < 8796093022208) (hl' : b.length < 8796093022208) : ∀ (n k : Nat) (q : List Int), n ≤ 32 * a.length → n + a.length + b.length + 4 < k → Dig q → q.length = a.length →
    val q = val a / 2 ^ n / val b * 2 ^ n → headendref01_Parted.l0 k a b q (digs (val a / 2 ^ n % val b)) ((n : Int) - 1) = some (digs (val a / val b), digs (val a % val b))
  | 0, k, q, hn, hk, h1, h2, h3 => by
    obtain ⟨k, rfl⟩ : ∃ m, k = m + 1 := ⟨k - 1, by omega⟩
    simp only [headendref01_Parted.l0]
    rw [if_neg (show ¬ (((0 : Nat) : Int) - 1 ≥ 0) by omega), rtrim_f _ (by omega), Option.bind_some, ← digs_val h1, h3, Nat.pow_zero, Nat.div_one, Nat.mul_one]
  | n + 1, k, q, hn, hk, h1, h2, h3 => by
    obtain ⟨k, rfl⟩ : ∃ m, k = m + 1 := ⟨k - 1, by omega⟩
    have e : ((n + 1 : Nat) : Int) - 1 = (n : Int) := by omega
    obtain ⟨W, hW⟩ : ∃ W, val a / 2 ^ (n + 1) = W := ⟨_, rfl⟩
    obtain ⟨bt, hbt⟩ : ∃ bt, val a / 2 ^ n % 2 = bt := ⟨_, rfl⟩
    have hW' : val a / 2 ^ n = 2 * W + bt := by rw [← hW, ← hbt]; exact half_step _ _
    have hbt2 : bt < 2 := by rw [← hbt]; exact Nat.mod_lt _ (by decide)
    have hr := Nat.mod_lt W hV
    have hvb := val_lt hb
    obtain ⟨T, hT⟩ : ∃ T, W % val b + W % val b + bt = T := ⟨_, rfl⟩
    have hp : 4294967296 ^ (b.length + 1) = 4294967296 ^ b.length * 4294967296 := Nat.pow_succ ..
    have hlr : (digs (W % val b)).length ≤ b.length := digs_length_le _ _ (by omega)
    have hlr2 : (digs (W % val b + W % val b)).length ≤ b.length + 1 := digs_length_le _ _ (by rw [hp]; omega)
    have hlT : (digs T).length ≤ b.length + 1 := digs_length_le _ _ (by rw [hp]; omega)
    have hlb : (digs bt).length ≤ 1 := digs_length_le _ _ (by omega)
    have hst := quot_step (W := W) (V := val b) (T := T) (bt := bt) hV hT.symm hbt2
    have hup : 2 ^ (n + 1) = 2 ^ n * 2 := Nat.pow_succ ..
    rw [hW] at h3
    obtain ⟨D, eD, hD⟩ := quot_room (i := n) h1 h3
    have hs : n % 32 < 32 := Nat.mod_lt _ (by decide)
    have hnl : n / 32 < a.length := by omega
    have hsh : shl .u32 1 ((n % 32 : Nat) : Int) = ((2 ^ (n % 32) : Nat) : Int) := by
      rw [shl32 _ _ hs, Int.one_mul]
      have := two_pow_le hs
      rw [show (2 : Int) ^ (n % 32) = ((2 ^ (n % 32) : Nat) : Int) by rw [Int.natCast_pow]; rfl]
      generalize 2 ^ (n % 32) = z at *
      omega
    have hvs := val_set q (n / 32) (((D + 2 ^ (n % 32)) : Nat) : Int) (by omega)
    rw [eD, Int.toNat_natCast, Int.toNat_natCast, Nat.mul_add, pow_B, ← Nat.pow_add, Nat.div_add_mod] at hvs
    simp only [headendref01_Parted.l0]
    rw [e, hW, if_pos (show (n : Int) ≥ 0 by omega), Plus_f (Dig.digs _) (Dig.digs _) k (by omega) (by omega) (by omega), Option.bind_some, bit_f ha n (by omega), Option.bind_some, hbt, Of_f bt (by omega), Option.bind_some, val_digs, Plus_f (Dig.digs _) (Dig.digs _) k (by omega) (by omega) (by omega), Option.bind_some, val_digs, val_digs, hT, Order_f (Dig.digs _) hb k (by omega) (by omega) (by omega), Option.bind_some, val_digs, tdiv32, tmod32, w64 ((n : Int) - 1) (by omega) (by omega), w64 ((n / 32 : Nat) : Int) (by omega) (by omega), Int.toNat_natCast]
    by_cases hc : val b ≤ T
    · have hle : b.length ≤ (digs T).length := by
        rcases Nat.lt_or_ge (digs T).length b.length with h | h
        · have := val_lt_of_shorter (Dig.digs T) hb ht h
          rw [val_digs] at this
          omega
        · exact h
      rw [if_pos (show cmpN T (val b) ≥ 0 by unfold cmpN; rw [if_neg (by omega)]; split <;> decide), Minus_f (Dig.digs _) hb k hle (by rw [val_digs]; exact hc) (by omega) (by omega), Option.bind_some, if_pos (show (0 : Int) ≤ ((n / 32 : Nat) : Int) from Int.natCast_nonneg _), if_pos (show ((n / 32 : Nat) : Int) < (q.length : Int) by omega), if_pos (show (0 : Int) ≤ ((n % 32 : Nat) : Int) from Int.natCast_nonneg _), eD, hsh, val_digs, show ((D : Int) + ((2 ^ (n % 32) : Nat) : Int)) % 4294967296 = ((D + 2 ^ (n % 32) : Nat) : Int) by generalize 2 ^ (n % 32) = z at *; omega]
      obtain ⟨q1, q2⟩ := hst.1 hc
      rw [← q2, ← hW']
      refine Parted_l0 a b ha hb ht hV hl hl' n k _ (by omega) (by omega) (h1.set _ (Int.natCast_nonneg _) (by omega)) (by simp [h2]) ?_
      rw [hW', q1, Nat.add_mul, Nat.one_mul]
      rw [hup] at h3
      have h4 : 2 * (W / val b) * 2 ^ n = W / val b * (2 ^ n * 2) := by rw [Nat.mul_comm 2, Nat.mul_assoc, Nat.mul_comm 2]
      omega
    · rw [if_neg (show ¬ (cmpN T (val b) ≥ 0) by unfold cmpN; rw [if_pos (by omega)]; decide)]
      obtain ⟨q1, q2⟩ := hst.2 (by omega)
      rw [← q2, ← hW']
      refine Parted_l0 a b ha hb ht hV hl hl' n k _ (by omega) (by omega) h1 h2 ?_
      rw [hW', q1]
      rw [hup] at h3
      have h4 : 2 * (W / val b) * 2 ^ n = W / val b * (2 ^ n * 2) := by rw [Nat.mul_comm 2, Nat.mul_assoc, Nat.mul_comm 2]
      omega
theorem val_pos {b : List Int} (hb : Dig b) (ht : trimL b = b) (hne : b ≠ []) : 0 < val b := by
  rcases Nat.eq_zero_or_pos (val b) with h | h
  · rw [trimL_zero hb h] at ht
    exact absurd ht.symm hne
  · exact h
theorem Parted_f {a b : List Int} (ha : Dig a) (hb : Dig b) (ht : trimL b = b) (hne : b ≠ []) (k : Nat) (hl : a.length < 8796093022208) (hl' : b.length < 8796093022208) (hk : 33 * a.length + b.length + 36 < k) :
    headendref01_Parted.f k a b = some (digs (val a / val b), digs (val a % val b)) := by
  have hV := val_pos hb ht hne
  have hlb := List.length_pos_iff.2 hne
  unfold headendref01_Parted.f
  by_cases hlt : a.length < b.length
  · have hv := val_lt_of_shorter ha hb ht hlt
    rw [if_pos (show (a.length : Int) < (b.length : Int) by omega), rtrim_f _ (by omega), Option.bind_some, Nat.div_eq_of_lt hv, Nat.mod_eq_of_lt hv, digs_zero, digs_val ha]
  · obtain ⟨m, hm⟩ : ∃ m, a.length - b.length + 1 = m := ⟨_, rfl⟩
    have hdl : (a.drop m).length = b.length - 1 := by rw [List.length_drop]; omega
    have hvd : val (a.drop m) < val b := by
      have h1 := val_lt (ha.drop m)
      have h2 := val_ge hb ht hne
      rw [hdl] at h1
      omega
    have hz : (val a / 2 ^ (32 * m)) = val (a.drop m) := by rw [← pow_B, val_drop_div ha]
    rw [if_neg (show ¬ ((a.length : Int) < (b.length : Int)) by omega), if_pos (show (0 : Int) ≤ (a.length : Int) by omega), if_pos (by omega), w64 ((a.length : Int) - (b.length : Int)) (by omega) (by omega), w64 ((a.length : Int) - (b.length : Int) + 1) (by omega) (by omega), show (a.length : Int) - (b.length : Int) + 1 = (m : Int) by omega, if_pos (show (0 : Int) ≤ (m : Int) by omega), if_pos (show (m : Int) ≤ (a.length : Int) by omega), Int.toNat_natCast, Int.toNat_natCast, rtrim_f _ (by omega), Option.bind_some, w64 (32 * (m : Int)) (by omega) (by omega), w64 (32 * (m : Int) - 1) (by omega) (by omega), ← digs_val (ha.drop m), ← Nat.mod_eq_of_lt hvd, ← hz, show 32 * (m : Int) - 1 = ((32 * m : Nat) : Int) - 1 by omega]
    refine Parted_l0 a b ha hb ht hV hl hl' (32 * m) k _ (by omega) (by omega) (Dig.replicate _) (by simp) ?_
    rw [val_replicate, hz, Nat.div_eq_of_lt hvd, Nat.zero_mul]
theorem digs_ne {y : Nat} (h : y ≠ 0) : digs y ≠ [] := fun e => h (digs_nil.1 e)
theorem digs_pos_len {y : Nat} (h : y ≠ 0) : 0 < (digs y).length := List.length_pos_iff.2 (digs_ne h)
theorem parted_f (x y : Nat) (hy : y ≠ 0) (hx : (digs x).length < 1048576) (hyl : (digs y).length < 1048576) : number_parted.f (digs x) (digs y) = some (digs (x / y), digs (x % y)) := by
  unfold number_parted.f
  rw [if_pos, val_digs, val_digs]
  simp only [partOk, Bool.and_eq_true, beq_iff_eq, Bool.not_eq_true', List.isEmpty_eq_false_iff, decide_eq_true_eq]
  exact ⟨⟨⟨⟨⟨⟨digB_of (Dig.digs x), digB_of (Dig.digs y)⟩, trimL_digs x⟩, trimL_digs y⟩, digs_ne hy⟩, hx⟩, hyl⟩
theorem digs_length_mono {x y : Nat} (h : x ≤ y) : (digs x).length ≤ (digs y).length := by
  apply digs_length_le
  have := val_lt (Dig.digs y)
  rw [val_digs] at this
  omega
theorem common_l0 (L : Nat) (hL : L < 1048576) : ∀ (y x k : Nat), (digs x).length ≤ L → (digs y).length ≤ L → y < k → number_common.l0 k (digs x) (digs y) = some (digs (Nat.gcd x y)) := by
  intro y
  induction y using Nat.strongRecOn with
  | _ y ih =>
    intro x k hx hy hk
    obtain ⟨k, rfl⟩ : ∃ m, k = m + 1 := ⟨k - 1, by omega⟩
    simp only [number_common.l0]
    by_cases h0 : y = 0
    · subst h0
      rw [if_neg (by simp [digs_zero]), Nat.gcd_zero_right]
      unfold api_Natural_uint32_105.f
      rw [if_pos (by omega), Option.bind_some]
    · have := digs_pos_len h0
      have hm := Nat.mod_lt x (Nat.pos_of_ne_zero h0)
      rw [if_pos (by omega), parted_f x y h0 (by omega) (by omega), Option.bind_some, Nat.gcd_comm, Nat.gcd_rec, Nat.gcd_comm]
      exact ih (x % y) hm y k hy (Nat.le_trans (digs_length_mono (by omega)) hy) (by omega)
theorem common_f (x y k : Nat) (hx : (digs x).length < 1048576) (hy : (digs y).length < 1048576) (hk : y < k) : number_common.f k (digs x) (digs y) = some (digs (Nat.gcd x y)) :=
  common_l0 (max (digs x).length (digs y).length) (by omega) y x k (by omega) (by omega) hk
theorem Common_l0 (L : Nat) (hL : L < 1048576) : ∀ (y : Nat) (a : List Int) (k : Nat), Dig a → a.length ≤ L → (digs y).length ≤ L → y + 34 * L + 40 < k → headendref01_Common.l0 k a (digs y) = some (digs (Nat.gcd (val a) y)) := by
  intro y
  induction y using Nat.strongRecOn with
  | _ y ih =>
    intro a k ha hx hy hk
    obtain ⟨k, rfl⟩ : ∃ m, k = m + 1 := ⟨k - 1, by omega⟩
    simp only [headendref01_Common.l0]
    by_cases h0 : y = 0
    · subst h0
      rw [if_neg (by simp [digs_zero]), Nat.gcd_zero_right, rtrim_f _ (by omega), Option.bind_some, digs_val ha]
    · have := digs_pos_len h0
      have hm := Nat.mod_lt (val a) (Nat.pos_of_ne_zero h0)
      rw [if_pos (by omega), Parted_f ha (Dig.digs y) (trimL_digs y) (digs_ne h0) k (by omega) (by omega) (by omega), Option.bind_some, val_digs, Nat.gcd_comm, Nat.gcd_rec, Nat.gcd_comm]
      have := ih (val a % y) hm (digs y) k (Dig.digs y) hy (Nat.le_trans (digs_length_mono (by omega)) hy) (by omega)
      rw [val_digs] at this
      exact this
theorem Common_f {a : List Int} (ha : Dig a) (y k : Nat) (hx : a.length < 1048576) (hy : (digs y).length < 1048576) (hk : y + 40000000 < k) : headendref01_Common.f k a (digs y) = some (digs (Nat.gcd (val a) y)) :=
  Common_l0 (max a.length (digs y).length) (by omega) y a k ha (by omega) (by omega) (by omega)
end Go.Proofs.Ythhgfogdeaaidaa.R
