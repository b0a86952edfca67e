/- Plain: products: the program's and the reference's functions on digits are those of the numbers. -/
import Derived.Test.YthhgfogdeaaidaaR0
import Derived.Test.YthhgfogdeaaidaaR11
import Derived.Test.YthhgfogdeaaidaaR9
import Derived.Test.YthhgfogdeaaidaaGarith
import Derived.Test.YthhgfogdeaaidaaGsub
namespace Go.Proofs.Ythhgfogdeaaidaa.R
open Go.RowKit Go.Proofs.YthhgfogdeaaidaaW.PrintWords Go.Proofs.YthhgfogdeaaidaaW.PrintLast Go.Proofs.YthhgfogdeaaidaaW.PrintMore
set_option linter.unusedVariables false
set_option linter.unusedSimpArgs false
theorem times_digit (o X Y c : Nat) (ho : o < 4294967296) (hX : X < 4294967296) (hY : Y < 4294967296) (hc : c < 4294967296) :
    X * Y < 18446744073709551616 ∧ o + X * Y < 18446744073709551616 ∧ o + X * Y + c < 18446744073709551616 ∧ (o + X * Y + c) / 4294967296 < 4294967296 := by
  have h : X * Y ≤ 4294967295 * 4294967295 := Nat.mul_le_mul (by omega) (by omega)
  generalize X * Y = z at *
  omega
theorem times_inner {P v v2 c s o d c' Z : Nat} (h : v + P * c = s) (h2 : v2 + P * o = v + P * d) (e : d + 4294967296 * c' = o + Z + c) : v2 + P * 4294967296 * c' = s + P * Z := by
  have h1 : P * (d + 4294967296 * c') = P * (o + Z + c) := by rw [e]
  rw [Nat.mul_add, Nat.mul_add, Nat.mul_add, ← Nat.mul_assoc] at h1
  omega
structure TI (a b : List Int) (i j : Nat) (u : List Int) (c : Nat) : Prop where
  d : Dig u
  l : u.length = a.length + b.length
  cc : c < 4294967296
  z : ∀ m : Nat, i + b.length ≤ m → rd u (m : Int) = 0
  v : val u + 4294967296 ^ (i + j) * c = val (a.take i) * val b + 4294967296 ^ i * (rd a (i : Int)).toNat * val (b.take j)
structure TO (a b : List Int) (i : Nat) (u : List Int) : Prop where
  d : Dig u
  l : u.length = a.length + b.length
  z : ∀ m : Nat, i + b.length ≤ m → rd u (m : Int) = 0
  v : val u = val (a.take i) * val b
theorem TO.start (a b : List Int) : TO a b 0 (List.replicate (a.length + b.length) 0) :=
  ⟨Dig.replicate _, by simp, fun m _ => rd_replicate _ _, by rw [val_replicate]; simp [val]⟩
theorem TO.inner {a b u : List Int} {i : Nat} (h : TO a b i u) : TI a b i 0 u 0 :=
  ⟨h.d, h.l, by omega, h.z, by rw [h.v]; simp [val]⟩
theorem TI.step {a b u : List Int} {i j c : Nat} (h : TI a b i j u c) (hi : i < a.length) (hj : j < b.length) (o X Y : Nat) (ho : rd u ((i + j : Nat) : Int) = (o : Int)) (hX : rd a (i : Int) = (X : Int)) (hY : rd b (j : Int) = (Y : Int)) (ho' : o < 4294967296) (hX' : X < 4294967296) (hY' : Y < 4294967296) :
    TI a b i (j + 1) (u.set (i + j) (((o + X * Y + c) % 4294967296 : Nat) : Int)) ((o + X * Y + c) / 4294967296) := by
  obtain ⟨h1, h2, h3, h4⟩ := times_digit o X Y c ho' hX' hY' h.cc
  have hm : (o + X * Y + c) % 4294967296 < 4294967296 := Nat.mod_lt _ (by omega)
  refine ⟨h.d.set _ (Int.natCast_nonneg _) (by omega), by simp [h.l], h4, fun m hm => by rw [rd_set_ne _ _ _ _ (by omega)]; exact h.z m hm, ?_⟩
  have hs := val_set u (i + j) (((o + X * Y + c) % 4294967296 : Nat) : Int) (by rw [h.l]; omega)
  rw [ho, Int.toNat_natCast, Int.toNat_natCast] at hs
  have hv := h.v
  have e : (o + X * Y + c) % 4294967296 + 4294967296 * ((o + X * Y + c) / 4294967296) = o + X * Y + c := Nat.mod_add_div _ _
  have hf := times_inner hv hs e
  rw [← Nat.add_assoc, Nat.pow_succ, hf, val_take_succ2, hX, hY, Int.toNat_natCast, Int.toNat_natCast, Nat.mul_add, Nat.pow_add, ← Nat.add_assoc]
  congr 1
  rw [Nat.mul_assoc, Nat.mul_assoc, Nat.mul_left_comm X]
theorem TI.outer {a b u : List Int} {i c : Nat} (h : TI a b i b.length u c) (hi : i < a.length) : TO a b (i + 1) (u.set (i + b.length) (c : Int)) := by
  have hc := h.cc
  refine ⟨h.d.set _ (Int.natCast_nonneg _) (by omega), by simp [h.l], fun m hm => by rw [rd_set_ne _ _ _ _ (by omega)]; exact h.z m (by omega), ?_⟩
  have hs := val_set u (i + b.length) (c : Int) (by rw [h.l]; omega)
  rw [h.z _ (Nat.le_refl _), Int.toNat_natCast, Int.toNat_zero, Nat.mul_zero, Nat.add_zero, h.v, take_all (Nat.le_refl _)] at hs
  rw [hs, val_take_succ2, Nat.add_mul]
theorem Times_inner (a b : List Int) (ha : Dig a) (hb : Dig b) (hl : a.length < 8796093022208) (hl' : b.length < 8796093022208) (i : Nat) (hi : i < a.length) (R : Option (List Int)) (m : Nat)
    (hR : ∀ k u, m ≤ k → TO a b (i + 1) u → headendref01_Times.l0 k a b u ((i + 1 : Nat) : Int) = R) : ∀ (d j k : Nat) (u : List Int) (c : Nat), b.length - j = d → j ≤ b.length → m + d < k → TI a b i j u c →
    headendref01_Times.l1 k a b u (i : Int) (c : Int) (j : Int) = R
  | 0, j, k, u, c, hd, hj, hk, h => by
    obtain ⟨k, rfl⟩ : ∃ m, k = m + 1 := ⟨k - 1, by omega⟩
    obtain rfl : j = b.length := by omega
    have hu := h.l
    have hc := h.cc
    have ho := h.outer hi
    simp only [headendref01_Times.l1]
    rw [if_neg (show ¬ ((b.length : Int) < (b.length : Int)) by omega), w64 _ (by omega) (by omega), if_pos (show (0 : Int) ≤ (i : Int) + (b.length : Int) by omega), if_pos (show (i : Int) + (b.length : Int) < (u.length : Int) by omega), w64n i (by omega), show (i : Int) + (b.length : Int) = ((i + b.length : Nat) : Int) from rfl, Int.toNat_natCast, show (c : Int) % 4294967296 = (c : Int) by omega]
    exact hR k _ (by omega) ho
  | d + 1, j, k, u, c, hd, hj, hk, h => by
    obtain ⟨k, rfl⟩ : ∃ m, k = m + 1 := ⟨k - 1, by omega⟩
    obtain ⟨X, eX, hX⟩ := rd_toNat ha i
    obtain ⟨Y, eY, hY⟩ := rd_toNat hb j
    obtain ⟨o, eo, ho⟩ := rd_toNat h.d (i + j)
    have hu := h.l
    obtain ⟨h1, h2, h3, h4⟩ := times_digit o X Y c ho hX hY h.cc
    have hst := h.step hi (by omega) o X Y eo eX eY ho hX hY
    simp only [headendref01_Times.l1]
    rw [if_pos (show (j : Int) < (b.length : Int) by omega), w64 ((i : Int) + (j : Int)) (by omega) (by omega), if_pos (show (0 : Int) ≤ (i : Int) + (j : Int) by omega), if_pos (show (i : Int) + (j : Int) < (u.length : Int) by omega), w64n j (by omega), at_f ha, Option.bind_some, at_f hb, Option.bind_some, show (i : Int) + (j : Int) = ((i + j : Nat) : Int) from rfl, eo, eX, eY, Int.toNat_natCast,
      show (X : Int) * (Y : Int) = ((X * Y : Nat) : Int) from (Int.natCast_mul X Y).symm, u64n (X * Y) h1, u64n o (by omega), show (o : Int) + ((X * Y : Nat) : Int) = ((o + X * Y : Nat) : Int) from rfl, u64n (o + X * Y) h2, show ((o + X * Y : Nat) : Int) + (c : Int) = ((o + X * Y + c : Nat) : Int) from rfl, u64n (o + X * Y + c) h3, low_nat, high_nat, u64n ((o + X * Y + c) / 4294967296) (by omega)]
    exact Times_inner a b ha hb hl hl' i hi R m hR d (j + 1) k _ _ (by omega) (by omega) (by omega) hst
theorem Times_l0 (a b : List Int) (ha : Dig a) (hb : Dig b) (hl : a.length < 8796093022208) (hl' : b.length < 8796093022208) : ∀ (d i k : Nat) (u : List Int), a.length - i = d → i ≤ a.length → d * (b.length + 2) < k → TO a b i u → headendref01_Times.l0 k a b u (i : Int) = some (digs (val a * val b))
  | 0, i, k, u, hd, hi, hk, h => by
    obtain ⟨k, rfl⟩ : ∃ m, k = m + 1 := ⟨k - 1, by omega⟩
    obtain rfl : i = a.length := by omega
    have hu := h.l
    simp only [headendref01_Times.l0]
    rw [if_neg (show ¬ ((a.length : Int) < (a.length : Int)) by omega), rtrim_f _ (by omega), Option.bind_some, ← digs_val h.d, h.v, take_all (Nat.le_refl _)]
  | d + 1, i, k, u, hd, hi, hk, h => by
    obtain ⟨k, rfl⟩ : ∃ m, k = m + 1 := ⟨k - 1, by omega⟩
    have hi2 : i < a.length := by omega
    rw [Nat.add_mul] at hk
    simp only [headendref01_Times.l0]
    rw [if_pos (show (i : Int) < (a.length : Int) by omega)]
    exact Times_inner a b ha hb hl hl' i hi2 _ (d * (b.length + 2) + 1) (fun k' u' hk' hu' => Times_l0 a b ha hb hl hl' d (i + 1) k' u' (by omega) (by omega) (by omega) hu') b.length 0 k u 0 rfl (by omega) (by omega) h.inner
theorem Times_f {a b : List Int} (ha : Dig a) (hb : Dig b) (k : Nat) (hl : a.length < 8796093022208) (hl' : b.length < 8796093022208) (hk : a.length * (b.length + 2) < k) : headendref01_Times.f k a b = some (digs (val a * val b)) := by
  unfold headendref01_Times.f
  rw [w64 _ (by omega) (by omega), if_pos (by omega), if_pos (by omega), show (a.length : Int) + (b.length : Int) = ((a.length + b.length : Nat) : Int) from rfl, Int.toNat_natCast]
  exact Times_l0 a b ha hb hl hl' a.length 0 k _ rfl (by omega) hk (TO.start a b)
theorem times_l1 (a b : List Int) (ha : Dig a) (hb : Dig b) (hl : a.length < 8796093022208) (hl' : b.length < 8796093022208) (i : Nat) (hi : i < a.length) (X : Nat) (eX : rd a (i : Int) = (X : Int)) (hX : X < 4294967296) (R : Option (List Int)) (m : Nat)
    (hR : ∀ k u, m ≤ k → TO a b (i + 1) u → number_times.l0 k b u a (a.length : Int) ((i + 1 : Nat) : Int) = R) : ∀ (d j k : Nat) (u : List Int) (c : Nat), b.length - j = d → j ≤ b.length → m + d < k → TI a b i j u c →
    number_times.l1 k b u (i : Int) (X : Int) (c : Int) a (a.length : Int) (i : Int) b (b.length : Int) (j : Int) = R
  | 0, j, k, u, c, hd, hj, hk, h => by
    obtain ⟨k, rfl⟩ : ∃ m, k = m + 1 := ⟨k - 1, by omega⟩
    obtain rfl : j = b.length := by omega
    have hu := h.l
    have hc := h.cc
    have ho := h.outer hi
    simp only [number_times.l1]
    rw [if_neg (show ¬ ((b.length : Int) < (b.length : Int)) by omega), w64 _ (by omega) (by omega), if_pos (show (0 : Int) ≤ (i : Int) + (b.length : Int) by omega), if_pos (show (i : Int) + (b.length : Int) < (u.length : Int) by omega), w64n i (by omega), show (i : Int) + (b.length : Int) = ((i + b.length : Nat) : Int) from rfl, Int.toNat_natCast, show (c : Int) % 4294967296 = (c : Int) by omega]
    exact hR k _ (by omega) ho
  | d + 1, j, k, u, c, hd, hj, hk, h => by
    obtain ⟨k, rfl⟩ : ∃ m, k = m + 1 := ⟨k - 1, by omega⟩
    obtain ⟨Y, eY, hY⟩ := rd_toNat hb j
    obtain ⟨o, eo, ho⟩ := rd_toNat h.d (i + j)
    have hu := h.l
    obtain ⟨h1, h2, h3, h4⟩ := times_digit o X Y c ho hX hY h.cc
    have hst := h.step hi (by omega) o X Y eo eX eY ho hX hY
    simp only [number_times.l1]
    rw [if_pos (show (j : Int) < (b.length : Int) by omega), if_pos (show (0 : Int) ≤ (j : Int) by omega), if_pos (show (j : Int) < (b.length : Int) by omega), w64 ((i : Int) + (j : Int)) (by omega) (by omega), if_pos (show (0 : Int) ≤ (i : Int) + (j : Int) by omega), if_pos (show (i : Int) + (j : Int) < (u.length : Int) by omega), w64n j (by omega), show (i : Int) + (j : Int) = ((i + j : Nat) : Int) from rfl, eo, eY, Int.toNat_natCast,
      u64n X (by omega), u64n Y (by omega), show (X : Int) * (Y : Int) = ((X * Y : Nat) : Int) from (Int.natCast_mul X Y).symm, u64n (X * Y) h1, u64n o (by omega), show ((X * Y : Nat) : Int) + (o : Int) = ((o + X * Y : Nat) : Int) from Int.add_comm _ _, u64n (o + X * Y) h2, show ((o + X * Y : Nat) : Int) + (c : Int) = ((o + X * Y + c : Nat) : Int) from rfl, u64n (o + X * Y + c) h3]
    unfold number_halves_uint64_uint32.f
    rw [Option.bind_some]
    dsimp only
    rw [show ((o + X * Y + c : Nat) : Int) % 4294967296 = (((o + X * Y + c) % 4294967296 : Nat) : Int) from rfl, show ((o + X * Y + c : Nat) : Int) / 4294967296 = (((o + X * Y + c) / 4294967296 : Nat) : Int) from rfl]
    exact times_l1 a b ha hb hl hl' i hi X eX hX R m hR d (j + 1) k _ _ (by omega) (by omega) (by omega) hst
theorem times_l0 (a b : List Int) (ha : Dig a) (hb : Dig b) (hl : a.length < 8796093022208) (hl' : b.length < 8796093022208) : ∀ (d i k : Nat) (u : List Int), a.length - i = d → i ≤ a.length → d * (b.length + 2) + a.length + b.length + 1 < k → TO a b i u → number_times.l0 k b u a (a.length : Int) (i : Int) = some (digs (val a * val b))
  | 0, i, k, u, hd, hi, hk, h => by
    obtain ⟨k, rfl⟩ : ∃ m, k = m + 1 := ⟨k - 1, by omega⟩
    obtain rfl : i = a.length := by omega
    have hu := h.l
    simp only [number_times.l0]
    rw [if_neg (show ¬ ((a.length : Int) < (a.length : Int)) by omega), trim_f _ _ (by omega) (by omega), Option.bind_some, ← digs_val h.d, h.v, take_all (Nat.le_refl _)]
  | d + 1, i, k, u, hd, hi, hk, h => by
    obtain ⟨k, rfl⟩ : ∃ m, k = m + 1 := ⟨k - 1, by omega⟩
    have hi2 : i < a.length := by omega
    obtain ⟨X, eX, hX⟩ := rd_toNat ha i
    rw [Nat.add_mul] at hk
    simp only [number_times.l0]
    rw [if_pos (show (i : Int) < (a.length : Int) by omega), if_pos (show (0 : Int) ≤ (i : Int) by omega), if_pos (show (i : Int) < (a.length : Int) by omega), eX]
    exact times_l1 a b ha hb hl hl' i hi2 X eX hX _ (d * (b.length + 2) + a.length + b.length + 2) (fun k' u' hk' hu' => times_l0 a b ha hb hl hl' d (i + 1) k' u' (by omega) (by omega) (by omega) hu') b.length 0 k u 0 rfl (by omega) (by omega) h.inner
theorem times_f {a b : List Int} (ha : Dig a) (hb : Dig b) (k : Nat) (hl : a.length < 8796093022208) (hl' : b.length < 8796093022208) (hk : a.length * (b.length + 2) + a.length + b.length + 1 < k) : number_times.f k a b = some (digs (val a * val b)) := by
  unfold number_times.f
  rw [w64 _ (by omega) (by omega), if_pos (by omega), if_pos (by omega), show (a.length : Int) + (b.length : Int) = ((a.length + b.length : Nat) : Int) from rfl, Int.toNat_natCast]
  exact times_l0 a b ha hb hl hl' a.length 0 k _ rfl (by omega) hk (TO.start a b)
end Go.Proofs.Ythhgfogdeaaidaa.R
