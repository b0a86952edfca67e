/- Plain: what the shift before a long division makes of the two numbers. -/
import Derived.Test.YthhgfogdeaaidaaR0
import Derived.Test.YthhgfogdeaaidaaGknuth
namespace Go.Proofs.Ythhgfogdeaaidaa.R
open Go.Proofs.YthhgfogdeaaidaaW.PrintWords
set_option linter.unusedVariables false
theorem val_top1 (l : List Int) (k : Nat) (hl : l.length = k + 1) : val l = val (l.take k) + 4294967296 ^ k * (rd l (k : Int)).toNat := by
  have := val_take_succ l k (by omega)
  rwa [List.take_of_length_le (by omega)] at this
theorem pow_split (s : Nat) (hs : s < 32) : ∃ e, 2 ^ s * e = 4294967296 ∧ 2 ≤ e := by
  refine ⟨2 ^ (32 - s), ?_, ?_⟩
  · rw [← Nat.pow_add, show s + (32 - s) = 32 by omega]
  · have := Nat.pow_le_pow_right (n := 2) (by omega) (show 1 ≤ 32 - s by omega)
    simpa using this
theorem top_room {t s : Nat} (hs : s < 32) (h : t * 2 ^ s < 4294967296) : (t + 1) * 2 ^ s ≤ 4294967296 := by
  obtain ⟨e, he, h2⟩ := pow_split s hs
  have h0 : 0 < 2 ^ s := Nat.pow_pos (by omega)
  rw [← he, Nat.mul_comm (2 ^ s) e] at h ⊢
  exact Nat.mul_le_mul_right _ (Nat.lt_of_mul_lt_mul_right h)
theorem norm_divisor {b r : List Int} {k s : Nat} (hs : s < 32) (hb : Dig b) (hl : b.length = k + 2) (hlo : 2147483648 ≤ (rd b ((k + 1 : Nat) : Int)).toNat * 2 ^ s) (hhi : (rd b ((k + 1 : Nat) : Int)).toNat * 2 ^ s < 4294967296)
    (hr : Dig r) (hv : val r = val b * 2 ^ s) : Divisor k (trimL r) ∧ val (trimL r) = val b * 2 ^ s := by
  have hV : val (trimL r) = val b * 2 ^ s := (val_trimL r).trans hv
  have hd : Dig (trimL r) := hr.trimL
  have ht := val_top1 b (k + 1) hl
  have htl : val (b.take (k + 1)) < 4294967296 ^ (k + 1) := by
    have := val_lt (hb.take (k + 1))
    rwa [List.length_take, hl, Nat.min_eq_left (by omega)] at this
  have hroom := top_room hs hhi
  have e2 : (4294967296 : Nat) ^ (k + 2) = 4294967296 ^ (k + 1) * 4294967296 := Nat.pow_succ ..
  have hpos : 0 < (4294967296 : Nat) ^ (k + 1) := Nat.pow_pos (by decide)
  have hup : val b * 2 ^ s < 4294967296 ^ (k + 2) := by
    rw [e2]
    generalize (4294967296 : Nat) ^ (k + 1) = R at *
    generalize (rd b ((k + 1 : Nat) : Int)).toNat = t at *
    have h1 : val b < R * (t + 1) := by rw [ht, Nat.mul_add, Nat.mul_one, Nat.add_comm]; exact Nat.add_lt_add_left htl _
    have h2 : val b * 2 ^ s < R * (t + 1) * 2 ^ s := Nat.mul_lt_mul_of_pos_right h1 (Nat.pow_pos (by decide))
    have h3 : R * ((t + 1) * 2 ^ s) ≤ R * 4294967296 := Nat.mul_le_mul_left _ hroom
    rw [Nat.mul_assoc] at h2
    exact Nat.lt_of_lt_of_le h2 h3
  have hdn : 4294967296 ^ (k + 1) * 2147483648 ≤ val b * 2 ^ s := by
    generalize (4294967296 : Nat) ^ (k + 1) = R at *
    generalize (rd b ((k + 1 : Nat) : Int)).toNat = t at *
    have h1 : R * t ≤ val b := by rw [ht]; exact Nat.le_add_left _ _
    have h2 : R * t * 2 ^ s ≤ val b * 2 ^ s := Nat.mul_le_mul_right _ h1
    have h3 : R * 2147483648 ≤ R * (t * 2 ^ s) := Nat.mul_le_mul_left _ hlo
    rw [Nat.mul_assoc] at h2
    exact Nat.le_trans h3 h2
  have hlen : (trimL r).length = k + 2 := by
    have e3 : trimL r = digs (val b * 2 ^ s) := by rw [← hv, digs_val hr]
    have l1 := digs_length_le _ _ hup
    have l2 := digs_length_gt (val b * 2 ^ s) (k + 1) (Nat.le_trans (Nat.le_mul_of_pos_right _ (by decide)) hdn)
    rw [e3]
    exact Nat.le_antisymm l1 l2
  refine ⟨⟨hd, hlen, ?_⟩, hV⟩
  have ht2 := val_top1 (trimL r) (k + 1) hlen
  have htl2 : val ((trimL r).take (k + 1)) < 4294967296 ^ (k + 1) := by
    have := val_lt (hd.take (k + 1))
    rwa [List.length_take, hlen, Nat.min_eq_left (by omega)] at this
  have hx := hd.rdok ((k + 1 : Nat) : Int)
  rw [hV] at ht2
  rw [ht2] at hdn
  have : 2147483648 < (rd (trimL r) ((k + 1 : Nat) : Int)).toNat + 1 := by
    generalize (4294967296 : Nat) ^ (k + 1) = R at *
    generalize (rd (trimL r) ((k + 1 : Nat) : Int)).toNat = T at *
    have h4 : R * 2147483648 < R * (T + 1) := by rw [Nat.mul_add R T, Nat.mul_one]; exact Nat.lt_of_le_of_lt hdn (by rw [Nat.add_comm]; exact Nat.add_lt_add_left htl2 _)
    exact Nat.lt_of_mul_lt_mul_left h4
  omega
theorem LD.start {b a V U : List Int} {k s m : Nat} (hs : s < 32) (hD : Divisor k V) (hU : Dig U) (hl : U.length = m + (k + 2)) (hv : val U = val a * 2 ^ s) (ht : (rd U ((m + (k + 1) : Nat) : Int)).toNat < 2 ^ s) :
    LD (val a * 2 ^ s) m k V m U (List.replicate m 0) := by
  refine ⟨hU, hl, Dig.replicate _, by simp, Nat.le_refl _, ?_, by rw [val_replicate, Nat.mul_zero, Nat.add_zero, hv], fun i _ => by simp [rd, List.getElem?_replicate]; split <;> rfl⟩
  have hdl : (U.drop m).length = k + 1 + 1 := by rw [List.length_drop]; omega
  have h1 := val_top1 (U.drop m) (k + 1) hdl
  have h2 : val ((U.drop m).take (k + 1)) < 4294967296 ^ (k + 1) := by
    have := val_lt ((hU.drop m).take (k + 1))
    rwa [List.length_take, hdl, Nat.min_eq_left (by omega)] at this
  rw [rd_drop] at h1
  have h3 := val_top1 V (k + 1) hD.l
  have h4 := hD.t
  have h5 : (2 : Nat) ^ s ≤ 2147483648 := by
    have := Nat.pow_le_pow_right (n := 2) (by omega) (show s ≤ 31 by omega)
    exact Nat.le_trans this (by decide)
  have h6 : 2147483648 ≤ (rd V ((k + 1 : Nat) : Int)).toNat := by omega
  rw [h1, h3]
  generalize (4294967296 : Nat) ^ (k + 1) = R at *
  generalize (rd V ((k + 1 : Nat) : Int)).toNat = T at *
  generalize (rd U ((m + (k + 1) : Nat) : Int)).toNat = t at *
  have h7 : R * (t + 1) ≤ R * T := Nat.mul_le_mul_left _ (by omega)
  rw [Nat.mul_add, Nat.mul_one] at h7
  exact Nat.lt_of_lt_of_le (by rw [Nat.add_comm]; exact Nat.add_lt_add_left h2 _) (Nat.le_trans h7 (Nat.le_add_left _ _))
theorem unshift_div (a b s : Nat) (hb : 0 < b) : a * 2 ^ s / (b * 2 ^ s) = a / b ∧ a * 2 ^ s % (b * 2 ^ s) / 2 ^ s = a % b := by
  have h0 : 0 < 2 ^ s := Nat.pow_pos (by decide)
  refine ⟨Nat.mul_div_mul_right _ _ h0, ?_⟩
  rw [Nat.mul_mod_mul_right, Nat.mul_div_cancel _ h0]
end Go.Proofs.Ythhgfogdeaaidaa.R
