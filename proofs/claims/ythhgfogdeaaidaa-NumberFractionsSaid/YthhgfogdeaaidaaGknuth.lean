/- Plain: long division by digits: the estimate of a quotient's digit, and a round of the division. -/
import Derived.Test.YthhgfogdeaaidaaR0
import Derived.Test.YthhgfogdeaaidaaGsub
namespace Go.Proofs.Ythhgfogdeaaidaa.R
open Go.Proofs.YthhgfogdeaaidaaW.PrintWords
set_option linter.unusedVariables false
structure Top (P V W high top next T : Nat) : Prop where
  v : ∃ vl, V = (top * 4294967296 + next) * W + vl ∧ vl < W
  p : ∃ pl, P = (high * 4294967296 + T) * W + pl ∧ pl < W
  t0 : 2147483648 ≤ top
  t1 : top < 4294967296
  n1 : next < 4294967296
  p1 : T < 4294967296
  hi : high ≤ top * 4294967296 + 4294967295
  lt : P < 4294967296 * V
  w0 : 0 < W
def Est (P V high top x r : Nat) : Prop := x * top + r = high ∧ P / V ≤ x
theorem Top.v0 {P V W high top next T : Nat} (h : Top P V W high top next T) : 0 < V := by
  obtain ⟨vl, e, _⟩ := h.v
  have h1 := h.t0
  have h2 := h.w0
  have h3 : 1 * 1 ≤ (top * 4294967296 + next) * W := Nat.mul_le_mul (by omega) h2
  omega
theorem Top.start {P V W high top next T : Nat} (h : Top P V W high top next T) : Est P V high top (high / top) (high % top) := by
  have h0 := h.v0
  have ht : 0 < top := by have := h.t0; omega
  refine ⟨by rw [Nat.mul_comm]; exact Nat.div_add_mod high top, ?_⟩
  rw [Nat.le_div_iff_mul_le ht]
  obtain ⟨vl, ev, _⟩ := h.v
  obtain ⟨pl, ep, hpl⟩ := h.p
  have h1 : P / V * V ≤ P := Nat.div_mul_le_self P V
  have hT := h.p1
  have h2 : P / V * top * (4294967296 * W) ≤ P / V * V := by
    rw [Nat.mul_assoc]
    refine Nat.mul_le_mul_left _ ?_
    rw [ev, ← Nat.mul_assoc, Nat.add_mul]; omega
  have h3 : P < (high + 1) * (4294967296 * W) := by
    have e1 : (high * 4294967296 + T + 1) * W ≤ (high + 1) * 4294967296 * W := Nat.mul_le_mul_right _ (by omega)
    rw [ep, ← Nat.mul_assoc]
    rw [Nat.add_mul (high * 4294967296 + T) 1 W, Nat.one_mul] at e1
    omega
  have h4 : P / V * top * (4294967296 * W) < (high + 1) * (4294967296 * W) := by omega
  have h5 := Nat.lt_of_mul_lt_mul_right h4
  omega
theorem Top.q_lt {P V W high top next T : Nat} (h : Top P V W high top next T) : P / V < 4294967296 := Nat.div_lt_of_lt_mul (by rw [Nat.mul_comm]; exact h.lt)
theorem Est.down {P V W high top next T x r : Nat} (h : Top P V W high top next T) (e : Est P V high top x r) (hf : ¬ (x < 4294967296 ∧ x * next ≤ r * 4294967296 + T)) : 1 ≤ x ∧ Est P V high top (x - 1) (r + top) := by
  have hq := h.q_lt
  have h0 := h.v0
  obtain ⟨e1, e2⟩ := e
  have hne : P / V ≠ x := by
    intro hx
    refine hf ⟨by omega, ?_⟩
    obtain ⟨vl, ev, _⟩ := h.v
    obtain ⟨pl, ep, hpl⟩ := h.p
    have h1 : x * V ≤ P := by rw [← hx]; exact Nat.div_mul_le_self P V
    have h2 : x * ((top * 4294967296 + next) * W) ≤ x * V := Nat.mul_le_mul_left _ (by omega)
    have h3 : x * (top * 4294967296 + next) * W < (high * 4294967296 + T + 1) * W := by
      rw [Nat.mul_assoc, Nat.add_mul (high * 4294967296 + T) 1 W, Nat.one_mul]; omega
    have h4 := Nat.lt_of_mul_lt_mul_right h3
    have h5 : x * (top * 4294967296 + next) = x * top * 4294967296 + x * next := by rw [Nat.mul_add, Nat.mul_assoc]
    have h6 : high * 4294967296 = x * top * 4294967296 + r * 4294967296 := by rw [← e1, Nat.add_mul]
    rw [h5, h6] at h4
    omega
  have hx1 : 1 ≤ x := by generalize P / V = q at hne e2; omega
  refine ⟨hx1, ?_, by generalize P / V = q at hne e2; omega⟩
  obtain ⟨y, rfl⟩ : ∃ y, x = y + 1 := ⟨x - 1, by omega⟩
  rw [Nat.add_sub_cancel, ← e1, Nat.add_mul, Nat.one_mul]; omega
theorem Est.over {P V W high top next T x r : Nat} (h : Top P V W high top next T) (e : Est P V high top x r) (hr : 4294967296 ≤ r) : x < 4294967296 ∧ x * next ≤ r * 4294967296 + T := by
  obtain ⟨e1, e2⟩ := e
  have hh := h.hi
  have h1 : x * top < 4294967296 * top := by rw [Nat.mul_comm 4294967296]; omega
  have h2 := Nat.lt_of_mul_lt_mul_right h1
  refine ⟨h2, ?_⟩
  have h3 : x * next ≤ 4294967296 * 4294967296 := Nat.mul_le_mul (by omega) (by have := h.n1; omega)
  have h4 : 4294967296 * 4294967296 ≤ r * 4294967296 := Nat.mul_le_mul_right _ hr
  omega
theorem Est.done {P V W high top next T x r : Nat} (h : Top P V W high top next T) (e : Est P V high top x r) (ht : x < 4294967296 ∧ x * next ≤ r * 4294967296 + T) : x < 4294967296 ∧ (x = P / V ∨ x = P / V + 1) := by
  obtain ⟨e1, e2⟩ := e
  have h0 := h.v0
  obtain ⟨vl, ev, hvl⟩ := h.v
  obtain ⟨pl, ep, hpl⟩ := h.p
  obtain ⟨h1, h2⟩ := ht
  refine ⟨h1, ?_⟩
  have h3 : x * (top * 4294967296 + next) ≤ high * 4294967296 + T := by
    rw [Nat.mul_add, ← Nat.mul_assoc, ← e1, Nat.add_mul]; omega
  have h4 : x * (top * 4294967296 + next) * W ≤ P := by
    have := Nat.mul_le_mul_right W h3
    omega
  have h5 : x * vl ≤ 4294967296 * W := Nat.mul_le_mul (by omega) (by omega)
  have h6 : 4294967296 * W ≤ V := by
    rw [ev]
    have : 4294967296 * W ≤ (top * 4294967296 + next) * W := Nat.mul_le_mul_right _ (by have := h.t0; omega)
    omega
  have h7 : x * V ≤ P + V := by
    have e3 : x * V = x * (top * 4294967296 + next) * W + x * vl := by rw [ev, Nat.mul_add, Nat.mul_assoc]
    omega
  have h8 : x ≤ P / V + 1 := by
    have : (x - 1) * V ≤ P := by
      rcases Nat.eq_zero_or_pos x with hx | hx
      · subst hx; simp
      · obtain ⟨y, rfl⟩ : ∃ y, x = y + 1 := ⟨x - 1, by omega⟩
        rw [Nat.add_mul, Nat.one_mul] at h7
        rw [Nat.add_sub_cancel]; omega
    have := (Nat.le_div_iff_mul_le h0).2 this
    omega
  omega
theorem digit_exact {P V x b P' Z : Nat} (h0 : 0 < V) (hx : x = P / V ∨ x = P / V + 1) (hP' : P' < Z) (hV : V < Z) (hb : b ≤ 1) (h : P' + x * V = P + Z * b) :
    (b = 0 → x = P / V ∧ P' = P % V) ∧ (b = 1 → x = P / V + 1 ∧ ∀ P'' c, c ≤ 1 → P'' < Z → P'' + Z * c = P' + V → P'' = P % V) := by
  have hd := Nat.div_add_mod P V
  have hm := Nat.mod_lt P h0
  rw [Nat.mul_comm] at hd
  constructor
  · rintro rfl
    have hx2 : x = P / V := by
      rcases hx with hx | hx
      · exact hx
      · exfalso
        rw [hx, Nat.add_mul] at h
        omega
    refine ⟨hx2, ?_⟩
    rw [hx2] at h
    omega
  · rintro rfl
    have hx2 : x = P / V + 1 := by
      rcases hx with hx | hx
      · exfalso
        rw [hx] at h
        omega
      · exact hx
    refine ⟨hx2, fun P'' c hc hP'' e => ?_⟩
    rw [hx2, Nat.add_mul] at h
    have : c = 0 ∨ c = 1 := by omega
    rcases this with rfl | rfl <;> omega
theorem val_top2 (l : List Int) (k : Nat) (hl : l.length = k + 2) : val l = ((rd l ((k + 1 : Nat) : Int)).toNat * 4294967296 + (rd l (k : Int)).toNat) * 4294967296 ^ k + val (l.take k) := by
  have e : l.take (k + 1 + 1) = l := by rw [show k + 1 + 1 = l.length by omega, List.take_length]
  conv => lhs; rw [← e]
  rw [val_take_succ _ _ (by omega), val_take_succ _ _ (by omega), Nat.pow_succ, Nat.add_mul, Nat.mul_comm (4294967296 ^ k) 4294967296, Nat.mul_right_comm, Nat.mul_comm (4294967296 ^ k) (rd l (k : Int)).toNat, Nat.mul_comm 4294967296]
  omega
theorem val_top3 (l : List Int) (k : Nat) (hl : l.length = k + 3) : val l = (((rd l ((k + 2 : Nat) : Int)).toNat * 4294967296 + (rd l ((k + 1 : Nat) : Int)).toNat) * 4294967296 + (rd l (k : Int)).toNat) * 4294967296 ^ k + val (l.take k) := by
  have e : l.take (k + 2 + 1) = l := by rw [show k + 2 + 1 = l.length by omega, List.take_length]
  conv => lhs; rw [← e]
  rw [val_take_succ _ _ (by omega), val_top2 (l.take (k + 2)) k (by rw [List.length_take]; omega)]
  have e1 : rd (l.take (k + 2)) ((k + 1 : Nat) : Int) = rd l ((k + 1 : Nat) : Int) := by
    rw [rd_nat _ _ (by rw [List.length_take]; omega), rd_nat _ _ (by omega), List.getElem_take]
  have e2 : rd (l.take (k + 2)) (k : Int) = rd l (k : Int) := by
    rw [rd_nat _ _ (by rw [List.length_take]; omega), rd_nat _ _ (by omega), List.getElem_take]
  rw [e1, e2, List.take_take, Nat.min_eq_left (by omega), Nat.pow_add, show (4294967296 : Nat) ^ 2 = 4294967296 * 4294967296 by decide]
  generalize (rd l ((k + 2 : Nat) : Int)).toNat = a
  generalize (rd l ((k + 1 : Nat) : Int)).toNat = b
  generalize (rd l (k : Int)).toNat = c
  generalize 4294967296 ^ k = W
  have : ((a * 4294967296 + b) * 4294967296 + c) * W = (b * 4294967296 + c) * W + W * (4294967296 * 4294967296) * a := by
    rw [Nat.add_mul (a * 4294967296) b, Nat.add_assoc, Nat.add_mul, Nat.mul_comm W, Nat.mul_assoc (4294967296 * 4294967296), Nat.mul_comm W a, ← Nat.mul_assoc, Nat.mul_comm (4294967296 * 4294967296) a, Nat.mul_assoc a]
    omega
  omega
structure LD (S m k : Nat) (v : List Int) (j : Nat) (U Q : List Int) : Prop where
  dU : Dig U
  lU : U.length = m + (k + 2)
  dQ : Dig Q
  lQ : Q.length = m
  jm : j ≤ m
  lt : val (U.drop j) < val v
  eq : val U + val v * val Q = S
  z : ∀ i : Nat, i < j → rd Q (i : Int) = 0
structure Divisor (k : Nat) (v : List Int) : Prop where
  d : Dig v
  l : v.length = k + 2
  t : 2147483648 ≤ rd v ((k + 1 : Nat) : Int)
def partOf (k idx : Nat) (U : List Int) : List Int := (U.drop idx).take (k + 3)
theorem rd_drop (l : List Int) (i j : Nat) : rd (l.drop i) (j : Int) = rd l ((i + j : Nat) : Int) := by
  simp only [rd, Int.toNat_natCast, List.getD_eq_getElem?_getD, List.getElem?_drop]
theorem rd_take (l : List Int) (i j : Nat) (h : j < i) : rd (l.take i) (j : Int) = rd l (j : Int) := by
  simp only [rd, Int.toNat_natCast, List.getD_eq_getElem?_getD]
  rw [List.getElem?_take_of_lt h]
theorem LD.zero_above {S m k : Nat} {v U Q : List Int} {idx : Nat} (hv : Divisor k v) (h : LD S m k v (idx + 1) U Q) : val (U.drop (idx + (k + 3))) = 0 := by
  have h1 := h.lt
  have h2 := val_lt hv.d
  have hjm := h.jm
  have hlU := h.lU
  rw [hv.l] at h2
  have h3 := val_take_drop (U.drop (idx + 1)) (k + 2) (by rw [List.length_drop]; omega)
  rw [List.drop_drop, show idx + 1 + (k + 2) = idx + (k + 3) by omega] at h3
  rcases Nat.eq_zero_or_pos (val (U.drop (idx + (k + 3)))) with h4 | h4
  · exact h4
  · exfalso
    have : 4294967296 ^ (k + 2) * 1 ≤ 4294967296 ^ (k + 2) * val (U.drop (idx + (k + 3))) := Nat.mul_le_mul_left _ h4
    omega
theorem LD.part_val {S m k : Nat} {v U Q : List Int} {idx : Nat} (hv : Divisor k v) (h : LD S m k v (idx + 1) U Q) : val (partOf k idx U) = val (U.drop idx) := by
  have hjm := h.jm
  have hlU := h.lU
  have h3 := val_take_drop (U.drop idx) (k + 3) (by rw [List.length_drop]; omega)
  rw [List.drop_drop, h.zero_above hv] at h3
  rw [h3, Nat.mul_zero, Nat.add_zero]; rfl
theorem LD.part_length {S m k : Nat} {v U Q : List Int} {idx : Nat} (h : LD S m k v (idx + 1) U Q) : (partOf k idx U).length = k + 3 := by
  have hjm := h.jm
  have hlU := h.lU
  rw [partOf, List.length_take, List.length_drop]; omega
theorem hi_le {a b c top next W V P vl pl : Nat} (hV : V = (top * 4294967296 + next) * W + vl) (hvl : vl < W) (hP : P = ((a * 4294967296 + b) * 4294967296 + c) * W + pl) (hn : next < 4294967296) (hlt : P < 4294967296 * V) : a * 4294967296 + b ≤ top * 4294967296 + 4294967295 := by
  have h6 : V < (top * 4294967296 + 4294967296) * W := by
    have : (top * 4294967296 + next + 1) * W ≤ (top * 4294967296 + 4294967296) * W := Nat.mul_le_mul_right _ (by omega)
    rw [Nat.add_mul (top * 4294967296 + next) 1, Nat.one_mul] at this
    omega
  have h5 : ((a * 4294967296 + b) * 4294967296) * W ≤ P := by
    rw [hP, Nat.add_mul ((a * 4294967296 + b) * 4294967296) c]; omega
  have h8 : (top * 4294967296 + 4294967296) * 4294967296 * W = 4294967296 * ((top * 4294967296 + 4294967296) * W) := by
    rw [Nat.mul_comm (top * 4294967296 + 4294967296) 4294967296, Nat.mul_assoc]
  have h4 : ((a * 4294967296 + b) * 4294967296) * W < (top * 4294967296 + 4294967296) * 4294967296 * W := by
    rw [h8]; omega
  have h9 := Nat.lt_of_mul_lt_mul_right h4
  omega
theorem LD.top {S m k : Nat} {v U Q : List Int} {idx : Nat} (hv : Divisor k v) (h : LD S m k v (idx + 1) U Q) :
    Top (val (partOf k idx U)) (val v) (4294967296 ^ k) ((rd U ((idx + (k + 2) : Nat) : Int)).toNat * 4294967296 + (rd U ((idx + (k + 1) : Nat) : Int)).toNat) (rd v ((k + 1 : Nat) : Int)).toNat (rd v (k : Int)).toNat (rd U ((idx + k : Nat) : Int)).toNat := by
  have hjm := h.jm
  have hlU := h.lU
  have hp := h.part_val hv
  have hl := h.part_length
  have hV := val_top2 v k hv.l
  have hP := val_top3 (partOf k idx U) k hl
  have hd : Dig (partOf k idx U) := (h.dU.drop idx).take _
  have e1 : ∀ i : Nat, i < k + 3 → rd (partOf k idx U) (i : Int) = rd U ((idx + i : Nat) : Int) := fun i hi => by
    rw [partOf, rd_take _ _ _ hi, rd_drop]
  rw [e1 (k + 2) (by omega), e1 (k + 1) (by omega), e1 k (by omega)] at hP
  have hv1 := hv.d.rdok ((k + 1 : Nat) : Int)
  have hv2 := hv.d.rdok (k : Int)
  have hu1 := h.dU.rdok ((idx + (k + 2) : Nat) : Int)
  have hu2 := h.dU.rdok ((idx + (k + 1) : Nat) : Int)
  have hu3 := h.dU.rdok ((idx + k : Nat) : Int)
  have ht := hv.t
  have vl : val (v.take k) < 4294967296 ^ k := by
    have := val_lt (hv.d.take k)
    rwa [List.length_take, hv.l, Nat.min_eq_left (by omega)] at this
  have pl : val ((partOf k idx U).take k) < 4294967296 ^ k := by
    have := val_lt (hd.take k)
    rwa [List.length_take, hl, Nat.min_eq_left (by omega)] at this
  have hlt : val (partOf k idx U) < 4294967296 * val v := by
    rw [hp, val_drop U idx (by omega)]
    have h1 := h.lt
    have h2 := h.dU.rdok (idx : Int)
    have : 4294967296 * (val (U.drop (idx + 1)) + 1) ≤ 4294967296 * val v := Nat.mul_le_mul_left _ h1
    omega
  exact ⟨⟨_, hV, vl⟩, ⟨_, hP, pl⟩, by omega, by omega, by omega, by omega, hi_le hV vl hP (by omega) hlt, hlt, Nat.pos_of_ne_zero (by simp)⟩
theorem LD.round {S m k : Nat} {v U Q : List Int} {idx : Nat} (hv : Divisor k v) (h : LD S m k v (idx + 1) U Q) (p : List Int) (hp : Dig p) (hpl : p.length = k + 3) (hpv : val p = val (partOf k idx U) % val v) :
    LD S m k v idx (U.take idx ++ p ++ U.drop (idx + (k + 3))) (Q.set idx ((val (partOf k idx U) / val v : Nat) : Int)) := by
  have hjm := h.jm
  have hlU := h.lU
  have hlQ := h.lQ
  have hT := h.top hv
  have hq := hT.q_lt
  have h0 := hT.v0
  have hz := h.zero_above hv
  have hpart := h.part_val hv
  have hlt : (U.take idx).length = idx := by rw [List.length_take]; omega
  have hdm := Nat.div_add_mod (val (partOf k idx U)) (val v)
  have hml := Nat.mod_lt (val (partOf k idx U)) h0
  refine ⟨((h.dU.take _).append hp).append (h.dU.drop _), ?_, h.dQ.set _ (Int.natCast_nonneg _) (Int.ofNat_lt.2 hq), by simp [hlQ], by omega, ?_, ?_, ?_⟩
  · simp only [List.length_append, hlt, hpl, List.length_drop]; omega
  · rw [List.append_assoc, List.drop_left' hlt, val_append, hz, hpv]; simpa using hml
  · have e1 := val_set Q idx ((val (partOf k idx U) / val v : Nat) : Int) (by omega)
    rw [h.z idx (by omega)] at e1
    rw [Int.toNat_zero, Nat.mul_zero, Nat.add_zero, Int.toNat_natCast] at e1
    have e2 := val_take_drop U idx (by omega)
    have e3 := h.eq
    rw [e1, List.append_assoc, val_append, val_append, hz, hlt, hpv]
    rw [e2, ← hpart] at e3
    rw [Nat.mul_zero, Nat.add_zero, Nat.mul_add]
    have e4 : 4294967296 ^ idx * val (partOf k idx U) = 4294967296 ^ idx * (val (partOf k idx U) % val v) + val v * (4294967296 ^ idx * (val (partOf k idx U) / val v)) := by
      conv => lhs; rw [← hdm]
      rw [Nat.mul_add, Nat.mul_left_comm]; omega
    omega
  · intro i hi
    rw [rd_set_ne _ _ _ _ (by omega)]
    exact h.z i (by omega)
theorem LD.final {S m k : Nat} {v U Q : List Int} (h : LD S m k v 0 U Q) : val Q = S / val v ∧ val U = S % val v := by
  have h1 := h.lt
  rw [List.drop_zero] at h1
  have h2 := h.eq
  have h3 : 0 < val v := by omega
  constructor
  · rw [← h2, Nat.add_mul_div_left _ _ h3, Nat.div_eq_of_lt h1, Nat.zero_add]
  · rw [← h2, Nat.add_mul_mod_self_left, Nat.mod_eq_of_lt h1]
end Go.Proofs.Ythhgfogdeaaidaa.R
