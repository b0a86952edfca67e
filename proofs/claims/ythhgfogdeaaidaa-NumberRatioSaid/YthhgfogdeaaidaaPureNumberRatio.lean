/- NumberRatio, the plain law joined with the walk: fractions are the rational numbers. -/
import Derived.Test.YthhgfogdeaaidaaGratio
import Derived.Test.YthhgfogdeaaidaaGfrac
namespace Go.Proofs.Ythhgfogdeaaidaa.Pure
open Go Go.RowKit Go.Proofs.Ythhgfogdeaaidaa.R Go.Proofs.YthhgfogdeaaidaaW.PrintWords Go.Proofs.YthhgfogdeaaidaaW.PrintLast
set_option linter.unusedVariables false
/-- What the two fractions are made of. -/
structure RatioFacts (k x1 x2 y1 y2 m a b c d : Nat) : Prop where
  mp : 0 < m
  e1 : a * d = x1 * y2 * m
  e2 : c * b = y1 * x2 * m
  e3 : b * d = x2 * y2 * m
  e4 : a * c = x1 * y1 * m
theorem ratio_facts (k : Nat) {a b c d : Nat} (hb : b ≠ 0) (hd : d ≠ 0) : RatioFacts k (a / Nat.gcd a b) (b / Nat.gcd a b) (c / Nat.gcd c d) (d / Nat.gcd c d) (Nat.gcd a b * Nat.gcd c d) a b c d := by
  obtain ⟨_, _, ea, eb⟩ := gcd_lowest (x := a) hb
  obtain ⟨_, _, ec, ed⟩ := gcd_lowest (x := c) hd
  have hg : 0 < Nat.gcd a b := Nat.pos_of_ne_zero (fun e => hb (Nat.eq_zero_of_gcd_eq_zero_right e))
  have hh : 0 < Nat.gcd c d := Nat.pos_of_ne_zero (fun e => hd (Nat.eq_zero_of_gcd_eq_zero_right e))
  generalize hG : Nat.gcd a b = g at *
  generalize hH : Nat.gcd c d = h at *
  have sw : ∀ x y : Nat, x * g * (y * h) = x * y * (g * h) := fun x y => by
    rw [Nat.mul_assoc, Nat.mul_left_comm g, ← Nat.mul_assoc]
  have sw2 : ∀ x y : Nat, x * h * (y * g) = x * y * (g * h) := fun x y => by
    rw [Nat.mul_assoc, Nat.mul_left_comm h, ← Nat.mul_assoc, Nat.mul_comm h g]
  refine ⟨Nat.mul_pos hg hh, ?_, ?_, ?_, ?_⟩
  · rw [← sw, ea, ed]
  · rw [← sw2, ec, eb]
  · rw [← sw, eb, ed]
  · rw [← sw, ea, ec]
theorem val_lt4 {l : List Int} (hd : Dig l) (h : ¬ 4 < l.length) : val l < 4294967296 ^ 4 := val_lt_pow hd (by omega)
theorem pow_le_le {m n : Nat} (h : m ≤ n) : 4294967296 ^ m ≤ 4294967296 ^ n := Nat.pow_le_pow_right (by decide) h
theorem ratio_all (A0 : Option Addr) (c0 : Nat) (l0 : List Int) (A1 : Option Addr) (c1 : Nat) (l1 : List Int) (A2 : Option Addr) (c2 : Nat) (l2 : List Int) (A3 : Option Addr) (c3 : Nat) (l3 : List Int) (w : World) (hL : Live w [(.slice A0 l0.length c0, l0), (.slice A1 l1.length c1, l1), (.slice A2 l2.length c2, l2), (.slice A3 l3.length c3, l3)])
    (d0 : Dig l0) (d1 : Dig l1) (d2 : Dig l2) (d3 : Dig l3) :
    Calls Try.prog 7 #[.slice A0 l0.length c0, .slice A1 l1.length c1, .slice A2 l2.length c2, .slice A3 l3.length c3] w fun e w' => e = .returned (.bool true) ∧ Below w.heap.size w w' := by
  have v0 := valid_f l0
  have v1 := valid_f l1
  have v2 := valid_f l2
  have v3 := valid_f l3
  by_cases n0 : numOk l0 = true
  case neg => exact ratio_guard0 A0 c0 l0 A1 c1 l1 A2 c2 l2 A3 c3 l3 w hL (by rw [v0]; simpa using n0)
  rw [n0] at v0
  by_cases n1 : numOk l1 = true
  case neg => exact ratio_guard1 A0 c0 l0 A1 c1 l1 A2 c2 l2 A3 c3 l3 w hL v0 (by rw [v1]; simpa using n1)
  rw [n1] at v1
  by_cases n2 : numOk l2 = true
  case neg => exact ratio_guard2 A0 c0 l0 A1 c1 l1 A2 c2 l2 A3 c3 l3 w hL v0 v1 (by rw [v2]; simpa using n2)
  rw [n2] at v2
  by_cases n3 : numOk l3 = true
  case neg => exact ratio_guard3 A0 c0 l0 A1 c1 l1 A2 c2 l2 A3 c3 l3 w hL v0 v1 v2 (by rw [v3]; simpa using n3)
  rw [n3] at v3
  by_cases z1 : l1.length = 0
  · exact ratio_guard4 A0 c0 l0 A1 c1 l1 A2 c2 l2 A3 c3 l3 w hL v0 v1 v2 v3 z1
  by_cases z3 : l3.length = 0
  · exact ratio_guard5 A0 c0 l0 A1 c1 l1 A2 c2 l2 A3 c3 l3 w hL v0 v1 v2 v3 z1 z3
  by_cases g0 : 4 < l0.length
  · exact ratio_guard6 A0 c0 l0 A1 c1 l1 A2 c2 l2 A3 c3 l3 w hL v0 v1 v2 v3 z1 z3 g0
  by_cases g1 : 4 < l1.length
  · exact ratio_guard7 A0 c0 l0 A1 c1 l1 A2 c2 l2 A3 c3 l3 w hL v0 v1 v2 v3 z1 z3 g0 g1
  by_cases g2 : 4 < l2.length
  · exact ratio_guard8 A0 c0 l0 A1 c1 l1 A2 c2 l2 A3 c3 l3 w hL v0 v1 v2 v3 z1 z3 g0 g1 g2
  by_cases g3 : 4 < l3.length
  · exact ratio_guard9 A0 c0 l0 A1 c1 l1 A2 c2 l2 A3 c3 l3 w hL v0 v1 v2 v3 z1 z3 g0 g1 g2 g3
  have ha4 := val_lt4 d0 g0
  have hb4 := val_lt4 d1 g1
  have hc4 := val_lt4 d2 g2
  have hd4 := val_lt4 d3 g3
  have ea := numOk_as d0 n0
  have eb := numOk_as d1 n1
  have ec := numOk_as d2 n2
  have ed := numOk_as d3 n3
  have hb0 : val l1 ≠ 0 := fun e => z1 (by rw [eb, e]; rfl)
  have hd0 : val l3 ≠ 0 := fun e => z3 (by rw [ed, e]; rfl)
  generalize val l0 = a at *
  generalize val l1 = b at *
  generalize val l2 = c at *
  generalize val l3 = d at *
  clear v0 v1 v2 v3
  have b4 : 4294967296 ^ 4 ≤ 4294967296 ^ 16 := pow_le_le (by decide)
  have b8 : 4294967296 ^ 8 ≤ 4294967296 ^ 16 := pow_le_le (by decide)
  have b9 : 4294967296 ^ 8 + 4294967296 ^ 8 ≤ 4294967296 ^ 16 := by decide
  obtain ⟨k, hk⟩ : ∃ k, 4294967296 ^ 16 + 1000000 = k := ⟨_, rfl⟩
  have RF := ratio_facts k (a := a) (c := c) hb0 hd0
  obtain ⟨x11, x20, xa, xb⟩ := gcd_lowest (x := a) hb0
  obtain ⟨y11, y20, ya, yb⟩ := gcd_lowest (x := c) hd0
  have lx1 : a / Nat.gcd a b ≤ a := Nat.div_le_self _ _
  have lx2 : b / Nat.gcd a b ≤ b := Nat.div_le_self _ _
  have ly1 : c / Nat.gcd c d ≤ c := Nat.div_le_self _ _
  have ly2 : d / Nat.gcd c d ≤ d := Nat.div_le_self _ _
  have r1 := ratioS_digs (x := a) (y := b) (by omega) (by omega) hb0
  have r2 := ratioS_digs (x := c) (y := d) (by omega) (by omega) hd0
  generalize a / Nat.gcd a b = x1 at *
  generalize b / Nat.gcd a b = x2 at *
  generalize c / Nat.gcd c d = y1 at *
  generalize d / Nat.gcd c d = y2 at *
  generalize Nat.gcd a b * Nat.gcd c d = m at *
  have s1 : x1 < 4294967296 ^ 4 := by omega
  have s2 : x2 < 4294967296 ^ 4 := by omega
  have s3 : y1 < 4294967296 ^ 4 := by omega
  have s4 : y2 < 4294967296 ^ 4 := by omega
  have p12 := len_mul (m := 4) (n := 4) s1 s4
  have p21 := len_mul (m := 4) (n := 4) s3 s2
  have p22 := len_mul (m := 4) (n := 4) s2 s4
  have p11 := len_mul (m := 4) (n := 4) s1 s3
  have q1 := len_mul (m := 4) (n := 4) ha4 hd4
  have q2 := len_mul (m := 4) (n := 4) hc4 hb4
  have q3 := len_mul (m := 4) (n := 4) hb4 hd4
  have q4 := len_mul (m := 4) (n := 4) ha4 hc4
  have l1' := digs_len16 (show x1 < 4294967296 ^ 16 by omega)
  have l2' := digs_len16 (show x2 < 4294967296 ^ 16 by omega)
  have l3' := digs_len16 (show y1 < 4294967296 ^ 16 by omega)
  have l4' := digs_len16 (show y2 < 4294967296 ^ 16 by omega)
  have k1 : number_CheckFraction.f k (digs x1) (digs x2) = some 0 := by
    rw [CheckFr_f (Dig.digs _) (Dig.digs _) k (by rw [val_digs]; omega), frOk_digs (by omega) (by omega) x20 x11, if_pos rfl]
  have k2 : number_CheckFraction.f k (digs y1) (digs y2) = some 0 := by
    rw [CheckFr_f (Dig.digs _) (Dig.digs _) k (by rw [val_digs]; omega), frOk_digs (by omega) (by omega) y20 y11, if_pos rfl]
  have t1 := times_digs x1 y2 k l1' l4' (by omega)
  have t2 := times_digs y1 x2 k l3' l2' (by omega)
  have t3 := times_digs x2 y2 k l2' l4' (by omega)
  have t4 := times_digs x1 y1 k l1' l3' (by omega)
  have hD0 : x2 * y2 ≠ 0 := Nat.mul_ne_zero x20 y20
  have hBD0 : b * d ≠ 0 := Nat.mul_ne_zero hb0 hd0
  -- sums and products in lowest terms
  have low : ∀ S : Nat, S < 4294967296 ^ 16 → (number_lowest.f k (digs S) (digs (x2 * y2)) = some (digs (S / Nat.gcd S (x2 * y2)), digs (x2 * y2 / Nat.gcd S (x2 * y2)))) ∧ number_bounded.f (digs (S / Nat.gcd S (x2 * y2))) (digs (x2 * y2 / Nat.gcd S (x2 * y2))) 0 = some (digs (S / Nat.gcd S (x2 * y2)), digs (x2 * y2 / Nat.gcd S (x2 * y2)), 0) := by
    intro S hS
    refine ⟨lowest_f (digs_len16 hS) (digs_len16 (by omega)) hD0 k (by omega), bounded_fit (digs_len16 ?_) (digs_len16 ?_)⟩
    · exact Nat.lt_of_le_of_lt (Nat.div_le_self _ _) hS
    · exact Nat.lt_of_le_of_lt (Nat.div_le_self _ _) (by omega)
  have up : ∀ S T : Nat, S < 4294967296 ^ 16 → T < 4294967296 ^ 16 → T = S * m → number_Ratio.f k (digs T) (digs (b * d)) = some (digs (S / Nat.gcd S (x2 * y2)), digs (x2 * y2 / Nat.gcd S (x2 * y2)), 0) := by
    intro S T hS hT hST
    have hs := lowest_scale (x := S) (y := x2 * y2) RF.mp
    rw [← hST, ← RF.e3] at hs
    rw [number_Ratio_f (Dig.digs _) (Dig.digs _) k (by rw [val_digs]; omega), ratioS_digs hT (by omega) hBD0, hs.1, hs.2]
  have hS1 : x1 * y2 + y1 * x2 < 4294967296 ^ 16 := by omega
  have hS2 : x1 * y1 < 4294967296 ^ 16 := by omega
  have hT1 : a * d + c * b < 4294967296 ^ 16 := by omega
  have hT2 : a * c < 4294967296 ^ 16 := by omega
  have eS : a * d + c * b = (x1 * y2 + y1 * x2) * m := by rw [RF.e1, RF.e2, Nat.add_mul]
  have cmpf : number_CompareFractions.f k (digs x1) (digs x2) (digs y1) (digs y2) = some (cmpN (x1 * y2) (y1 * x2), 0) := by
    unfold number_CompareFractions.f
    rw [k1, Option.bind_some, if_pos rfl, k2, Option.bind_some, if_pos rfl, t1, Option.bind_some, t2, Option.bind_some, order_digs, Option.bind_some]
  have addf : number_AddFractions.f k (digs x1) (digs x2) (digs y1) (digs y2) = some (digs ((x1 * y2 + y1 * x2) / Nat.gcd (x1 * y2 + y1 * x2) (x2 * y2)), digs (x2 * y2 / Nat.gcd (x1 * y2 + y1 * x2) (x2 * y2)), 0) := by
    unfold number_AddFractions.f
    rw [k1, Option.bind_some, if_pos rfl, k2, Option.bind_some, if_pos rfl, t1, Option.bind_some, t2, Option.bind_some, plus_digs _ _ k (Nat.le_trans (digs_len16 (by omega)) (by decide)) (Nat.le_trans (digs_len16 (by omega)) (by decide)) (by omega), Option.bind_some, t3, Option.bind_some, (low _ hS1).1, Option.bind_some]
    exact (low _ hS1).2
  have mulf : number_MulFractions.f k (digs x1) (digs x2) (digs y1) (digs y2) = some (digs (x1 * y1 / Nat.gcd (x1 * y1) (x2 * y2)), digs (x2 * y2 / Nat.gcd (x1 * y1) (x2 * y2)), 0) := by
    unfold number_MulFractions.f
    rw [k1, Option.bind_some, if_pos rfl, k2, Option.bind_some, if_pos rfl, t1, Option.bind_some, t2, Option.bind_some, t4, Option.bind_some, t3, Option.bind_some, (low _ hS2).1, Option.bind_some]
    exact (low _ hS2).2
  have same : ∀ S : Nat, S < 4294967296 ^ 16 → headendref01_SameFraction.f k (digs (S / Nat.gcd S (x2 * y2))) (digs (x2 * y2 / Nat.gcd S (x2 * y2))) (digs (S / Nat.gcd S (x2 * y2))) (digs (x2 * y2 / Nat.gcd S (x2 * y2))) = some true := by
    intro S hS
    have h1 := digs_len16 (Nat.lt_of_le_of_lt (Nat.div_le_self S (Nat.gcd S (x2 * y2))) hS)
    have h2 := digs_len16 (Nat.lt_of_le_of_lt (Nat.div_le_self (x2 * y2) (Nat.gcd S (x2 * y2))) (show x2 * y2 < 4294967296 ^ 16 by omega))
    rw [SameFraction_f _ _ _ _ k (by omega) (by omega) (by omega) (by omega), decide_eq_true ⟨rfl, rfl⟩]
  have hbo : ((cmpN (x1 * y2) (y1 * x2)) == 0) = decide (digs x1 = digs y1 ∧ digs x2 = digs y2) := by
    by_cases h : x1 * y2 = y1 * x2
    · obtain ⟨e1, e2⟩ := lowest_same x11 y11 x20 y20 h
      rw [h, cmpN_eq, decide_eq_true ⟨by rw [e1], by rw [e2]⟩]
      rfl
    · rw [decide_eq_false, beq_eq_false_iff_ne]
      · exact fun e => h (cmpN_zero.1 e)
      · rintro ⟨e1, e2⟩
        rw [digs_inj e1, digs_inj e2] at h
        exact h rfl
  have cmpm : number_Compare.f (digs (a * d)) (digs (c * b)) = some (cmpN (x1 * y2) (y1 * x2), 0) := by
    rw [number_Compare_f (Dig.digs _) (Dig.digs _), cmpS_digs (by omega) (by omega), RF.e1, RF.e2, cmpN_scale RF.mp]
  refine ratio_main k A0 c0 l0 A1 c1 l1 A2 c2 l2 A3 c3 l3 (digs x1) (digs x2) (digs y1) (digs y2) (digs (a * d)) (digs (c * b)) (digs (b * d)) (digs (a * c)) (digs (a * d + c * b))
    (digs ((x1 * y2 + y1 * x2) / Nat.gcd (x1 * y2 + y1 * x2) (x2 * y2))) (digs (x2 * y2 / Nat.gcd (x1 * y2 + y1 * x2) (x2 * y2))) _ _ (digs (x1 * y1 / Nat.gcd (x1 * y1) (x2 * y2))) (digs (x2 * y2 / Nat.gcd (x1 * y1) (x2 * y2))) _ _ _ _ w hL z1 z3 g0 g1 g2 g3 hbo
    (by rw [valid_f, n0]) (by rw [valid_f, n1]) (by rw [valid_f, n2]) (by rw [valid_f, n3]) ?_ ?_ ?_ ?_ ?_ ?_ ?_ k1 k2 cmpf cmpm ?_ addf (up _ _ hS1 hT1 eS) mulf (up _ _ hS2 hT2 RF.e4) (same _ hS1) (same _ hS2)
  · rw [ea, eb, number_Ratio_f (Dig.digs _) (Dig.digs _) k (by rw [val_digs]; omega), r1]
  · rw [ec, ed, number_Ratio_f (Dig.digs _) (Dig.digs _) k (by rw [val_digs]; omega), r2]
  · rw [ea, ed, number_Mul_f (Dig.digs _) (Dig.digs _) k (by omega), mulS_digs (by omega) (by omega) (by omega)]
  · rw [ec, eb, number_Mul_f (Dig.digs _) (Dig.digs _) k (by omega), mulS_digs (by omega) (by omega) (by omega)]
  · rw [eb, ed, number_Mul_f (Dig.digs _) (Dig.digs _) k (by omega), mulS_digs (by omega) (by omega) (by omega)]
  · rw [ea, ec, number_Mul_f (Dig.digs _) (Dig.digs _) k (by omega), mulS_digs (by omega) (by omega) (by omega)]
  · rw [number_Add_f (Dig.digs _) (Dig.digs _) k (by omega), addS_digs (by omega) (by omega) hT1]
  · rw [SameFraction_f _ _ _ _ k (by omega) (by omega) (by omega) (by omega)]
theorem vv_of_C {W : World} {A : Option Addr} {c : Nat} {l : List Int} (h : Kd.C (Kd.int .u32) W A l.length l) (hc : l.length ≤ c) : VV W (.slice A l.length c) l :=
  Kd.V_mono (Kd.V_mk (e := 84) (base := 0) hc (Kd.C_F (Kd.heap_int .u32) h)) (fun _ _ => trivial)
theorem NumberRatio_walk (a0 : Option Addr) (len0 cap0 : Nat) (z0 : List Int) (a1 : Option Addr) (len1 cap1 : Nat) (z1 : List Int) (a2 : Option Addr) (len2 cap2 : Nat) (z2 : List Int) (a3 : Option Addr) (len3 cap3 : Nat) (z3 : List Int) (w : World) (w0 : (a0 = none ∧ len0 = 0 ∧ cap0 = 0 ∧ z0 = []) ∨ ∃ x, a0 = some x ∧ len0 ≤ cap0 ∧ cap0 ≤ maxLen ∧ z0.length = cap0 ∧ (∀ i, i < z0.length → w.cell? (x.add i) = some (.int .u32 (z0.getD i 0))) ∧ ∀ n ∈ z0, (Lit.int .u32 n).wf = true) (w1 : (a1 = none ∧ len1 = 0 ∧ cap1 = 0 ∧ z1 = []) ∨ ∃ x, a1 = some x ∧ len1 ≤ cap1 ∧ cap1 ≤ maxLen ∧ z1.length = cap1 ∧ (∀ i, i < z1.length → w.cell? (x.add i) = some (.int .u32 (z1.getD i 0))) ∧ ∀ n ∈ z1, (Lit.int .u32 n).wf = true) (w2 : (a2 = none ∧ len2 = 0 ∧ cap2 = 0 ∧ z2 = []) ∨ ∃ x, a2 = some x ∧ len2 ≤ cap2 ∧ cap2 ≤ maxLen ∧ z2.length = cap2 ∧ (∀ i, i < z2.length → w.cell? (x.add i) = some (.int .u32 (z2.getD i 0))) ∧ ∀ n ∈ z2, (Lit.int .u32 n).wf = true) (w3 : (a3 = none ∧ len3 = 0 ∧ cap3 = 0 ∧ z3 = []) ∨ ∃ x, a3 = some x ∧ len3 ≤ cap3 ∧ cap3 ≤ maxLen ∧ z3.length = cap3 ∧ (∀ i, i < z3.length → w.cell? (x.add i) = some (.int .u32 (z3.getD i 0))) ∧ ∀ n ∈ z3, (Lit.int .u32 n).wf = true) :
    Calls Try.prog 7 #[.slice a0 len0 cap0, .slice a1 len1 cap1, .slice a2 len2 cap2, .slice a3 len3 cap3] w fun e w' => e = .returned (.bool true) ∧ Below w.heap.size w w' := by
  obtain ⟨l0, rfl, hr0, hm0, hw0, hc0⟩ := ReadsInt.ofRowC w0
  obtain ⟨l1, rfl, hr1, hm1, hw1, hc1⟩ := ReadsInt.ofRowC w1
  obtain ⟨l2, rfl, hr2, hm2, hw2, hc2⟩ := ReadsInt.ofRowC w2
  obtain ⟨l3, rfl, hr3, hm3, hw3, hc3⟩ := ReadsInt.ofRowC w3
  refine ratio_all _ _ l0 _ _ l1 _ _ l2 _ _ l3 w ?_ (Dig.of_wf hw0) (Dig.of_wf hw1) (Dig.of_wf hw2) (Dig.of_wf hw3)
  intro p hp
  simp only [List.mem_cons, List.not_mem_nil, or_false] at hp
  rcases hp with rfl | rfl | rfl | rfl
  · exact vv_of_C (Kd.C_of_reads (d := (0 : Int)) (h1 := fun _ => rfl) hr0) hc0
  · exact vv_of_C (Kd.C_of_reads (d := (0 : Int)) (h1 := fun _ => rfl) hr1) hc1
  · exact vv_of_C (Kd.C_of_reads (d := (0 : Int)) (h1 := fun _ => rfl) hr2) hc2
  · exact vv_of_C (Kd.C_of_reads (d := (0 : Int)) (h1 := fun _ => rfl) hr3) hc3
end Go.Proofs.Ythhgfogdeaaidaa.Pure

