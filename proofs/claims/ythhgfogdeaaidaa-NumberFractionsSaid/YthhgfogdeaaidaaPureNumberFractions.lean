/- NumberFractions, the plain law joined with the walk: fractions are the specification's. -/
import Derived.Test.YthhgfogdeaaidaaGfractions
import Derived.Test.YthhgfogdeaaidaaGfracref
import Derived.Test.YthhgfogdeaaidaaGapi
namespace Go.Proofs.Ythhgfogdeaaidaa.Pure
open Go Go.RowKit Go.Proofs.Ythhgfogdeaaidaa.R Go.Proofs.YthhgfogdeaaidaaW.PrintWords Go.Proofs.YthhgfogdeaaidaaW.PrintLast
set_option linter.unusedVariables false
theorem ratioS_len {a b : List Int} (ha : Dig a) (hb : Dig b) : (ratioS a b).1.length ≤ 16 ∧ (ratioS a b).2.1.length ≤ 16 := by
  unfold ratioS
  by_cases h : numOk a = true ∧ numOk b = true
  · rw [if_pos h]
    by_cases h0 : val b = 0
    · rw [if_pos h0]
      simp
    · rw [if_neg h0]
      have h1 := val_lt_pow ha (numOk_len h.1)
      have h2 := val_lt_pow hb (numOk_len h.2)
      exact ⟨digs_len16 (Nat.lt_of_le_of_lt (Nat.div_le_self _ _) h1), digs_len16 (Nat.lt_of_le_of_lt (Nat.div_le_self _ _) h2)⟩
  · rw [if_neg h]
    simp
theorem same_refl (a b : List Int) (k : Nat) (ha : a.length < 4611686018427387904) (hb : b.length < 4611686018427387904) (hk : a.length < k) (hk' : b.length < k) : headendref01_SameFraction.f k a b a b = some true := by
  rw [SameFraction_f a b a b k ha hb hk hk', decide_eq_true ⟨rfl, rfl⟩]
theorem fractions_all (A0 : Option Addr) (c0 : Nat) (l0 : List Int) (A1 : Option Addr) (c1 : Nat) (l1 : List Int) (A2 : Option Addr) (c2 : Nat) (l2 : List Int) (A3 : Option Addr) (c3 : Nat) (l3 : List Int) (A4 : Option Addr) (c4 : Nat) (l4 : List Int) (A5 : Option Addr) (c5 : Nat) (l5 : List Int) (w : World) (hL : Live w [(.slice A0 l0.length c0, l0), (.slice A1 l1.length c1, l1), (.slice A2 l2.length c2, l2), (.slice A3 l3.length c3, l3), (.slice A4 l4.length c4, l4), (.slice A5 l5.length c5, l5)])
    (d0 : Dig l0) (d1 : Dig l1) (d2 : Dig l2) (d3 : Dig l3) (d4 : Dig l4) (d5 : Dig l5) (y2 : l2.length * 4 ≤ 140737488351232) (y3 : l3.length * 4 ≤ 140737488351232) :
    Calls Try.prog 6 #[.slice A0 l0.length c0, .slice A1 l1.length c1, .agg #[.slice A2 l2.length c2, .slice A3 l3.length c3], .agg #[.slice A4 l4.length c4, .slice A5 l5.length c5]] w fun e w' => e = .returned (.bool true) ∧ Below w.heap.size w w' := by
  have hB : 0 < 4294967296 ^ 34 := by decide
  obtain ⟨k, hk⟩ : ∃ k, val l1 + val l3 + val l5 + 4294967296 ^ 34 + 200000000 + l2.length + l3.length = k := ⟨_, rfl⟩
  have ⟨r1, r2⟩ := ratioS_len d0 d1
  have R1 := number_Ratio_f d0 d1 k (by omega)
  have R2 := Ratio_f d0 d1 k (by omega)
  have K1 := CheckFr_f d2 d3 k (by omega)
  have K2 := CheckFraction_f d2 d3 k (by omega)
  obtain ⟨⟨⟨cn, ce⟩, C1, C2⟩, ⟨⟨an, ad, ae⟩, A1', A2', a1, a2⟩, ⟨⟨un, ud, ue⟩, M1, M2, m1, m2⟩⟩ := fractions_same d2 d3 d4 d5 k (by omega)
  have a1' : an.length ≤ 16 := a1
  have a2' : ad.length ≤ 16 := a2
  have m1' : un.length ≤ 16 := m1
  have m2' : ud.length ≤ 16 := m2
  obtain ⟨p1, P1⟩ := spoil_f an k (by omega) (by omega)
  obtain ⟨p2, P2⟩ := spoil_f ad k (by omega) (by omega)
  obtain ⟨p3, P3⟩ := spoil_f un k (by omega) (by omega)
  obtain ⟨p4, P4⟩ := spoil_f ud k (by omega) (by omega)
  refine fractions_walk k A0 c0 l0 A1 c1 l1 A2 c2 l2 A3 c3 l3 A4 c4 l4 A5 c5 l5 (ratioS l0 l1).1 (ratioS l0 l1).2.1 an ad un ud p1 p2 p3 p4 (ratioS l0 l1).2.2 _ cn ce ae ue w hL (twin_f l2 (by omega)) (twin_f l3 (by omega)) R1 R2 (same_refl _ _ k (by omega) (by omega) (by omega) (by omega)) K1 K2 C1 C2 A1' A2' (same_refl _ _ k (by omega) (by omega) (by omega) (by omega)) P1 P2 M1 M2 (same_refl _ _ k (by omega) (by omega) (by omega) (by omega)) P3 P4 (same_refl _ _ k (by omega) (by omega) (by omega) (by omega))
theorem vv_of_CF {W : World} {A : Option Addr} {c : Nat} {l : List Int} (h : Kd.C (Kd.int .u32) W A l.length l) (hc : l.length ≤ c) : VV W (.slice A l.length c) l :=
  Kd.V_mono (Kd.V_mk (e := 84) (base := 0) hc (Kd.C_F (Kd.heap_int .u32) h)) (fun _ _ => trivial)
theorem NumberFractions_walk (a0 : Option Addr) (len0 cap0 : Nat) (z0 : List Int) (a1 : Option Addr) (len1 cap1 : Nat) (z1 : List Int) (a2 : Option Addr) (len2 cap2 : Nat) (z2 : List Int) (a3 : Option Addr) (len3 cap3 : Nat) (z3 : List Int) (a4 : Option Addr) (len4 cap4 : Nat) (z4 : List Int) (a5 : Option Addr) (len5 cap5 : Nat) (z5 : List Int) (w : World) (w0 : (a0 = none ∧ len0 = 0 ∧ cap0 = 0 ∧ z0 = []) ∨ ∃ x, a0 = some x ∧ len0 ≤ cap0 ∧ cap0 ≤ maxLen ∧ z0.length = cap0 ∧ (∀ i, i < z0.length → w.cell? (x.add i) = some (.int .u32 (z0.getD i 0))) ∧ ∀ n ∈ z0, (Lit.int .u32 n).wf = true) (w1 : (a1 = none ∧ len1 = 0 ∧ cap1 = 0 ∧ z1 = []) ∨ ∃ x, a1 = some x ∧ len1 ≤ cap1 ∧ cap1 ≤ maxLen ∧ z1.length = cap1 ∧ (∀ i, i < z1.length → w.cell? (x.add i) = some (.int .u32 (z1.getD i 0))) ∧ ∀ n ∈ z1, (Lit.int .u32 n).wf = true) (w2 : (a2 = none ∧ len2 = 0 ∧ cap2 = 0 ∧ z2 = []) ∨ ∃ x, a2 = some x ∧ len2 ≤ cap2 ∧ cap2 ≤ maxLen ∧ z2.length = cap2 ∧ (∀ i, i < z2.length → w.cell? (x.add i) = some (.int .u32 (z2.getD i 0))) ∧ ∀ n ∈ z2, (Lit.int .u32 n).wf = true) (w3 : (a3 = none ∧ len3 = 0 ∧ cap3 = 0 ∧ z3 = []) ∨ ∃ x, a3 = some x ∧ len3 ≤ cap3 ∧ cap3 ≤ maxLen ∧ z3.length = cap3 ∧ (∀ i, i < z3.length → w.cell? (x.add i) = some (.int .u32 (z3.getD i 0))) ∧ ∀ n ∈ z3, (Lit.int .u32 n).wf = true) (w4 : (a4 = none ∧ len4 = 0 ∧ cap4 = 0 ∧ z4 = []) ∨ ∃ x, a4 = some x ∧ len4 ≤ cap4 ∧ cap4 ≤ maxLen ∧ z4.length = cap4 ∧ (∀ i, i < z4.length → w.cell? (x.add i) = some (.int .u32 (z4.getD i 0))) ∧ ∀ n ∈ z4, (Lit.int .u32 n).wf = true) (w5 : (a5 = none ∧ len5 = 0 ∧ cap5 = 0 ∧ z5 = []) ∨ ∃ x, a5 = some x ∧ len5 ≤ cap5 ∧ cap5 ≤ maxLen ∧ z5.length = cap5 ∧ (∀ i, i < z5.length → w.cell? (x.add i) = some (.int .u32 (z5.getD i 0))) ∧ ∀ n ∈ z5, (Lit.int .u32 n).wf = true) (y2 : len2 * 4 ≤ 140737488351232) (y3 : len3 * 4 ≤ 140737488351232) :
    Calls Try.prog 6 #[.slice a0 len0 cap0, .slice a1 len1 cap1, .agg #[.slice a2 len2 cap2, .slice a3 len3 cap3], .agg #[.slice a4 len4 cap4, .slice a5 len5 cap5]] w fun e w' => e = .returned (.bool true) ∧ Below w.heap.size w w' := by
  obtain ⟨l0, rfl, hr0, hm0, hw0, hc0⟩ := ReadsInt.ofRowC w0
  obtain ⟨l1, rfl, hr1, hm1, hw1, hc1⟩ := ReadsInt.ofRowC w1
  obtain ⟨l2, rfl, hr2, hm2, hw2, hc2⟩ := ReadsInt.ofRowC w2
  obtain ⟨l3, rfl, hr3, hm3, hw3, hc3⟩ := ReadsInt.ofRowC w3
  obtain ⟨l4, rfl, hr4, hm4, hw4, hc4⟩ := ReadsInt.ofRowC w4
  obtain ⟨l5, rfl, hr5, hm5, hw5, hc5⟩ := ReadsInt.ofRowC w5
  refine fractions_all _ _ l0 _ _ l1 _ _ l2 _ _ l3 _ _ l4 _ _ l5 w ?_ (Dig.of_wf hw0) (Dig.of_wf hw1) (Dig.of_wf hw2) (Dig.of_wf hw3) (Dig.of_wf hw4) (Dig.of_wf hw5) y2 y3
  intro p hp
  simp only [List.mem_cons, List.not_mem_nil, or_false] at hp
  rcases hp with rfl | rfl | rfl | rfl | rfl | rfl
  · exact vv_of_CF (Kd.C_of_reads (d := (0 : Int)) (h1 := fun _ => rfl) hr0) hc0
  · exact vv_of_CF (Kd.C_of_reads (d := (0 : Int)) (h1 := fun _ => rfl) hr1) hc1
  · exact vv_of_CF (Kd.C_of_reads (d := (0 : Int)) (h1 := fun _ => rfl) hr2) hc2
  · exact vv_of_CF (Kd.C_of_reads (d := (0 : Int)) (h1 := fun _ => rfl) hr3) hc3
  · exact vv_of_CF (Kd.C_of_reads (d := (0 : Int)) (h1 := fun _ => rfl) hr4) hc4
  · exact vv_of_CF (Kd.C_of_reads (d := (0 : Int)) (h1 := fun _ => rfl) hr5) hc5
end Go.Proofs.Ythhgfogdeaaidaa.Pure
