/- NumberExamples, the plain law joined with the walk: the chapter's examples. -/
import Derived.Test.YthhgfogdeaaidaaGexamples
import Derived.Test.YthhgfogdeaaidaaGfrac
import Derived.Test.YthhgfogdeaaidaaGmod
namespace Go.Proofs.Ythhgfogdeaaidaa.Pure
open Go Go.RowKit Go.Proofs.Ythhgfogdeaaidaa.R Go.Proofs.YthhgfogdeaaidaaW.PrintWords Go.Proofs.YthhgfogdeaaidaaW.PrintLast
set_option linter.unusedVariables false
theorem fr_add (k x1 x2 y1 y2 : Nat) (hk : 4294967296 ^ 16 + 1000 ≤ k) (h1 : x1 < 1000) (h2 : x2 < 1000) (h3 : y1 < 1000) (h4 : y2 < 1000) (n2 : x2 ≠ 0) (n4 : y2 ≠ 0) (g1 : Nat.gcd x1 x2 = 1) (g2 : Nat.gcd y1 y2 = 1) :
    number_AddFractions.f k (digs x1) (digs x2) (digs y1) (digs y2) = some (digs ((x1 * y2 + y1 * x2) / Nat.gcd (x1 * y2 + y1 * x2) (x2 * y2)), digs (x2 * y2 / Nat.gcd (x1 * y2 + y1 * x2) (x2 * y2)), 0) ∧
    number_MulFractions.f k (digs x1) (digs x2) (digs y1) (digs y2) = some (digs (x1 * y1 / Nat.gcd (x1 * y1) (x2 * y2)), digs (x2 * y2 / Nat.gcd (x1 * y1) (x2 * y2)), 0) ∧
    number_CompareFractions.f k (digs x1) (digs x2) (digs y1) (digs y2) = some (cmpN (x1 * y2) (y1 * x2), 0) := by
  have hB : (100000000 : Nat) ≤ 4294967296 ^ 16 := by decide
  have p1 : x1 * y2 ≤ 1000 * 1000 := Nat.mul_le_mul (by omega) (by omega)
  have p2 : y1 * x2 ≤ 1000 * 1000 := Nat.mul_le_mul (by omega) (by omega)
  have p3 : x2 * y2 ≤ 1000 * 1000 := Nat.mul_le_mul (by omega) (by omega)
  have p4 : x1 * y1 ≤ 1000 * 1000 := Nat.mul_le_mul (by omega) (by omega)
  have l1' := digs_len16 (show x1 < 4294967296 ^ 16 by omega)
  have l2' := digs_len16 (show x2 < 4294967296 ^ 16 by omega)
  have l3' := digs_len16 (show y1 < 4294967296 ^ 16 by omega)
  have l4' := digs_len16 (show y2 < 4294967296 ^ 16 by omega)
  have k1 : number_CheckFraction.f k (digs x1) (digs x2) = some 0 := by
    rw [CheckFr_f (Dig.digs _) (Dig.digs _) k (by rw [val_digs]; omega), frOk_digs (by omega) (by omega) n2 g1, if_pos rfl]
  have k2 : number_CheckFraction.f k (digs y1) (digs y2) = some 0 := by
    rw [CheckFr_f (Dig.digs _) (Dig.digs _) k (by rw [val_digs]; omega), frOk_digs (by omega) (by omega) n4 g2, if_pos rfl]
  have t1 := times_digs x1 y2 k l1' l4' (by omega)
  have t2 := times_digs y1 x2 k l3' l2' (by omega)
  have t3 := times_digs x2 y2 k l2' l4' (by omega)
  have t4 := times_digs x1 y1 k l1' l3' (by omega)
  have hD0 : x2 * y2 ≠ 0 := Nat.mul_ne_zero n2 n4
  have low : ∀ S : Nat, S < 4294967296 ^ 16 → (number_lowest.f k (digs S) (digs (x2 * y2)) = some (digs (S / Nat.gcd S (x2 * y2)), digs (x2 * y2 / Nat.gcd S (x2 * y2)))) ∧ number_bounded.f (digs (S / Nat.gcd S (x2 * y2))) (digs (x2 * y2 / Nat.gcd S (x2 * y2))) 0 = some (digs (S / Nat.gcd S (x2 * y2)), digs (x2 * y2 / Nat.gcd S (x2 * y2)), 0) := by
    intro S hS
    refine ⟨lowest_f (digs_len16 hS) (digs_len16 (by omega)) hD0 k (by omega), bounded_fit (digs_len16 ?_) (digs_len16 ?_)⟩
    · exact Nat.lt_of_le_of_lt (Nat.div_le_self _ _) hS
    · exact Nat.lt_of_le_of_lt (Nat.div_le_self _ _) (by omega)
  refine ⟨?_, ?_, ?_⟩
  · unfold number_AddFractions.f
    rw [k1, Option.bind_some, if_pos rfl, k2, Option.bind_some, if_pos rfl, t1, Option.bind_some, t2, Option.bind_some, plus_digs _ _ k (Nat.le_trans (digs_len16 (by omega)) (by decide)) (Nat.le_trans (digs_len16 (by omega)) (by decide)) (by omega), Option.bind_some, t3, Option.bind_some, (low _ (by omega)).1, Option.bind_some]
    exact (low _ (by omega)).2
  · unfold number_MulFractions.f
    rw [k1, Option.bind_some, if_pos rfl, k2, Option.bind_some, if_pos rfl, t1, Option.bind_some, t2, Option.bind_some, t4, Option.bind_some, t3, Option.bind_some, (low _ (by omega)).1, Option.bind_some]
    exact (low _ (by omega)).2
  · unfold number_CompareFractions.f
    rw [k1, Option.bind_some, if_pos rfl, k2, Option.bind_some, if_pos rfl, t1, Option.bind_some, t2, Option.bind_some, order_digs, Option.bind_some]
theorem full_f (k : Nat) (hk : 20 ≤ k) : headendlaw01_full.f k = some (List.replicate 16 4294967295) :=
  leO_from (F := fun k => headendlaw01_full.f k) (fun k => headendlaw01_full.mono k) (k := 20) (by kernel_rfl) hk
theorem val_full : val (List.replicate 16 4294967295) = 4294967296 ^ 16 - 1 := by decide
theorem same_small (k x y : Nat) (hk : 1000 ≤ k) (hx : x < 4294967296 ^ 16) (hy : y < 4294967296 ^ 16) : headendref01_SameFraction.f k (digs x) (digs y) (digs x) (digs y) = some true := by
  have h1 := digs_len16 hx
  have h2 := digs_len16 hy
  rw [SameFraction_f _ _ _ _ k (by omega) (by omega) (by omega) (by omega), decide_eq_true ⟨rfl, rfl⟩]
theorem examples_all (w : World) : Calls Try.prog 9 #[] w fun e w' => e = .returned (.bool true) ∧ Below w.heap.size w w' := by
  obtain ⟨k, hk⟩ : ∃ k : Nat, 4294967296 ^ 16 + 2000 = k := ⟨_, rfl⟩
  have hB : (18446744073709551616 : Nat) ≤ 4294967296 ^ 16 := by decide
  have D1 : digs 1 = [1] := by decide
  have DS : digs 4294967295 = [4294967295] := digs_of_list _ _ (by decide) (by decide) (by decide)
  have D5 : digs 5 = [5] := by decide
  have ns17 : numOk ((List.replicate 17 (0 : Int)).set 16 1) = false := by decide
  have nh9 : numOk ((List.replicate 9 (0 : Int)).set 8 1) = true := by decide
  have dh9 : Dig ((List.replicate 9 (0 : Int)).set 8 1) := digB_dig (by decide)
  have vh9 : val ((List.replicate 9 (0 : Int)).set 8 1) = 4294967296 ^ 8 := by decide
  have dfl : Dig (List.replicate 16 4294967295) := digB_dig (by decide)
  have nfl : numOk (List.replicate 16 (4294967295 : Int)) = true := by decide
  have F := fun (a b : Nat) (h : a < 18446744073709551616) (h' : b < 18446744073709551616) => fraction_f a b h h'
  refine examples_walk k ((List.replicate 17 0).set 16 1) ((List.replicate 9 0).set 8 1) (digs 4294967296) (digs 1) (digs 2) (digs 4294967295) (List.replicate 16 4294967295) [4294967295] [1, 0] (digs 7) (digs 5) (digs 5) [5] (digs 9) (digs 0) (digs 1) (digs 5) (digs 6) (digs 1) (digs 2)
    (digs 1) (digs 2) (digs 1) (digs 3) (digs 2) (digs 3) (digs 3) (digs 4) (digs 2) (digs 5) (digs 0) (digs 1) (digs 5) (digs 6) w rfl rfl rfl rfl rfl
    (n_f 4294967296 (by decide)) (n_f 1 (by decide)) (n_f 2 (by decide)) ?_ ?_ (full_f k (by omega)) ?_ ?_ ?_ ?_ ?_ ?_ ?_ (n_f 7 (by decide)) ?_ (n_f 5 (by decide)) ?_ ?_ ?_ ?_ ?_ (n_f 9 (by decide)) ?_ ?_
    (F 1 2 (by decide) (by decide)) (F 1 3 (by decide) (by decide)) (F 2 3 (by decide) (by decide)) (F 3 4 (by decide) (by decide)) (F 2 5 (by decide) (by decide)) (F 0 1 (by decide) (by decide)) (F 5 6 (by decide) (by decide)) ?_ ?_ ?_ (same_small k 0 1 (by omega) (by decide) (by decide)) (same_small k 5 6 (by omega) (by decide) (by decide)) (same_small k 1 2 (by omega) (by decide) (by decide)) ?_ ?_ ?_ ?_ ?_ ?_ ?_ ?_ ?_
  · rw [number_Sub_f (Dig.digs _) (Dig.digs _) k (by omega), subS_ge (by decide) (by decide) (by decide)]
  · rw [number_Sub_f (Dig.digs _) (Dig.digs _) k (by omega), subS_lt (by decide) (by decide) (by decide)]
  · rw [number_Add_f dfl (Dig.digs _) k (by omega)]
    unfold addS
    rw [if_pos ⟨nfl, ok_digs (by decide)⟩, val_full, val_digs, limN_over (by decide)]
  · rw [number_Mul_f dh9 dh9 k (by omega)]
    unfold mulS
    rw [if_pos ⟨nh9, nh9⟩, vh9, limN_over (by decide)]
  · rw [DS, is_f _ _ k (by decide) (by simp; omega)]; rfl
  · rw [number_Check_f]; rfl
  · rw [number_Check_f]
    unfold checkS
    rw [ns17]; rfl
  · rw [number_Check_f]
    unfold checkS
    rw [if_pos nfl]
  · exact number_Of_f 0 k (by decide) (by omega)
  · rw [number_Div_f (Dig.digs _) Dig.nil]
    unfold divS
    rw [if_pos ⟨ok_digs (by decide), rfl⟩]
    rfl
  · rw [number_Gcd_f Dig.nil (Dig.digs _) k (by rw [val_digs]; omega)]
    exact congrArg some (gcdS_digs (x := 0) (y := 5) (by decide) (by decide))
  · have := number_Parse_f (⟨#[]⟩ : ByteArray) (by decide) k (by show 2 * 0 + 400 < k; omega)
    rw [show parseS (⟨#[]⟩ : ByteArray) = ([], 12) by decide] at this
    exact this
  · have := number_Parse_f (⟨#[48, 49]⟩ : ByteArray) (by decide) k (by show 2 * 2 + 400 < k; omega)
    rw [show parseS (⟨#[48, 49]⟩ : ByteArray) = ([], 12) by decide] at this
    exact this
  · have := number_Parse_f (⟨#[45, 49]⟩ : ByteArray) (by decide) k (by show 2 * 2 + 400 < k; omega)
    rw [show parseS (⟨#[45, 49]⟩ : ByteArray) = ([], 12) by decide] at this
    exact this
  · rw [D5, is_f _ _ k (by decide) (by simp; omega)]; rfl
  · rw [number_Ratio_f Dig.nil (Dig.digs _) k (by rw [val_digs]; omega)]
    exact congrArg some (ratioS_digs (x := 0) (y := 9) (by decide) (by decide) (by decide))
  · rw [number_Ratio_f (Dig.digs _) Dig.nil k (by show 0 < k; omega)]
    unfold ratioS
    rw [if_pos ⟨ok_digs (by decide), rfl⟩]
    rfl
  · exact (fr_add k 1 2 1 3 (by omega) (by decide) (by decide) (by decide) (by decide) (by decide) (by decide) (by decide) (by decide)).1
  · exact (fr_add k 2 3 3 4 (by omega) (by decide) (by decide) (by decide) (by decide) (by decide) (by decide) (by decide) (by decide)).2.1
  · exact (fr_add k 1 3 2 5 (by omega) (by decide) (by decide) (by decide) (by decide) (by decide) (by decide) (by decide) (by decide)).2.2
  · exact leO_from (F := fun k => number_PowMod.f k 2 0 1) (fun k => number_PowMod.mono _ _ _ k) (k := 20) (by kernel_rfl) (by omega)
  · exact leO_from (F := fun k => number_PowMod.f k 2 3 0) (fun k => number_PowMod.mono _ _ _ k) (k := 20) (by kernel_rfl) (by omega)
  · exact leO_from (F := fun k => number_InvMod.f k 2 4) (fun k => number_InvMod.mono _ _ k) (k := 20) (by kernel_rfl) (by omega)
  · exact leO_from (F := fun k => number_InvMod.f k 0 1) (fun k => number_InvMod.mono _ _ k) (k := 20) (by kernel_rfl) (by omega)
  · exact leO_from (F := fun k => number_Prime.f k 1) (fun k => number_Prime.mono _ k) (k := 20) (by kernel_rfl) (by omega)
  · exact leO_from (F := fun k => number_Prime.f k 1048573) (fun k => number_Prime.mono _ k) (k := 1100) (by kernel_rfl) (by omega)
  · exact leO_from (F := fun k => number_Prime.f k 1048576) (fun k => number_Prime.mono _ k) (k := 20) (by kernel_rfl) (by omega)
  · exact leO_from (F := fun k => number_CheckGroup.f k 23 11 1) (fun k => number_CheckGroup.mono _ _ _ k) (k := 40) (by kernel_rfl) (by omega)
  · exact leO_from (F := fun k => number_CheckGroup.f k 23 22 5) (fun k => number_CheckGroup.mono _ _ _ k) (k := 40) (by kernel_rfl) (by omega)
end Go.Proofs.Ythhgfogdeaaidaa.Pure

