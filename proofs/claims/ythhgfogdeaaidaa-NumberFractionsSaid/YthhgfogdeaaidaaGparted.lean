/- number.parted: the quotient and the rest of two numbers, the second of which is not 0, in new memory. -/
import Derived.Test.YthhgfogdeaaidaaR0
import Derived.Test.YthhgfogdeaaidaaGplong
namespace Go.Proofs.Ythhgfogdeaaidaa.R
open Go.RowKit Go.Proofs.YthhgfogdeaaidaaW.PrintWords Go.Proofs.YthhgfogdeaaidaaW.PrintLast Go.Proofs.YthhgfogdeaaidaaW.PrintMore
set_option linter.unusedVariables false
set_option linter.unusedSimpArgs false
theorem number_parted.calls (A0 : Option Addr) (c0 : Nat) (l0 : List Int) (A1 : Option Addr) (c1 : Nat) (l1 : List Int) (r1 : List Int) (r2 : List Int) (w : World) (hr0 : Kd.C (Kd.int .u32) w A0 l0.length l0) (hc0 : l0.length ≤ c0) (hr1 : Kd.C (Kd.int .u32) w A1 l1.length l1) (hc1 : l1.length ≤ c1) (h : number_parted.f l0 l1 = some (r1, r2)) :
    Calls Try.prog 75 #[.slice A0 l0.length c0, .slice A1 l1.length c1] w fun e w' => ∃ v0_ v1_ : Value, e = .returned (.tuple #[v0_, v1_]) ∧ Kd.R (Kd.int .u32) 84 w' w.heap.size (fun k_ => some k_ ≠ v1_.ownBlock) v0_ r1 ∧ Kd.R (Kd.int .u32) 84 w' w.heap.size (fun k_ => some k_ ≠ v0_.ownBlock) v1_ r2 ∧ Below w.heap.size w w' := by
  unfold number_parted.f at h
  split at h
  case isFalse => exact absurd h (by simp)
  case isTrue hp =>
  have h1 := Option.some.inj h
  obtain ⟨rfl, rfl⟩ := Prod.mk.inj h1
  clear h h1
  simp only [partOk, Bool.and_eq_true, beq_iff_eq, Bool.not_eq_true', List.isEmpty_eq_false_iff, decide_eq_true_eq] at hp
  obtain ⟨⟨⟨⟨⟨⟨hd0, hd1⟩, ht0⟩, ht1⟩, hne⟩, hl0⟩, hl1⟩ := hp
  have hd0 := digB_dig hd0
  have hd1 := digB_dig hd1
  have ho := order_val hd0 hd1 ht0 ht1
  have hlast := last_of_trimL hne ht1
  by_cases hlt : val l0 < val l1
  · have hq : cmpN (val l0) (val l1) < 0 := by unfold cmpN; rw [if_pos hlt]; decide
    refine (parted_less A0 c0 l0 A1 c1 l1 w hr0 hc0 hr1 hc1 _ ho hq hl0).mono ?_
    rintro e w' ⟨v, rfl, hv, hb⟩
    refine ⟨_, _, rfl, ?_, ?_, hb⟩
    · rw [Nat.div_eq_of_lt hlt, digs_zero]
      exact Kd.R_nil _ _ _ _ _
    · rw [Nat.mod_eq_of_lt hlt, digs_val_of hd0 ht0]
      exact Kd.R_mono hv (fun _ _ e => by simp [Value.ownBlock] at e)
  · have hq : 0 ≤ cmpN (val l0) (val l1) := by
      unfold cmpN
      rw [if_neg hlt]
      split <;> decide
    have hpos := List.length_pos_iff.2 hne
    by_cases h1 : l1.length = 1
    · have hb : 0 < rd l1 0 := by
        have h2 := (hd1.rdok 0).1
        rw [h1] at hlast
        have h3 : rd l1 0 ≠ 0 := hlast
        omega
      have hv : val l1 = (rd l1 0).toNat := by
        match l1, h1 with
        | [x], _ => simp [val, rd]
      rw [hv]
      exact (callsIn_wide (n := 5)).1 (parted_one Fence.wide 5 trivial trivial trivial trivial trivial trivial rfl (by decide) rfl A0 c0 l0 A1 c1 l1 w hr0 hc0 hr1 hc1 _ ho hq hl0 h1 hd0 hd1 hb)
    · obtain ⟨k, hk⟩ : ∃ k, l1.length = k + 2 := ⟨l1.length - 2, by omega⟩
      have hb : 0 < rd l1 ((k + 1 : Nat) : Int) := by
        have h2 := (hd1.rdok ((k + 1 : Nat) : Int)).1
        rw [hk] at hlast
        have h3 : ((k + 2 : Nat) : Int) - 1 = ((k + 1 : Nat) : Int) := by omega
        rw [h3] at hlast
        omega
      have hle : l1.length ≤ l0.length := by
        rcases Nat.lt_or_ge l0.length l1.length with h | h
        · exact absurd (val_lt_of_shorter hd0 hd1 ht1 h) hlt
        · exact h
      exact parted_long A0 c0 l0 A1 c1 l1 w hr0 hc0 hr1 hc1 _ ho hq hl0 k hk (by omega) hle hd0 hd1 hb
end Go.Proofs.Ythhgfogdeaaidaa.R
