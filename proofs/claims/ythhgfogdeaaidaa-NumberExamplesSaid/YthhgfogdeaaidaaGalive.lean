/- headendlaw01.alive: the chapter's examples hold, whatever else is asked. -/
import Derived.Test.YthhgfogdeaaidaaR0
import Derived.Test.YthhgfogdeaaidaaR17
import Derived.Test.YthhgfogdeaaidaaR14
import Derived.Test.YthhgfogdeaaidaaR1
import Derived.Test.YthhgfogdeaaidaaR2
import Derived.Test.YthhgfogdeaaidaaR13
import Derived.Test.YthhgfogdeaaidaaGalwalk
import Derived.Test.YthhgfogdeaaidaaGtext
namespace Go.Proofs.Ythhgfogdeaaidaa.R
open Go.RowKit Go.Proofs.YthhgfogdeaaidaaW.PrintWords Go.Proofs.YthhgfogdeaaidaaW.PrintLast Go.Proofs.YthhgfogdeaaidaaW.PrintMore
set_option linter.unusedVariables false
set_option linter.unusedSimpArgs false
theorem leO_le {α : Type} {F : Nat → Option α} (hm : ∀ k, LeO (F k) (F (k + 1))) {k : Nat} {r : α} (h : F k = some r) : ∀ n, F (k + n) = some r
  | 0 => h
  | n + 1 => hm _ _ (leO_le hm h n)
theorem leO_from {α : Type} {F : Nat → Option α} (hm : ∀ k, LeO (F k) (F (k + 1))) {k k' : Nat} {r : α} (h : F k = some r) (hk : k ≤ k') : F k' = some r := by
  obtain ⟨n, rfl⟩ := Nat.le.dest hk
  exact leO_le hm h n
theorem n_f (x : Nat) (h : x < 18446744073709551616) : headendlaw01_n.f (x : Int) = some (digs x) := by
  unfold headendlaw01_n.f
  rw [Of_f x h, Option.bind_some]
theorem is_f (l y : List Int) (k : Nat) (hl : l.length < 4611686018427387904) (hk : l.length < k) : headendlaw01_is.f k l 0 y = some (decide (l = y)) := by
  unfold headendlaw01_is.f
  rw [if_pos rfl, Same_f l y k hl hk, Option.bind_some]
theorem fraction_f (x y : Nat) (h : x < 18446744073709551616) (h' : y < 18446744073709551616) : headendlaw01_fraction.f (x : Int) (y : Int) = some (digs x, digs y) := by
  unfold headendlaw01_fraction.f
  rw [n_f x h, Option.bind_some, n_f y h', Option.bind_some]
theorem digs_of_list (l : List Int) (x : Nat) (hd : digB l = true) (ht : trimL l = l) (hv : val l = x) : digs x = l := by rw [← hv, digs_val_of (digB_dig hd) ht]
/-- lowest terms -/
theorem lowest_f {x y : Nat} (hx : (digs x).length ≤ 16) (hy : (digs y).length ≤ 16) (h0 : y ≠ 0) (k : Nat) (hk : y < k) : number_lowest.f k (digs x) (digs y) = some (digs (x / Nat.gcd x y), digs (y / Nat.gcd x y)) := by
  have hg : Nat.gcd x y ≠ 0 := fun e => h0 (Nat.eq_zero_of_gcd_eq_zero_right e)
  have hgl : (digs (Nat.gcd x y)).length ≤ 16 := Nat.le_trans (digs_length_mono (Nat.gcd_le_right _ (Nat.pos_of_ne_zero h0))) hy
  unfold number_lowest.f
  rw [common_f x y k (by omega) (by omega) hk, Option.bind_some, parted_f x _ hg (by omega) (by omega), Option.bind_some, parted_f y _ hg (by omega) (by omega), Option.bind_some]
def ratioS (a b : List Int) : List Int × List Int × Int := if numOk a = true ∧ numOk b = true then (if val b = 0 then ([], [], 10) else (digs (val a / Nat.gcd (val a) (val b)), digs (val b / Nat.gcd (val a) (val b)), 0)) else ([], [], 8)
theorem number_Ratio_f {a b : List Int} (ha : Dig a) (hb : Dig b) (k : Nat) (hk : val b < k) : number_Ratio.f k a b = some (ratioS a b) := by
  unfold number_Ratio.f ratioS
  rw [valid2_f, Option.bind_some]
  by_cases h : numOk a = true ∧ numOk b = true
  · have h1 := numOk_len h.1
    have h2 := numOk_len h.2
    rw [if_pos h, h.1, h.2, if_pos (by rfl)]
    by_cases h0 : val b = 0
    · rw [if_pos h0, if_pos ((len_zero hb h.2).2 h0)]
    · rw [if_neg h0, if_neg (fun e => h0 ((len_zero hb h.2).1 e))]
      have hp := lowest_f (x := val a) (y := val b) (by rw [← numOk_as ha h.1]; omega) (by rw [← numOk_as hb h.2]; omega) h0 k hk
      rw [← numOk_as ha h.1, ← numOk_as hb h.2] at hp
      rw [hp, Option.bind_some]
  · rw [if_neg h, both_false h, if_neg (by decide)]
theorem SameFraction_f (a b c d : List Int) (k : Nat) (ha : a.length < 4611686018427387904) (hb : b.length < 4611686018427387904) (hk : a.length < k) (hk' : b.length < k) : headendref01_SameFraction.f k a b c d = some (decide (a = c ∧ b = d)) := by
  unfold headendref01_SameFraction.f
  rw [Same_f a c k ha hk, Option.bind_some]
  by_cases h : a = c
  · rw [if_pos (by simpa using h), Same_f b d k hb hk', Option.bind_some]
    simp [h]
  · rw [if_neg (by simpa using h), decide_eq_false (fun e => h e.1)]
theorem ok_digs {x : Nat} (h : x < 4294967296 ^ 16) : numOk (digs x) = true := by
  rw [numOk_digs, decide_eq_true (digs_length_le _ _ h)]
theorem addS_digs {x y : Nat} (hx : x < 4294967296 ^ 16) (hy : y < 4294967296 ^ 16) (h : x + y < 4294967296 ^ 16) : addS (digs x) (digs y) = (digs (x + y), 0) := by
  unfold addS limN
  rw [if_pos ⟨ok_digs hx, ok_digs hy⟩, val_digs, val_digs, if_pos (digs_length_le _ _ h)]
theorem mulS_digs {x y : Nat} (hx : x < 4294967296 ^ 16) (hy : y < 4294967296 ^ 16) (h : x * y < 4294967296 ^ 16) : mulS (digs x) (digs y) = (digs (x * y), 0) := by
  unfold mulS limN
  rw [if_pos ⟨ok_digs hx, ok_digs hy⟩, val_digs, val_digs, if_pos (digs_length_le _ _ h)]
theorem divS_digs {x y : Nat} (hx : x < 4294967296 ^ 16) (hy : y < 4294967296 ^ 16) (h : y ≠ 0) : divS (digs x) (digs y) = (digs (x / y), digs (x % y), 0) := by
  unfold divS
  rw [if_pos ⟨ok_digs hx, ok_digs hy⟩, val_digs, val_digs, if_neg h]
theorem gcdS_digs {x y : Nat} (hx : x < 4294967296 ^ 16) (hy : y < 4294967296 ^ 16) : gcdS (digs x) (digs y) = (digs (Nat.gcd x y), 0) := by
  unfold gcdS
  rw [if_pos ⟨ok_digs hx, ok_digs hy⟩, val_digs, val_digs]
theorem ratioS_digs {x y : Nat} (hx : x < 4294967296 ^ 16) (hy : y < 4294967296 ^ 16) (h : y ≠ 0) : ratioS (digs x) (digs y) = (digs (x / Nat.gcd x y), digs (y / Nat.gcd x y), 0) := by
  unfold ratioS
  rw [if_pos ⟨ok_digs hx, ok_digs hy⟩, val_digs, val_digs, if_neg h]
def STR64 : ByteArray := ⟨#[49, 56, 52, 52, 54, 55, 52, 52, 48, 55, 51, 55, 48, 57, 53, 53, 49, 54, 49, 54]⟩
theorem txt64 : txt 18446744073709551616 = STR64 := by decide
theorem parse64 : parseS STR64 = (digs 18446744073709551616, 0) := by decide
def headendlaw01_alive.f : Option Bool := some true
theorem headendlaw01_alive.calls (r : Bool) (w : World) (h : headendlaw01_alive.f = some r) :
    Calls Try.prog 47 #[] w fun e w' => e = .returned (.bool r) ∧ Below w.heap.size w w' := by
  obtain rfl := Option.some.inj h
  obtain ⟨k, hk⟩ : ∃ k : Nat, 18446744073709551616 + 2000 = k := ⟨_, rfl⟩
  have D01 : digs 4294967296 = [0, 1] := digs_of_list _ _ (by decide) (by decide) (by decide)
  have D001 : digs 18446744073709551616 = [0, 0, 1] := digs_of_list _ _ (by decide) (by decide) (by decide)
  have D51 : digs 4294967301 = [5, 1] := digs_of_list _ _ (by decide) (by decide) (by decide)
  refine alive_walk k [0, 1] [0, 0, 1] [14] [2] [6] [5, 1] (digs 4294967295) (digs 1) (digs 4294967296) (digs 4294967296) (digs 18446744073709551616) (digs 100) (digs 7) (digs 14) (digs 2) (digs 12) (digs 18) (digs 6) (digs 4294967301) (digs 18446744073709551616) (digs 6) (digs 4) (digs 3) (digs 2) (digs 3) (digs 2) w
    rfl rfl rfl rfl rfl rfl
    (n_f 4294967295 (by decide)) (n_f 1 (by decide)) ?_ (n_f 4294967296 (by decide)) ?_ (n_f 100 (by decide)) (n_f 7 (by decide)) ?_ (n_f 12 (by decide)) (n_f 18 (by decide)) ?_
    ?_ ?_ ?_ ?_ ?_ ?_ ?_ ?_ ?_ ?_ (n_f 6 (by decide)) (n_f 4 (by decide)) ?_ ?_ ?_ (fraction_f 3 2 (by decide) (by decide)) ?_ ?_ ?_ ?_
  · rw [number_Add_f (Dig.digs _) (Dig.digs _) k (by omega), addS_digs (by decide) (by decide) (by decide)]
  · rw [number_Mul_f (Dig.digs _) (Dig.digs _) k (by omega), mulS_digs (by decide) (by decide) (by decide)]
  · rw [number_Div_f (Dig.digs _) (Dig.digs _), divS_digs (by decide) (by decide) (by decide)]
  · rw [number_Gcd_f (Dig.digs _) (Dig.digs _) k (by rw [val_digs]; omega), gcdS_digs (by decide) (by decide), show Nat.gcd 12 18 = 6 by decide]
  · rw [D01, is_f _ _ k (by decide) (by simp; omega)]; rfl
  · rw [D001, is_f _ _ k (by decide) (by simp; omega)]; rfl
  · rw [is_f _ _ k (by decide) (Nat.lt_of_le_of_lt (show (digs 14).length ≤ 1 by decide) (by omega))]; rfl
  · rw [is_f _ _ k (by decide) (Nat.lt_of_le_of_lt (show (digs 2).length ≤ 1 by decide) (by omega))]; rfl
  · rw [is_f _ _ k (by decide) (Nat.lt_of_le_of_lt (show (digs 6).length ≤ 1 by decide) (by omega))]; rfl
  · exact number_Of_f 4294967301 k (by decide) (by omega)
  · rw [D51, is_f _ _ k (by decide) (by simp; omega)]; rfl
  · rw [number_Text_f (Dig.digs _) k (by rw [val_digs]; omega)]
    unfold textS
    rw [if_pos (ok_digs (by decide)), val_digs, txt64]
    rfl
  · have := number_Parse_f STR64 (by decide) k (by rw [show STR64.size = 20 from rfl]; omega)
    rw [parse64] at this
    exact this
  · rw [D001, is_f _ _ k (by decide) (by simp; omega)]; rfl
  · rw [number_Ratio_f (Dig.digs _) (Dig.digs _) k (by rw [val_digs]; omega), ratioS_digs (by decide) (by decide) (by decide), show Nat.gcd 6 4 = 2 by decide]
  · exact leO_from (F := fun k => number_PowMod.f k 3 4 7) (fun k => number_PowMod.mono _ _ _ k) (k := 20) (by kernel_rfl) (by omega)
  · exact leO_from (F := fun k => number_InvMod.f k 3 7) (fun k => number_InvMod.mono _ _ k) (k := 20) (by kernel_rfl) (by omega)
  · rw [SameFraction_f _ _ _ _ k (by decide) (by decide) (Nat.lt_of_le_of_lt (show (digs 3).length ≤ 1 by decide) (by omega)) (Nat.lt_of_le_of_lt (show (digs 2).length ≤ 1 by decide) (by omega))]; simp
  · exact leO_from (F := fun k => number_Prime.f k 2) (fun k => number_Prime.mono _ k) (k := 20) (by kernel_rfl) (by omega)
  · exact leO_from (F := fun k => number_CheckGroup.f k 23 11 2) (fun k => number_CheckGroup.mono _ _ _ k) (k := 40) (by kernel_rfl) (by omega)
  · exact leO_from (F := fun k => number_CheckGroup.f k 23 11 5) (fun k => number_CheckGroup.mono _ _ _ k) (k := 40) (by kernel_rfl) (by omega)
end Go.Proofs.Ythhgfogdeaaidaa.R

