/- headendref01.trim: the digits without the zeros at their end, in new memory, for a slice of fewer than 2^45 digits. -/
import Derived.Test.YthhgfogdeaaidaaR0
namespace Go.Proofs.Ythhgfogdeaaidaa.R
open Go.RowKit Go.Proofs.YthhgfogdeaaidaaW.PrintWords Go.Proofs.YthhgfogdeaaidaaW.PrintLast Go.Proofs.YthhgfogdeaaidaaW.PrintMore
set_option linter.unusedVariables false
set_option linter.unusedSimpArgs false
def trimL : List Int → List Int
  | [] => []
  | x :: xs => if trimL xs = [] then (if x = 0 then [] else [x]) else x :: trimL xs
theorem trimL_snoc_zero (l : List Int) : trimL (l ++ [0]) = trimL l := by
  induction l with
  | nil => simp [trimL]
  | cons x xs ih => simp only [List.cons_append, trimL, ih]
theorem trimL_snoc (l : List Int) (x : Int) (h : x ≠ 0) : trimL (l ++ [x]) = l ++ [x] := by
  induction l with
  | nil => simp [trimL, h]
  | cons y ys ih => simp [trimL, ih]
theorem trimL_take_zero (l : List Int) (n : Nat) (h : n < l.length) (hz : rd l (n : Int) = 0) : trimL (l.take (n + 1)) = trimL (l.take n) := by
  rw [List.take_succ_eq_append_getElem h]
  have : l[n] = 0 := by simpa [rd, List.getElem?_eq_getElem h] using hz
  rw [this, trimL_snoc_zero]
theorem trimL_take (l : List Int) (n : Nat) (h : n < l.length) (hz : rd l (n : Int) ≠ 0) : trimL (l.take (n + 1)) = l.take (n + 1) := by
  rw [List.take_succ_eq_append_getElem h]
  refine trimL_snoc _ _ ?_
  intro e
  exact hz (by simpa [rd, List.getElem?_eq_getElem h] using e)
def headendref01_trim.f (l0 : List Int) : Option (List Int) := if l0.length < 35184372088832 then some (trimL l0) else none
theorem C_take_at {w : World} {A : Option Addr} {l : List Int} {n : Nat} (h : Kd.C (Kd.int .u32) w A l.length l) (hn : n ≤ l.length) : Kd.C (Kd.int .u32) w A n (l.take n) := by
  have := Kd.C_take (m := n) h hn
  rwa [List.length_take, Nat.min_eq_left hn] at this
theorem trim_rel_step (l : List Int) (n : Nat) (h : n + 1 ≤ l.length) (hz : rd l (n : Int) = 0) (e : trimL (l.take (n + 1)) = trimL l) : trimL (l.take n) = trimL l := by
  rw [← e, trimL_take_zero l n (by omega) hz]
set_option maxHeartbeats 1000000 in
theorem headendref01_trim.calls (A0 : Option Addr) (c0 : Nat) (l0 : List Int) (r : List Int) (w : World) (hr0 : Kd.C (Kd.int .u32) w A0 l0.length l0) (hc0 : l0.length ≤ c0) (h : headendref01_trim.f l0 = some r) :
    Calls Try.prog 86 #[.slice A0 l0.length c0] w fun e w' => ∃ v0_ : Value, e = .returned (v0_) ∧ Kd.R (Kd.int .u32) 84 w' w.heap.size (fun _ => True) v0_ r ∧ Below w.heap.size w w' := by
  have HR0 := Aside0.mk hr0
  unfold headendref01_trim.f at h
  split at h
  case isFalse => exact absurd h (by simp)
  case isTrue hc =>
    obtain rfl := Option.some.inj h
    clear h hr0
    go_enter Try.func86, Try.ntmps86
    go_wp2
    go_loop [3] (fun v3 => ∃ n : Nat, n ≤ l0.length ∧ v3 = .int .i64 n ∧ Aside0 (trimL (l0.take n) = trimL l0)) (fun v3 => (intOf v3).toNat)
    case atStart => exact ⟨l0.length, Nat.le_refl _, rfl, ⟨by rw [List.take_length]⟩⟩
    case round =>
      obtain ⟨n, hn, rfl, HT⟩ := hrel
      have HC := Aside0.mk (show Kd.C (Kd.int .u32) w A0 n (l0.take n) from C_take_at HR0.out hn)
      by_cases hz : n = 0
      · subst hz
        go_wp2_with (first | ((with_reducible refine gate_builtin (b := .append) (xs := #[.const (.slice none 0 0), .tmp 20]) rfl ?_); at_builtin; refine Kd.R_append_rows (Kd.int .u32) (w0 := w) w.heap.size rfl (.const (.slice none 0 0)) (.tmp 20) 41 84 (.int .u32 0) 4 rfl Try.underlying41 info84 rfl (by decide) (by omega) (.slice none 0 0) [] (l0.take 0) _ _ _ (fun _ => True) (fun _ => False) rfl rfl ?aO ?aR (fun _ _ h => h) (fun _ h => h.elim) ?aF ?aB ?aS ?aL ?_; (case aR => exact HC.out); (case aB => exact Below.refl _ _); (case aF => exact (fun _ _ => trivial)); (case aO => exact Kd.R_nil _ _ _ _ _); (case aS => exact Nat.le_refl _); (case aL => simp only [List.length_nil]; omega); intro v370 w5 ho hb hg hat; clear hg hat; have HO := Aside0.mk ho; have HB := Aside0.mk hb; clear ho hb))
        go_ret
        exact ⟨_, rfl, by rw [← HT.out]; simpa [trimL] using HO.out, HB.out⟩
      · obtain ⟨m, rfl⟩ : ∃ m, n = m + 1 := ⟨n - 1, by omega⟩
        obtain ⟨ad, rfl, hx⟩ := Kd.at_int HR0.out (m : Int) (by omega) (by omega)
        rw [Int.toNat_natCast] at hx
        by_cases hr : rd l0 (m : Int) = 0
        · have hb : (rd l0 (m : Int) == 0) = true := beq_iff_eq.mpr hr
          have HS := Aside0.mk (trim_rel_step l0 m hn hr HT.out)
          clear hr HT
          go_wp2
          go_round
          case rel => exact ⟨m, by omega, by go_num, HS⟩
          case measure => simp [intOf]
        · have hb : (rd l0 (m : Int) == 0) = false := beq_eq_false_iff_ne.mpr hr
          have HS := Aside0.mk ((trimL_take l0 m (by omega) hr).symm.trans HT.out)
          clear hr HT
          go_wp2_with (first | ((with_reducible refine gate_builtin (b := .append) (xs := #[.const (.slice none 0 0), .tmp 20]) rfl ?_); at_builtin; refine Kd.R_append_rows (Kd.int .u32) (w0 := w) w.heap.size rfl (.const (.slice none 0 0)) (.tmp 20) 41 84 (.int .u32 0) 4 rfl Try.underlying41 info84 rfl (by decide) (by omega) (.slice none 0 0) [] (l0.take (m + 1)) _ _ _ (fun _ => True) (fun _ => False) rfl rfl ?aO ?aR (fun _ _ h => h) (fun _ h => h.elim) ?aF ?aB ?aS ?aL ?_; (case aR => exact HC.out); (case aB => exact Below.refl _ _); (case aF => exact (fun _ _ => trivial)); (case aO => exact Kd.R_nil _ _ _ _ _); (case aS => exact Nat.le_refl _); (case aL => simp only [List.length_nil]; omega); intro v370 w5 ho hb hg hat; clear hg hat; have HO := Aside0.mk ho; have HB := Aside0.mk hb; clear ho hb))
          go_ret
          exact ⟨_, rfl, by rw [← HS.out]; exact HO.out, HB.out⟩
end Go.Proofs.Ythhgfogdeaaidaa.R
