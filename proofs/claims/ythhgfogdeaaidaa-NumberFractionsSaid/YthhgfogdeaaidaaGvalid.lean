/- number.valid: whether each of the numbers has at most 16 digits, the last of which is not 0 (through slices.ContainsFunc, slices.IndexFunc and the function value that it hands over). -/
import Derived.Test.YthhgfogdeaaidaaR0
namespace Go.Proofs.Ythhgfogdeaaidaa.R
open Go.RowKit Go.Proofs.YthhgfogdeaaidaaW.PrintWords Go.Proofs.YthhgfogdeaaidaaW.PrintLast Go.Proofs.YthhgfogdeaaidaaW.PrintMore
set_option linter.unusedVariables false
set_option linter.unusedSimpArgs false
def numOk (l : List Int) : Bool := if l.length ≤ 16 then (if l.length = 0 then true else rd l ((l.length : Int) - 1) != 0) else false
set_option maxHeartbeats 1000000 in
theorem bad_calls (A0 : Option Addr) (c0 : Nat) (l0 : List Int) (w : World) (hr0 : Kd.C (Kd.int .u32) w A0 l0.length l0) :
    Calls Try.prog 104 #[.slice A0 l0.length c0] w fun e w' => e = .returned (.bool (!numOk l0)) ∧ Drawn0 w w' := by
  have HR0 := Aside0.mk hr0
  clear hr0
  by_cases h1 : l0.length ≤ 16
  · by_cases h2 : l0.length = 0
    · have e : numOk l0 = true := by unfold numOk; rw [if_pos h1, if_pos h2]
      have E := Aside0.mk e
      clear e
      have k1 : decide ((16 : Int) < (l0.length : Int)) = false := decide_eq_false (by omega)
      have k2 : decide (16 < l0.length) = false := decide_eq_false (by omega)
      have k3 : decide ((0 : Int) < (l0.length : Int)) = false := decide_eq_false (by omega)
      have k4 : decide (0 < l0.length) = false := decide_eq_false (by omega)
      clear h1 h2
      go_enter Try.func104, Try.ntmps104
      go_wp2
      go_ret
      exact ⟨by rw [E.out]; rfl, Drawn0.refl _⟩
    · obtain ⟨m, hm⟩ : ∃ m, l0.length = m + 1 := ⟨l0.length - 1, by omega⟩
      obtain ⟨ad, rfl, hx⟩ := Kd.at_int HR0.out (m : Int) (by omega) (by omega)
      rw [Int.toNat_natCast] at hx
      have e : numOk l0 = (rd l0 (m : Int) != 0) := by
        unfold numOk
        rw [if_pos h1, if_neg h2, show (l0.length : Int) - 1 = (m : Int) by omega]
      have E := Aside0.mk e
      clear e h2
      have k1 : decide ((16 : Int) < (m : Int) + 1) = false := decide_eq_false (by omega)
      have k3 : decide ((0 : Int) < (m : Int) + 1) = true := decide_eq_true (by omega)
      have k4 : m ≤ 15 := by omega
      clear h1
      by_cases hz : rd l0 (m : Int) = 0
      · have b1 : (rd l0 (m : Int) == 0) = true := beq_iff_eq.mpr hz
        have E2 := Aside0.mk (E.out.trans (bne_eq_false_iff_eq.mpr hz))
        clear hz E
        rw [hm]
        clear hm
        go_enter Try.func104, Try.ntmps104
        go_wp2
        go_ret
        exact ⟨by rw [E2.out]; rfl, Drawn0.refl _⟩
      · have b1 : (rd l0 (m : Int) == 0) = false := beq_eq_false_iff_ne.mpr hz
        have E2 := Aside0.mk (E.out.trans (bne_iff_ne.mpr hz))
        clear hz E
        rw [hm]
        clear hm
        go_enter Try.func104, Try.ntmps104
        go_wp2
        go_ret
        exact ⟨by rw [E2.out]; rfl, Drawn0.refl _⟩
  · have e : numOk l0 = false := by unfold numOk; rw [if_neg h1]
    have E := Aside0.mk e
    clear e
    have k1 : decide ((16 : Int) < (l0.length : Int)) = true := decide_eq_true (by omega)
    have k2 : decide (16 < l0.length) = true := decide_eq_true (by omega)
    clear h1
    go_enter Try.func104, Try.ntmps104
    go_wp2
    go_ret
    exact ⟨by rw [E.out]; rfl, Drawn0.refl _⟩
def firstBad (ls : List (List Int)) : Int := match ls.findIdx? (fun l => !numOk l) with | some i => (i : Int) | none => -1
theorem firstBad_none (ls : List (List Int)) (h : ∀ j, j < ls.length → numOk (ls.getD j []) = true) : firstBad ls = -1 := by
  have e : ls.findIdx? (fun l => !numOk l) = none := by
    rw [List.findIdx?_eq_none_iff]
    intro x hx
    obtain ⟨j, hj, rfl⟩ := List.getElem_of_mem hx
    have := h j hj
    rw [List.getD_eq_getElem?_getD, List.getElem?_eq_getElem hj] at this
    simpa using this
  unfold firstBad; rw [e]
theorem firstBad_some (ls : List (List Int)) (k : Nat) (hk : k < ls.length) (h : ∀ j, j < k → numOk (ls.getD j []) = true) (hb : numOk (ls.getD k []) = false) : firstBad ls = (k : Int) := by
  have e : ls.findIdx? (fun l => !numOk l) = some k := by
    rw [List.findIdx?_eq_some_iff_getElem]
    rw [List.getD_eq_getElem?_getD, List.getElem?_eq_getElem hk] at hb
    refine ⟨hk, by simpa using hb, fun j hj => ?_⟩
    have := h j hj
    rw [List.getD_eq_getElem?_getD, List.getElem?_eq_getElem (by omega)] at this
    simpa using this
  unfold firstBad; rw [e]
theorem firstBad_all (ls : List (List Int)) : decide (0 ≤ firstBad ls) = !(ls.all numOk) := by
  unfold firstBad
  cases e : ls.findIdx? (fun l => !numOk l) with
  | none =>
    rw [List.findIdx?_eq_none_iff] at e
    have h : ls.all numOk = true := by
      rw [List.all_eq_true]
      intro x hx
      have := e x hx
      simpa using this
    rw [h]; decide
  | some i =>
    rw [List.findIdx?_eq_some_iff_getElem] at e
    obtain ⟨hi, hb, _⟩ := e
    have h : ls.all numOk = false := by
      rw [← Bool.not_eq_true, List.all_eq_true]
      intro h
      have := h _ (List.getElem_mem hi)
      simp [this] at hb
    rw [h]; exact decide_eq_true (Int.natCast_nonneg i)
theorem at_number {w : World} {A : Option Addr} {ls : List (List Int)} {n : Nat} (h : Kd.C (Kd.slice 84 (Kd.int .u32)) w A n ls) (k : Nat) (hk : k < n) :
    ∃ ad A' c', A = some ad ∧ w.cell? (ad.add k) = some (.slice A' (ls.getD k []).length c') ∧ Kd.C (Kd.int .u32) w A' (ls.getD k []).length (ls.getD k []) := by
  obtain ⟨ad, c, hA, hl, ⟨A', c', e, hc, hr⟩, hcell⟩ := ReadsRow.get_ h [] (k : Int) (by omega) (by omega)
  rw [Int.toNat_natCast] at hr hc hcell e
  subst e
  refine ⟨ad, A', c', hA, ?_, hr⟩
  have := hcell 0 _ rfl
  simpa [Kd.slice] using this
def OkTo (ls : List (List Int)) (k : Nat) : Prop := ∀ j, j < k → numOk (ls.getD j []) = true
theorem OkTo.zero (ls : List (List Int)) : OkTo ls 0 := fun j hj => absurd hj (by omega)
theorem OkTo.succ {ls : List (List Int)} {k : Nat} (h : OkTo ls k) (hb : numOk (ls.getD k []) = true) : OkTo ls (k + 1) := fun j hj => by
  by_cases e : j = k
  · rw [e]; exact hb
  · exact h j (by omega)
set_option maxHeartbeats 1000000 in
theorem index_calls (A0 : Option Addr) (c0 : Nat) (ls : List (List Int)) (w : World) (hr0 : Kd.C (Kd.slice 84 (Kd.int .u32)) w A0 ls.length ls) :
    Calls Try.prog 117 #[.slice A0 ls.length c0, .func (.func 104) #[] #[]] w fun e w' => e = .returned (.int .i64 (firstBad ls)) ∧ Drawn0 w w' := by
  have HR0 := Aside0.mk hr0
  have hm : ls.length ≤ 9223372036854775807 := hr0.2.1
  clear hr0
  go_enter Try.func117, Try.ntmps117
  go_wp2
  go_loopw [8] (fun v8 wr => ∃ k : Nat, k ≤ ls.length ∧ v8 = .int .i64 k ∧ Aside0 (OkTo ls k) ∧ Drawn0 w wr) (fun v8 _ => ls.length - (intOf v8).toNat)
  case atStart => exact ⟨0, Nat.zero_le _, rfl, ⟨OkTo.zero ls⟩, Drawn0.refl _⟩
  case round =>
    obtain ⟨k, hk, rfl, HT, HD⟩ := hrel
    by_cases hlt : k < ls.length
    · have HR1 := Aside0.mk (Kd.C_below HR0.out HD.below)
      obtain ⟨ad, A', c', rfl, hcell, hr⟩ := at_number HR1.out k hlt
      obtain ⟨l, hl⟩ : ∃ l, ls.getD k [] = l := ⟨_, rfl⟩
      rw [hl] at hcell hr
      have HL := Aside0.mk hl
      have HC := Aside0.mk hr
      clear hl hr
      by_cases hb : numOk l = true
      · have HS := Aside0.mk (HT.out.succ (by rw [HL.out]; exact hb))
        have HB := Aside0.mk hb
        clear hb
        go_wp2_with (go_at_call 104; (refine (bad_calls _ _ l _ HC.out).mono ?_); rintro e w1 ⟨rfl, hd⟩; obtain ⟨⟨nd, rfl⟩⟩ := hd; rw [HB.out])
        go_roundw
        case rel => exact ⟨k + 1, by omega, by go_num, HS, HD.step nd⟩
        case measure => simp [intOf]; omega
      · have hb' : numOk l = false := Bool.eq_false_iff.mpr hb
        have HS := Aside0.mk (firstBad_some ls k hlt HT.out (by rw [HL.out]; exact hb'))
        have HB := Aside0.mk hb'
        clear hb hb'
        go_wp2_with (go_at_call 104; (refine (bad_calls _ _ l _ HC.out).mono ?_); rintro e w1 ⟨rfl, hd⟩; obtain ⟨⟨nd, rfl⟩⟩ := hd; rw [HB.out])
        go_ret
        exact ⟨by rw [HS.out]; rfl, HD.step nd⟩
    · obtain rfl : k = ls.length := by omega
      have HS := Aside0.mk (firstBad_none ls HT.out)
      go_wp2
      go_ret
      exact ⟨by rw [HS.out]; rfl, HD⟩
set_option maxHeartbeats 1000000 in
theorem contains_calls (A0 : Option Addr) (c0 : Nat) (ls : List (List Int)) (w : World) (hr0 : Kd.C (Kd.slice 84 (Kd.int .u32)) w A0 ls.length ls) :
    Calls Try.prog 103 #[.slice A0 ls.length c0, .func (.func 104) #[] #[]] w fun e w' => e = .returned (.bool (!(ls.all numOk))) ∧ Drawn0 w w' := by
  have HR0 := Aside0.mk hr0
  have HF := Aside0.mk (firstBad_all ls)
  clear hr0
  go_enter Try.func103, Try.ntmps103
  obtain ⟨i, hi⟩ : ∃ i, firstBad ls = i := ⟨_, rfl⟩
  have HI := Aside0.mk hi
  clear hi
  rw [HI.out] at HF
  go_wp2_with (go_at_call 117; (refine (index_calls _ _ ls _ HR0.out).mono ?_); rintro e w1 ⟨rfl, hd⟩; obtain ⟨⟨nd, rfl⟩⟩ := hd; rw [HI.out])
  go_ret
  exact ⟨by rw [← HF.out]; rfl, ⟨nd, rfl⟩⟩
def number_valid.f (ls : List (List Int)) : Option Bool := some (ls.all numOk)
set_option maxHeartbeats 1000000 in
theorem number_valid.calls (A0 : Option Addr) (c0 : Nat) (l0 : List (List Int)) (r : Bool) (w : World) (hr0 : Kd.C (Kd.slice 84 (Kd.int .u32)) w A0 l0.length l0) (hc0 : l0.length ≤ c0) (h : number_valid.f l0 = some r) :
    Calls Try.prog 74 #[.slice A0 l0.length c0] w fun e w' => e = .returned (.bool r) ∧ Drawn0 w w' := by
  obtain rfl := Option.some.inj h
  have HR0 := Aside0.mk hr0
  clear hr0 h
  obtain ⟨b, hb⟩ : ∃ b, l0.all numOk = b := ⟨_, rfl⟩
  have HI := Aside0.mk hb
  rw [hb]
  clear hb
  go_enter Try.func74, Try.ntmps74
  go_wp2_with (go_at_call 103; (refine (contains_calls _ _ l0 _ HR0.out).mono ?_); rintro e w1 ⟨rfl, hd⟩; obtain ⟨⟨nd, rfl⟩⟩ := hd; rw [HI.out])
  go_ret
  exact ⟨by simp, ⟨nd, rfl⟩⟩
end Go.Proofs.Ythhgfogdeaaidaa.R
