-- Written by a program of this session (wip/printmore.py over the kit's print.py): callers of hand-proved contracts. Lean checks it.
import Derived.Test.YthhgfogdeaaidaaR0
import Derived.Test.YthhgfogdeaaidaaR7
import Derived.Test.YthhgfogdeaaidaaR13
import Derived.Test.YthhgfogdeaaidaaR17
import Derived.Test.YthhgfogdeaaidaaR18
import Derived.Test.YthhgfogdeaaidaaGalive
namespace Go.Proofs.Ythhgfogdeaaidaa.R
open Go.RowKit Go.Proofs.YthhgfogdeaaidaaW.PrintWords Go.Proofs.YthhgfogdeaaidaaW.PrintLast Go.Proofs.YthhgfogdeaaidaaW.PrintMore
attribute [local go_sem] max2_int min2_int max_two min_two max_three min_three max_four min_four   -- for this text's walks alone
set_option linter.unusedVariables false
set_option linter.unusedSimpArgs false
/-! ### headendlaw01_NumberBack: function 18 -/
mutual
def headendlaw01_NumberBack.j0 : Nat → List Int → List Int → Bool → Bool → Option (Bool)
  | 0, _, _, _, _ => none
  | k + 1, x0, x1, x5, x28 => if x28 = true then (some x5) else ((number_Add.f k x0 x1).bind fun bt1274 => (if bt1274.2 = 0 then ((number_Sub.f k bt1274.1 x1).bind fun bt1278 => ((number_Compare.f bt1274.1 x0).bind fun bt1282 => (if bt1278.2 = 0 then ((headendref01_Same.f k bt1278.1 x0).bind fun t1284 => (if t1284 = true then (if bt1282.2 = 0 then (if bt1282.1 = 1 then (if bt1282.1 = 0 then (headendlaw01_NumberBack.j1 k x0 x1 x5) else (if (x1.length : Int) = 0 then (some false) else (headendlaw01_NumberBack.j1 k x0 x1 x5))) else (if (x1.length : Int) > 0 then (some false) else (if bt1282.1 = 0 then (headendlaw01_NumberBack.j1 k x0 x1 x5) else (if (x1.length : Int) = 0 then (some false) else (headendlaw01_NumberBack.j1 k x0 x1 x5))))) else (some false)) else (some false))) else (some false)))) else (headendlaw01_NumberBack.j1 k x0 x1 x5)))
def headendlaw01_NumberBack.j1 : Nat → List Int → List Int → Bool → Option (Bool)
  | 0, _, _, _ => none
  | k + 1, x0, x1, x5 => (number_Compare.f x0 x1).bind fun bt1285 => ((number_Compare.f x1 x0).bind fun bt1287 => ((number_Sub.f k x0 x1).bind fun bt1289 => (if bt1285.2 = 0 then (if bt1287.2 = 0 then (if bt1285.1 = (wrap64 (-bt1287.1)) then (if ((decide (bt1285.1 < 0)) != (bt1289.2 == 11)) = true then (headendlaw01_NumberBack.j2 k x0 x1 x5 bt1289.1 bt1289.2 true) else ((headendref01_Same.f k x0 x1).bind fun t1293 => (headendlaw01_NumberBack.j2 k x0 x1 x5 bt1289.1 bt1289.2 ((bt1285.1 == 0) != t1293)))) else (headendlaw01_NumberBack.j2 k x0 x1 x5 bt1289.1 bt1289.2 true)) else (headendlaw01_NumberBack.j2 k x0 x1 x5 bt1289.1 bt1289.2 true)) else (headendlaw01_NumberBack.j2 k x0 x1 x5 bt1289.1 bt1289.2 true))))
def headendlaw01_NumberBack.j2 : Nat → List Int → List Int → Bool → List Int → Int → Bool → Option (Bool)
  | 0, _, _, _, _, _, _ => none
  | k + 1, x0, x1, x5, x16, x17, x124 => if x124 = true then (some false) else (if x17 = 0 then ((number_Add.f k x16 x1).bind fun bt1294 => (if x5 = true then (if bt1294.2 = 0 then ((headendref01_Same.f k bt1294.1 x0).bind fun t1298 => (some t1298)) else (some false)) else (some false))) else (if x5 = true then (some (x17 == 11)) else (some false)))
end
def headendlaw01_NumberBack.f (k : Nat) (l0 : List Int) (l1 : List Int) : Option (Bool) := (headendlaw01_alive.f).bind fun t1271 => ((headendref01_Valid.f l0).bind fun t1272 => (if t1272 = true then ((headendref01_Valid.f l1).bind fun t1273 => (headendlaw01_NumberBack.j0 k l0 l1 t1271 (!t1273))) else (headendlaw01_NumberBack.j0 k l0 l1 t1271 true)))
set_option maxHeartbeats 8000000 in
set_option maxRecDepth 100000 in
theorem headendlaw01_NumberBack.calls (k : Nat) (A0 : Option Addr) (c0 : Nat) (l0 : List Int) (A1 : Option Addr) (c1 : Nat) (l1 : List Int) (r : Bool) (w : World) (hr0 : Kd.C (Kd.int .u32) w A0 l0.length l0) (hc0 : l0.length ≤ c0) (hr1 : Kd.C (Kd.int .u32) w A1 l1.length l1) (hc1 : l1.length ≤ c1) (h : headendlaw01_NumberBack.f k l0 l1 = some r) (hr : r = true) :
    Calls Try.prog 18 #[.slice A0 l0.length c0, .slice A1 l1.length c1] w fun e w' => e = .returned (.bool r) ∧ Below w.heap.size w w' := by
  have HR0 := Aside0.mk hr0
  have HC0 := Aside0.mk hc0
  clear hr0 hc0
  have HR1 := Aside0.mk hr1
  have HC1 := Aside0.mk hc1
  clear hr1 hc1
  have HB := Aside0.mk (Below.refl w.heap.size w)
  have H : ((headendlaw01_alive.f).bind fun t1271 => ((headendref01_Valid.f l0).bind fun t1272 => (if t1272 = true then ((headendref01_Valid.f l1).bind fun t1273 => (headendlaw01_NumberBack.j0 k l0 l1 t1271 (!t1273))) else (headendlaw01_NumberBack.j0 k l0 l1 t1271 true)))) = some r := h
  clear h
  have HRR := Aside0.mk hr
  clear hr
  replace H := Option.bind_eq_some_iff.mp H
  obtain ⟨t1271, A30, H⟩ := H
  replace H : ((headendref01_Valid.f l0).bind fun t1272 => (if t1272 = true then ((headendref01_Valid.f l1).bind fun t1273 => (headendlaw01_NumberBack.j0 k l0 l1 t1271 (!t1273))) else (headendlaw01_NumberBack.j0 k l0 l1 t1271 true))) = some r := H
  have A3 := Aside0.mk A30
  clear A30
  have HC4 := Aside0.mk H
  clear H
  go_enter Try.func18, Try.ntmps18
  go_upto_region 2 with (first | ((with_reducible refine gate_callee (f := 47) rfl ?_); refine goesL_ (some 20) rfl rfl Try.func47 (by kernel_rfl) rfl #[] rfl (by (try simp only [List.map_toArray, List.map_cons, List.map_nil]); first | done | rfl | (simp only [List.length_drop, List.length_take]; rfl)) ?_; (with_reducible refine (headendlaw01_alive.calls  t1271 _ A3.out).mono ?_); rintro e w5 ⟨rfl, hb⟩; refine ⟨_, rfl, ?_⟩; have n0_ := Aside0.mk (below_step (by repeat (first | (with_reducible first | exact HB.out | apply below_alloc | apply pw_below_drewN | apply below_drew1) | exact HB.out)) hb); clear HB; have HB := n0_; clear n0_; (try clear hb); (try clear hb2); (try clear hk); (try clear hi)))
  (try simp only [Act.put, List.setIfInBounds_toArray, List.set_cons_zero, List.set_cons_succ])
  go_cut [28] (fun v28 wc => ∃ (kq : Nat) (x28_3 : Bool), v28 = .bool x28_3 ∧ Aside0 (headendlaw01_NumberBack.j0 kq l0 l1 t1271 x28_3 = some r) ∧ Aside0 (kq ≤ k) ∧ Aside0 (Below w.heap.size w wc))
  case first =>
    have H := HC4.out
    clear HC4
    replace H := Option.bind_eq_some_iff.mp H
    obtain ⟨t1272, A60, H⟩ := H
    replace H : (if t1272 = true then ((headendref01_Valid.f l1).bind fun t1273 => (headendlaw01_NumberBack.j0 k l0 l1 t1271 (!t1273))) else (headendlaw01_NumberBack.j0 k l0 l1 t1271 true)) = some r := H
    have A6 := Aside0.mk A60
    clear A60
    by_cases c7 : t1272 = true
    · subst c7
      have H1 : ((headendref01_Valid.f l1).bind fun t1273 => (headendlaw01_NumberBack.j0 k l0 l1 t1271 (!t1273))) = some r := by rw [if_pos rfl] at H; exact H
      clear H
      have H := H1
      clear H1
      replace H := Option.bind_eq_some_iff.mp H
      obtain ⟨t1273, A80, H⟩ := H
      replace H : (headendlaw01_NumberBack.j0 k l0 l1 t1271 (!t1273)) = some r := H
      have A8 := Aside0.mk A80
      clear A80
      have H' := Aside0.mk H
      clear H
      go_wp2_with (first | ((with_reducible refine gate_callee (f := 48) rfl ?_); refine goesL_ (some 22) rfl rfl Try.func48 (by kernel_rfl) rfl #[.slice A0 l0.length c0] rfl (by (try simp only [List.map_toArray, List.map_cons, List.map_nil]); first | done | rfl | (simp only [List.length_drop, List.length_take]; rfl)) ?_; (with_reducible refine (headendref01_Valid.calls _ _ l0 true _ ?side1 ?side2 A6.out).mono ?_); (case side1 => repeat (first | exact (Kd.C_below HR0.out HB.out) | (with_reducible refine Kd.C_alloc ?_ _) | (with_reducible refine Kd.C_drewN ?_ _) | (with_reducible refine Kd.C_drew ?_))); (case side2 => exact HC0.out); rintro e w' ⟨rfl, ⟨nd, rfl⟩⟩; refine ⟨_, rfl, ?_⟩) | (go_at_call 48; (with_reducible refine (headendref01_Valid.calls _ _ l1 t1273 _ ?side1 ?side2 A8.out).mono ?_); (case side1 => repeat (first | exact (Kd.C_below HR1.out (by repeat (first | (with_reducible first | exact HB.out | apply below_alloc | apply pw_below_drewN | apply below_drew1) | exact HB.out))) | (with_reducible refine Kd.C_alloc ?_ _) | (with_reducible refine Kd.C_drewN ?_ _) | (with_reducible refine Kd.C_drew ?_))); (case side2 => exact HC1.out); rintro e w' ⟨rfl, ⟨nd, rfl⟩⟩))
      go_meet
      case rel => exact ⟨_, (!t1273), (by first | rfl | (simp; done) | (simp [*]; done)), H', ⟨by first | omega | exact Nat.le_refl _⟩, ⟨by repeat (first | (with_reducible first | exact HB.out | apply below_alloc | apply pw_below_drewN | apply below_drew1) | exact HB.out)⟩⟩
    · replace c7 := Bool.eq_false_iff.mpr c7
      subst c7
      have H1 : (headendlaw01_NumberBack.j0 k l0 l1 t1271 true) = some r := by rw [if_neg (show ¬ (false = true) by decide)] at H; exact H
      clear H
      have H := H1
      clear H1
      have H' := Aside0.mk H
      clear H
      go_wp2_with (first | ((with_reducible refine gate_callee (f := 48) rfl ?_); refine goesL_ (some 22) rfl rfl Try.func48 (by kernel_rfl) rfl #[.slice A0 l0.length c0] rfl (by (try simp only [List.map_toArray, List.map_cons, List.map_nil]); first | done | rfl | (simp only [List.length_drop, List.length_take]; rfl)) ?_; (with_reducible refine (headendref01_Valid.calls _ _ l0 false _ ?side1 ?side2 A6.out).mono ?_); (case side1 => repeat (first | exact (Kd.C_below HR0.out HB.out) | (with_reducible refine Kd.C_alloc ?_ _) | (with_reducible refine Kd.C_drewN ?_ _) | (with_reducible refine Kd.C_drew ?_))); (case side2 => exact HC0.out); rintro e w' ⟨rfl, ⟨nd, rfl⟩⟩; refine ⟨_, rfl, ?_⟩))
      go_meet
      case rel => exact ⟨_, (true), (by first | rfl | (simp; done) | (simp [*]; done)), H', ⟨by first | omega | exact Nat.le_refl _⟩, ⟨by repeat (first | (with_reducible first | exact HB.out | apply below_alloc | apply pw_below_drewN | apply below_drew1) | exact HB.out)⟩⟩
  case rest =>
    clear HC4
    try clear c1
    try clear p2
    try clear c4
    try clear c7
    obtain ⟨kq, x28_3, rfl, HA, HJ3, HB⟩ := hcut
    cases kq with
    | zero => exact absurd HA.out (by simp [headendlaw01_NumberBack.j0])
    | succ kj3 =>
      have H := HA.out
      clear HA
      simp only [headendlaw01_NumberBack.j0] at H
      by_cases c9 : x28_3 = true
      · subst c9
        have H1 : (some t1271) = some r := by rw [if_pos rfl] at H; exact H
        clear H
        have H := H1
        clear H1
        obtain rfl := Option.some.inj H
        go_wp2
        go_ret
        exact ⟨by first | rfl | (simp [errW_none, errW_some] <;> rfl) | (simp [*, errW_none, errW_some] <;> rfl), by repeat (first | (with_reducible first | exact HB.out | apply below_alloc | apply pw_below_drewN | apply below_drew1) | exact HB.out)⟩
      · replace c9 := Bool.eq_false_iff.mpr c9
        subst c9
        have H1 : ((number_Add.f kj3 l0 l1).bind fun bt1274 => (if bt1274.2 = 0 then ((number_Sub.f kj3 bt1274.1 l1).bind fun bt1278 => ((number_Compare.f bt1274.1 l0).bind fun bt1282 => (if bt1278.2 = 0 then ((headendref01_Same.f kj3 bt1278.1 l0).bind fun t1284 => (if t1284 = true then (if bt1282.2 = 0 then (if bt1282.1 = 1 then (if bt1282.1 = 0 then (headendlaw01_NumberBack.j1 kj3 l0 l1 t1271) else (if (l1.length : Int) = 0 then (some false) else (headendlaw01_NumberBack.j1 kj3 l0 l1 t1271))) else (if (l1.length : Int) > 0 then (some false) else (if bt1282.1 = 0 then (headendlaw01_NumberBack.j1 kj3 l0 l1 t1271) else (if (l1.length : Int) = 0 then (some false) else (headendlaw01_NumberBack.j1 kj3 l0 l1 t1271))))) else (some false)) else (some false))) else (some false)))) else (headendlaw01_NumberBack.j1 kj3 l0 l1 t1271))) = some r := by rw [if_neg (show ¬ (false = true) by decide)] at H; exact H
        clear H
        have H := H1
        clear H1
        replace H := Option.bind_eq_some_iff.mp H
        obtain ⟨⟨t1274, t1277⟩, A100, H⟩ := H
        replace H : (if t1277 = 0 then ((number_Sub.f kj3 t1274 l1).bind fun bt1278 => ((number_Compare.f t1274 l0).bind fun bt1282 => (if bt1278.2 = 0 then ((headendref01_Same.f kj3 bt1278.1 l0).bind fun t1284 => (if t1284 = true then (if bt1282.2 = 0 then (if bt1282.1 = 1 then (if bt1282.1 = 0 then (headendlaw01_NumberBack.j1 kj3 l0 l1 t1271) else (if (l1.length : Int) = 0 then (some false) else (headendlaw01_NumberBack.j1 kj3 l0 l1 t1271))) else (if (l1.length : Int) > 0 then (some false) else (if bt1282.1 = 0 then (headendlaw01_NumberBack.j1 kj3 l0 l1 t1271) else (if (l1.length : Int) = 0 then (some false) else (headendlaw01_NumberBack.j1 kj3 l0 l1 t1271))))) else (some false)) else (some false))) else (some false)))) else (headendlaw01_NumberBack.j1 kj3 l0 l1 t1271)) = some r := H
        have A10 := Aside0.mk A100
        clear A100
        have HC11 := Aside0.mk H
        clear H
        go_upto_if 37 with (first | ((with_reducible refine gate_callee (f := 50) rfl ?_); refine goesL_ (some 33) rfl rfl Try.func50 (by kernel_rfl) rfl #[.slice A0 l0.length c0, .slice A1 l1.length c1] rfl (by (try simp only [List.map_toArray, List.map_cons, List.map_nil]); first | done | rfl | (simp only [List.length_drop, List.length_take]; rfl)) ?_; (with_reducible refine (number_Add.calls kj3 (fun k_ => k_ < w.heap.size) _ _ l0 (fun k_ => k_ < w.heap.size) _ _ l1 t1274 t1277 _ ?side1 ?side2 A10.out).mono ?_); (case side1 => exact Kd.V_mk HC0.out (Kd.F_below (Kd.C_F (Kd.heap_int .u32) HR0.out) (by repeat (first | (with_reducible first | exact HB.out | apply below_alloc | apply pw_below_drewN | apply below_drew1) | exact HB.out)))); (case side2 => exact Kd.V_mk HC1.out (Kd.F_below (Kd.C_F (Kd.heap_int .u32) HR1.out) (by repeat (first | (with_reducible first | exact HB.out | apply below_alloc | apply pw_below_drewN | apply below_drew1) | exact HB.out)))); rintro e w12 ⟨v1275, rfl, ho0, hb⟩; refine ⟨_, rfl, ?_⟩; have n0_ := Aside0.mk (Kd.R_lower (Kd.R_mono (ok' := fun k_ => True) ho0 (fun _ hk_ => trivial)) (below_size (by repeat (first | (with_reducible first | exact HB.out | apply below_alloc | apply pw_below_drewN | apply below_drew1) | exact HB.out)))); have n1_ := Aside0.mk (below_step (by repeat (first | (with_reducible first | exact HB.out | apply below_alloc | apply pw_below_drewN | apply below_drew1) | exact HB.out)) hb); clear HB; have HO1276 := n0_; have HB := n1_; clear n0_ n1_; (try clear hb); (try clear hb2); (try clear hk); (try clear hi); (try clear ho0)))
        (try simp only [Act.put, List.setIfInBounds_toArray, List.set_cons_zero, List.set_cons_succ])
        go_cut [] (fun wc => ∃ (kq : Nat), Aside0 (headendlaw01_NumberBack.j1 kq l0 l1 t1271 = some r) ∧ Aside0 (kq ≤ kj3) ∧ Aside0 (Below w.heap.size w wc))
        case first =>
          have H := HC11.out
          clear HC11
          by_cases c13 : t1277 = 0
          · rw [if_pos c13] at H
            have c13b0 : (t1277 == 0) = true := beq_iff_eq.mpr c13
            have c13b1 : (t1277 != 0) = false := bne_eq_false_iff_eq.mpr c13
            clear c13
            (first | rw [c13b0] | (simp only [i64_w, i32_w, u8_w, u32_w, u64_of_u8, u64_of_u32]; rw [c13b0]) | skip)
            replace H := Option.bind_eq_some_iff.mp H
            obtain ⟨⟨t1278, t1281⟩, A140, H⟩ := H
            replace H : ((number_Compare.f t1274 l0).bind fun bt1282 => (if t1281 = 0 then ((headendref01_Same.f kj3 t1278 l0).bind fun t1284 => (if t1284 = true then (if bt1282.2 = 0 then (if bt1282.1 = 1 then (if bt1282.1 = 0 then (headendlaw01_NumberBack.j1 kj3 l0 l1 t1271) else (if (l1.length : Int) = 0 then (some false) else (headendlaw01_NumberBack.j1 kj3 l0 l1 t1271))) else (if (l1.length : Int) > 0 then (some false) else (if bt1282.1 = 0 then (headendlaw01_NumberBack.j1 kj3 l0 l1 t1271) else (if (l1.length : Int) = 0 then (some false) else (headendlaw01_NumberBack.j1 kj3 l0 l1 t1271))))) else (some false)) else (some false))) else (some false))) = some r := H
            have A14 := Aside0.mk A140
            clear A140
            replace H := Option.bind_eq_some_iff.mp H
            obtain ⟨⟨t1282, t1283⟩, A150, H⟩ := H
            replace H : (if t1281 = 0 then ((headendref01_Same.f kj3 t1278 l0).bind fun t1284 => (if t1284 = true then (if t1283 = 0 then (if t1282 = 1 then (if t1282 = 0 then (headendlaw01_NumberBack.j1 kj3 l0 l1 t1271) else (if (l1.length : Int) = 0 then (some false) else (headendlaw01_NumberBack.j1 kj3 l0 l1 t1271))) else (if (l1.length : Int) > 0 then (some false) else (if t1282 = 0 then (headendlaw01_NumberBack.j1 kj3 l0 l1 t1271) else (if (l1.length : Int) = 0 then (some false) else (headendlaw01_NumberBack.j1 kj3 l0 l1 t1271))))) else (some false)) else (some false))) else (some false)) = some r := H
            have A15 := Aside0.mk A150
            clear A150
            by_cases c16 : t1281 = 0
            · rw [if_pos c16] at H
              have c16b0 : (t1281 == 0) = true := beq_iff_eq.mpr c16
              have c16b1 : (t1281 != 0) = false := bne_eq_false_iff_eq.mpr c16
              clear c16
              replace H := Option.bind_eq_some_iff.mp H
              obtain ⟨t1284, A170, H⟩ := H
              replace H : (if t1284 = true then (if t1283 = 0 then (if t1282 = 1 then (if t1282 = 0 then (headendlaw01_NumberBack.j1 kj3 l0 l1 t1271) else (if (l1.length : Int) = 0 then (some false) else (headendlaw01_NumberBack.j1 kj3 l0 l1 t1271))) else (if (l1.length : Int) > 0 then (some false) else (if t1282 = 0 then (headendlaw01_NumberBack.j1 kj3 l0 l1 t1271) else (if (l1.length : Int) = 0 then (some false) else (headendlaw01_NumberBack.j1 kj3 l0 l1 t1271))))) else (some false)) else (some false)) = some r := H
              have A17 := Aside0.mk A170
              clear A170
              by_cases c18 : t1284 = true
              · subst c18
                have H1 : (if t1283 = 0 then (if t1282 = 1 then (if t1282 = 0 then (headendlaw01_NumberBack.j1 kj3 l0 l1 t1271) else (if (l1.length : Int) = 0 then (some false) else (headendlaw01_NumberBack.j1 kj3 l0 l1 t1271))) else (if (l1.length : Int) > 0 then (some false) else (if t1282 = 0 then (headendlaw01_NumberBack.j1 kj3 l0 l1 t1271) else (if (l1.length : Int) = 0 then (some false) else (headendlaw01_NumberBack.j1 kj3 l0 l1 t1271))))) else (some false)) = some r := by rw [if_pos rfl] at H; exact H
                clear H
                have H := H1
                clear H1
                by_cases c19 : t1283 = 0
                · rw [if_pos c19] at H
                  have c19b0 : (t1283 == 0) = true := beq_iff_eq.mpr c19
                  have c19b1 : (t1283 != 0) = false := bne_eq_false_iff_eq.mpr c19
                  clear c19
                  by_cases c20 : t1282 = 1
                  · rw [if_pos c20] at H
                    have c20b0 : (t1282 == 1) = true := beq_iff_eq.mpr c20
                    have c20b1 : (t1282 != 1) = false := bne_eq_false_iff_eq.mpr c20
                    clear c20
                    by_cases c21 : t1282 = 0
                    · rw [if_pos c21] at H
                      have c21b0 : (t1282 == 0) = true := beq_iff_eq.mpr c21
                      have c21b1 : (t1282 != 0) = false := bne_eq_false_iff_eq.mpr c21
                      clear c21
                      have H' := Aside0.mk H
                      clear H
                      obtain ⟨Ao22, co22, eo22⟩ := Kd.R_slice HO1276.out
                      subst eo22
                      go_wp2_with (first | ((with_reducible refine gate_callee (f := 56) rfl ?_); refine goesL_ (some 41) rfl rfl Try.func56 (by kernel_rfl) rfl #[.slice Ao22 t1274.length co22, .slice A1 l1.length c1] rfl (by (try simp only [List.map_toArray, List.map_cons, List.map_nil]); first | done | rfl | (simp only [List.length_drop, List.length_take]; rfl)) ?_; (with_reducible refine (number_Sub.calls kj3 (fun k_ => some k_ = (.slice Ao22 t1274.length co22 : Value).ownBlock) _ _ t1274 (fun k_ => k_ < w.heap.size) _ _ l1 t1278 t1281 _ ?side1 ?side2 A14.out).mono ?_); (case side1 => exact Kd.R_V (Kd.R_tight rfl (HO1276.out))); (case side2 => exact Kd.V_mk HC1.out (Kd.F_below (Kd.C_F (Kd.heap_int .u32) HR1.out) (by repeat (first | (with_reducible first | exact HB.out | apply below_alloc | apply pw_below_drewN | apply below_drew1) | exact HB.out)))); rintro e w23 ⟨v1279, rfl, ho0, hb⟩; refine ⟨_, rfl, ?_⟩; have n0_ := Aside0.mk (Kd.R_elder' (by (with_reducible repeat (first | apply Kd.R_alloc | apply Kd.R_drewN | apply Kd.R_drew)); exact HO1276.out) (Kd.R_base ho0) hb); have n1_ := Aside0.mk (Kd.R_lower (Kd.R_new' (Kd.R_mono (ok' := fun k_ => True) ho0 (fun _ hk_ => trivial)) (Kd.R_lt (by (with_reducible repeat (first | apply Kd.R_alloc | apply Kd.R_drewN | apply Kd.R_drew)); exact HO1276.out))) (below_size (by repeat (first | (with_reducible first | exact HB.out | apply below_alloc | apply pw_below_drewN | apply below_drew1) | exact HB.out)))); have n2_ := Aside0.mk (below_step (by repeat (first | (with_reducible first | exact HB.out | apply below_alloc | apply pw_below_drewN | apply below_drew1) | exact HB.out)) hb); clear HO1276; clear HB; have HO1276 := n0_; have HO1280 := n1_; have HB := n2_; clear n0_ n1_ n2_; (try clear hb); (try clear hb2); (try clear hk); (try clear hi); (try clear ho0)) | ((with_reducible refine gate_callee (f := 51) rfl ?_); refine goesL_ (some 47) rfl rfl Try.func51 (by kernel_rfl) rfl #[.slice Ao22 t1274.length co22, .slice A0 l0.length c0] rfl (by (try simp only [List.map_toArray, List.map_cons, List.map_nil]); first | done | rfl | (simp only [List.length_drop, List.length_take]; rfl)) ?_; (with_reducible refine (number_Compare.calls (fun k_ => some k_ = (.slice Ao22 t1274.length co22 : Value).ownBlock) _ _ t1274 (fun k_ => k_ < w.heap.size) _ _ l0 t1282 t1283 _ ?side1 ?side2 A15.out).mono ?_); (case side1 => exact Kd.R_V (Kd.R_tight rfl (HO1276.out))); (case side2 => exact Kd.V_mk HC0.out (Kd.F_below (Kd.C_F (Kd.heap_int .u32) HR0.out) (by repeat (first | (with_reducible first | exact HB.out | apply below_alloc | apply pw_below_drewN | apply below_drew1) | exact HB.out)))); rintro e w24 ⟨rfl, hb⟩; refine ⟨_, rfl, ?_⟩; have n0_ := Aside0.mk (Kd.R_below (by (with_reducible repeat (first | apply Kd.R_alloc | apply Kd.R_drewN | apply Kd.R_drew)); exact HO1276.out) hb); have n1_ := Aside0.mk (Kd.R_below (by (with_reducible repeat (first | apply Kd.R_alloc | apply Kd.R_drewN | apply Kd.R_drew)); exact HO1280.out) hb); have n2_ := Aside0.mk (below_step (by repeat (first | (with_reducible first | exact HB.out | apply below_alloc | apply pw_below_drewN | apply below_drew1) | exact HB.out)) hb); clear HO1276; clear HO1280; clear HB; have HO1276 := n0_; have HO1280 := n1_; have HB := n2_; clear n0_ n1_ n2_; (try clear hb); (try clear hb2); (try clear hk); (try clear hi); obtain ⟨Ao25, co25, eo25⟩ := Kd.R_slice HO1280.out; subst eo25) | (go_at_call 31; (with_reducible refine (headendref01_Same.calls kj3 _ _ t1278 _ _ l0 true _ ?side1 ?side2 ?side3 ?side4 A17.out).mono ?_); (case side1 => repeat (first | exact (Kd.R_reads' HO1280.out).2.2 | (with_reducible refine Kd.C_alloc ?_ _) | (with_reducible refine Kd.C_drewN ?_ _) | (with_reducible refine Kd.C_drew ?_))); (case side2 => exact (Kd.R_reads' HO1280.out).2.1); (case side3 => repeat (first | exact (Kd.C_below HR0.out HB.out) | (with_reducible refine Kd.C_alloc ?_ _) | (with_reducible refine Kd.C_drewN ?_ _) | (with_reducible refine Kd.C_drew ?_))); (case side4 => exact HC0.out); rintro e w' ⟨rfl, ⟨nd, rfl⟩⟩))
                      go_meet
                      case rel => exact ⟨_, H', ⟨by have := HJ3.out; first | omega | exact Nat.le_refl _⟩, ⟨by repeat (first | (with_reducible first | exact HB.out | apply below_alloc | apply pw_below_drewN | apply below_drew1) | exact HB.out)⟩⟩
                    · rw [if_neg c21] at H
                      have c21b0 : (t1282 == 0) = false := beq_eq_false_iff_ne.mpr c21
                      have c21b1 : (t1282 != 0) = true := bne_iff_ne.mpr c21
                      by_cases c26 : (l1.length : Int) = 0
                      · rw [if_pos c26] at H
                        have c26b0 : ((l1.length : Int) == 0) = true := beq_iff_eq.mpr c26
                        have c26b1 : ((l1.length : Int) != 0) = false := bne_eq_false_iff_eq.mpr c26
                        clear c26
                        obtain rfl := Option.some.inj H
                        exact absurd HRR.out Bool.false_ne_true
                      · rw [if_neg c26] at H
                        have c26b0 : ((l1.length : Int) == 0) = false := beq_eq_false_iff_ne.mpr c26
                        have c26b1 : ((l1.length : Int) != 0) = true := bne_iff_ne.mpr c26
                        have c26b2 : ¬ (l1 = []) := fun h_ => c26 (by rw [h_]; rfl)
                        have H' := Aside0.mk H
                        clear H
                        obtain ⟨Ao27, co27, eo27⟩ := Kd.R_slice HO1276.out
                        subst eo27
                        go_wp2_with (first | ((with_reducible refine gate_callee (f := 56) rfl ?_); refine goesL_ (some 41) rfl rfl Try.func56 (by kernel_rfl) rfl #[.slice Ao27 t1274.length co27, .slice A1 l1.length c1] rfl (by (try simp only [List.map_toArray, List.map_cons, List.map_nil]); first | done | rfl | (simp only [List.length_drop, List.length_take]; rfl)) ?_; (with_reducible refine (number_Sub.calls kj3 (fun k_ => some k_ = (.slice Ao27 t1274.length co27 : Value).ownBlock) _ _ t1274 (fun k_ => k_ < w.heap.size) _ _ l1 t1278 t1281 _ ?side1 ?side2 A14.out).mono ?_); (case side1 => exact Kd.R_V (Kd.R_tight rfl (HO1276.out))); (case side2 => exact Kd.V_mk HC1.out (Kd.F_below (Kd.C_F (Kd.heap_int .u32) HR1.out) (by repeat (first | (with_reducible first | exact HB.out | apply below_alloc | apply pw_below_drewN | apply below_drew1) | exact HB.out)))); rintro e w28 ⟨v1279, rfl, ho0, hb⟩; refine ⟨_, rfl, ?_⟩; have n0_ := Aside0.mk (Kd.R_elder' (by (with_reducible repeat (first | apply Kd.R_alloc | apply Kd.R_drewN | apply Kd.R_drew)); exact HO1276.out) (Kd.R_base ho0) hb); have n1_ := Aside0.mk (Kd.R_lower (Kd.R_new' (Kd.R_mono (ok' := fun k_ => True) ho0 (fun _ hk_ => trivial)) (Kd.R_lt (by (with_reducible repeat (first | apply Kd.R_alloc | apply Kd.R_drewN | apply Kd.R_drew)); exact HO1276.out))) (below_size (by repeat (first | (with_reducible first | exact HB.out | apply below_alloc | apply pw_below_drewN | apply below_drew1) | exact HB.out)))); have n2_ := Aside0.mk (below_step (by repeat (first | (with_reducible first | exact HB.out | apply below_alloc | apply pw_below_drewN | apply below_drew1) | exact HB.out)) hb); clear HO1276; clear HB; have HO1276 := n0_; have HO1280 := n1_; have HB := n2_; clear n0_ n1_ n2_; (try clear hb); (try clear hb2); (try clear hk); (try clear hi); (try clear ho0)) | ((with_reducible refine gate_callee (f := 51) rfl ?_); refine goesL_ (some 47) rfl rfl Try.func51 (by kernel_rfl) rfl #[.slice Ao27 t1274.length co27, .slice A0 l0.length c0] rfl (by (try simp only [List.map_toArray, List.map_cons, List.map_nil]); first | done | rfl | (simp only [List.length_drop, List.length_take]; rfl)) ?_; (with_reducible refine (number_Compare.calls (fun k_ => some k_ = (.slice Ao27 t1274.length co27 : Value).ownBlock) _ _ t1274 (fun k_ => k_ < w.heap.size) _ _ l0 t1282 t1283 _ ?side1 ?side2 A15.out).mono ?_); (case side1 => exact Kd.R_V (Kd.R_tight rfl (HO1276.out))); (case side2 => exact Kd.V_mk HC0.out (Kd.F_below (Kd.C_F (Kd.heap_int .u32) HR0.out) (by repeat (first | (with_reducible first | exact HB.out | apply below_alloc | apply pw_below_drewN | apply below_drew1) | exact HB.out)))); rintro e w29 ⟨rfl, hb⟩; refine ⟨_, rfl, ?_⟩; have n0_ := Aside0.mk (Kd.R_below (by (with_reducible repeat (first | apply Kd.R_alloc | apply Kd.R_drewN | apply Kd.R_drew)); exact HO1276.out) hb); have n1_ := Aside0.mk (Kd.R_below (by (with_reducible repeat (first | apply Kd.R_alloc | apply Kd.R_drewN | apply Kd.R_drew)); exact HO1280.out) hb); have n2_ := Aside0.mk (below_step (by repeat (first | (with_reducible first | exact HB.out | apply below_alloc | apply pw_below_drewN | apply below_drew1) | exact HB.out)) hb); clear HO1276; clear HO1280; clear HB; have HO1276 := n0_; have HO1280 := n1_; have HB := n2_; clear n0_ n1_ n2_; (try clear hb); (try clear hb2); (try clear hk); (try clear hi); obtain ⟨Ao30, co30, eo30⟩ := Kd.R_slice HO1280.out; subst eo30) | (go_at_call 31; (with_reducible refine (headendref01_Same.calls kj3 _ _ t1278 _ _ l0 true _ ?side1 ?side2 ?side3 ?side4 A17.out).mono ?_); (case side1 => repeat (first | exact (Kd.R_reads' HO1280.out).2.2 | (with_reducible refine Kd.C_alloc ?_ _) | (with_reducible refine Kd.C_drewN ?_ _) | (with_reducible refine Kd.C_drew ?_))); (case side2 => exact (Kd.R_reads' HO1280.out).2.1); (case side3 => repeat (first | exact (Kd.C_below HR0.out HB.out) | (with_reducible refine Kd.C_alloc ?_ _) | (with_reducible refine Kd.C_drewN ?_ _) | (with_reducible refine Kd.C_drew ?_))); (case side4 => exact HC0.out); rintro e w' ⟨rfl, ⟨nd, rfl⟩⟩))
                        go_meet
                        case rel => exact ⟨_, H', ⟨by have := HJ3.out; first | omega | exact Nat.le_refl _⟩, ⟨by repeat (first | (with_reducible first | exact HB.out | apply below_alloc | apply pw_below_drewN | apply below_drew1) | exact HB.out)⟩⟩
                  · rw [if_neg c20] at H
                    have c20b0 : (t1282 == 1) = false := beq_eq_false_iff_ne.mpr c20
                    have c20b1 : (t1282 != 1) = true := bne_iff_ne.mpr c20
                    by_cases c31 : (l1.length : Int) > 0
                    · rw [if_pos c31] at H
                      have c31b0 : decide (0 < (l1.length : Int)) = true := decide_eq_true c31
                      have c31b1 : decide (0 < l1.length) = true := decide_eq_true (by omega)
                      clear c31
                      obtain rfl := Option.some.inj H
                      exact absurd HRR.out Bool.false_ne_true
                    · rw [if_neg c31] at H
                      have c31b0 : decide (0 < (l1.length : Int)) = false := decide_eq_false c31
                      have c31b1 : decide (0 < l1.length) = false := decide_eq_false (by omega)
                      clear c31
                      by_cases c32 : t1282 = 0
                      · rw [if_pos c32] at H
                        have c32b0 : (t1282 == 0) = true := beq_iff_eq.mpr c32
                        have c32b1 : (t1282 != 0) = false := bne_eq_false_iff_eq.mpr c32
                        clear c32
                        have H' := Aside0.mk H
                        clear H
                        obtain ⟨Ao33, co33, eo33⟩ := Kd.R_slice HO1276.out
                        subst eo33
                        go_wp2_with (first | ((with_reducible refine gate_callee (f := 56) rfl ?_); refine goesL_ (some 41) rfl rfl Try.func56 (by kernel_rfl) rfl #[.slice Ao33 t1274.length co33, .slice A1 l1.length c1] rfl (by (try simp only [List.map_toArray, List.map_cons, List.map_nil]); first | done | rfl | (simp only [List.length_drop, List.length_take]; rfl)) ?_; (with_reducible refine (number_Sub.calls kj3 (fun k_ => some k_ = (.slice Ao33 t1274.length co33 : Value).ownBlock) _ _ t1274 (fun k_ => k_ < w.heap.size) _ _ l1 t1278 t1281 _ ?side1 ?side2 A14.out).mono ?_); (case side1 => exact Kd.R_V (Kd.R_tight rfl (HO1276.out))); (case side2 => exact Kd.V_mk HC1.out (Kd.F_below (Kd.C_F (Kd.heap_int .u32) HR1.out) (by repeat (first | (with_reducible first | exact HB.out | apply below_alloc | apply pw_below_drewN | apply below_drew1) | exact HB.out)))); rintro e w34 ⟨v1279, rfl, ho0, hb⟩; refine ⟨_, rfl, ?_⟩; have n0_ := Aside0.mk (Kd.R_elder' (by (with_reducible repeat (first | apply Kd.R_alloc | apply Kd.R_drewN | apply Kd.R_drew)); exact HO1276.out) (Kd.R_base ho0) hb); have n1_ := Aside0.mk (Kd.R_lower (Kd.R_new' (Kd.R_mono (ok' := fun k_ => True) ho0 (fun _ hk_ => trivial)) (Kd.R_lt (by (with_reducible repeat (first | apply Kd.R_alloc | apply Kd.R_drewN | apply Kd.R_drew)); exact HO1276.out))) (below_size (by repeat (first | (with_reducible first | exact HB.out | apply below_alloc | apply pw_below_drewN | apply below_drew1) | exact HB.out)))); have n2_ := Aside0.mk (below_step (by repeat (first | (with_reducible first | exact HB.out | apply below_alloc | apply pw_below_drewN | apply below_drew1) | exact HB.out)) hb); clear HO1276; clear HB; have HO1276 := n0_; have HO1280 := n1_; have HB := n2_; clear n0_ n1_ n2_; (try clear hb); (try clear hb2); (try clear hk); (try clear hi); (try clear ho0)) | ((with_reducible refine gate_callee (f := 51) rfl ?_); refine goesL_ (some 47) rfl rfl Try.func51 (by kernel_rfl) rfl #[.slice Ao33 t1274.length co33, .slice A0 l0.length c0] rfl (by (try simp only [List.map_toArray, List.map_cons, List.map_nil]); first | done | rfl | (simp only [List.length_drop, List.length_take]; rfl)) ?_; (with_reducible refine (number_Compare.calls (fun k_ => some k_ = (.slice Ao33 t1274.length co33 : Value).ownBlock) _ _ t1274 (fun k_ => k_ < w.heap.size) _ _ l0 t1282 t1283 _ ?side1 ?side2 A15.out).mono ?_); (case side1 => exact Kd.R_V (Kd.R_tight rfl (HO1276.out))); (case side2 => exact Kd.V_mk HC0.out (Kd.F_below (Kd.C_F (Kd.heap_int .u32) HR0.out) (by repeat (first | (with_reducible first | exact HB.out | apply below_alloc | apply pw_below_drewN | apply below_drew1) | exact HB.out)))); rintro e w35 ⟨rfl, hb⟩; refine ⟨_, rfl, ?_⟩; have n0_ := Aside0.mk (Kd.R_below (by (with_reducible repeat (first | apply Kd.R_alloc | apply Kd.R_drewN | apply Kd.R_drew)); exact HO1276.out) hb); have n1_ := Aside0.mk (Kd.R_below (by (with_reducible repeat (first | apply Kd.R_alloc | apply Kd.R_drewN | apply Kd.R_drew)); exact HO1280.out) hb); have n2_ := Aside0.mk (below_step (by repeat (first | (with_reducible first | exact HB.out | apply below_alloc | apply pw_below_drewN | apply below_drew1) | exact HB.out)) hb); clear HO1276; clear HO1280; clear HB; have HO1276 := n0_; have HO1280 := n1_; have HB := n2_; clear n0_ n1_ n2_; (try clear hb); (try clear hb2); (try clear hk); (try clear hi); obtain ⟨Ao36, co36, eo36⟩ := Kd.R_slice HO1280.out; subst eo36) | (go_at_call 31; (with_reducible refine (headendref01_Same.calls kj3 _ _ t1278 _ _ l0 true _ ?side1 ?side2 ?side3 ?side4 A17.out).mono ?_); (case side1 => repeat (first | exact (Kd.R_reads' HO1280.out).2.2 | (with_reducible refine Kd.C_alloc ?_ _) | (with_reducible refine Kd.C_drewN ?_ _) | (with_reducible refine Kd.C_drew ?_))); (case side2 => exact (Kd.R_reads' HO1280.out).2.1); (case side3 => repeat (first | exact (Kd.C_below HR0.out HB.out) | (with_reducible refine Kd.C_alloc ?_ _) | (with_reducible refine Kd.C_drewN ?_ _) | (with_reducible refine Kd.C_drew ?_))); (case side4 => exact HC0.out); rintro e w' ⟨rfl, ⟨nd, rfl⟩⟩))
                        go_meet
                        case rel => exact ⟨_, H', ⟨by have := HJ3.out; first | omega | exact Nat.le_refl _⟩, ⟨by repeat (first | (with_reducible first | exact HB.out | apply below_alloc | apply pw_below_drewN | apply below_drew1) | exact HB.out)⟩⟩
                      · rw [if_neg c32] at H
                        have c32b0 : (t1282 == 0) = false := beq_eq_false_iff_ne.mpr c32
                        have c32b1 : (t1282 != 0) = true := bne_iff_ne.mpr c32
                        by_cases c37 : (l1.length : Int) = 0
                        · rw [if_pos c37] at H
                          have c37b0 : ((l1.length : Int) == 0) = true := beq_iff_eq.mpr c37
                          have c37b1 : ((l1.length : Int) != 0) = false := bne_eq_false_iff_eq.mpr c37
                          clear c37
                          obtain rfl := Option.some.inj H
                          exact absurd HRR.out Bool.false_ne_true
                        · rw [if_neg c37] at H
                          have c37b0 : ((l1.length : Int) == 0) = false := beq_eq_false_iff_ne.mpr c37
                          have c37b1 : ((l1.length : Int) != 0) = true := bne_iff_ne.mpr c37
                          have c37b2 : ¬ (l1 = []) := fun h_ => c37 (by rw [h_]; rfl)
                          have H' := Aside0.mk H
                          clear H
                          obtain ⟨Ao38, co38, eo38⟩ := Kd.R_slice HO1276.out
                          subst eo38
                          go_wp2_with (first | ((with_reducible refine gate_callee (f := 56) rfl ?_); refine goesL_ (some 41) rfl rfl Try.func56 (by kernel_rfl) rfl #[.slice Ao38 t1274.length co38, .slice A1 l1.length c1] rfl (by (try simp only [List.map_toArray, List.map_cons, List.map_nil]); first | done | rfl | (simp only [List.length_drop, List.length_take]; rfl)) ?_; (with_reducible refine (number_Sub.calls kj3 (fun k_ => some k_ = (.slice Ao38 t1274.length co38 : Value).ownBlock) _ _ t1274 (fun k_ => k_ < w.heap.size) _ _ l1 t1278 t1281 _ ?side1 ?side2 A14.out).mono ?_); (case side1 => exact Kd.R_V (Kd.R_tight rfl (HO1276.out))); (case side2 => exact Kd.V_mk HC1.out (Kd.F_below (Kd.C_F (Kd.heap_int .u32) HR1.out) (by repeat (first | (with_reducible first | exact HB.out | apply below_alloc | apply pw_below_drewN | apply below_drew1) | exact HB.out)))); rintro e w39 ⟨v1279, rfl, ho0, hb⟩; refine ⟨_, rfl, ?_⟩; have n0_ := Aside0.mk (Kd.R_elder' (by (with_reducible repeat (first | apply Kd.R_alloc | apply Kd.R_drewN | apply Kd.R_drew)); exact HO1276.out) (Kd.R_base ho0) hb); have n1_ := Aside0.mk (Kd.R_lower (Kd.R_new' (Kd.R_mono (ok' := fun k_ => True) ho0 (fun _ hk_ => trivial)) (Kd.R_lt (by (with_reducible repeat (first | apply Kd.R_alloc | apply Kd.R_drewN | apply Kd.R_drew)); exact HO1276.out))) (below_size (by repeat (first | (with_reducible first | exact HB.out | apply below_alloc | apply pw_below_drewN | apply below_drew1) | exact HB.out)))); have n2_ := Aside0.mk (below_step (by repeat (first | (with_reducible first | exact HB.out | apply below_alloc | apply pw_below_drewN | apply below_drew1) | exact HB.out)) hb); clear HO1276; clear HB; have HO1276 := n0_; have HO1280 := n1_; have HB := n2_; clear n0_ n1_ n2_; (try clear hb); (try clear hb2); (try clear hk); (try clear hi); (try clear ho0)) | ((with_reducible refine gate_callee (f := 51) rfl ?_); refine goesL_ (some 47) rfl rfl Try.func51 (by kernel_rfl) rfl #[.slice Ao38 t1274.length co38, .slice A0 l0.length c0] rfl (by (try simp only [List.map_toArray, List.map_cons, List.map_nil]); first | done | rfl | (simp only [List.length_drop, List.length_take]; rfl)) ?_; (with_reducible refine (number_Compare.calls (fun k_ => some k_ = (.slice Ao38 t1274.length co38 : Value).ownBlock) _ _ t1274 (fun k_ => k_ < w.heap.size) _ _ l0 t1282 t1283 _ ?side1 ?side2 A15.out).mono ?_); (case side1 => exact Kd.R_V (Kd.R_tight rfl (HO1276.out))); (case side2 => exact Kd.V_mk HC0.out (Kd.F_below (Kd.C_F (Kd.heap_int .u32) HR0.out) (by repeat (first | (with_reducible first | exact HB.out | apply below_alloc | apply pw_below_drewN | apply below_drew1) | exact HB.out)))); rintro e w40 ⟨rfl, hb⟩; refine ⟨_, rfl, ?_⟩; have n0_ := Aside0.mk (Kd.R_below (by (with_reducible repeat (first | apply Kd.R_alloc | apply Kd.R_drewN | apply Kd.R_drew)); exact HO1276.out) hb); have n1_ := Aside0.mk (Kd.R_below (by (with_reducible repeat (first | apply Kd.R_alloc | apply Kd.R_drewN | apply Kd.R_drew)); exact HO1280.out) hb); have n2_ := Aside0.mk (below_step (by repeat (first | (with_reducible first | exact HB.out | apply below_alloc | apply pw_below_drewN | apply below_drew1) | exact HB.out)) hb); clear HO1276; clear HO1280; clear HB; have HO1276 := n0_; have HO1280 := n1_; have HB := n2_; clear n0_ n1_ n2_; (try clear hb); (try clear hb2); (try clear hk); (try clear hi); obtain ⟨Ao41, co41, eo41⟩ := Kd.R_slice HO1280.out; subst eo41) | (go_at_call 31; (with_reducible refine (headendref01_Same.calls kj3 _ _ t1278 _ _ l0 true _ ?side1 ?side2 ?side3 ?side4 A17.out).mono ?_); (case side1 => repeat (first | exact (Kd.R_reads' HO1280.out).2.2 | (with_reducible refine Kd.C_alloc ?_ _) | (with_reducible refine Kd.C_drewN ?_ _) | (with_reducible refine Kd.C_drew ?_))); (case side2 => exact (Kd.R_reads' HO1280.out).2.1); (case side3 => repeat (first | exact (Kd.C_below HR0.out HB.out) | (with_reducible refine Kd.C_alloc ?_ _) | (with_reducible refine Kd.C_drewN ?_ _) | (with_reducible refine Kd.C_drew ?_))); (case side4 => exact HC0.out); rintro e w' ⟨rfl, ⟨nd, rfl⟩⟩))
                          go_meet
                          case rel => exact ⟨_, H', ⟨by have := HJ3.out; first | omega | exact Nat.le_refl _⟩, ⟨by repeat (first | (with_reducible first | exact HB.out | apply below_alloc | apply pw_below_drewN | apply below_drew1) | exact HB.out)⟩⟩
                · rw [if_neg c19] at H
                  have c19b0 : (t1283 == 0) = false := beq_eq_false_iff_ne.mpr c19
                  have c19b1 : (t1283 != 0) = true := bne_iff_ne.mpr c19
                  obtain rfl := Option.some.inj H
                  exact absurd HRR.out Bool.false_ne_true
              · replace c18 := Bool.eq_false_iff.mpr c18
                subst c18
                have H1 : (some false) = some r := by rw [if_neg (show ¬ (false = true) by decide)] at H; exact H
                clear H
                have H := H1
                clear H1
                obtain rfl := Option.some.inj H
                exact absurd HRR.out Bool.false_ne_true
            · rw [if_neg c16] at H
              have c16b0 : (t1281 == 0) = false := beq_eq_false_iff_ne.mpr c16
              have c16b1 : (t1281 != 0) = true := bne_iff_ne.mpr c16
              obtain rfl := Option.some.inj H
              exact absurd HRR.out Bool.false_ne_true
          · rw [if_neg c13] at H
            have c13b0 : (t1277 == 0) = false := beq_eq_false_iff_ne.mpr c13
            have c13b1 : (t1277 != 0) = true := bne_iff_ne.mpr c13
            (first | rw [c13b0] | (simp only [i64_w, i32_w, u8_w, u32_w, u64_of_u8, u64_of_u32]; rw [c13b0]) | skip)
            have H' := Aside0.mk H
            clear H
            go_wp2
            go_meet
            case rel => exact ⟨_, H', ⟨by have := HJ3.out; first | omega | exact Nat.le_refl _⟩, ⟨by repeat (first | (with_reducible first | exact HB.out | apply below_alloc | apply pw_below_drewN | apply below_drew1) | exact HB.out)⟩⟩
        case rest =>
          clear HC11
          try clear c1
          try clear c2
          try clear p2
          try clear c3
          try clear c4
          try clear c5
          try clear c7
          try clear c9
          try clear c13
          try clear c13b0
          try clear c13b1
          try clear c16
          try clear c16b0
          try clear c16b1
          try clear c18
          try clear c19
          try clear c19b0
          try clear c19b1
          try clear c20
          try clear c20b0
          try clear c20b1
          try clear c21
          try clear c21b0
          try clear c21b1
          try clear c26
          try clear c26b0
          try clear c26b1
          try clear c26b2
          try clear c31
          try clear c31b0
          try clear c31b1
          try clear c32
          try clear c32b0
          try clear c32b1
          try clear c37
          try clear c37b0
          try clear c37b1
          try clear c37b2
          try clear p2
          obtain ⟨kq, HA, HJ10, HB⟩ := hcut
          cases kq with
          | zero => exact absurd HA.out (by simp [headendlaw01_NumberBack.j1])
          | succ kj10 =>
            have H := HA.out
            clear HA
            simp only [headendlaw01_NumberBack.j1] at H
            replace H := Option.bind_eq_some_iff.mp H
            obtain ⟨⟨t1285, t1286⟩, A420, H⟩ := H
            replace H : ((number_Compare.f l1 l0).bind fun bt1287 => ((number_Sub.f kj10 l0 l1).bind fun bt1289 => (if t1286 = 0 then (if bt1287.2 = 0 then (if t1285 = (wrap64 (-bt1287.1)) then (if ((decide (t1285 < 0)) != (bt1289.2 == 11)) = true then (headendlaw01_NumberBack.j2 kj10 l0 l1 t1271 bt1289.1 bt1289.2 true) else ((headendref01_Same.f kj10 l0 l1).bind fun t1293 => (headendlaw01_NumberBack.j2 kj10 l0 l1 t1271 bt1289.1 bt1289.2 ((t1285 == 0) != t1293)))) else (headendlaw01_NumberBack.j2 kj10 l0 l1 t1271 bt1289.1 bt1289.2 true)) else (headendlaw01_NumberBack.j2 kj10 l0 l1 t1271 bt1289.1 bt1289.2 true)) else (headendlaw01_NumberBack.j2 kj10 l0 l1 t1271 bt1289.1 bt1289.2 true)))) = some r := H
            have A42 := Aside0.mk A420
            clear A420
            replace H := Option.bind_eq_some_iff.mp H
            obtain ⟨⟨t1287, t1288⟩, A430, H⟩ := H
            replace H : ((number_Sub.f kj10 l0 l1).bind fun bt1289 => (if t1286 = 0 then (if t1288 = 0 then (if t1285 = (wrap64 (-t1287)) then (if ((decide (t1285 < 0)) != (bt1289.2 == 11)) = true then (headendlaw01_NumberBack.j2 kj10 l0 l1 t1271 bt1289.1 bt1289.2 true) else ((headendref01_Same.f kj10 l0 l1).bind fun t1293 => (headendlaw01_NumberBack.j2 kj10 l0 l1 t1271 bt1289.1 bt1289.2 ((t1285 == 0) != t1293)))) else (headendlaw01_NumberBack.j2 kj10 l0 l1 t1271 bt1289.1 bt1289.2 true)) else (headendlaw01_NumberBack.j2 kj10 l0 l1 t1271 bt1289.1 bt1289.2 true)) else (headendlaw01_NumberBack.j2 kj10 l0 l1 t1271 bt1289.1 bt1289.2 true))) = some r := H
            have A43 := Aside0.mk A430
            clear A430
            replace H := Option.bind_eq_some_iff.mp H
            obtain ⟨⟨t1289, t1292⟩, A440, H⟩ := H
            replace H : (if t1286 = 0 then (if t1288 = 0 then (if t1285 = (wrap64 (-t1287)) then (if ((decide (t1285 < 0)) != (t1292 == 11)) = true then (headendlaw01_NumberBack.j2 kj10 l0 l1 t1271 t1289 t1292 true) else ((headendref01_Same.f kj10 l0 l1).bind fun t1293 => (headendlaw01_NumberBack.j2 kj10 l0 l1 t1271 t1289 t1292 ((t1285 == 0) != t1293)))) else (headendlaw01_NumberBack.j2 kj10 l0 l1 t1271 t1289 t1292 true)) else (headendlaw01_NumberBack.j2 kj10 l0 l1 t1271 t1289 t1292 true)) else (headendlaw01_NumberBack.j2 kj10 l0 l1 t1271 t1289 t1292 true)) = some r := H
            have A44 := Aside0.mk A440
            clear A440
            have HC45 := Aside0.mk H
            clear H
            go_upto_region 13 with (first | ((with_reducible refine gate_callee (f := 51) rfl ?_); refine goesL_ (some 83) rfl rfl Try.func51 (by kernel_rfl) rfl #[.slice A0 l0.length c0, .slice A1 l1.length c1] rfl (by (try simp only [List.map_toArray, List.map_cons, List.map_nil]); first | done | rfl | (simp only [List.length_drop, List.length_take]; rfl)) ?_; (with_reducible refine (number_Compare.calls (fun k_ => k_ < w.heap.size) _ _ l0 (fun k_ => k_ < w.heap.size) _ _ l1 t1285 t1286 _ ?side1 ?side2 A42.out).mono ?_); (case side1 => exact Kd.V_mk HC0.out (Kd.F_below (Kd.C_F (Kd.heap_int .u32) HR0.out) (by repeat (first | (with_reducible first | exact HB.out | apply below_alloc | apply pw_below_drewN | apply below_drew1) | exact HB.out)))); (case side2 => exact Kd.V_mk HC1.out (Kd.F_below (Kd.C_F (Kd.heap_int .u32) HR1.out) (by repeat (first | (with_reducible first | exact HB.out | apply below_alloc | apply pw_below_drewN | apply below_drew1) | exact HB.out)))); rintro e w46 ⟨rfl, hb⟩; refine ⟨_, rfl, ?_⟩; have n0_ := Aside0.mk (below_step (by repeat (first | (with_reducible first | exact HB.out | apply below_alloc | apply pw_below_drewN | apply below_drew1) | exact HB.out)) hb); clear HB; have HB := n0_; clear n0_; (try clear hb); (try clear hb2); (try clear hk); (try clear hi)) | ((with_reducible refine gate_callee (f := 51) rfl ?_); refine goesL_ (some 89) rfl rfl Try.func51 (by kernel_rfl) rfl #[.slice A1 l1.length c1, .slice A0 l0.length c0] rfl (by (try simp only [List.map_toArray, List.map_cons, List.map_nil]); first | done | rfl | (simp only [List.length_drop, List.length_take]; rfl)) ?_; (with_reducible refine (number_Compare.calls (fun k_ => k_ < w.heap.size) _ _ l1 (fun k_ => k_ < w.heap.size) _ _ l0 t1287 t1288 _ ?side1 ?side2 A43.out).mono ?_); (case side1 => exact Kd.V_mk HC1.out (Kd.F_below (Kd.C_F (Kd.heap_int .u32) HR1.out) (by repeat (first | (with_reducible first | exact HB.out | apply below_alloc | apply pw_below_drewN | apply below_drew1) | exact HB.out)))); (case side2 => exact Kd.V_mk HC0.out (Kd.F_below (Kd.C_F (Kd.heap_int .u32) HR0.out) (by repeat (first | (with_reducible first | exact HB.out | apply below_alloc | apply pw_below_drewN | apply below_drew1) | exact HB.out)))); rintro e w47 ⟨rfl, hb⟩; refine ⟨_, rfl, ?_⟩; have n0_ := Aside0.mk (below_step (by repeat (first | (with_reducible first | exact HB.out | apply below_alloc | apply pw_below_drewN | apply below_drew1) | exact HB.out)) hb); clear HB; have HB := n0_; clear n0_; (try clear hb); (try clear hb2); (try clear hk); (try clear hi)) | ((with_reducible refine gate_callee (f := 56) rfl ?_); refine goesL_ (some 95) rfl rfl Try.func56 (by kernel_rfl) rfl #[.slice A0 l0.length c0, .slice A1 l1.length c1] rfl (by (try simp only [List.map_toArray, List.map_cons, List.map_nil]); first | done | rfl | (simp only [List.length_drop, List.length_take]; rfl)) ?_; (with_reducible refine (number_Sub.calls kj10 (fun k_ => k_ < w.heap.size) _ _ l0 (fun k_ => k_ < w.heap.size) _ _ l1 t1289 t1292 _ ?side1 ?side2 A44.out).mono ?_); (case side1 => exact Kd.V_mk HC0.out (Kd.F_below (Kd.C_F (Kd.heap_int .u32) HR0.out) (by repeat (first | (with_reducible first | exact HB.out | apply below_alloc | apply pw_below_drewN | apply below_drew1) | exact HB.out)))); (case side2 => exact Kd.V_mk HC1.out (Kd.F_below (Kd.C_F (Kd.heap_int .u32) HR1.out) (by repeat (first | (with_reducible first | exact HB.out | apply below_alloc | apply pw_below_drewN | apply below_drew1) | exact HB.out)))); rintro e w48 ⟨v1290, rfl, ho0, hb⟩; refine ⟨_, rfl, ?_⟩; have n0_ := Aside0.mk (Kd.R_lower (Kd.R_mono (ok' := fun k_ => True) ho0 (fun _ hk_ => trivial)) (below_size (by repeat (first | (with_reducible first | exact HB.out | apply below_alloc | apply pw_below_drewN | apply below_drew1) | exact HB.out)))); have n1_ := Aside0.mk (below_step (by repeat (first | (with_reducible first | exact HB.out | apply below_alloc | apply pw_below_drewN | apply below_drew1) | exact HB.out)) hb); clear HB; have HO1291 := n0_; have HB := n1_; clear n0_ n1_; (try clear hb); (try clear hb2); (try clear hk); (try clear hi); (try clear ho0)))
            (try simp only [Act.put, List.setIfInBounds_toArray, List.set_cons_zero, List.set_cons_succ])
            go_cut [124] (fun v124 wc => ∃ (kq : Nat) (x124_44 : Bool), v124 = .bool x124_44 ∧ Aside0 (headendlaw01_NumberBack.j2 kq l0 l1 t1271 t1289 t1292 x124_44 = some r) ∧ Aside0 (kq ≤ kj10) ∧ Aside0 (Kd.R (Kd.int .u32) 84 wc w.heap.size (fun _ => True) v1290 t1289) ∧ Aside0 (Below w.heap.size w wc))
            case first =>
              have H := HC45.out
              clear HC45
              by_cases c49 : t1286 = 0
              · rw [if_pos c49] at H
                have c49b0 : (t1286 == 0) = true := beq_iff_eq.mpr c49
                have c49b1 : (t1286 != 0) = false := bne_eq_false_iff_eq.mpr c49
                clear c49
                (first | rw [c49b0] | (simp only [i64_w, i32_w, u8_w, u32_w, u64_of_u8, u64_of_u32]; rw [c49b0]) | skip)
                by_cases c50 : t1288 = 0
                · rw [if_pos c50] at H
                  have c50b0 : (t1288 == 0) = true := beq_iff_eq.mpr c50
                  have c50b1 : (t1288 != 0) = false := bne_eq_false_iff_eq.mpr c50
                  clear c50
                  by_cases c51 : t1285 = (wrap64 (-t1287))
                  · rw [if_pos c51] at H
                    have c51b0 : (t1285 == (wrap64 (-t1287))) = true := beq_iff_eq.mpr c51
                    have c51b1 : (t1285 != (wrap64 (-t1287))) = false := bne_eq_false_iff_eq.mpr c51
                    clear c51
                    by_cases c52 : ((decide (t1285 < 0)) != (t1292 == 11)) = true
                    · rw [if_pos c52] at H
                      have c52b0 : ((decide (t1285 < 0)) != (t1292 == 11)) = true := c52
                      (try (have c52b1 : decide ((decide (t1285 < 0)) = (t1292 == 11)) = false := by simpa using c52))
                      (try (have c52b2 : ((decide (t1285 < 0)) == (t1292 == 11)) = false := by simpa using c52))
                      (try (have c52b3 : ¬ ((decide (t1285 < 0)) = (t1292 == 11)) := by simpa using c52))
                      clear c52
                      cases kj10 with
                      | zero => exact absurd H (by simp [headendlaw01_NumberBack.j2])
                      | succ kd_ => (simp only [headendlaw01_NumberBack.j2] at H; (try rw [if_pos rfl] at H); obtain rfl := Option.some.inj H; exact absurd HRR.out Bool.false_ne_true)
                    · rw [if_neg c52] at H
                      have c52b0 : ((decide (t1285 < 0)) != (t1292 == 11)) = false := by simpa using c52
                      (try (have c52b1 : decide ((decide (t1285 < 0)) = (t1292 == 11)) = true := by simpa using c52))
                      (try (have c52b2 : ((decide (t1285 < 0)) == (t1292 == 11)) = true := by simpa using c52))
                      clear c52
                      replace H := Option.bind_eq_some_iff.mp H
                      obtain ⟨t1293, A530, H⟩ := H
                      replace H : (headendlaw01_NumberBack.j2 kj10 l0 l1 t1271 t1289 t1292 ((t1285 == 0) != t1293)) = some r := H
                      have A53 := Aside0.mk A530
                      clear A530
                      have H' := Aside0.mk H
                      clear H
                      go_wp2_with (first | (go_at_call 31; (with_reducible refine (headendref01_Same.calls kj10 _ _ l0 _ _ l1 t1293 _ ?side1 ?side2 ?side3 ?side4 A53.out).mono ?_); (case side1 => repeat (first | exact (Kd.C_below HR0.out HB.out) | (with_reducible refine Kd.C_alloc ?_ _) | (with_reducible refine Kd.C_drewN ?_ _) | (with_reducible refine Kd.C_drew ?_))); (case side2 => exact HC0.out); (case side3 => repeat (first | exact (Kd.C_below HR1.out HB.out) | (with_reducible refine Kd.C_alloc ?_ _) | (with_reducible refine Kd.C_drewN ?_ _) | (with_reducible refine Kd.C_drew ?_))); (case side4 => exact HC1.out); rintro e w' ⟨rfl, ⟨nd, rfl⟩⟩))
                      go_meet
                      case rel => exact ⟨_, (((t1285 == 0) != t1293)), (by first | rfl | (simp; done) | (simp [*]; done)), H', ⟨by have := HJ3.out; have := HJ10.out; first | omega | exact Nat.le_refl _⟩, ⟨by (with_reducible repeat (first | apply Kd.R_alloc | apply Kd.R_drewN | apply Kd.R_drew)); exact HO1291.out⟩, ⟨by repeat (first | (with_reducible first | exact HB.out | apply below_alloc | apply pw_below_drewN | apply below_drew1) | exact HB.out)⟩⟩
                  · rw [if_neg c51] at H
                    have c51b0 : (t1285 == (wrap64 (-t1287))) = false := beq_eq_false_iff_ne.mpr c51
                    have c51b1 : (t1285 != (wrap64 (-t1287))) = true := bne_iff_ne.mpr c51
                    cases kj10 with
                    | zero => exact absurd H (by simp [headendlaw01_NumberBack.j2])
                    | succ kd_ => (simp only [headendlaw01_NumberBack.j2] at H; (try rw [if_pos rfl] at H); obtain rfl := Option.some.inj H; exact absurd HRR.out Bool.false_ne_true)
                · rw [if_neg c50] at H
                  have c50b0 : (t1288 == 0) = false := beq_eq_false_iff_ne.mpr c50
                  have c50b1 : (t1288 != 0) = true := bne_iff_ne.mpr c50
                  cases kj10 with
                  | zero => exact absurd H (by simp [headendlaw01_NumberBack.j2])
                  | succ kd_ => (simp only [headendlaw01_NumberBack.j2] at H; (try rw [if_pos rfl] at H); obtain rfl := Option.some.inj H; exact absurd HRR.out Bool.false_ne_true)
              · rw [if_neg c49] at H
                have c49b0 : (t1286 == 0) = false := beq_eq_false_iff_ne.mpr c49
                have c49b1 : (t1286 != 0) = true := bne_iff_ne.mpr c49
                (first | rw [c49b0] | (simp only [i64_w, i32_w, u8_w, u32_w, u64_of_u8, u64_of_u32]; rw [c49b0]) | skip)
                cases kj10 with
                | zero => exact absurd H (by simp [headendlaw01_NumberBack.j2])
                | succ kd_ => (simp only [headendlaw01_NumberBack.j2] at H; (try rw [if_pos rfl] at H); obtain rfl := Option.some.inj H; exact absurd HRR.out Bool.false_ne_true)
            case rest =>
              clear HC45
              try clear c1
              try clear c2
              try clear p2
              try clear c3
              try clear c4
              try clear c5
              try clear p6
              try clear c7
              try clear c9
              try clear c13
              try clear c13b0
              try clear c13b1
              try clear c16
              try clear c16b0
              try clear c16b1
              try clear c18
              try clear c19
              try clear c19b0
              try clear c19b1
              try clear c20
              try clear c20b0
              try clear c20b1
              try clear c21
              try clear c21b0
              try clear c21b1
              try clear c26
              try clear c26b0
              try clear c26b1
              try clear c26b2
              try clear c31
              try clear c31b0
              try clear c31b1
              try clear c32
              try clear c32b0
              try clear c32b1
              try clear c37
              try clear c37b0
              try clear c37b1
              try clear c37b2
              try clear c47
              try clear c48
              try clear c49
              try clear c49b0
              try clear c49b1
              try clear c50
              try clear c50b0
              try clear c50b1
              try clear c51
              try clear c51b0
              try clear c51b1
              try clear c52
              try clear c52b0
              try clear c52b1
              try clear c52b2
              try clear p2
              obtain ⟨kq, x124_44, rfl, HA, HJ44, HO_16, HB⟩ := hcut
              cases kq with
              | zero => exact absurd HA.out (by simp [headendlaw01_NumberBack.j2])
              | succ kj44 =>
                have H := HA.out
                clear HA
                simp only [headendlaw01_NumberBack.j2] at H
                by_cases c54 : x124_44 = true
                · subst c54
                  have H1 : (some false) = some r := by rw [if_pos rfl] at H; exact H
                  clear H
                  have H := H1
                  clear H1
                  obtain rfl := Option.some.inj H
                  exact absurd HRR.out Bool.false_ne_true
                · replace c54 := Bool.eq_false_iff.mpr c54
                  subst c54
                  have H1 : (if t1292 = 0 then ((number_Add.f kj44 t1289 l1).bind fun bt1294 => (if t1271 = true then (if bt1294.2 = 0 then ((headendref01_Same.f kj44 bt1294.1 l0).bind fun t1298 => (some t1298)) else (some false)) else (some false))) else (if t1271 = true then (some (t1292 == 11)) else (some false))) = some r := by rw [if_neg (show ¬ (false = true) by decide)] at H; exact H
                  clear H
                  have H := H1
                  clear H1
                  by_cases c55 : t1292 = 0
                  · rw [if_pos c55] at H
                    have c55b0 : (t1292 == 0) = true := beq_iff_eq.mpr c55
                    have c55b1 : (t1292 != 0) = false := bne_eq_false_iff_eq.mpr c55
                    clear c55
                    replace H := Option.bind_eq_some_iff.mp H
                    obtain ⟨⟨t1294, t1297⟩, A560, H⟩ := H
                    replace H : (if t1271 = true then (if t1297 = 0 then ((headendref01_Same.f kj44 t1294 l0).bind fun t1298 => (some t1298)) else (some false)) else (some false)) = some r := H
                    have A56 := Aside0.mk A560
                    clear A560
                    by_cases c57 : t1271 = true
                    · subst c57
                      have H1 : (if t1297 = 0 then ((headendref01_Same.f kj44 t1294 l0).bind fun t1298 => (some t1298)) else (some false)) = some r := by rw [if_pos rfl] at H; exact H
                      clear H
                      have H := H1
                      clear H1
                      by_cases c58 : t1297 = 0
                      · rw [if_pos c58] at H
                        have c58b0 : (t1297 == 0) = true := beq_iff_eq.mpr c58
                        have c58b1 : (t1297 != 0) = false := bne_eq_false_iff_eq.mpr c58
                        clear c58
                        replace H := Option.bind_eq_some_iff.mp H
                        obtain ⟨t1298, A590, H⟩ := H
                        replace H : (some t1298) = some r := H
                        have A59 := Aside0.mk A590
                        clear A590
                        obtain rfl := Option.some.inj H
                        obtain ⟨Ao60, co60, eo60⟩ := Kd.R_slice HO_16.out
                        subst eo60
                        go_wp2_with (first | ((with_reducible refine gate_callee (f := 50) rfl ?_); refine goesL_ (some 135) rfl rfl Try.func50 (by kernel_rfl) rfl #[.slice Ao60 t1289.length co60, .slice A1 l1.length c1] rfl (by (try simp only [List.map_toArray, List.map_cons, List.map_nil]); first | done | rfl | (simp only [List.length_drop, List.length_take]; rfl)) ?_; (with_reducible refine (number_Add.calls kj44 (fun k_ => some k_ = (.slice Ao60 t1289.length co60 : Value).ownBlock) _ _ t1289 (fun k_ => k_ < w.heap.size) _ _ l1 t1294 t1297 _ ?side1 ?side2 A56.out).mono ?_); (case side1 => exact Kd.R_V (Kd.R_tight rfl (HO_16.out))); (case side2 => exact Kd.V_mk HC1.out (Kd.F_below (Kd.C_F (Kd.heap_int .u32) HR1.out) (by repeat (first | (with_reducible first | exact HB.out | apply below_alloc | apply pw_below_drewN | apply below_drew1) | exact HB.out)))); rintro e w61 ⟨v1295, rfl, ho0, hb⟩; refine ⟨_, rfl, ?_⟩; have n0_ := Aside0.mk (Kd.R_elder' (by (with_reducible repeat (first | apply Kd.R_alloc | apply Kd.R_drewN | apply Kd.R_drew)); exact HO_16.out) (Kd.R_base ho0) hb); have n1_ := Aside0.mk (Kd.R_lower (Kd.R_new' (Kd.R_mono (ok' := fun k_ => True) ho0 (fun _ hk_ => trivial)) (Kd.R_lt (by (with_reducible repeat (first | apply Kd.R_alloc | apply Kd.R_drewN | apply Kd.R_drew)); exact HO_16.out))) (below_size (by repeat (first | (with_reducible first | exact HB.out | apply below_alloc | apply pw_below_drewN | apply below_drew1) | exact HB.out)))); have n2_ := Aside0.mk (below_step (by repeat (first | (with_reducible first | exact HB.out | apply below_alloc | apply pw_below_drewN | apply below_drew1) | exact HB.out)) hb); clear HO_16; clear HB; have HO_16 := n0_; have HO1296 := n1_; have HB := n2_; clear n0_ n1_ n2_; (try clear hb); (try clear hb2); (try clear hk); (try clear hi); (try clear ho0); obtain ⟨Ao62, co62, eo62⟩ := Kd.R_slice HO1296.out; subst eo62) | (go_at_call 31; (with_reducible refine (headendref01_Same.calls kj44 _ _ t1294 _ _ l0 t1298 _ ?side1 ?side2 ?side3 ?side4 A59.out).mono ?_); (case side1 => repeat (first | exact (Kd.R_reads' HO1296.out).2.2 | (with_reducible refine Kd.C_alloc ?_ _) | (with_reducible refine Kd.C_drewN ?_ _) | (with_reducible refine Kd.C_drew ?_))); (case side2 => exact (Kd.R_reads' HO1296.out).2.1); (case side3 => repeat (first | exact (Kd.C_below HR0.out HB.out) | (with_reducible refine Kd.C_alloc ?_ _) | (with_reducible refine Kd.C_drewN ?_ _) | (with_reducible refine Kd.C_drew ?_))); (case side4 => exact HC0.out); rintro e w' ⟨rfl, ⟨nd, rfl⟩⟩))
                        go_ret
                        exact ⟨by first | rfl | (simp [errW_none, errW_some] <;> rfl) | (simp [*, errW_none, errW_some] <;> rfl), by repeat (first | (with_reducible first | exact HB.out | apply below_alloc | apply pw_below_drewN | apply below_drew1) | exact HB.out)⟩
                      · rw [if_neg c58] at H
                        have c58b0 : (t1297 == 0) = false := beq_eq_false_iff_ne.mpr c58
                        have c58b1 : (t1297 != 0) = true := bne_iff_ne.mpr c58
                        obtain rfl := Option.some.inj H
                        exact absurd HRR.out Bool.false_ne_true
                    · replace c57 := Bool.eq_false_iff.mpr c57
                      subst c57
                      have H1 : (some false) = some r := by rw [if_neg (show ¬ (false = true) by decide)] at H; exact H
                      clear H
                      have H := H1
                      clear H1
                      obtain rfl := Option.some.inj H
                      exact absurd HRR.out Bool.false_ne_true
                  · rw [if_neg c55] at H
                    have c55b0 : (t1292 == 0) = false := beq_eq_false_iff_ne.mpr c55
                    have c55b1 : (t1292 != 0) = true := bne_iff_ne.mpr c55
                    by_cases c63 : t1271 = true
                    · subst c63
                      have H1 : (some (t1292 == 11)) = some r := by rw [if_pos rfl] at H; exact H
                      clear H
                      have H := H1
                      clear H1
                      obtain rfl := Option.some.inj H
                      go_wp2
                      go_ret
                      exact ⟨by first | rfl | (simp [errW_none, errW_some] <;> rfl) | (simp [*, errW_none, errW_some] <;> rfl), by repeat (first | (with_reducible first | exact HB.out | apply below_alloc | apply pw_below_drewN | apply below_drew1) | exact HB.out)⟩
                    · replace c63 := Bool.eq_false_iff.mpr c63
                      subst c63
                      have H1 : (some false) = some r := by rw [if_neg (show ¬ (false = true) by decide)] at H; exact H
                      clear H
                      have H := H1
                      clear H1
                      obtain rfl := Option.some.inj H
                      exact absurd HRR.out Bool.false_ne_true
/-- THE ONE PURE STATEMENT of headendlaw01_NumberBack: yours. -/
def headendlaw01_NumberBack.Pure : Prop := ∀ (l0 : List Int) (l1 : List Int), l0.length ≤ maxLen → l0.length * 4 ≤ 140737488351232 → (∀ x ∈ l0, (Lit.int .u32 x).wf = true) → l1.length ≤ maxLen → l1.length * 4 ≤ 140737488351232 → (∀ x ∈ l1, (Lit.int .u32 x).wf = true) → ∃ k, headendlaw01_NumberBack.f k l0 l1 = some true
theorem headendlaw01_NumberBack.walk (P : headendlaw01_NumberBack.Pure) (a0 : Option Addr) (len0 cap0 : Nat) (z0 : List Int) (a1 : Option Addr) (len1 cap1 : Nat) (z1 : List Int) (w : World) (w0 : (a0 = none ∧ len0 = 0 ∧ cap0 = 0 ∧ z0 = []) ∨ ∃ x, a0 = some x ∧ len0 ≤ cap0 ∧ cap0 ≤ maxLen ∧ z0.length = cap0 ∧ (∀ i, i < z0.length → w.cell? (x.add i) = some (.int .u32 (z0.getD i 0))) ∧ ∀ n ∈ z0, (Lit.int .u32 n).wf = true) (y0 : len0 * 4 ≤ 140737488351232) (w1 : (a1 = none ∧ len1 = 0 ∧ cap1 = 0 ∧ z1 = []) ∨ ∃ x, a1 = some x ∧ len1 ≤ cap1 ∧ cap1 ≤ maxLen ∧ z1.length = cap1 ∧ (∀ i, i < z1.length → w.cell? (x.add i) = some (.int .u32 (z1.getD i 0))) ∧ ∀ n ∈ z1, (Lit.int .u32 n).wf = true) (y1 : len1 * 4 ≤ 140737488351232) :
    Calls Try.prog 18 #[.slice a0 len0 cap0, .slice a1 len1 cap1] w fun e w' => e = .returned (.bool true) ∧ Below w.heap.size w w' := by
  obtain ⟨l0, rfl, hr0, hm0, hw0, hc0⟩ := ReadsInt.ofRowC w0
  obtain ⟨l1, rfl, hr1, hm1, hw1, hc1⟩ := ReadsInt.ofRowC w1
  obtain ⟨k, h⟩ := P l0 l1 hm0 y0 hw0 hm1 y1 hw1
  refine (headendlaw01_NumberBack.calls k _ _ l0 _ _ l1 true w (Kd.C_of_reads (d := (0 : Int)) (h1 := fun _ => rfl) hr0) hc0 (Kd.C_of_reads (d := (0 : Int)) (h1 := fun _ => rfl) hr1) hc1 h rfl).mono ?_
  rintro e w' ⟨rfl, hd⟩
  exact ⟨rfl, hd⟩
end Go.Proofs.Ythhgfogdeaaidaa.R

