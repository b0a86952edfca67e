-- Written by a program of this session (wip/printmore.py over the kit's print.py): callers of hand-proved contracts. Lean checks it.
import Derived.Test.YthhgfogdeaaidaaR0
import Derived.Test.YthhgfogdeaaidaaR7
import Derived.Test.YthhgfogdeaaidaaR10
import Derived.Test.YthhgfogdeaaidaaR13
import Derived.Test.YthhgfogdeaaidaaR17
import Derived.Test.YthhgfogdeaaidaaR18
import Derived.Test.YthhgfogdeaaidaaGalive
namespace Go.Proofs.Ythhgfogdeaaidaa.R
open Go.RowKit Go.Proofs.YthhgfogdeaaidaaW.PrintWords Go.Proofs.YthhgfogdeaaidaaW.PrintLast Go.Proofs.YthhgfogdeaaidaaW.PrintMore
attribute [local go_sem] max2_int min2_int max_two min_two max_three min_three max_four min_four   -- for this text's walks alone
set_option linter.unusedVariables false
set_option linter.unusedSimpArgs false
/-! ### headendlaw01_NumberDivides: function 16 -/
def headendlaw01_NumberDivides.j0 : Nat → List Int → List Int → Bool → Bool → Option (Bool)
  | 0, _, _, _, _ => none
  | k + 1, x0, x1, x5, x23 => if x23 = true then (some x5) else ((number_Div.f x0 x1).bind fun bt1237 => (if (x1.length : Int) = 0 then (if x5 = true then (some (bt1237.2.2 == 10)) else (some false)) else ((number_Mul.f k bt1237.1 x1).bind fun bt1244 => ((number_Add.f k bt1244.1 bt1237.2.1).bind fun bt1248 => ((number_Compare.f bt1237.2.1 x1).bind fun bt1252 => (if x5 = true then (if bt1237.2.2 = 0 then (if bt1244.2 = 0 then (if bt1248.2 = 0 then ((headendref01_Same.f k bt1248.1 x0).bind fun t1254 => (if t1254 = true then (if bt1252.2 = 0 then (some (bt1252.1 == (-1))) else (some false)) else (some false))) else (some false)) else (some false)) else (some false)) else (some false)))))))
def headendlaw01_NumberDivides.f (k : Nat) (l0 : List Int) (l1 : List Int) : Option (Bool) := (headendlaw01_alive.f).bind fun t1234 => ((headendref01_Valid.f l0).bind fun t1235 => (if t1235 = true then ((headendref01_Valid.f l1).bind fun t1236 => (headendlaw01_NumberDivides.j0 k l0 l1 t1234 (!t1236))) else (headendlaw01_NumberDivides.j0 k l0 l1 t1234 true)))
set_option maxHeartbeats 8000000 in
set_option maxRecDepth 100000 in
theorem headendlaw01_NumberDivides.calls (k : Nat) (A0 : Option Addr) (c0 : Nat) (l0 : List Int) (A1 : Option Addr) (c1 : Nat) (l1 : List Int) (r : Bool) (w : World) (hr0 : Kd.C (Kd.int .u32) w A0 l0.length l0) (hc0 : l0.length ≤ c0) (hr1 : Kd.C (Kd.int .u32) w A1 l1.length l1) (hc1 : l1.length ≤ c1) (h : headendlaw01_NumberDivides.f k l0 l1 = some r) (hr : r = true) :
    Calls Try.prog 16 #[.slice A0 l0.length c0, .slice A1 l1.length c1] w fun e w' => e = .returned (.bool r) ∧ Below w.heap.size w w' := by
  have HR0 := Aside0.mk hr0
  have HC0 := Aside0.mk hc0
  clear hr0 hc0
  have HR1 := Aside0.mk hr1
  have HC1 := Aside0.mk hc1
  clear hr1 hc1
  have HB := Aside0.mk (Below.refl w.heap.size w)
  have H : ((headendlaw01_alive.f).bind fun t1234 => ((headendref01_Valid.f l0).bind fun t1235 => (if t1235 = true then ((headendref01_Valid.f l1).bind fun t1236 => (headendlaw01_NumberDivides.j0 k l0 l1 t1234 (!t1236))) else (headendlaw01_NumberDivides.j0 k l0 l1 t1234 true)))) = some r := h
  clear h
  have HRR := Aside0.mk hr
  clear hr
  replace H := Option.bind_eq_some_iff.mp H
  obtain ⟨t1234, A30, H⟩ := H
  replace H : ((headendref01_Valid.f l0).bind fun t1235 => (if t1235 = true then ((headendref01_Valid.f l1).bind fun t1236 => (headendlaw01_NumberDivides.j0 k l0 l1 t1234 (!t1236))) else (headendlaw01_NumberDivides.j0 k l0 l1 t1234 true))) = some r := H
  have A3 := Aside0.mk A30
  clear A30
  have HC4 := Aside0.mk H
  clear H
  go_enter Try.func16, Try.ntmps16
  go_upto_region 2 with (first | ((with_reducible refine gate_callee (f := 47) rfl ?_); refine goesL_ (some 15) rfl rfl Try.func47 (by kernel_rfl) rfl #[] rfl (by (try simp only [List.map_toArray, List.map_cons, List.map_nil]); first | done | rfl | (simp only [List.length_drop, List.length_take]; rfl)) ?_; (with_reducible refine (headendlaw01_alive.calls  t1234 _ A3.out).mono ?_); rintro e w5 ⟨rfl, hb⟩; refine ⟨_, rfl, ?_⟩; have n0_ := Aside0.mk (below_step (by repeat (first | (with_reducible first | exact HB.out | apply below_alloc | apply pw_below_drewN | apply below_drew1) | exact HB.out)) hb); clear HB; have HB := n0_; clear n0_; (try clear hb); (try clear hb2); (try clear hk); (try clear hi)))
  (try simp only [Act.put, List.setIfInBounds_toArray, List.set_cons_zero, List.set_cons_succ])
  go_cut [23] (fun v23 wc => ∃ (kq : Nat) (x23_3 : Bool), v23 = .bool x23_3 ∧ Aside0 (headendlaw01_NumberDivides.j0 kq l0 l1 t1234 x23_3 = some r) ∧ Aside0 (kq ≤ k) ∧ Aside0 (Below w.heap.size w wc))
  case first =>
    have H := HC4.out
    clear HC4
    replace H := Option.bind_eq_some_iff.mp H
    obtain ⟨t1235, A60, H⟩ := H
    replace H : (if t1235 = true then ((headendref01_Valid.f l1).bind fun t1236 => (headendlaw01_NumberDivides.j0 k l0 l1 t1234 (!t1236))) else (headendlaw01_NumberDivides.j0 k l0 l1 t1234 true)) = some r := H
    have A6 := Aside0.mk A60
    clear A60
    by_cases c7 : t1235 = true
    · subst c7
      have H1 : ((headendref01_Valid.f l1).bind fun t1236 => (headendlaw01_NumberDivides.j0 k l0 l1 t1234 (!t1236))) = some r := by rw [if_pos rfl] at H; exact H
      clear H
      have H := H1
      clear H1
      replace H := Option.bind_eq_some_iff.mp H
      obtain ⟨t1236, A80, H⟩ := H
      replace H : (headendlaw01_NumberDivides.j0 k l0 l1 t1234 (!t1236)) = some r := H
      have A8 := Aside0.mk A80
      clear A80
      have H' := Aside0.mk H
      clear H
      go_wp2_with (first | ((with_reducible refine gate_callee (f := 48) rfl ?_); refine goesL_ (some 17) rfl rfl Try.func48 (by kernel_rfl) rfl #[.slice A0 l0.length c0] rfl (by (try simp only [List.map_toArray, List.map_cons, List.map_nil]); first | done | rfl | (simp only [List.length_drop, List.length_take]; rfl)) ?_; (with_reducible refine (headendref01_Valid.calls _ _ l0 true _ ?side1 ?side2 A6.out).mono ?_); (case side1 => repeat (first | exact (Kd.C_below HR0.out HB.out) | (with_reducible refine Kd.C_alloc ?_ _) | (with_reducible refine Kd.C_drewN ?_ _) | (with_reducible refine Kd.C_drew ?_))); (case side2 => exact HC0.out); rintro e w' ⟨rfl, ⟨nd, rfl⟩⟩; refine ⟨_, rfl, ?_⟩) | (go_at_call 48; (with_reducible refine (headendref01_Valid.calls _ _ l1 t1236 _ ?side1 ?side2 A8.out).mono ?_); (case side1 => repeat (first | exact (Kd.C_below HR1.out (by repeat (first | (with_reducible first | exact HB.out | apply below_alloc | apply pw_below_drewN | apply below_drew1) | exact HB.out))) | (with_reducible refine Kd.C_alloc ?_ _) | (with_reducible refine Kd.C_drewN ?_ _) | (with_reducible refine Kd.C_drew ?_))); (case side2 => exact HC1.out); rintro e w' ⟨rfl, ⟨nd, rfl⟩⟩))
      go_meet
      case rel => exact ⟨_, (!t1236), (by first | rfl | (simp; done) | (simp [*]; done)), H', ⟨by first | omega | exact Nat.le_refl _⟩, ⟨by repeat (first | (with_reducible first | exact HB.out | apply below_alloc | apply pw_below_drewN | apply below_drew1) | exact HB.out)⟩⟩
    · replace c7 := Bool.eq_false_iff.mpr c7
      subst c7
      have H1 : (headendlaw01_NumberDivides.j0 k l0 l1 t1234 true) = some r := by rw [if_neg (show ¬ (false = true) by decide)] at H; exact H
      clear H
      have H := H1
      clear H1
      have H' := Aside0.mk H
      clear H
      go_wp2_with (first | ((with_reducible refine gate_callee (f := 48) rfl ?_); refine goesL_ (some 17) rfl rfl Try.func48 (by kernel_rfl) rfl #[.slice A0 l0.length c0] rfl (by (try simp only [List.map_toArray, List.map_cons, List.map_nil]); first | done | rfl | (simp only [List.length_drop, List.length_take]; rfl)) ?_; (with_reducible refine (headendref01_Valid.calls _ _ l0 false _ ?side1 ?side2 A6.out).mono ?_); (case side1 => repeat (first | exact (Kd.C_below HR0.out HB.out) | (with_reducible refine Kd.C_alloc ?_ _) | (with_reducible refine Kd.C_drewN ?_ _) | (with_reducible refine Kd.C_drew ?_))); (case side2 => exact HC0.out); rintro e w' ⟨rfl, ⟨nd, rfl⟩⟩; refine ⟨_, rfl, ?_⟩))
      go_meet
      case rel => exact ⟨_, (true), (by first | rfl | (simp; done) | (simp [*]; done)), H', ⟨by first | omega | exact Nat.le_refl _⟩, ⟨by repeat (first | (with_reducible first | exact HB.out | apply below_alloc | apply pw_below_drewN | apply below_drew1) | exact HB.out)⟩⟩
  case rest =>
    clear HC4
    try clear c1
    try clear p2
    try clear c4
    try clear c7
    obtain ⟨kq, x23_3, rfl, HA, HJ3, HB⟩ := hcut
    cases kq with
    | zero => exact absurd HA.out (by simp [headendlaw01_NumberDivides.j0])
    | succ kj3 =>
      have H := HA.out
      clear HA
      simp only [headendlaw01_NumberDivides.j0] at H
      by_cases c9 : x23_3 = true
      · subst c9
        have H1 : (some t1234) = some r := by rw [if_pos rfl] at H; exact H
        clear H
        have H := H1
        clear H1
        obtain rfl := Option.some.inj H
        go_wp2
        go_ret
        exact ⟨by first | rfl | (simp [errW_none, errW_some] <;> rfl) | (simp [*, errW_none, errW_some] <;> rfl), by repeat (first | (with_reducible first | exact HB.out | apply below_alloc | apply pw_below_drewN | apply below_drew1) | exact HB.out)⟩
      · replace c9 := Bool.eq_false_iff.mpr c9
        subst c9
        have H1 : ((number_Div.f l0 l1).bind fun bt1237 => (if (l1.length : Int) = 0 then (if t1234 = true then (some (bt1237.2.2 == 10)) else (some false)) else ((number_Mul.f kj3 bt1237.1 l1).bind fun bt1244 => ((number_Add.f kj3 bt1244.1 bt1237.2.1).bind fun bt1248 => ((number_Compare.f bt1237.2.1 l1).bind fun bt1252 => (if t1234 = true then (if bt1237.2.2 = 0 then (if bt1244.2 = 0 then (if bt1248.2 = 0 then ((headendref01_Same.f kj3 bt1248.1 l0).bind fun t1254 => (if t1254 = true then (if bt1252.2 = 0 then (some (bt1252.1 == (-1))) else (some false)) else (some false))) else (some false)) else (some false)) else (some false)) else (some false))))))) = some r := by rw [if_neg (show ¬ (false = true) by decide)] at H; exact H
        clear H
        have H := H1
        clear H1
        replace H := Option.bind_eq_some_iff.mp H
        obtain ⟨⟨t1237, t1240, t1243⟩, A100, H⟩ := H
        replace H : (if (l1.length : Int) = 0 then (if t1234 = true then (some (t1243 == 10)) else (some false)) else ((number_Mul.f kj3 t1237 l1).bind fun bt1244 => ((number_Add.f kj3 bt1244.1 t1240).bind fun bt1248 => ((number_Compare.f t1240 l1).bind fun bt1252 => (if t1234 = true then (if t1243 = 0 then (if bt1244.2 = 0 then (if bt1248.2 = 0 then ((headendref01_Same.f kj3 bt1248.1 l0).bind fun t1254 => (if t1254 = true then (if bt1252.2 = 0 then (some (bt1252.1 == (-1))) else (some false)) else (some false))) else (some false)) else (some false)) else (some false)) else (some false)))))) = some r := H
        have A10 := Aside0.mk A100
        clear A100
        by_cases c11 : (l1.length : Int) = 0
        · rw [if_pos c11] at H
          have c11b0 : ((l1.length : Int) == 0) = true := beq_iff_eq.mpr c11
          have c11b1 : ((l1.length : Int) != 0) = false := bne_eq_false_iff_eq.mpr c11
          clear c11
          by_cases c12 : t1234 = true
          · subst c12
            have H1 : (some (t1243 == 10)) = some r := by rw [if_pos rfl] at H; exact H
            clear H
            have H := H1
            clear H1
            obtain rfl := Option.some.inj H
            go_wp2_with (first | ((with_reducible refine gate_callee (f := 59) rfl ?_); refine goesL_ (some 28) rfl rfl Try.func59 (by kernel_rfl) rfl #[.slice A0 l0.length c0, .slice A1 l1.length c1] rfl (by (try simp only [List.map_toArray, List.map_cons, List.map_nil]); first | done | rfl | (simp only [List.length_drop, List.length_take]; rfl)) ?_; (with_reducible refine (number_Div.calls (fun k_ => k_ < w.heap.size) _ _ l0 (fun k_ => k_ < w.heap.size) _ _ l1 t1237 t1240 t1243 _ ?side1 ?side2 A10.out).mono ?_); (case side1 => exact Kd.V_mk HC0.out (Kd.F_below (Kd.C_F (Kd.heap_int .u32) HR0.out) (by repeat (first | (with_reducible first | exact HB.out | apply below_alloc | apply pw_below_drewN | apply below_drew1) | exact HB.out)))); (case side2 => exact Kd.V_mk HC1.out (Kd.F_below (Kd.C_F (Kd.heap_int .u32) HR1.out) (by repeat (first | (with_reducible first | exact HB.out | apply below_alloc | apply pw_below_drewN | apply below_drew1) | exact HB.out)))); rintro e w13 ⟨v1238, v1241, rfl, ho0, ho1, hb⟩; refine ⟨_, rfl, ?_⟩; have n0_ := Aside0.mk (Kd.R_lower (Kd.R_mono (ok' := fun k_ => some k_ ≠ (v1241 : Value).ownBlock) ho0 (fun _ hk_ => hk_.2)) (below_size (by repeat (first | (with_reducible first | exact HB.out | apply below_alloc | apply pw_below_drewN | apply below_drew1) | exact HB.out)))); have n1_ := Aside0.mk (Kd.R_lower (Kd.R_mono (ok' := fun k_ => some k_ ≠ (v1238 : Value).ownBlock) ho1 (fun _ hk_ => hk_.2)) (below_size (by repeat (first | (with_reducible first | exact HB.out | apply below_alloc | apply pw_below_drewN | apply below_drew1) | exact HB.out)))); have n2_ := Aside0.mk (below_step (by repeat (first | (with_reducible first | exact HB.out | apply below_alloc | apply pw_below_drewN | apply below_drew1) | exact HB.out)) hb); clear HB; have HO1239 := n0_; have HO1242 := n1_; have HB := n2_; clear n0_ n1_ n2_; (try clear hb); (try clear hb2); (try clear hk); (try clear hi); (try clear ho0); (try clear ho1)))
            go_ret
            exact ⟨by first | rfl | (simp [errW_none, errW_some] <;> rfl) | (simp [*, errW_none, errW_some] <;> rfl), by repeat (first | (with_reducible first | exact HB.out | apply below_alloc | apply pw_below_drewN | apply below_drew1) | exact HB.out)⟩
          · replace c12 := Bool.eq_false_iff.mpr c12
            subst c12
            have H1 : (some false) = some r := by rw [if_neg (show ¬ (false = true) by decide)] at H; exact H
            clear H
            have H := H1
            clear H1
            obtain rfl := Option.some.inj H
            exact absurd HRR.out Bool.false_ne_true
        · rw [if_neg c11] at H
          have c11b0 : ((l1.length : Int) == 0) = false := beq_eq_false_iff_ne.mpr c11
          have c11b1 : ((l1.length : Int) != 0) = true := bne_iff_ne.mpr c11
          have c11b2 : ¬ (l1 = []) := fun h_ => c11 (by rw [h_]; rfl)
          replace H := Option.bind_eq_some_iff.mp H
          obtain ⟨⟨t1244, t1247⟩, A140, H⟩ := H
          replace H : ((number_Add.f kj3 t1244 t1240).bind fun bt1248 => ((number_Compare.f t1240 l1).bind fun bt1252 => (if t1234 = true then (if t1243 = 0 then (if t1247 = 0 then (if bt1248.2 = 0 then ((headendref01_Same.f kj3 bt1248.1 l0).bind fun t1254 => (if t1254 = true then (if bt1252.2 = 0 then (some (bt1252.1 == (-1))) else (some false)) else (some false))) else (some false)) else (some false)) else (some false)) else (some false)))) = some r := H
          have A14 := Aside0.mk A140
          clear A140
          replace H := Option.bind_eq_some_iff.mp H
          obtain ⟨⟨t1248, t1251⟩, A150, H⟩ := H
          replace H : ((number_Compare.f t1240 l1).bind fun bt1252 => (if t1234 = true then (if t1243 = 0 then (if t1247 = 0 then (if t1251 = 0 then ((headendref01_Same.f kj3 t1248 l0).bind fun t1254 => (if t1254 = true then (if bt1252.2 = 0 then (some (bt1252.1 == (-1))) else (some false)) else (some false))) else (some false)) else (some false)) else (some false)) else (some false))) = some r := H
          have A15 := Aside0.mk A150
          clear A150
          replace H := Option.bind_eq_some_iff.mp H
          obtain ⟨⟨t1252, t1253⟩, A160, H⟩ := H
          replace H : (if t1234 = true then (if t1243 = 0 then (if t1247 = 0 then (if t1251 = 0 then ((headendref01_Same.f kj3 t1248 l0).bind fun t1254 => (if t1254 = true then (if t1253 = 0 then (some (t1252 == (-1))) else (some false)) else (some false))) else (some false)) else (some false)) else (some false)) else (some false)) = some r := H
          have A16 := Aside0.mk A160
          clear A160
          by_cases c17 : t1234 = true
          · subst c17
            have H1 : (if t1243 = 0 then (if t1247 = 0 then (if t1251 = 0 then ((headendref01_Same.f kj3 t1248 l0).bind fun t1254 => (if t1254 = true then (if t1253 = 0 then (some (t1252 == (-1))) else (some false)) else (some false))) else (some false)) else (some false)) else (some false)) = some r := by rw [if_pos rfl] at H; exact H
            clear H
            have H := H1
            clear H1
            by_cases c18 : t1243 = 0
            · rw [if_pos c18] at H
              have c18b0 : (t1243 == 0) = true := beq_iff_eq.mpr c18
              have c18b1 : (t1243 != 0) = false := bne_eq_false_iff_eq.mpr c18
              clear c18
              by_cases c19 : t1247 = 0
              · rw [if_pos c19] at H
                have c19b0 : (t1247 == 0) = true := beq_iff_eq.mpr c19
                have c19b1 : (t1247 != 0) = false := bne_eq_false_iff_eq.mpr c19
                clear c19
                by_cases c20 : t1251 = 0
                · rw [if_pos c20] at H
                  have c20b0 : (t1251 == 0) = true := beq_iff_eq.mpr c20
                  have c20b1 : (t1251 != 0) = false := bne_eq_false_iff_eq.mpr c20
                  clear c20
                  replace H := Option.bind_eq_some_iff.mp H
                  obtain ⟨t1254, A210, H⟩ := H
                  replace H : (if t1254 = true then (if t1253 = 0 then (some (t1252 == (-1))) else (some false)) else (some false)) = some r := H
                  have A21 := Aside0.mk A210
                  clear A210
                  by_cases c22 : t1254 = true
                  · subst c22
                    have H1 : (if t1253 = 0 then (some (t1252 == (-1))) else (some false)) = some r := by rw [if_pos rfl] at H; exact H
                    clear H
                    have H := H1
                    clear H1
                    by_cases c23 : t1253 = 0
                    · rw [if_pos c23] at H
                      have c23b0 : (t1253 == 0) = true := beq_iff_eq.mpr c23
                      have c23b1 : (t1253 != 0) = false := bne_eq_false_iff_eq.mpr c23
                      clear c23
                      obtain rfl := Option.some.inj H
                      go_wp2_with (first | ((with_reducible refine gate_callee (f := 59) rfl ?_); refine goesL_ (some 28) rfl rfl Try.func59 (by kernel_rfl) rfl #[.slice A0 l0.length c0, .slice A1 l1.length c1] rfl (by (try simp only [List.map_toArray, List.map_cons, List.map_nil]); first | done | rfl | (simp only [List.length_drop, List.length_take]; rfl)) ?_; (with_reducible refine (number_Div.calls (fun k_ => k_ < w.heap.size) _ _ l0 (fun k_ => k_ < w.heap.size) _ _ l1 t1237 t1240 t1243 _ ?side1 ?side2 A10.out).mono ?_); (case side1 => exact Kd.V_mk HC0.out (Kd.F_below (Kd.C_F (Kd.heap_int .u32) HR0.out) (by repeat (first | (with_reducible first | exact HB.out | apply below_alloc | apply pw_below_drewN | apply below_drew1) | exact HB.out)))); (case side2 => exact Kd.V_mk HC1.out (Kd.F_below (Kd.C_F (Kd.heap_int .u32) HR1.out) (by repeat (first | (with_reducible first | exact HB.out | apply below_alloc | apply pw_below_drewN | apply below_drew1) | exact HB.out)))); rintro e w24 ⟨v1238, v1241, rfl, ho0, ho1, hb⟩; refine ⟨_, rfl, ?_⟩; have n0_ := Aside0.mk (Kd.R_lower (Kd.R_mono (ok' := fun k_ => some k_ ≠ (v1241 : Value).ownBlock) ho0 (fun _ hk_ => hk_.2)) (below_size (by repeat (first | (with_reducible first | exact HB.out | apply below_alloc | apply pw_below_drewN | apply below_drew1) | exact HB.out)))); have n1_ := Aside0.mk (Kd.R_lower (Kd.R_mono (ok' := fun k_ => some k_ ≠ (v1238 : Value).ownBlock) ho1 (fun _ hk_ => hk_.2)) (below_size (by repeat (first | (with_reducible first | exact HB.out | apply below_alloc | apply pw_below_drewN | apply below_drew1) | exact HB.out)))); have n2_ := Aside0.mk (below_step (by repeat (first | (with_reducible first | exact HB.out | apply below_alloc | apply pw_below_drewN | apply below_drew1) | exact HB.out)) hb); clear HB; have HO1239 := n0_; have HO1242 := n1_; have HB := n2_; clear n0_ n1_ n2_; (try clear hb); (try clear hb2); (try clear hk); (try clear hi); (try clear ho0); (try clear ho1); obtain ⟨Ao25, co25, eo25⟩ := Kd.R_slice HO1239.out; subst eo25) | ((with_reducible refine gate_callee (f := 49) rfl ?_); refine goesL_ (some 43) rfl rfl Try.func49 (by kernel_rfl) rfl #[.slice Ao25 t1237.length co25, .slice A1 l1.length c1] rfl (by (try simp only [List.map_toArray, List.map_cons, List.map_nil]); first | done | rfl | (simp only [List.length_drop, List.length_take]; rfl)) ?_; (with_reducible refine (number_Mul.calls kj3 (fun k_ => some k_ = (.slice Ao25 t1237.length co25 : Value).ownBlock) _ _ t1237 (fun k_ => k_ < w.heap.size) _ _ l1 t1244 t1247 _ ?side1 ?side2 A14.out).mono ?_); (case side1 => exact Kd.R_V (Kd.R_tight rfl (HO1239.out))); (case side2 => exact Kd.V_mk HC1.out (Kd.F_below (Kd.C_F (Kd.heap_int .u32) HR1.out) (by repeat (first | (with_reducible first | exact HB.out | apply below_alloc | apply pw_below_drewN | apply below_drew1) | exact HB.out)))); rintro e w26 ⟨v1245, rfl, ho0, hb⟩; refine ⟨_, rfl, ?_⟩; have n0_ := Aside0.mk (Kd.R_elder' (by (with_reducible repeat (first | apply Kd.R_alloc | apply Kd.R_drewN | apply Kd.R_drew)); exact HO1239.out) (Kd.R_base ho0) hb); have n1_ := Aside0.mk (Kd.R_elder' (by (with_reducible repeat (first | apply Kd.R_alloc | apply Kd.R_drewN | apply Kd.R_drew)); exact HO1242.out) (Kd.R_base ho0) hb); have n2_ := Aside0.mk (Kd.R_lower (Kd.R_new' (Kd.R_new' (Kd.R_mono (ok' := fun k_ => True) ho0 (fun _ hk_ => trivial)) (Kd.R_lt (by (with_reducible repeat (first | apply Kd.R_alloc | apply Kd.R_drewN | apply Kd.R_drew)); exact HO1239.out))) (Kd.R_lt (by (with_reducible repeat (first | apply Kd.R_alloc | apply Kd.R_drewN | apply Kd.R_drew)); exact HO1242.out))) (below_size (by repeat (first | (with_reducible first | exact HB.out | apply below_alloc | apply pw_below_drewN | apply below_drew1) | exact HB.out)))); have n3_ := Aside0.mk (below_step (by repeat (first | (with_reducible first | exact HB.out | apply below_alloc | apply pw_below_drewN | apply below_drew1) | exact HB.out)) hb); clear HO1239; clear HO1242; clear HB; have HO1239 := n0_; have HO1242 := n1_; have HO1246 := n2_; have HB := n3_; clear n0_ n1_ n2_ n3_; (try clear hb); (try clear hb2); (try clear hk); (try clear hi); (try clear ho0); obtain ⟨Ao27, co27, eo27⟩ := Kd.R_slice HO1246.out; subst eo27; obtain ⟨Ao28, co28, eo28⟩ := Kd.R_slice HO1242.out; subst eo28) | ((with_reducible refine gate_callee (f := 50) rfl ?_); refine goesL_ (some 49) rfl rfl Try.func50 (by kernel_rfl) rfl #[.slice Ao27 t1244.length co27, .slice Ao28 t1240.length co28] rfl (by (try simp only [List.map_toArray, List.map_cons, List.map_nil]); first | done | rfl | (simp only [List.length_drop, List.length_take]; rfl)) ?_; (with_reducible refine (number_Add.calls kj3 (fun k_ => some k_ = (.slice Ao27 t1244.length co27 : Value).ownBlock) _ _ t1244 (fun k_ => some k_ = (.slice Ao28 t1240.length co28 : Value).ownBlock) _ _ t1240 t1248 t1251 _ ?side1 ?side2 A15.out).mono ?_); (case side1 => exact Kd.R_V (Kd.R_tight rfl (HO1246.out))); (case side2 => exact Kd.R_V (Kd.R_tight rfl (HO1242.out))); rintro e w29 ⟨v1249, rfl, ho0, hb⟩; refine ⟨_, rfl, ?_⟩; have n0_ := Aside0.mk (Kd.R_elder' (by (with_reducible repeat (first | apply Kd.R_alloc | apply Kd.R_drewN | apply Kd.R_drew)); exact HO1239.out) (Kd.R_base ho0) hb); have n1_ := Aside0.mk (Kd.R_elder' (by (with_reducible repeat (first | apply Kd.R_alloc | apply Kd.R_drewN | apply Kd.R_drew)); exact HO1242.out) (Kd.R_base ho0) hb); have n2_ := Aside0.mk (Kd.R_elder' (by (with_reducible repeat (first | apply Kd.R_alloc | apply Kd.R_drewN | apply Kd.R_drew)); exact HO1246.out) (Kd.R_base ho0) hb); have n3_ := Aside0.mk (Kd.R_lower (Kd.R_new' (Kd.R_new' (Kd.R_new' (Kd.R_mono (ok' := fun k_ => True) ho0 (fun _ hk_ => trivial)) (Kd.R_lt (by (with_reducible repeat (first | apply Kd.R_alloc | apply Kd.R_drewN | apply Kd.R_drew)); exact HO1239.out))) (Kd.R_lt (by (with_reducible repeat (first | apply Kd.R_alloc | apply Kd.R_drewN | apply Kd.R_drew)); exact HO1242.out))) (Kd.R_lt (by (with_reducible repeat (first | apply Kd.R_alloc | apply Kd.R_drewN | apply Kd.R_drew)); exact HO1246.out))) (below_size (by repeat (first | (with_reducible first | exact HB.out | apply below_alloc | apply pw_below_drewN | apply below_drew1) | exact HB.out)))); have n4_ := Aside0.mk (below_step (by repeat (first | (with_reducible first | exact HB.out | apply below_alloc | apply pw_below_drewN | apply below_drew1) | exact HB.out)) hb); clear HO1239; clear HO1242; clear HO1246; clear HB; have HO1239 := n0_; have HO1242 := n1_; have HO1246 := n2_; have HO1250 := n3_; have HB := n4_; clear n0_ n1_ n2_ n3_ n4_; (try clear hb); (try clear hb2); (try clear hk); (try clear hi); (try clear ho0)) | ((with_reducible refine gate_callee (f := 51) rfl ?_); refine goesL_ (some 55) rfl rfl Try.func51 (by kernel_rfl) rfl #[.slice Ao28 t1240.length co28, .slice A1 l1.length c1] rfl (by (try simp only [List.map_toArray, List.map_cons, List.map_nil]); first | done | rfl | (simp only [List.length_drop, List.length_take]; rfl)) ?_; (with_reducible refine (number_Compare.calls (fun k_ => some k_ = (.slice Ao28 t1240.length co28 : Value).ownBlock) _ _ t1240 (fun k_ => k_ < w.heap.size) _ _ l1 t1252 t1253 _ ?side1 ?side2 A16.out).mono ?_); (case side1 => exact Kd.R_V (Kd.R_tight rfl (HO1242.out))); (case side2 => exact Kd.V_mk HC1.out (Kd.F_below (Kd.C_F (Kd.heap_int .u32) HR1.out) (by repeat (first | (with_reducible first | exact HB.out | apply below_alloc | apply pw_below_drewN | apply below_drew1) | exact HB.out)))); rintro e w30 ⟨rfl, hb⟩; refine ⟨_, rfl, ?_⟩; have n0_ := Aside0.mk (Kd.R_below (by (with_reducible repeat (first | apply Kd.R_alloc | apply Kd.R_drewN | apply Kd.R_drew)); exact HO1239.out) hb); have n1_ := Aside0.mk (Kd.R_below (by (with_reducible repeat (first | apply Kd.R_alloc | apply Kd.R_drewN | apply Kd.R_drew)); exact HO1242.out) hb); have n2_ := Aside0.mk (Kd.R_below (by (with_reducible repeat (first | apply Kd.R_alloc | apply Kd.R_drewN | apply Kd.R_drew)); exact HO1246.out) hb); have n3_ := Aside0.mk (Kd.R_below (by (with_reducible repeat (first | apply Kd.R_alloc | apply Kd.R_drewN | apply Kd.R_drew)); exact HO1250.out) hb); have n4_ := Aside0.mk (below_step (by repeat (first | (with_reducible first | exact HB.out | apply below_alloc | apply pw_below_drewN | apply below_drew1) | exact HB.out)) hb); clear HO1239; clear HO1242; clear HO1246; clear HO1250; clear HB; have HO1239 := n0_; have HO1242 := n1_; have HO1246 := n2_; have HO1250 := n3_; have HB := n4_; clear n0_ n1_ n2_ n3_ n4_; (try clear hb); (try clear hb2); (try clear hk); (try clear hi); obtain ⟨Ao31, co31, eo31⟩ := Kd.R_slice HO1250.out; subst eo31) | (go_at_call 31; (with_reducible refine (headendref01_Same.calls kj3 _ _ t1248 _ _ l0 true _ ?side1 ?side2 ?side3 ?side4 A21.out).mono ?_); (case side1 => repeat (first | exact (Kd.R_reads' HO1250.out).2.2 | (with_reducible refine Kd.C_alloc ?_ _) | (with_reducible refine Kd.C_drewN ?_ _) | (with_reducible refine Kd.C_drew ?_))); (case side2 => exact (Kd.R_reads' HO1250.out).2.1); (case side3 => repeat (first | exact (Kd.C_below HR0.out HB.out) | (with_reducible refine Kd.C_alloc ?_ _) | (with_reducible refine Kd.C_drewN ?_ _) | (with_reducible refine Kd.C_drew ?_))); (case side4 => exact HC0.out); rintro e w' ⟨rfl, ⟨nd, rfl⟩⟩))
                      go_ret
                      exact ⟨by first | rfl | (simp [errW_none, errW_some] <;> rfl) | (simp [*, errW_none, errW_some] <;> rfl), by repeat (first | (with_reducible first | exact HB.out | apply below_alloc | apply pw_below_drewN | apply below_drew1) | exact HB.out)⟩
                    · rw [if_neg c23] at H
                      have c23b0 : (t1253 == 0) = false := beq_eq_false_iff_ne.mpr c23
                      have c23b1 : (t1253 != 0) = true := bne_iff_ne.mpr c23
                      obtain rfl := Option.some.inj H
                      exact absurd HRR.out Bool.false_ne_true
                  · replace c22 := Bool.eq_false_iff.mpr c22
                    subst c22
                    have H1 : (some false) = some r := by rw [if_neg (show ¬ (false = true) by decide)] at H; exact H
                    clear H
                    have H := H1
                    clear H1
                    obtain rfl := Option.some.inj H
                    exact absurd HRR.out Bool.false_ne_true
                · rw [if_neg c20] at H
                  have c20b0 : (t1251 == 0) = false := beq_eq_false_iff_ne.mpr c20
                  have c20b1 : (t1251 != 0) = true := bne_iff_ne.mpr c20
                  obtain rfl := Option.some.inj H
                  exact absurd HRR.out Bool.false_ne_true
              · rw [if_neg c19] at H
                have c19b0 : (t1247 == 0) = false := beq_eq_false_iff_ne.mpr c19
                have c19b1 : (t1247 != 0) = true := bne_iff_ne.mpr c19
                obtain rfl := Option.some.inj H
                exact absurd HRR.out Bool.false_ne_true
            · rw [if_neg c18] at H
              have c18b0 : (t1243 == 0) = false := beq_eq_false_iff_ne.mpr c18
              have c18b1 : (t1243 != 0) = true := bne_iff_ne.mpr c18
              obtain rfl := Option.some.inj H
              exact absurd HRR.out Bool.false_ne_true
          · replace c17 := Bool.eq_false_iff.mpr c17
            subst c17
            have H1 : (some false) = some r := by rw [if_neg (show ¬ (false = true) by decide)] at H; exact H
            clear H
            have H := H1
            clear H1
            obtain rfl := Option.some.inj H
            exact absurd HRR.out Bool.false_ne_true
/-- THE ONE PURE STATEMENT of headendlaw01_NumberDivides: yours. -/
def headendlaw01_NumberDivides.Pure : Prop := ∀ (l0 : List Int) (l1 : List Int), l0.length ≤ maxLen → l0.length * 4 ≤ 140737488351232 → (∀ x ∈ l0, (Lit.int .u32 x).wf = true) → l1.length ≤ maxLen → l1.length * 4 ≤ 140737488351232 → (∀ x ∈ l1, (Lit.int .u32 x).wf = true) → ∃ k, headendlaw01_NumberDivides.f k l0 l1 = some true
theorem headendlaw01_NumberDivides.walk (P : headendlaw01_NumberDivides.Pure) (a0 : Option Addr) (len0 cap0 : Nat) (z0 : List Int) (a1 : Option Addr) (len1 cap1 : Nat) (z1 : List Int) (w : World) (w0 : (a0 = none ∧ len0 = 0 ∧ cap0 = 0 ∧ z0 = []) ∨ ∃ x, a0 = some x ∧ len0 ≤ cap0 ∧ cap0 ≤ maxLen ∧ z0.length = cap0 ∧ (∀ i, i < z0.length → w.cell? (x.add i) = some (.int .u32 (z0.getD i 0))) ∧ ∀ n ∈ z0, (Lit.int .u32 n).wf = true) (y0 : len0 * 4 ≤ 140737488351232) (w1 : (a1 = none ∧ len1 = 0 ∧ cap1 = 0 ∧ z1 = []) ∨ ∃ x, a1 = some x ∧ len1 ≤ cap1 ∧ cap1 ≤ maxLen ∧ z1.length = cap1 ∧ (∀ i, i < z1.length → w.cell? (x.add i) = some (.int .u32 (z1.getD i 0))) ∧ ∀ n ∈ z1, (Lit.int .u32 n).wf = true) (y1 : len1 * 4 ≤ 140737488351232) :
    Calls Try.prog 16 #[.slice a0 len0 cap0, .slice a1 len1 cap1] w fun e w' => e = .returned (.bool true) ∧ Below w.heap.size w w' := by
  obtain ⟨l0, rfl, hr0, hm0, hw0, hc0⟩ := ReadsInt.ofRowC w0
  obtain ⟨l1, rfl, hr1, hm1, hw1, hc1⟩ := ReadsInt.ofRowC w1
  obtain ⟨k, h⟩ := P l0 l1 hm0 y0 hw0 hm1 y1 hw1
  refine (headendlaw01_NumberDivides.calls k _ _ l0 _ _ l1 true w (Kd.C_of_reads (d := (0 : Int)) (h1 := fun _ => rfl) hr0) hc0 (Kd.C_of_reads (d := (0 : Int)) (h1 := fun _ => rfl) hr1) hc1 h rfl).mono ?_
  rintro e w' ⟨rfl, hd⟩
  exact ⟨rfl, hd⟩
/-! ### headendlaw01_NumberTextBack: function 17 -/
def headendlaw01_NumberTextBack.j0 : Nat → ByteArray → Bool → Option (Bool)
  | 0, _, _ => none
  | k + 1, x1, x5 => if (x1.size : Int) > 700 then (some x5) else ((number_Parse.f k x1).bind fun bt1264 => (if bt1264.2 = 0 then ((number_Text.f k bt1264.1).bind fun bt1268 => (if x5 = true then (if bt1268.2 = 0 then (if bt1268.1.toList = x1.toList then ((number_Check.f bt1264.1).bind fun t1270 => (some (t1270 == 0))) else (some false)) else (some false)) else (some false))) else (if x5 = true then (if bt1264.2 = 12 then (some ((bt1264.1.length : Int) == 0)) else (if bt1264.2 = 4 then (some ((bt1264.1.length : Int) == 0)) else (some false))) else (some false))))
def headendlaw01_NumberTextBack.f (k : Nat) (l0 : List Int) (a1 : ByteArray) : Option (Bool) := (headendlaw01_alive.f).bind fun t1255 => ((headendref01_Valid.f l0).bind fun t1256 => (if t1256 = true then ((number_Text.f k l0).bind fun bt1257 => ((number_Parse.f k bt1257.1).bind fun bt1259 => (if bt1257.2 = 0 then (if bt1259.2 = 0 then ((headendref01_Same.f k l0 bt1259.1).bind fun t1263 => (if t1263 = true then (headendlaw01_NumberTextBack.j0 k a1 t1255) else (some false))) else (some false)) else (some false)))) else (headendlaw01_NumberTextBack.j0 k a1 t1255)))
set_option maxHeartbeats 8000000 in
set_option maxRecDepth 100000 in
theorem headendlaw01_NumberTextBack.calls (k : Nat) (A0 : Option Addr) (c0 : Nat) (l0 : List Int) (a1 : ByteArray) (r : Bool) (w : World) (hr0 : Kd.C (Kd.int .u32) w A0 l0.length l0) (hc0 : l0.length ≤ c0) (h : headendlaw01_NumberTextBack.f k l0 a1 = some r) (hr : r = true) :
    Calls Try.prog 17 #[.slice A0 l0.length c0, .string a1] w fun e w' => e = .returned (.bool r) ∧ Below w.heap.size w w' := by
  have HR0 := Aside0.mk hr0
  have HC0 := Aside0.mk hc0
  clear hr0 hc0
  have HB := Aside0.mk (Below.refl w.heap.size w)
  have H : ((headendlaw01_alive.f).bind fun t1255 => ((headendref01_Valid.f l0).bind fun t1256 => (if t1256 = true then ((number_Text.f k l0).bind fun bt1257 => ((number_Parse.f k bt1257.1).bind fun bt1259 => (if bt1257.2 = 0 then (if bt1259.2 = 0 then ((headendref01_Same.f k l0 bt1259.1).bind fun t1263 => (if t1263 = true then (headendlaw01_NumberTextBack.j0 k a1 t1255) else (some false))) else (some false)) else (some false)))) else (headendlaw01_NumberTextBack.j0 k a1 t1255)))) = some r := h
  clear h
  have HRR := Aside0.mk hr
  clear hr
  replace H := Option.bind_eq_some_iff.mp H
  obtain ⟨t1255, A30, H⟩ := H
  replace H : ((headendref01_Valid.f l0).bind fun t1256 => (if t1256 = true then ((number_Text.f k l0).bind fun bt1257 => ((number_Parse.f k bt1257.1).bind fun bt1259 => (if bt1257.2 = 0 then (if bt1259.2 = 0 then ((headendref01_Same.f k l0 bt1259.1).bind fun t1263 => (if t1263 = true then (headendlaw01_NumberTextBack.j0 k a1 t1255) else (some false))) else (some false)) else (some false)))) else (headendlaw01_NumberTextBack.j0 k a1 t1255))) = some r := H
  have A3 := Aside0.mk A30
  clear A30
  replace H := Option.bind_eq_some_iff.mp H
  obtain ⟨t1256, A40, H⟩ := H
  replace H : (if t1256 = true then ((number_Text.f k l0).bind fun bt1257 => ((number_Parse.f k bt1257.1).bind fun bt1259 => (if bt1257.2 = 0 then (if bt1259.2 = 0 then ((headendref01_Same.f k l0 bt1259.1).bind fun t1263 => (if t1263 = true then (headendlaw01_NumberTextBack.j0 k a1 t1255) else (some false))) else (some false)) else (some false)))) else (headendlaw01_NumberTextBack.j0 k a1 t1255)) = some r := H
  have A4 := Aside0.mk A40
  clear A40
  have HC5 := Aside0.mk H
  clear H
  go_enter Try.func17, Try.ntmps17
  go_upto_if 16 with (first | ((with_reducible refine gate_callee (f := 47) rfl ?_); refine goesL_ (some 14) rfl rfl Try.func47 (by kernel_rfl) rfl #[] rfl (by (try simp only [List.map_toArray, List.map_cons, List.map_nil]); first | done | rfl | (simp only [List.length_drop, List.length_take]; rfl)) ?_; (with_reducible refine (headendlaw01_alive.calls  t1255 _ A3.out).mono ?_); rintro e w6 ⟨rfl, hb⟩; refine ⟨_, rfl, ?_⟩; have n0_ := Aside0.mk (below_step (by repeat (first | (with_reducible first | exact HB.out | apply below_alloc | apply pw_below_drewN | apply below_drew1) | exact HB.out)) hb); clear HB; have HB := n0_; clear n0_; (try clear hb); (try clear hb2); (try clear hk); (try clear hi)) | ((with_reducible refine gate_callee (f := 48) rfl ?_); refine goesL_ (some 16) rfl rfl Try.func48 (by kernel_rfl) rfl #[.slice A0 l0.length c0] rfl (by (try simp only [List.map_toArray, List.map_cons, List.map_nil]); first | done | rfl | (simp only [List.length_drop, List.length_take]; rfl)) ?_; (with_reducible refine (headendref01_Valid.calls _ _ l0 t1256 _ ?side1 ?side2 A4.out).mono ?_); (case side1 => repeat (first | exact (Kd.C_below HR0.out HB.out) | (with_reducible refine Kd.C_alloc ?_ _) | (with_reducible refine Kd.C_drewN ?_ _) | (with_reducible refine Kd.C_drew ?_))); (case side2 => exact HC0.out); rintro e w' ⟨rfl, ⟨nd, rfl⟩⟩; refine ⟨_, rfl, ?_⟩))
  (try simp only [Act.put, List.setIfInBounds_toArray, List.set_cons_zero, List.set_cons_succ])
  go_cut [] (fun wc => ∃ (kq : Nat), Aside0 (headendlaw01_NumberTextBack.j0 kq a1 t1255 = some r) ∧ Aside0 (kq ≤ k) ∧ Aside0 (Below w.heap.size w wc))
  case first =>
    have H := HC5.out
    clear HC5
    by_cases c7 : t1256 = true
    · subst c7
      have H1 : ((number_Text.f k l0).bind fun bt1257 => ((number_Parse.f k bt1257.1).bind fun bt1259 => (if bt1257.2 = 0 then (if bt1259.2 = 0 then ((headendref01_Same.f k l0 bt1259.1).bind fun t1263 => (if t1263 = true then (headendlaw01_NumberTextBack.j0 k a1 t1255) else (some false))) else (some false)) else (some false)))) = some r := by rw [if_pos rfl] at H; exact H
      clear H
      have H := H1
      clear H1
      replace H := Option.bind_eq_some_iff.mp H
      obtain ⟨⟨t1257, t1258⟩, A80, H⟩ := H
      replace H : ((number_Parse.f k t1257).bind fun bt1259 => (if t1258 = 0 then (if bt1259.2 = 0 then ((headendref01_Same.f k l0 bt1259.1).bind fun t1263 => (if t1263 = true then (headendlaw01_NumberTextBack.j0 k a1 t1255) else (some false))) else (some false)) else (some false))) = some r := H
      have A8 := Aside0.mk A80
      clear A80
      replace H := Option.bind_eq_some_iff.mp H
      obtain ⟨⟨t1259, t1260⟩, A90, H⟩ := H
      replace H : (if t1258 = 0 then (if t1260 = 0 then ((headendref01_Same.f k l0 t1259).bind fun t1263 => (if t1263 = true then (headendlaw01_NumberTextBack.j0 k a1 t1255) else (some false))) else (some false)) else (some false)) = some r := H
      have A9 := Aside0.mk A90
      clear A90
      by_cases c10 : t1258 = 0
      · rw [if_pos c10] at H
        have c10b0 : (t1258 == 0) = true := beq_iff_eq.mpr c10
        have c10b1 : (t1258 != 0) = false := bne_eq_false_iff_eq.mpr c10
        clear c10
        (first | rw [c10b0] | (simp only [i64_w, i32_w, u8_w, u32_w, u64_of_u8, u64_of_u32]; rw [c10b0]) | skip)
        by_cases c11 : t1260 = 0
        · rw [if_pos c11] at H
          have c11b0 : (t1260 == 0) = true := beq_iff_eq.mpr c11
          have c11b1 : (t1260 != 0) = false := bne_eq_false_iff_eq.mpr c11
          clear c11
          replace H := Option.bind_eq_some_iff.mp H
          obtain ⟨t1263, A120, H⟩ := H
          replace H : (if t1263 = true then (headendlaw01_NumberTextBack.j0 k a1 t1255) else (some false)) = some r := H
          have A12 := Aside0.mk A120
          clear A120
          by_cases c13 : t1263 = true
          · subst c13
            have H1 : (headendlaw01_NumberTextBack.j0 k a1 t1255) = some r := by rw [if_pos rfl] at H; exact H
            clear H
            have H := H1
            clear H1
            have H' := Aside0.mk H
            clear H
            go_wp2_with (first | ((with_reducible refine gate_callee (f := 27) rfl ?_); refine goesL_ (some 19) rfl rfl Try.func27 (by kernel_rfl) rfl #[.slice A0 l0.length c0] rfl (by (try simp only [List.map_toArray, List.map_cons, List.map_nil]); first | done | rfl | (simp only [List.length_drop, List.length_take]; rfl)) ?_; (with_reducible refine (number_Text.calls k (fun k_ => k_ < w.heap.size) _ _ l0 t1257 t1258 _ ?side1 A8.out).mono ?_); (case side1 => exact Kd.V_mk HC0.out (Kd.F_below (Kd.C_F (Kd.heap_int .u32) HR0.out) (by repeat (first | (with_reducible first | exact HB.out | apply below_alloc | apply pw_below_drewN | apply below_drew1) | exact HB.out)))); rintro e w14 ⟨rfl, hb⟩; refine ⟨_, rfl, ?_⟩; have n0_ := Aside0.mk (below_step (by repeat (first | (with_reducible first | exact HB.out | apply below_alloc | apply pw_below_drewN | apply below_drew1) | exact HB.out)) hb); clear HB; have HB := n0_; clear n0_; (try clear hb); (try clear hb2); (try clear hk); (try clear hi)) | ((with_reducible refine gate_callee (f := 29) rfl ?_); refine goesL_ (some 24) rfl rfl Try.func29 (by kernel_rfl) rfl #[.string t1257] rfl (by (try simp only [List.map_toArray, List.map_cons, List.map_nil]); first | done | rfl | (simp only [List.length_drop, List.length_take]; rfl)) ?_; (with_reducible refine (number_Parse.calls k t1257 t1259 t1260 _ A9.out).mono ?_); rintro e w15 ⟨v1261, rfl, ho0, hb⟩; refine ⟨_, rfl, ?_⟩; have n0_ := Aside0.mk (Kd.R_lower ho0 (below_size (by repeat (first | (with_reducible first | exact HB.out | apply below_alloc | apply pw_below_drewN | apply below_drew1) | exact HB.out)))); have n1_ := Aside0.mk (below_step (by repeat (first | (with_reducible first | exact HB.out | apply below_alloc | apply pw_below_drewN | apply below_drew1) | exact HB.out)) hb); clear HB; have HO1262 := n0_; have HB := n1_; clear n0_ n1_; (try clear hb); (try clear hb2); (try clear hk); (try clear hi); (try clear ho0); obtain ⟨Ao16, co16, eo16⟩ := Kd.R_slice HO1262.out; subst eo16) | (go_at_call 31; (with_reducible refine (headendref01_Same.calls k _ _ l0 _ _ t1259 true _ ?side1 ?side2 ?side3 ?side4 A12.out).mono ?_); (case side1 => repeat (first | exact (Kd.C_below HR0.out HB.out) | (with_reducible refine Kd.C_alloc ?_ _) | (with_reducible refine Kd.C_drewN ?_ _) | (with_reducible refine Kd.C_drew ?_))); (case side2 => exact HC0.out); (case side3 => repeat (first | exact (Kd.R_reads' HO1262.out).2.2 | (with_reducible refine Kd.C_alloc ?_ _) | (with_reducible refine Kd.C_drewN ?_ _) | (with_reducible refine Kd.C_drew ?_))); (case side4 => exact (Kd.R_reads' HO1262.out).2.1); rintro e w' ⟨rfl, ⟨nd, rfl⟩⟩))
            go_meet
            case rel => exact ⟨_, H', ⟨by first | omega | exact Nat.le_refl _⟩, ⟨by repeat (first | (with_reducible first | exact HB.out | apply below_alloc | apply pw_below_drewN | apply below_drew1) | exact HB.out)⟩⟩
          · replace c13 := Bool.eq_false_iff.mpr c13
            subst c13
            have H1 : (some false) = some r := by rw [if_neg (show ¬ (false = true) by decide)] at H; exact H
            clear H
            have H := H1
            clear H1
            obtain rfl := Option.some.inj H
            exact absurd HRR.out Bool.false_ne_true
        · rw [if_neg c11] at H
          have c11b0 : (t1260 == 0) = false := beq_eq_false_iff_ne.mpr c11
          have c11b1 : (t1260 != 0) = true := bne_iff_ne.mpr c11
          obtain rfl := Option.some.inj H
          exact absurd HRR.out Bool.false_ne_true
      · rw [if_neg c10] at H
        have c10b0 : (t1258 == 0) = false := beq_eq_false_iff_ne.mpr c10
        have c10b1 : (t1258 != 0) = true := bne_iff_ne.mpr c10
        (first | rw [c10b0] | (simp only [i64_w, i32_w, u8_w, u32_w, u64_of_u8, u64_of_u32]; rw [c10b0]) | skip)
        obtain rfl := Option.some.inj H
        exact absurd HRR.out Bool.false_ne_true
    · replace c7 := Bool.eq_false_iff.mpr c7
      subst c7
      have H1 : (headendlaw01_NumberTextBack.j0 k a1 t1255) = some r := by rw [if_neg (show ¬ (false = true) by decide)] at H; exact H
      clear H
      have H := H1
      clear H1
      have H' := Aside0.mk H
      clear H
      go_wp2
      go_meet
      case rel => exact ⟨_, H', ⟨by first | omega | exact Nat.le_refl _⟩, ⟨by repeat (first | (with_reducible first | exact HB.out | apply below_alloc | apply pw_below_drewN | apply below_drew1) | exact HB.out)⟩⟩
  case rest =>
    clear HC5
    try clear c1
    try clear c2
    try clear p2
    try clear c4
    try clear c7
    try clear c10
    try clear c10b0
    try clear c10b1
    try clear c11
    try clear c11b0
    try clear c11b1
    try clear c13
    obtain ⟨kq, HA, HJ4, HB⟩ := hcut
    cases kq with
    | zero => exact absurd HA.out (by simp [headendlaw01_NumberTextBack.j0])
    | succ kj4 =>
      have H := HA.out
      clear HA
      simp only [headendlaw01_NumberTextBack.j0] at H
      by_cases c17 : (a1.size : Int) > 700
      · rw [if_pos c17] at H
        have c17b0 : decide (700 < (a1.size : Int)) = true := decide_eq_true c17
        have c17b1 : decide (700 < a1.size) = true := decide_eq_true (by omega)
        clear c17
        obtain rfl := Option.some.inj H
        go_wp2
        go_ret
        exact ⟨by first | rfl | (simp [errW_none, errW_some] <;> rfl) | (simp [*, errW_none, errW_some] <;> rfl), by repeat (first | (with_reducible first | exact HB.out | apply below_alloc | apply pw_below_drewN | apply below_drew1) | exact HB.out)⟩
      · rw [if_neg c17] at H
        have c17b0 : decide (700 < (a1.size : Int)) = false := decide_eq_false c17
        have c17b1 : decide (700 < a1.size) = false := decide_eq_false (by omega)
        clear c17
        replace H := Option.bind_eq_some_iff.mp H
        obtain ⟨⟨t1264, t1265⟩, A180, H⟩ := H
        replace H : (if t1265 = 0 then ((number_Text.f kj4 t1264).bind fun bt1268 => (if t1255 = true then (if bt1268.2 = 0 then (if bt1268.1.toList = a1.toList then ((number_Check.f t1264).bind fun t1270 => (some (t1270 == 0))) else (some false)) else (some false)) else (some false))) else (if t1255 = true then (if t1265 = 12 then (some ((t1264.length : Int) == 0)) else (if t1265 = 4 then (some ((t1264.length : Int) == 0)) else (some false))) else (some false))) = some r := H
        have A18 := Aside0.mk A180
        clear A180
        by_cases c19 : t1265 = 0
        · rw [if_pos c19] at H
          have c19b0 : (t1265 == 0) = true := beq_iff_eq.mpr c19
          have c19b1 : (t1265 != 0) = false := bne_eq_false_iff_eq.mpr c19
          clear c19
          replace H := Option.bind_eq_some_iff.mp H
          obtain ⟨⟨t1268, t1269⟩, A200, H⟩ := H
          replace H : (if t1255 = true then (if t1269 = 0 then (if t1268.toList = a1.toList then ((number_Check.f t1264).bind fun t1270 => (some (t1270 == 0))) else (some false)) else (some false)) else (some false)) = some r := H
          have A20 := Aside0.mk A200
          clear A200
          by_cases c21 : t1255 = true
          · subst c21
            have H1 : (if t1269 = 0 then (if t1268.toList = a1.toList then ((number_Check.f t1264).bind fun t1270 => (some (t1270 == 0))) else (some false)) else (some false)) = some r := by rw [if_pos rfl] at H; exact H
            clear H
            have H := H1
            clear H1
            by_cases c22 : t1269 = 0
            · rw [if_pos c22] at H
              have c22b0 : (t1269 == 0) = true := beq_iff_eq.mpr c22
              have c22b1 : (t1269 != 0) = false := bne_eq_false_iff_eq.mpr c22
              clear c22
              by_cases c23 : t1268.toList = a1.toList
              · rw [if_pos c23] at H
                have c23b0 : (t1268.toList == a1.toList) = true := beq_iff_eq.mpr c23
                have c23b1 : (t1268.toList != a1.toList) = false := bne_eq_false_iff_eq.mpr c23
                clear c23
                replace H := Option.bind_eq_some_iff.mp H
                obtain ⟨t1270, A240, H⟩ := H
                replace H : (some (t1270 == 0)) = some r := H
                have A24 := Aside0.mk A240
                clear A240
                obtain rfl := Option.some.inj H
                go_wp2_with (first | ((with_reducible refine gate_callee (f := 29) rfl ?_); refine goesL_ (some 45) rfl rfl Try.func29 (by kernel_rfl) rfl #[.string a1] rfl (by (try simp only [List.map_toArray, List.map_cons, List.map_nil]); first | done | rfl | (simp only [List.length_drop, List.length_take]; rfl)) ?_; (with_reducible refine (number_Parse.calls kj4 a1 t1264 t1265 _ A18.out).mono ?_); rintro e w25 ⟨v1266, rfl, ho0, hb⟩; refine ⟨_, rfl, ?_⟩; have n0_ := Aside0.mk (Kd.R_lower ho0 (below_size (by repeat (first | (with_reducible first | exact HB.out | apply below_alloc | apply pw_below_drewN | apply below_drew1) | exact HB.out)))); have n1_ := Aside0.mk (below_step (by repeat (first | (with_reducible first | exact HB.out | apply below_alloc | apply pw_below_drewN | apply below_drew1) | exact HB.out)) hb); clear HB; have HO1267 := n0_; have HB := n1_; clear n0_ n1_; (try clear hb); (try clear hb2); (try clear hk); (try clear hi); (try clear ho0); obtain ⟨Ao26, co26, eo26⟩ := Kd.R_slice HO1267.out; subst eo26) | ((with_reducible refine gate_callee (f := 27) rfl ?_); refine goesL_ (some 66) rfl rfl Try.func27 (by kernel_rfl) rfl #[.slice Ao26 t1264.length co26] rfl (by (try simp only [List.map_toArray, List.map_cons, List.map_nil]); first | done | rfl | (simp only [List.length_drop, List.length_take]; rfl)) ?_; (with_reducible refine (number_Text.calls kj4 (fun k_ => some k_ = (.slice Ao26 t1264.length co26 : Value).ownBlock) _ _ t1264 t1268 t1269 _ ?side1 A20.out).mono ?_); (case side1 => exact Kd.R_V (Kd.R_tight rfl (HO1267.out))); rintro e w27 ⟨rfl, hb⟩; refine ⟨_, rfl, ?_⟩; have n0_ := Aside0.mk (Kd.R_below (by (with_reducible repeat (first | apply Kd.R_alloc | apply Kd.R_drewN | apply Kd.R_drew)); exact HO1267.out) hb); have n1_ := Aside0.mk (below_step (by repeat (first | (with_reducible first | exact HB.out | apply below_alloc | apply pw_below_drewN | apply below_drew1) | exact HB.out)) hb); clear HO1267; clear HB; have HO1267 := n0_; have HB := n1_; clear n0_ n1_; (try clear hb); (try clear hb2); (try clear hk); (try clear hi)) | (go_at_call 53; (with_reducible refine (number_Check.calls (fun k_ => some k_ = (.slice Ao26 t1264.length co26 : Value).ownBlock) _ _ t1264 t1270 _ ?side1 A24.out).mono ?_); (case side1 => exact Kd.R_V (Kd.R_tight rfl (HO1267.out))); rintro e w28 ⟨rfl, hb⟩; have n0_ := Aside0.mk (Kd.R_below (by (with_reducible repeat (first | apply Kd.R_alloc | apply Kd.R_drewN | apply Kd.R_drew)); exact HO1267.out) hb); have n1_ := Aside0.mk (below_step (by repeat (first | (with_reducible first | exact HB.out | apply below_alloc | apply pw_below_drewN | apply below_drew1) | exact HB.out)) hb); clear HO1267; clear HB; have HO1267 := n0_; have HB := n1_; clear n0_ n1_; (try clear hb); (try clear hb2); (try clear hk); (try clear hi)))
                go_ret
                exact ⟨by first | rfl | (simp [errW_none, errW_some] <;> rfl) | (simp [*, errW_none, errW_some] <;> rfl), by repeat (first | (with_reducible first | exact HB.out | apply below_alloc | apply pw_below_drewN | apply below_drew1) | exact HB.out)⟩
              · rw [if_neg c23] at H
                have c23b0 : (t1268.toList == a1.toList) = false := beq_eq_false_iff_ne.mpr c23
                have c23b1 : (t1268.toList != a1.toList) = true := bne_iff_ne.mpr c23
                obtain rfl := Option.some.inj H
                exact absurd HRR.out Bool.false_ne_true
            · rw [if_neg c22] at H
              have c22b0 : (t1269 == 0) = false := beq_eq_false_iff_ne.mpr c22
              have c22b1 : (t1269 != 0) = true := bne_iff_ne.mpr c22
              obtain rfl := Option.some.inj H
              exact absurd HRR.out Bool.false_ne_true
          · replace c21 := Bool.eq_false_iff.mpr c21
            subst c21
            have H1 : (some false) = some r := by rw [if_neg (show ¬ (false = true) by decide)] at H; exact H
            clear H
            have H := H1
            clear H1
            obtain rfl := Option.some.inj H
            exact absurd HRR.out Bool.false_ne_true
        · rw [if_neg c19] at H
          have c19b0 : (t1265 == 0) = false := beq_eq_false_iff_ne.mpr c19
          have c19b1 : (t1265 != 0) = true := bne_iff_ne.mpr c19
          by_cases c29 : t1255 = true
          · subst c29
            have H1 : (if t1265 = 12 then (some ((t1264.length : Int) == 0)) else (if t1265 = 4 then (some ((t1264.length : Int) == 0)) else (some false))) = some r := by rw [if_pos rfl] at H; exact H
            clear H
            have H := H1
            clear H1
            by_cases c30 : t1265 = 12
            · rw [if_pos c30] at H
              have c30b0 : (t1265 == 12) = true := beq_iff_eq.mpr c30
              have c30b1 : (t1265 != 12) = false := bne_eq_false_iff_eq.mpr c30
              clear c30
              obtain rfl := Option.some.inj H
              go_wp2_with (first | ((with_reducible refine gate_callee (f := 29) rfl ?_); refine goesL_ (some 45) rfl rfl Try.func29 (by kernel_rfl) rfl #[.string a1] rfl (by (try simp only [List.map_toArray, List.map_cons, List.map_nil]); first | done | rfl | (simp only [List.length_drop, List.length_take]; rfl)) ?_; (with_reducible refine (number_Parse.calls kj4 a1 t1264 t1265 _ A18.out).mono ?_); rintro e w31 ⟨v1266, rfl, ho0, hb⟩; refine ⟨_, rfl, ?_⟩; have n0_ := Aside0.mk (Kd.R_lower ho0 (below_size (by repeat (first | (with_reducible first | exact HB.out | apply below_alloc | apply pw_below_drewN | apply below_drew1) | exact HB.out)))); have n1_ := Aside0.mk (below_step (by repeat (first | (with_reducible first | exact HB.out | apply below_alloc | apply pw_below_drewN | apply below_drew1) | exact HB.out)) hb); clear HB; have HO1267 := n0_; have HB := n1_; clear n0_ n1_; (try clear hb); (try clear hb2); (try clear hk); (try clear hi); (try clear ho0); obtain ⟨Ao32, co32, eo32⟩ := Kd.R_slice HO1267.out; subst eo32))
              go_ret
              exact ⟨by first | rfl | (simp [errW_none, errW_some] <;> rfl) | (simp [*, errW_none, errW_some] <;> rfl), by repeat (first | (with_reducible first | exact HB.out | apply below_alloc | apply pw_below_drewN | apply below_drew1) | exact HB.out)⟩
            · rw [if_neg c30] at H
              have c30b0 : (t1265 == 12) = false := beq_eq_false_iff_ne.mpr c30
              have c30b1 : (t1265 != 12) = true := bne_iff_ne.mpr c30
              by_cases c33 : t1265 = 4
              · rw [if_pos c33] at H
                have c33b0 : (t1265 == 4) = true := beq_iff_eq.mpr c33
                have c33b1 : (t1265 != 4) = false := bne_eq_false_iff_eq.mpr c33
                clear c33
                obtain rfl := Option.some.inj H
                go_wp2_with (first | ((with_reducible refine gate_callee (f := 29) rfl ?_); refine goesL_ (some 45) rfl rfl Try.func29 (by kernel_rfl) rfl #[.string a1] rfl (by (try simp only [List.map_toArray, List.map_cons, List.map_nil]); first | done | rfl | (simp only [List.length_drop, List.length_take]; rfl)) ?_; (with_reducible refine (number_Parse.calls kj4 a1 t1264 t1265 _ A18.out).mono ?_); rintro e w34 ⟨v1266, rfl, ho0, hb⟩; refine ⟨_, rfl, ?_⟩; have n0_ := Aside0.mk (Kd.R_lower ho0 (below_size (by repeat (first | (with_reducible first | exact HB.out | apply below_alloc | apply pw_below_drewN | apply below_drew1) | exact HB.out)))); have n1_ := Aside0.mk (below_step (by repeat (first | (with_reducible first | exact HB.out | apply below_alloc | apply pw_below_drewN | apply below_drew1) | exact HB.out)) hb); clear HB; have HO1267 := n0_; have HB := n1_; clear n0_ n1_; (try clear hb); (try clear hb2); (try clear hk); (try clear hi); (try clear ho0); obtain ⟨Ao35, co35, eo35⟩ := Kd.R_slice HO1267.out; subst eo35))
                go_ret
                exact ⟨by first | rfl | (simp [errW_none, errW_some] <;> rfl) | (simp [*, errW_none, errW_some] <;> rfl), by repeat (first | (with_reducible first | exact HB.out | apply below_alloc | apply pw_below_drewN | apply below_drew1) | exact HB.out)⟩
              · rw [if_neg c33] at H
                have c33b0 : (t1265 == 4) = false := beq_eq_false_iff_ne.mpr c33
                have c33b1 : (t1265 != 4) = true := bne_iff_ne.mpr c33
                obtain rfl := Option.some.inj H
                exact absurd HRR.out Bool.false_ne_true
          · replace c29 := Bool.eq_false_iff.mpr c29
            subst c29
            have H1 : (some false) = some r := by rw [if_neg (show ¬ (false = true) by decide)] at H; exact H
            clear H
            have H := H1
            clear H1
            obtain rfl := Option.some.inj H
            exact absurd HRR.out Bool.false_ne_true
/-- THE ONE PURE STATEMENT of headendlaw01_NumberTextBack: yours. -/
def headendlaw01_NumberTextBack.Pure : Prop := ∀ (l0 : List Int) (a1 : ByteArray), l0.length ≤ maxLen → l0.length * 4 ≤ 140737488351232 → (∀ x ∈ l0, (Lit.int .u32 x).wf = true) → a1.size ≤ 140737488351232 → ∃ k, headendlaw01_NumberTextBack.f k l0 a1 = some true
theorem headendlaw01_NumberTextBack.walk (P : headendlaw01_NumberTextBack.Pure) (a0 : Option Addr) (len0 cap0 : Nat) (z0 : List Int) (a1 : ByteArray) (w : World) (w0 : (a0 = none ∧ len0 = 0 ∧ cap0 = 0 ∧ z0 = []) ∨ ∃ x, a0 = some x ∧ len0 ≤ cap0 ∧ cap0 ≤ maxLen ∧ z0.length = cap0 ∧ (∀ i, i < z0.length → w.cell? (x.add i) = some (.int .u32 (z0.getD i 0))) ∧ ∀ n ∈ z0, (Lit.int .u32 n).wf = true) (y0 : len0 * 4 ≤ 140737488351232) (w1 : a1.size ≤ 140737488351232) :
    Calls Try.prog 17 #[.slice a0 len0 cap0, .string a1] w fun e w' => e = .returned (.bool true) ∧ Below w.heap.size w w' := by
  obtain ⟨l0, rfl, hr0, hm0, hw0, hc0⟩ := ReadsInt.ofRowC w0
  obtain ⟨k, h⟩ := P l0 a1 hm0 y0 hw0 w1
  refine (headendlaw01_NumberTextBack.calls k _ _ l0 a1 true w (Kd.C_of_reads (d := (0 : Int)) (h1 := fun _ => rfl) hr0) hc0 h rfl).mono ?_
  rintro e w' ⟨rfl, hd⟩
  exact ⟨rfl, hd⟩
end Go.Proofs.Ythhgfogdeaaidaa.R

