-- Written by a program of this session (wip/printmore.py over the kit's print.py): callers of hand-proved contracts. Lean checks it.
import Derived.Test.YthhgfogdeaaidaaR0
import Derived.Test.YthhgfogdeaaidaaR7
import Derived.Test.YthhgfogdeaaidaaR13
import Derived.Test.YthhgfogdeaaidaaR17
import Derived.Test.YthhgfogdeaaidaaGalive
namespace Go.Proofs.Ythhgfogdeaaidaa.R
open Go.RowKit Go.Proofs.YthhgfogdeaaidaaW.PrintWords Go.Proofs.YthhgfogdeaaidaaW.PrintLast Go.Proofs.YthhgfogdeaaidaaW.PrintMore
attribute [local go_sem] max2_int min2_int max_two min_two max_three min_three max_four min_four   -- for this text's walks alone
set_option linter.unusedVariables false
set_option linter.unusedSimpArgs false
/-! ### headendlaw01_full: function 64 -/
/-! ### headendlaw01_NumberRing: function 10 -/
mutual
def headendlaw01_NumberRing.j0 : Nat → List Int → List Int → List Int → Bool → Bool → Option (Bool)
  | 0, _, _, _, _, _ => none
  | k + 1, x0, x1, x2, x7, x37 => if x37 = true then (some x7) else ((number_Add.f k x0 x1).bind fun bt1090 => ((number_Add.f k x1 x0).bind fun bt1094 => ((number_Mul.f k x0 x1).bind fun bt1098 => ((number_Mul.f k x1 x0).bind fun bt1102 => (if bt1090.2 = bt1094.2 then (if bt1098.2 = bt1102.2 then ((headendref01_Same.f k bt1090.1 bt1094.1).bind fun t1106 => (if t1106 = true then ((headendref01_Same.f k bt1098.1 bt1102.1).bind fun t1107 => (headendlaw01_NumberRing.j1 k x0 x1 x2 x7 bt1090.1 bt1090.2 bt1098.1 bt1098.2 (!t1107))) else (headendlaw01_NumberRing.j1 k x0 x1 x2 x7 bt1090.1 bt1090.2 bt1098.1 bt1098.2 true))) else (headendlaw01_NumberRing.j1 k x0 x1 x2 x7 bt1090.1 bt1090.2 bt1098.1 bt1098.2 true)) else (headendlaw01_NumberRing.j1 k x0 x1 x2 x7 bt1090.1 bt1090.2 bt1098.1 bt1098.2 true))))))
def headendlaw01_NumberRing.j1 : Nat → List Int → List Int → List Int → Bool → List Int → Int → List Int → Int → Bool → Option (Bool)
  | 0, _, _, _, _, _, _, _, _, _ => none
  | k + 1, x0, x1, x2, x7, x8, x9, x12, x13, x82 => if x82 = true then (some false) else (if x9 = 0 then (headendlaw01_NumberRing.j2 k x0 x1 x2 x7 x8 x9 x12 x13 (x13 != 0)) else (headendlaw01_NumberRing.j2 k x0 x1 x2 x7 x8 x9 x12 x13 true))
def headendlaw01_NumberRing.j2 : Nat → List Int → List Int → List Int → Bool → List Int → Int → List Int → Int → Bool → Option (Bool)
  | 0, _, _, _, _, _, _, _, _, _ => none
  | k + 1, x0, x1, x2, x7, x8, x9, x12, x13, x88 => if x88 = true then (if x7 = true then (if x9 = 0 then (if x13 = 0 then (some true) else (some (x13 == 4))) else (if x9 = 4 then (if x13 = 0 then (some true) else (some (x13 == 4))) else (some false))) else (some false)) else ((number_Mul.f k x8 x2).bind fun bt1108 => ((number_Mul.f k x0 x2).bind fun bt1112 => ((number_Mul.f k x1 x2).bind fun bt1116 => (if bt1108.2 = 0 then (if bt1112.2 = 0 then (headendlaw01_NumberRing.j3 k x0 x2 x7 x12 bt1108.1 bt1112.1 bt1116.1 (bt1116.2 != 0)) else (headendlaw01_NumberRing.j3 k x0 x2 x7 x12 bt1108.1 bt1112.1 bt1116.1 true)) else (headendlaw01_NumberRing.j3 k x0 x2 x7 x12 bt1108.1 bt1112.1 bt1116.1 true)))))
def headendlaw01_NumberRing.j3 : Nat → List Int → List Int → Bool → List Int → List Int → List Int → List Int → Bool → Option (Bool)
  | 0, _, _, _, _, _, _, _, _ => none
  | k + 1, x0, x2, x7, x12, x16, x17, x18, x133 => if x133 = true then (some x7) else ((number_Add.f k x17 x18).bind fun bt1120 => ((number_Mul.f k x12 x2).bind fun bt1124 => ((number_Mul.f k x0 x18).bind fun bt1128 => (if x7 = true then (if bt1120.2 = 0 then ((headendref01_Same.f k x16 bt1120.1).bind fun t1132 => (if t1132 = true then (if bt1124.2 = bt1128.2 then ((headendref01_Same.f k bt1124.1 bt1128.1).bind fun t1133 => (some t1133)) else (some false)) else (some false))) else (some false)) else (some false)))))
end
def headendlaw01_NumberRing.f (k : Nat) (l0 : List Int) (l1 : List Int) (l2 : List Int) : Option (Bool) := (headendlaw01_alive.f).bind fun t1086 => ((headendref01_Valid.f l0).bind fun t1087 => (if t1087 = true then ((headendref01_Valid.f l1).bind fun t1088 => (if t1088 = true then ((headendref01_Valid.f l2).bind fun t1089 => (headendlaw01_NumberRing.j0 k l0 l1 l2 t1086 (!t1089))) else (headendlaw01_NumberRing.j0 k l0 l1 l2 t1086 true))) else (headendlaw01_NumberRing.j0 k l0 l1 l2 t1086 true)))
set_option maxHeartbeats 8000000 in
set_option maxRecDepth 100000 in
theorem headendlaw01_NumberRing.calls (k : Nat) (A0 : Option Addr) (c0 : Nat) (l0 : List Int) (A1 : Option Addr) (c1 : Nat) (l1 : List Int) (A2 : Option Addr) (c2 : Nat) (l2 : List Int) (r : Bool) (w : World) (hr0 : Kd.C (Kd.int .u32) w A0 l0.length l0) (hc0 : l0.length ≤ c0) (hr1 : Kd.C (Kd.int .u32) w A1 l1.length l1) (hc1 : l1.length ≤ c1) (hr2 : Kd.C (Kd.int .u32) w A2 l2.length l2) (hc2 : l2.length ≤ c2) (h : headendlaw01_NumberRing.f k l0 l1 l2 = some r) (hr : r = true) :
    Calls Try.prog 10 #[.slice A0 l0.length c0, .slice A1 l1.length c1, .slice A2 l2.length c2] w fun e w' => e = .returned (.bool r) ∧ Below w.heap.size w w' := by
  have HR0 := Aside0.mk hr0
  have HC0 := Aside0.mk hc0
  clear hr0 hc0
  have HR1 := Aside0.mk hr1
  have HC1 := Aside0.mk hc1
  clear hr1 hc1
  have HR2 := Aside0.mk hr2
  have HC2 := Aside0.mk hc2
  clear hr2 hc2
  have HB := Aside0.mk (Below.refl w.heap.size w)
  have H : ((headendlaw01_alive.f).bind fun t1086 => ((headendref01_Valid.f l0).bind fun t1087 => (if t1087 = true then ((headendref01_Valid.f l1).bind fun t1088 => (if t1088 = true then ((headendref01_Valid.f l2).bind fun t1089 => (headendlaw01_NumberRing.j0 k l0 l1 l2 t1086 (!t1089))) else (headendlaw01_NumberRing.j0 k l0 l1 l2 t1086 true))) else (headendlaw01_NumberRing.j0 k l0 l1 l2 t1086 true)))) = some r := h
  clear h
  have HRR := Aside0.mk hr
  clear hr
  replace H := Option.bind_eq_some_iff.mp H
  obtain ⟨t1086, A40, H⟩ := H
  replace H : ((headendref01_Valid.f l0).bind fun t1087 => (if t1087 = true then ((headendref01_Valid.f l1).bind fun t1088 => (if t1088 = true then ((headendref01_Valid.f l2).bind fun t1089 => (headendlaw01_NumberRing.j0 k l0 l1 l2 t1086 (!t1089))) else (headendlaw01_NumberRing.j0 k l0 l1 l2 t1086 true))) else (headendlaw01_NumberRing.j0 k l0 l1 l2 t1086 true))) = some r := H
  have A4 := Aside0.mk A40
  clear A40
  have HC5 := Aside0.mk H
  clear H
  go_enter Try.func10, Try.ntmps10
  go_upto_region 2 with (first | ((with_reducible refine gate_callee (f := 47) rfl ?_); refine goesL_ (some 24) rfl rfl Try.func47 (by kernel_rfl) rfl #[] rfl (by (try simp only [List.map_toArray, List.map_cons, List.map_nil]); first | done | rfl | (simp only [List.length_drop, List.length_take]; rfl)) ?_; (with_reducible refine (headendlaw01_alive.calls  t1086 _ A4.out).mono ?_); rintro e w6 ⟨rfl, hb⟩; refine ⟨_, rfl, ?_⟩; have n0_ := Aside0.mk (below_step (by repeat (first | (with_reducible first | exact HB.out | apply below_alloc | apply pw_below_drewN | apply below_drew1) | exact HB.out)) hb); clear HB; have HB := n0_; clear n0_; (try clear hb); (try clear hb2); (try clear hk); (try clear hi)))
  (try simp only [Act.put, List.setIfInBounds_toArray, List.set_cons_zero, List.set_cons_succ])
  go_cut [37] (fun v37 wc => ∃ (kq : Nat) (x37_4 : Bool), v37 = .bool x37_4 ∧ Aside0 (headendlaw01_NumberRing.j0 kq l0 l1 l2 t1086 x37_4 = some r) ∧ Aside0 (kq ≤ k) ∧ Aside0 (Below w.heap.size w wc))
  case first =>
    have H := HC5.out
    clear HC5
    replace H := Option.bind_eq_some_iff.mp H
    obtain ⟨t1087, A70, H⟩ := H
    replace H : (if t1087 = true then ((headendref01_Valid.f l1).bind fun t1088 => (if t1088 = true then ((headendref01_Valid.f l2).bind fun t1089 => (headendlaw01_NumberRing.j0 k l0 l1 l2 t1086 (!t1089))) else (headendlaw01_NumberRing.j0 k l0 l1 l2 t1086 true))) else (headendlaw01_NumberRing.j0 k l0 l1 l2 t1086 true)) = some r := H
    have A7 := Aside0.mk A70
    clear A70
    by_cases c8 : t1087 = true
    · subst c8
      have H1 : ((headendref01_Valid.f l1).bind fun t1088 => (if t1088 = true then ((headendref01_Valid.f l2).bind fun t1089 => (headendlaw01_NumberRing.j0 k l0 l1 l2 t1086 (!t1089))) else (headendlaw01_NumberRing.j0 k l0 l1 l2 t1086 true))) = some r := by rw [if_pos rfl] at H; exact H
      clear H
      have H := H1
      clear H1
      replace H := Option.bind_eq_some_iff.mp H
      obtain ⟨t1088, A90, H⟩ := H
      replace H : (if t1088 = true then ((headendref01_Valid.f l2).bind fun t1089 => (headendlaw01_NumberRing.j0 k l0 l1 l2 t1086 (!t1089))) else (headendlaw01_NumberRing.j0 k l0 l1 l2 t1086 true)) = some r := H
      have A9 := Aside0.mk A90
      clear A90
      by_cases c10 : t1088 = true
      · subst c10
        have H1 : ((headendref01_Valid.f l2).bind fun t1089 => (headendlaw01_NumberRing.j0 k l0 l1 l2 t1086 (!t1089))) = some r := by rw [if_pos rfl] at H; exact H
        clear H
        have H := H1
        clear H1
        replace H := Option.bind_eq_some_iff.mp H
        obtain ⟨t1089, A110, H⟩ := H
        replace H : (headendlaw01_NumberRing.j0 k l0 l1 l2 t1086 (!t1089)) = some r := H
        have A11 := Aside0.mk A110
        clear A110
        have H' := Aside0.mk H
        clear H
        go_wp2_with (first | ((with_reducible refine gate_callee (f := 48) rfl ?_); refine goesL_ (some 26) rfl rfl Try.func48 (by kernel_rfl) rfl #[.slice A0 l0.length c0] rfl (by (try simp only [List.map_toArray, List.map_cons, List.map_nil]); first | done | rfl | (simp only [List.length_drop, List.length_take]; rfl)) ?_; (with_reducible refine (headendref01_Valid.calls _ _ l0 true _ ?side1 ?side2 A7.out).mono ?_); (case side1 => repeat (first | exact (Kd.C_below HR0.out HB.out) | (with_reducible refine Kd.C_alloc ?_ _) | (with_reducible refine Kd.C_drewN ?_ _) | (with_reducible refine Kd.C_drew ?_))); (case side2 => exact HC0.out); rintro e w' ⟨rfl, ⟨nd, rfl⟩⟩; refine ⟨_, rfl, ?_⟩) | (go_at_call 48; (with_reducible refine (headendref01_Valid.calls _ _ l1 true _ ?side1 ?side2 A9.out).mono ?_); (case side1 => repeat (first | exact (Kd.C_below HR1.out (by repeat (first | (with_reducible first | exact HB.out | apply below_alloc | apply pw_below_drewN | apply below_drew1) | exact HB.out))) | (with_reducible refine Kd.C_alloc ?_ _) | (with_reducible refine Kd.C_drewN ?_ _) | (with_reducible refine Kd.C_drew ?_))); (case side2 => exact HC1.out); rintro e w' ⟨rfl, ⟨nd, rfl⟩⟩) | (go_at_call 48; (with_reducible refine (headendref01_Valid.calls _ _ l2 t1089 _ ?side1 ?side2 A11.out).mono ?_); (case side1 => repeat (first | exact (Kd.C_below HR2.out (by repeat (first | (with_reducible first | exact HB.out | apply below_alloc | apply pw_below_drewN | apply below_drew1) | exact HB.out))) | (with_reducible refine Kd.C_alloc ?_ _) | (with_reducible refine Kd.C_drewN ?_ _) | (with_reducible refine Kd.C_drew ?_))); (case side2 => exact HC2.out); rintro e w' ⟨rfl, ⟨nd, rfl⟩⟩))
        go_meet
        case rel => exact ⟨_, (!t1089), (by first | rfl | (simp; done) | (simp [*]; done)), H', ⟨by first | omega | exact Nat.le_refl _⟩, ⟨by repeat (first | (with_reducible first | exact HB.out | apply below_alloc | apply pw_below_drewN | apply below_drew1) | exact HB.out)⟩⟩
      · replace c10 := Bool.eq_false_iff.mpr c10
        subst c10
        have H1 : (headendlaw01_NumberRing.j0 k l0 l1 l2 t1086 true) = some r := by rw [if_neg (show ¬ (false = true) by decide)] at H; exact H
        clear H
        have H := H1
        clear H1
        have H' := Aside0.mk H
        clear H
        go_wp2_with (first | ((with_reducible refine gate_callee (f := 48) rfl ?_); refine goesL_ (some 26) rfl rfl Try.func48 (by kernel_rfl) rfl #[.slice A0 l0.length c0] rfl (by (try simp only [List.map_toArray, List.map_cons, List.map_nil]); first | done | rfl | (simp only [List.length_drop, List.length_take]; rfl)) ?_; (with_reducible refine (headendref01_Valid.calls _ _ l0 true _ ?side1 ?side2 A7.out).mono ?_); (case side1 => repeat (first | exact (Kd.C_below HR0.out HB.out) | (with_reducible refine Kd.C_alloc ?_ _) | (with_reducible refine Kd.C_drewN ?_ _) | (with_reducible refine Kd.C_drew ?_))); (case side2 => exact HC0.out); rintro e w' ⟨rfl, ⟨nd, rfl⟩⟩; refine ⟨_, rfl, ?_⟩) | (go_at_call 48; (with_reducible refine (headendref01_Valid.calls _ _ l1 false _ ?side1 ?side2 A9.out).mono ?_); (case side1 => repeat (first | exact (Kd.C_below HR1.out (by repeat (first | (with_reducible first | exact HB.out | apply below_alloc | apply pw_below_drewN | apply below_drew1) | exact HB.out))) | (with_reducible refine Kd.C_alloc ?_ _) | (with_reducible refine Kd.C_drewN ?_ _) | (with_reducible refine Kd.C_drew ?_))); (case side2 => exact HC1.out); rintro e w' ⟨rfl, ⟨nd, rfl⟩⟩))
        go_meet
        case rel => exact ⟨_, (true), (by first | rfl | (simp; done) | (simp [*]; done)), H', ⟨by first | omega | exact Nat.le_refl _⟩, ⟨by repeat (first | (with_reducible first | exact HB.out | apply below_alloc | apply pw_below_drewN | apply below_drew1) | exact HB.out)⟩⟩
    · replace c8 := Bool.eq_false_iff.mpr c8
      subst c8
      have H1 : (headendlaw01_NumberRing.j0 k l0 l1 l2 t1086 true) = some r := by rw [if_neg (show ¬ (false = true) by decide)] at H; exact H
      clear H
      have H := H1
      clear H1
      have H' := Aside0.mk H
      clear H
      go_wp2_with (first | ((with_reducible refine gate_callee (f := 48) rfl ?_); refine goesL_ (some 26) rfl rfl Try.func48 (by kernel_rfl) rfl #[.slice A0 l0.length c0] rfl (by (try simp only [List.map_toArray, List.map_cons, List.map_nil]); first | done | rfl | (simp only [List.length_drop, List.length_take]; rfl)) ?_; (with_reducible refine (headendref01_Valid.calls _ _ l0 false _ ?side1 ?side2 A7.out).mono ?_); (case side1 => repeat (first | exact (Kd.C_below HR0.out HB.out) | (with_reducible refine Kd.C_alloc ?_ _) | (with_reducible refine Kd.C_drewN ?_ _) | (with_reducible refine Kd.C_drew ?_))); (case side2 => exact HC0.out); rintro e w' ⟨rfl, ⟨nd, rfl⟩⟩; refine ⟨_, rfl, ?_⟩))
      go_meet
      case rel => exact ⟨_, (true), (by first | rfl | (simp; done) | (simp [*]; done)), H', ⟨by first | omega | exact Nat.le_refl _⟩, ⟨by repeat (first | (with_reducible first | exact HB.out | apply below_alloc | apply pw_below_drewN | apply below_drew1) | exact HB.out)⟩⟩
  case rest =>
    clear HC5
    try clear c1
    try clear c2
    try clear p2
    try clear c4
    try clear c8
    try clear c10
    obtain ⟨kq, x37_4, rfl, HA, HJ4, HB⟩ := hcut
    cases kq with
    | zero => exact absurd HA.out (by simp [headendlaw01_NumberRing.j0])
    | succ kj4 =>
      have H := HA.out
      clear HA
      simp only [headendlaw01_NumberRing.j0] at H
      by_cases c12 : x37_4 = true
      · subst c12
        have H1 : (some t1086) = some r := by rw [if_pos rfl] at H; exact H
        clear H
        have H := H1
        clear H1
        obtain rfl := Option.some.inj H
        go_wp2
        go_ret
        exact ⟨by first | rfl | (simp [errW_none, errW_some] <;> rfl) | (simp [*, errW_none, errW_some] <;> rfl), by repeat (first | (with_reducible first | exact HB.out | apply below_alloc | apply pw_below_drewN | apply below_drew1) | exact HB.out)⟩
      · replace c12 := Bool.eq_false_iff.mpr c12
        subst c12
        have H1 : ((number_Add.f kj4 l0 l1).bind fun bt1090 => ((number_Add.f kj4 l1 l0).bind fun bt1094 => ((number_Mul.f kj4 l0 l1).bind fun bt1098 => ((number_Mul.f kj4 l1 l0).bind fun bt1102 => (if bt1090.2 = bt1094.2 then (if bt1098.2 = bt1102.2 then ((headendref01_Same.f kj4 bt1090.1 bt1094.1).bind fun t1106 => (if t1106 = true then ((headendref01_Same.f kj4 bt1098.1 bt1102.1).bind fun t1107 => (headendlaw01_NumberRing.j1 kj4 l0 l1 l2 t1086 bt1090.1 bt1090.2 bt1098.1 bt1098.2 (!t1107))) else (headendlaw01_NumberRing.j1 kj4 l0 l1 l2 t1086 bt1090.1 bt1090.2 bt1098.1 bt1098.2 true))) else (headendlaw01_NumberRing.j1 kj4 l0 l1 l2 t1086 bt1090.1 bt1090.2 bt1098.1 bt1098.2 true)) else (headendlaw01_NumberRing.j1 kj4 l0 l1 l2 t1086 bt1090.1 bt1090.2 bt1098.1 bt1098.2 true)))))) = some r := by rw [if_neg (show ¬ (false = true) by decide)] at H; exact H
        clear H
        have H := H1
        clear H1
        replace H := Option.bind_eq_some_iff.mp H
        obtain ⟨⟨t1090, t1093⟩, A130, H⟩ := H
        replace H : ((number_Add.f kj4 l1 l0).bind fun bt1094 => ((number_Mul.f kj4 l0 l1).bind fun bt1098 => ((number_Mul.f kj4 l1 l0).bind fun bt1102 => (if t1093 = bt1094.2 then (if bt1098.2 = bt1102.2 then ((headendref01_Same.f kj4 t1090 bt1094.1).bind fun t1106 => (if t1106 = true then ((headendref01_Same.f kj4 bt1098.1 bt1102.1).bind fun t1107 => (headendlaw01_NumberRing.j1 kj4 l0 l1 l2 t1086 t1090 t1093 bt1098.1 bt1098.2 (!t1107))) else (headendlaw01_NumberRing.j1 kj4 l0 l1 l2 t1086 t1090 t1093 bt1098.1 bt1098.2 true))) else (headendlaw01_NumberRing.j1 kj4 l0 l1 l2 t1086 t1090 t1093 bt1098.1 bt1098.2 true)) else (headendlaw01_NumberRing.j1 kj4 l0 l1 l2 t1086 t1090 t1093 bt1098.1 bt1098.2 true))))) = some r := H
        have A13 := Aside0.mk A130
        clear A130
        replace H := Option.bind_eq_some_iff.mp H
        obtain ⟨⟨t1094, t1097⟩, A140, H⟩ := H
        replace H : ((number_Mul.f kj4 l0 l1).bind fun bt1098 => ((number_Mul.f kj4 l1 l0).bind fun bt1102 => (if t1093 = t1097 then (if bt1098.2 = bt1102.2 then ((headendref01_Same.f kj4 t1090 t1094).bind fun t1106 => (if t1106 = true then ((headendref01_Same.f kj4 bt1098.1 bt1102.1).bind fun t1107 => (headendlaw01_NumberRing.j1 kj4 l0 l1 l2 t1086 t1090 t1093 bt1098.1 bt1098.2 (!t1107))) else (headendlaw01_NumberRing.j1 kj4 l0 l1 l2 t1086 t1090 t1093 bt1098.1 bt1098.2 true))) else (headendlaw01_NumberRing.j1 kj4 l0 l1 l2 t1086 t1090 t1093 bt1098.1 bt1098.2 true)) else (headendlaw01_NumberRing.j1 kj4 l0 l1 l2 t1086 t1090 t1093 bt1098.1 bt1098.2 true)))) = some r := H
        have A14 := Aside0.mk A140
        clear A140
        replace H := Option.bind_eq_some_iff.mp H
        obtain ⟨⟨t1098, t1101⟩, A150, H⟩ := H
        replace H : ((number_Mul.f kj4 l1 l0).bind fun bt1102 => (if t1093 = t1097 then (if t1101 = bt1102.2 then ((headendref01_Same.f kj4 t1090 t1094).bind fun t1106 => (if t1106 = true then ((headendref01_Same.f kj4 t1098 bt1102.1).bind fun t1107 => (headendlaw01_NumberRing.j1 kj4 l0 l1 l2 t1086 t1090 t1093 t1098 t1101 (!t1107))) else (headendlaw01_NumberRing.j1 kj4 l0 l1 l2 t1086 t1090 t1093 t1098 t1101 true))) else (headendlaw01_NumberRing.j1 kj4 l0 l1 l2 t1086 t1090 t1093 t1098 t1101 true)) else (headendlaw01_NumberRing.j1 kj4 l0 l1 l2 t1086 t1090 t1093 t1098 t1101 true))) = some r := H
        have A15 := Aside0.mk A150
        clear A150
        replace H := Option.bind_eq_some_iff.mp H
        obtain ⟨⟨t1102, t1105⟩, A160, H⟩ := H
        replace H : (if t1093 = t1097 then (if t1101 = t1105 then ((headendref01_Same.f kj4 t1090 t1094).bind fun t1106 => (if t1106 = true then ((headendref01_Same.f kj4 t1098 t1102).bind fun t1107 => (headendlaw01_NumberRing.j1 kj4 l0 l1 l2 t1086 t1090 t1093 t1098 t1101 (!t1107))) else (headendlaw01_NumberRing.j1 kj4 l0 l1 l2 t1086 t1090 t1093 t1098 t1101 true))) else (headendlaw01_NumberRing.j1 kj4 l0 l1 l2 t1086 t1090 t1093 t1098 t1101 true)) else (headendlaw01_NumberRing.j1 kj4 l0 l1 l2 t1086 t1090 t1093 t1098 t1101 true)) = some r := H
        have A16 := Aside0.mk A160
        clear A160
        have HC17 := Aside0.mk H
        clear H
        go_upto_region 8 with (first | ((with_reducible refine gate_callee (f := 50) rfl ?_); refine goesL_ (some 42) rfl rfl Try.func50 (by kernel_rfl) rfl #[.slice A0 l0.length c0, .slice A1 l1.length c1] rfl (by (try simp only [List.map_toArray, List.map_cons, List.map_nil]); first | done | rfl | (simp only [List.length_drop, List.length_take]; rfl)) ?_; (with_reducible refine (number_Add.calls kj4 (fun k_ => k_ < w.heap.size) _ _ l0 (fun k_ => k_ < w.heap.size) _ _ l1 t1090 t1093 _ ?side1 ?side2 A13.out).mono ?_); (case side1 => exact Kd.V_mk HC0.out (Kd.F_below (Kd.C_F (Kd.heap_int .u32) HR0.out) (by repeat (first | (with_reducible first | exact HB.out | apply below_alloc | apply pw_below_drewN | apply below_drew1) | exact HB.out)))); (case side2 => exact Kd.V_mk HC1.out (Kd.F_below (Kd.C_F (Kd.heap_int .u32) HR1.out) (by repeat (first | (with_reducible first | exact HB.out | apply below_alloc | apply pw_below_drewN | apply below_drew1) | exact HB.out)))); rintro e w18 ⟨v1091, rfl, ho0, hb⟩; refine ⟨_, rfl, ?_⟩; have n0_ := Aside0.mk (Kd.R_lower (Kd.R_mono (ok' := fun k_ => True) ho0 (fun _ hk_ => trivial)) (below_size (by repeat (first | (with_reducible first | exact HB.out | apply below_alloc | apply pw_below_drewN | apply below_drew1) | exact HB.out)))); have n1_ := Aside0.mk (below_step (by repeat (first | (with_reducible first | exact HB.out | apply below_alloc | apply pw_below_drewN | apply below_drew1) | exact HB.out)) hb); clear HB; have HO1092 := n0_; have HB := n1_; clear n0_ n1_; (try clear hb); (try clear hb2); (try clear hk); (try clear hi); (try clear ho0)) | ((with_reducible refine gate_callee (f := 50) rfl ?_); refine goesL_ (some 48) rfl rfl Try.func50 (by kernel_rfl) rfl #[.slice A1 l1.length c1, .slice A0 l0.length c0] rfl (by (try simp only [List.map_toArray, List.map_cons, List.map_nil]); first | done | rfl | (simp only [List.length_drop, List.length_take]; rfl)) ?_; (with_reducible refine (number_Add.calls kj4 (fun k_ => k_ < w.heap.size) _ _ l1 (fun k_ => k_ < w.heap.size) _ _ l0 t1094 t1097 _ ?side1 ?side2 A14.out).mono ?_); (case side1 => exact Kd.V_mk HC1.out (Kd.F_below (Kd.C_F (Kd.heap_int .u32) HR1.out) (by repeat (first | (with_reducible first | exact HB.out | apply below_alloc | apply pw_below_drewN | apply below_drew1) | exact HB.out)))); (case side2 => exact Kd.V_mk HC0.out (Kd.F_below (Kd.C_F (Kd.heap_int .u32) HR0.out) (by repeat (first | (with_reducible first | exact HB.out | apply below_alloc | apply pw_below_drewN | apply below_drew1) | exact HB.out)))); rintro e w19 ⟨v1095, rfl, ho0, hb⟩; refine ⟨_, rfl, ?_⟩; have n0_ := Aside0.mk (Kd.R_elder' (by (with_reducible repeat (first | apply Kd.R_alloc | apply Kd.R_drewN | apply Kd.R_drew)); exact HO1092.out) (Kd.R_base ho0) hb); have n1_ := Aside0.mk (Kd.R_lower (Kd.R_new' (Kd.R_mono (ok' := fun k_ => True) ho0 (fun _ hk_ => trivial)) (Kd.R_lt (by (with_reducible repeat (first | apply Kd.R_alloc | apply Kd.R_drewN | apply Kd.R_drew)); exact HO1092.out))) (below_size (by repeat (first | (with_reducible first | exact HB.out | apply below_alloc | apply pw_below_drewN | apply below_drew1) | exact HB.out)))); have n2_ := Aside0.mk (below_step (by repeat (first | (with_reducible first | exact HB.out | apply below_alloc | apply pw_below_drewN | apply below_drew1) | exact HB.out)) hb); clear HO1092; clear HB; have HO1092 := n0_; have HO1096 := n1_; have HB := n2_; clear n0_ n1_ n2_; (try clear hb); (try clear hb2); (try clear hk); (try clear hi); (try clear ho0)) | ((with_reducible refine gate_callee (f := 49) rfl ?_); refine goesL_ (some 54) rfl rfl Try.func49 (by kernel_rfl) rfl #[.slice A0 l0.length c0, .slice A1 l1.length c1] rfl (by (try simp only [List.map_toArray, List.map_cons, List.map_nil]); first | done | rfl | (simp only [List.length_drop, List.length_take]; rfl)) ?_; (with_reducible refine (number_Mul.calls kj4 (fun k_ => k_ < w.heap.size) _ _ l0 (fun k_ => k_ < w.heap.size) _ _ l1 t1098 t1101 _ ?side1 ?side2 A15.out).mono ?_); (case side1 => exact Kd.V_mk HC0.out (Kd.F_below (Kd.C_F (Kd.heap_int .u32) HR0.out) (by repeat (first | (with_reducible first | exact HB.out | apply below_alloc | apply pw_below_drewN | apply below_drew1) | exact HB.out)))); (case side2 => exact Kd.V_mk HC1.out (Kd.F_below (Kd.C_F (Kd.heap_int .u32) HR1.out) (by repeat (first | (with_reducible first | exact HB.out | apply below_alloc | apply pw_below_drewN | apply below_drew1) | exact HB.out)))); rintro e w20 ⟨v1099, rfl, ho0, hb⟩; refine ⟨_, rfl, ?_⟩; have n0_ := Aside0.mk (Kd.R_elder' (by (with_reducible repeat (first | apply Kd.R_alloc | apply Kd.R_drewN | apply Kd.R_drew)); exact HO1092.out) (Kd.R_base ho0) hb); have n1_ := Aside0.mk (Kd.R_elder' (by (with_reducible repeat (first | apply Kd.R_alloc | apply Kd.R_drewN | apply Kd.R_drew)); exact HO1096.out) (Kd.R_base ho0) hb); have n2_ := Aside0.mk (Kd.R_lower (Kd.R_new' (Kd.R_new' (Kd.R_mono (ok' := fun k_ => True) ho0 (fun _ hk_ => trivial)) (Kd.R_lt (by (with_reducible repeat (first | apply Kd.R_alloc | apply Kd.R_drewN | apply Kd.R_drew)); exact HO1092.out))) (Kd.R_lt (by (with_reducible repeat (first | apply Kd.R_alloc | apply Kd.R_drewN | apply Kd.R_drew)); exact HO1096.out))) (below_size (by repeat (first | (with_reducible first | exact HB.out | apply below_alloc | apply pw_below_drewN | apply below_drew1) | exact HB.out)))); have n3_ := Aside0.mk (below_step (by repeat (first | (with_reducible first | exact HB.out | apply below_alloc | apply pw_below_drewN | apply below_drew1) | exact HB.out)) hb); clear HO1092; clear HO1096; clear HB; have HO1092 := n0_; have HO1096 := n1_; have HO1100 := n2_; have HB := n3_; clear n0_ n1_ n2_ n3_; (try clear hb); (try clear hb2); (try clear hk); (try clear hi); (try clear ho0)) | ((with_reducible refine gate_callee (f := 49) rfl ?_); refine goesL_ (some 60) rfl rfl Try.func49 (by kernel_rfl) rfl #[.slice A1 l1.length c1, .slice A0 l0.length c0] rfl (by (try simp only [List.map_toArray, List.map_cons, List.map_nil]); first | done | rfl | (simp only [List.length_drop, List.length_take]; rfl)) ?_; (with_reducible refine (number_Mul.calls kj4 (fun k_ => k_ < w.heap.size) _ _ l1 (fun k_ => k_ < w.heap.size) _ _ l0 t1102 t1105 _ ?side1 ?side2 A16.out).mono ?_); (case side1 => exact Kd.V_mk HC1.out (Kd.F_below (Kd.C_F (Kd.heap_int .u32) HR1.out) (by repeat (first | (with_reducible first | exact HB.out | apply below_alloc | apply pw_below_drewN | apply below_drew1) | exact HB.out)))); (case side2 => exact Kd.V_mk HC0.out (Kd.F_below (Kd.C_F (Kd.heap_int .u32) HR0.out) (by repeat (first | (with_reducible first | exact HB.out | apply below_alloc | apply pw_below_drewN | apply below_drew1) | exact HB.out)))); rintro e w21 ⟨v1103, rfl, ho0, hb⟩; refine ⟨_, rfl, ?_⟩; have n0_ := Aside0.mk (Kd.R_elder' (by (with_reducible repeat (first | apply Kd.R_alloc | apply Kd.R_drewN | apply Kd.R_drew)); exact HO1092.out) (Kd.R_base ho0) hb); have n1_ := Aside0.mk (Kd.R_elder' (by (with_reducible repeat (first | apply Kd.R_alloc | apply Kd.R_drewN | apply Kd.R_drew)); exact HO1096.out) (Kd.R_base ho0) hb); have n2_ := Aside0.mk (Kd.R_elder' (by (with_reducible repeat (first | apply Kd.R_alloc | apply Kd.R_drewN | apply Kd.R_drew)); exact HO1100.out) (Kd.R_base ho0) hb); have n3_ := Aside0.mk (Kd.R_lower (Kd.R_new' (Kd.R_new' (Kd.R_new' (Kd.R_mono (ok' := fun k_ => True) ho0 (fun _ hk_ => trivial)) (Kd.R_lt (by (with_reducible repeat (first | apply Kd.R_alloc | apply Kd.R_drewN | apply Kd.R_drew)); exact HO1092.out))) (Kd.R_lt (by (with_reducible repeat (first | apply Kd.R_alloc | apply Kd.R_drewN | apply Kd.R_drew)); exact HO1096.out))) (Kd.R_lt (by (with_reducible repeat (first | apply Kd.R_alloc | apply Kd.R_drewN | apply Kd.R_drew)); exact HO1100.out))) (below_size (by repeat (first | (with_reducible first | exact HB.out | apply below_alloc | apply pw_below_drewN | apply below_drew1) | exact HB.out)))); have n4_ := Aside0.mk (below_step (by repeat (first | (with_reducible first | exact HB.out | apply below_alloc | apply pw_below_drewN | apply below_drew1) | exact HB.out)) hb); clear HO1092; clear HO1096; clear HO1100; clear HB; have HO1092 := n0_; have HO1096 := n1_; have HO1100 := n2_; have HO1104 := n3_; have HB := n4_; clear n0_ n1_ n2_ n3_ n4_; (try clear hb); (try clear hb2); (try clear hk); (try clear hi); (try clear ho0)))
        (try simp only [Act.put, List.setIfInBounds_toArray, List.set_cons_zero, List.set_cons_succ])
        go_cut [82] (fun v82 wc => ∃ (kq : Nat) (x82_16 : Bool), v82 = .bool x82_16 ∧ Aside0 (headendlaw01_NumberRing.j1 kq l0 l1 l2 t1086 t1090 t1093 t1098 t1101 x82_16 = some r) ∧ Aside0 (kq ≤ kj4) ∧ Aside0 (Kd.R (Kd.int .u32) 84 wc w.heap.size (fun k_ => some k_ ≠ (v1099 : Value).ownBlock) v1091 t1090) ∧ Aside0 (Kd.R (Kd.int .u32) 84 wc w.heap.size (fun k_ => some k_ ≠ (v1091 : Value).ownBlock) v1099 t1098) ∧ Aside0 (Below w.heap.size w wc))
        case first =>
          have H := HC17.out
          clear HC17
          by_cases c22 : t1093 = t1097
          · rw [if_pos c22] at H
            have c22b0 : (t1093 == t1097) = true := beq_iff_eq.mpr c22
            have c22b1 : (t1093 != t1097) = false := bne_eq_false_iff_eq.mpr c22
            clear c22
            (first | rw [c22b0] | (simp only [i64_w, i32_w, u8_w, u32_w, u64_of_u8, u64_of_u32]; rw [c22b0]) | skip)
            by_cases c23 : t1101 = t1105
            · rw [if_pos c23] at H
              have c23b0 : (t1101 == t1105) = true := beq_iff_eq.mpr c23
              have c23b1 : (t1101 != t1105) = false := bne_eq_false_iff_eq.mpr c23
              clear c23
              replace H := Option.bind_eq_some_iff.mp H
              obtain ⟨t1106, A240, H⟩ := H
              replace H : (if t1106 = true then ((headendref01_Same.f kj4 t1098 t1102).bind fun t1107 => (headendlaw01_NumberRing.j1 kj4 l0 l1 l2 t1086 t1090 t1093 t1098 t1101 (!t1107))) else (headendlaw01_NumberRing.j1 kj4 l0 l1 l2 t1086 t1090 t1093 t1098 t1101 true)) = some r := H
              have A24 := Aside0.mk A240
              clear A240
              by_cases c25 : t1106 = true
              · subst c25
                have H1 : ((headendref01_Same.f kj4 t1098 t1102).bind fun t1107 => (headendlaw01_NumberRing.j1 kj4 l0 l1 l2 t1086 t1090 t1093 t1098 t1101 (!t1107))) = some r := by rw [if_pos rfl] at H; exact H
                clear H
                have H := H1
                clear H1
                replace H := Option.bind_eq_some_iff.mp H
                obtain ⟨t1107, A260, H⟩ := H
                replace H : (headendlaw01_NumberRing.j1 kj4 l0 l1 l2 t1086 t1090 t1093 t1098 t1101 (!t1107)) = some r := H
                have A26 := Aside0.mk A260
                clear A260
                have H' := Aside0.mk H
                clear H
                obtain ⟨Ao27, co27, eo27⟩ := Kd.R_slice HO1092.out
                subst eo27
                obtain ⟨Ao28, co28, eo28⟩ := Kd.R_slice HO1096.out
                subst eo28
                go_wp2_with (first | (go_at_call 31; (with_reducible refine (headendref01_Same.calls kj4 _ _ t1090 _ _ t1094 true _ ?side1 ?side2 ?side3 ?side4 A24.out).mono ?_); (case side1 => repeat (first | exact (Kd.R_reads' HO1092.out).2.2 | (with_reducible refine Kd.C_alloc ?_ _) | (with_reducible refine Kd.C_drewN ?_ _) | (with_reducible refine Kd.C_drew ?_))); (case side2 => exact (Kd.R_reads' HO1092.out).2.1); (case side3 => repeat (first | exact (Kd.R_reads' HO1096.out).2.2 | (with_reducible refine Kd.C_alloc ?_ _) | (with_reducible refine Kd.C_drewN ?_ _) | (with_reducible refine Kd.C_drew ?_))); (case side4 => exact (Kd.R_reads' HO1096.out).2.1); rintro e w' ⟨rfl, ⟨nd, rfl⟩⟩; obtain ⟨Ao29, co29, eo29⟩ := Kd.R_slice HO1100.out; subst eo29; obtain ⟨Ao30, co30, eo30⟩ := Kd.R_slice HO1104.out; subst eo30) | (go_at_call 31; (with_reducible refine (headendref01_Same.calls kj4 _ _ t1098 _ _ t1102 t1107 _ ?side1 ?side2 ?side3 ?side4 A26.out).mono ?_); (case side1 => repeat (first | exact (Kd.R_reads' HO1100.out).2.2 | (with_reducible refine Kd.C_alloc ?_ _) | (with_reducible refine Kd.C_drewN ?_ _) | (with_reducible refine Kd.C_drew ?_))); (case side2 => exact (Kd.R_reads' HO1100.out).2.1); (case side3 => repeat (first | exact (Kd.R_reads' HO1104.out).2.2 | (with_reducible refine Kd.C_alloc ?_ _) | (with_reducible refine Kd.C_drewN ?_ _) | (with_reducible refine Kd.C_drew ?_))); (case side4 => exact (Kd.R_reads' HO1104.out).2.1); rintro e w' ⟨rfl, ⟨nd, rfl⟩⟩))
                go_meet
                case rel => exact ⟨_, (!t1107), (by first | rfl | (simp; done) | (simp [*]; done)), H', ⟨by have := HJ4.out; first | omega | exact Nat.le_refl _⟩, ⟨by (with_reducible repeat (first | apply Kd.R_alloc | apply Kd.R_drewN | apply Kd.R_drew)); exact Kd.R_mono HO1092.out (fun _ hk => hk.1.2)⟩, ⟨by (with_reducible repeat (first | apply Kd.R_alloc | apply Kd.R_drewN | apply Kd.R_drew)); exact Kd.R_mono HO1100.out (fun _ hk => hk.1.1.2)⟩, ⟨by repeat (first | (with_reducible first | exact HB.out | apply below_alloc | apply pw_below_drewN | apply below_drew1) | exact HB.out)⟩⟩
              · replace c25 := Bool.eq_false_iff.mpr c25
                subst c25
                have H1 : (headendlaw01_NumberRing.j1 kj4 l0 l1 l2 t1086 t1090 t1093 t1098 t1101 true) = some r := by rw [if_neg (show ¬ (false = true) by decide)] at H; exact H
                clear H
                have H := H1
                clear H1
                cases kj4 with
                | zero => exact absurd H (by simp [headendlaw01_NumberRing.j1])
                | succ kd_ => (simp only [headendlaw01_NumberRing.j1] at H; (try rw [if_pos rfl] at H); obtain rfl := Option.some.inj H; exact absurd HRR.out Bool.false_ne_true)
            · rw [if_neg c23] at H
              have c23b0 : (t1101 == t1105) = false := beq_eq_false_iff_ne.mpr c23
              have c23b1 : (t1101 != t1105) = true := bne_iff_ne.mpr c23
              cases kj4 with
              | zero => exact absurd H (by simp [headendlaw01_NumberRing.j1])
              | succ kd_ => (simp only [headendlaw01_NumberRing.j1] at H; (try rw [if_pos rfl] at H); obtain rfl := Option.some.inj H; exact absurd HRR.out Bool.false_ne_true)
          · rw [if_neg c22] at H
            have c22b0 : (t1093 == t1097) = false := beq_eq_false_iff_ne.mpr c22
            have c22b1 : (t1093 != t1097) = true := bne_iff_ne.mpr c22
            (first | rw [c22b0] | (simp only [i64_w, i32_w, u8_w, u32_w, u64_of_u8, u64_of_u32]; rw [c22b0]) | skip)
            cases kj4 with
            | zero => exact absurd H (by simp [headendlaw01_NumberRing.j1])
            | succ kd_ => (simp only [headendlaw01_NumberRing.j1] at H; (try rw [if_pos rfl] at H); obtain rfl := Option.some.inj H; exact absurd HRR.out Bool.false_ne_true)
        case rest =>
          clear HC17
          try clear c1
          try clear c2
          try clear p2
          try clear c4
          try clear c5
          try clear c8
          try clear c10
          try clear c12
          try clear c22
          try clear c22b0
          try clear c22b1
          try clear c23
          try clear c23b0
          try clear c23b1
          try clear c25
          try clear p2
          obtain ⟨kq, x82_16, rfl, HA, HJ16, HO_8, HO_12, HB⟩ := hcut
          cases kq with
          | zero => exact absurd HA.out (by simp [headendlaw01_NumberRing.j1])
          | succ kj16 =>
            have H := HA.out
            clear HA
            simp only [headendlaw01_NumberRing.j1] at H
            by_cases c31 : x82_16 = true
            · subst c31
              have H1 : (some false) = some r := by rw [if_pos rfl] at H; exact H
              clear H
              have H := H1
              clear H1
              obtain rfl := Option.some.inj H
              exact absurd HRR.out Bool.false_ne_true
            · replace c31 := Bool.eq_false_iff.mpr c31
              subst c31
              have H1 : (if t1093 = 0 then (headendlaw01_NumberRing.j2 kj16 l0 l1 l2 t1086 t1090 t1093 t1098 t1101 (t1101 != 0)) else (headendlaw01_NumberRing.j2 kj16 l0 l1 l2 t1086 t1090 t1093 t1098 t1101 true)) = some r := by rw [if_neg (show ¬ (false = true) by decide)] at H; exact H
              clear H
              have H := H1
              clear H1
              have HC32 := Aside0.mk H
              clear H
              go_upto_region 10 with (fail)
              go_cut [88] (fun v88 wc => ∃ (kq : Nat) (x88_31 : Bool), v88 = .bool x88_31 ∧ Aside0 (headendlaw01_NumberRing.j2 kq l0 l1 l2 t1086 t1090 t1093 t1098 t1101 x88_31 = some r) ∧ Aside0 (kq ≤ kj16) ∧ Aside0 (Kd.R (Kd.int .u32) 84 wc w.heap.size (fun k_ => some k_ ≠ (v1099 : Value).ownBlock) v1091 t1090) ∧ Aside0 (Kd.R (Kd.int .u32) 84 wc w.heap.size (fun k_ => some k_ ≠ (v1091 : Value).ownBlock) v1099 t1098) ∧ Aside0 (Below w.heap.size w wc))
              case first =>
                have H := HC32.out
                clear HC32
                by_cases c33 : t1093 = 0
                · rw [if_pos c33] at H
                  have c33b0 : (t1093 == 0) = true := beq_iff_eq.mpr c33
                  have c33b1 : (t1093 != 0) = false := bne_eq_false_iff_eq.mpr c33
                  clear c33
                  (first | rw [c33b0] | (simp only [i64_w, i32_w, u8_w, u32_w, u64_of_u8, u64_of_u32]; rw [c33b0]) | skip)
                  have H' := Aside0.mk H
                  clear H
                  go_wp2
                  go_meet
                  case rel => exact ⟨_, ((t1101 != 0)), (by first | rfl | (simp; done) | (simp [*]; done)), H', ⟨by have := HJ4.out; have := HJ16.out; first | omega | exact Nat.le_refl _⟩, ⟨by (with_reducible repeat (first | apply Kd.R_alloc | apply Kd.R_drewN | apply Kd.R_drew)); exact HO_8.out⟩, ⟨by (with_reducible repeat (first | apply Kd.R_alloc | apply Kd.R_drewN | apply Kd.R_drew)); exact HO_12.out⟩, ⟨by repeat (first | (with_reducible first | exact HB.out | apply below_alloc | apply pw_below_drewN | apply below_drew1) | exact HB.out)⟩⟩
                · rw [if_neg c33] at H
                  have c33b0 : (t1093 == 0) = false := beq_eq_false_iff_ne.mpr c33
                  have c33b1 : (t1093 != 0) = true := bne_iff_ne.mpr c33
                  (first | rw [c33b0] | (simp only [i64_w, i32_w, u8_w, u32_w, u64_of_u8, u64_of_u32]; rw [c33b0]) | skip)
                  have H' := Aside0.mk H
                  clear H
                  go_wp2
                  go_meet
                  case rel => exact ⟨_, (true), (by first | rfl | (simp; done) | (simp [*]; done)), H', ⟨by have := HJ4.out; have := HJ16.out; first | omega | exact Nat.le_refl _⟩, ⟨by (with_reducible repeat (first | apply Kd.R_alloc | apply Kd.R_drewN | apply Kd.R_drew)); exact HO_8.out⟩, ⟨by (with_reducible repeat (first | apply Kd.R_alloc | apply Kd.R_drewN | apply Kd.R_drew)); exact HO_12.out⟩, ⟨by repeat (first | (with_reducible first | exact HB.out | apply below_alloc | apply pw_below_drewN | apply below_drew1) | exact HB.out)⟩⟩
              case rest =>
                clear HC32
                try clear c1
                try clear c2
                try clear p2
                try clear c3
                try clear c4
                try clear c5
                try clear c8
                try clear c10
                try clear c12
                try clear c22
                try clear c22b0
                try clear c22b1
                try clear c23
                try clear c23b0
                try clear c23b1
                try clear c25
                try clear c31
                try clear c33
                try clear c33b0
                try clear c33b1
                try clear p2
                obtain ⟨kq, x88_31, rfl, HA, HJ31, HO_8, HO_12, HB⟩ := hcut
                cases kq with
                | zero => exact absurd HA.out (by simp [headendlaw01_NumberRing.j2])
                | succ kj31 =>
                  have H := HA.out
                  clear HA
                  simp only [headendlaw01_NumberRing.j2] at H
                  by_cases c34 : x88_31 = true
                  · subst c34
                    have H1 : (if t1086 = true then (if t1093 = 0 then (if t1101 = 0 then (some true) else (some (t1101 == 4))) else (if t1093 = 4 then (if t1101 = 0 then (some true) else (some (t1101 == 4))) else (some false))) else (some false)) = some r := by rw [if_pos rfl] at H; exact H
                    clear H
                    have H := H1
                    clear H1
                    by_cases c35 : t1086 = true
                    · subst c35
                      have H1 : (if t1093 = 0 then (if t1101 = 0 then (some true) else (some (t1101 == 4))) else (if t1093 = 4 then (if t1101 = 0 then (some true) else (some (t1101 == 4))) else (some false))) = some r := by rw [if_pos rfl] at H; exact H
                      clear H
                      have H := H1
                      clear H1
                      by_cases c36 : t1093 = 0
                      · rw [if_pos c36] at H
                        have c36b0 : (t1093 == 0) = true := beq_iff_eq.mpr c36
                        have c36b1 : (t1093 != 0) = false := bne_eq_false_iff_eq.mpr c36
                        clear c36
                        by_cases c37 : t1101 = 0
                        · rw [if_pos c37] at H
                          have c37b0 : (t1101 == 0) = true := beq_iff_eq.mpr c37
                          have c37b1 : (t1101 != 0) = false := bne_eq_false_iff_eq.mpr c37
                          clear c37
                          obtain rfl := Option.some.inj H
                          go_wp2
                          go_ret
                          exact ⟨by first | rfl | (simp [errW_none, errW_some] <;> rfl) | (simp [*, errW_none, errW_some] <;> rfl), by repeat (first | (with_reducible first | exact HB.out | apply below_alloc | apply pw_below_drewN | apply below_drew1) | exact HB.out)⟩
                        · rw [if_neg c37] at H
                          have c37b0 : (t1101 == 0) = false := beq_eq_false_iff_ne.mpr c37
                          have c37b1 : (t1101 != 0) = true := bne_iff_ne.mpr c37
                          obtain rfl := Option.some.inj H
                          go_wp2
                          go_ret
                          exact ⟨by first | rfl | (simp [errW_none, errW_some] <;> rfl) | (simp [*, errW_none, errW_some] <;> rfl), by repeat (first | (with_reducible first | exact HB.out | apply below_alloc | apply pw_below_drewN | apply below_drew1) | exact HB.out)⟩
                      · rw [if_neg c36] at H
                        have c36b0 : (t1093 == 0) = false := beq_eq_false_iff_ne.mpr c36
                        have c36b1 : (t1093 != 0) = true := bne_iff_ne.mpr c36
                        by_cases c38 : t1093 = 4
                        · rw [if_pos c38] at H
                          have c38b0 : (t1093 == 4) = true := beq_iff_eq.mpr c38
                          have c38b1 : (t1093 != 4) = false := bne_eq_false_iff_eq.mpr c38
                          clear c38
                          by_cases c39 : t1101 = 0
                          · rw [if_pos c39] at H
                            have c39b0 : (t1101 == 0) = true := beq_iff_eq.mpr c39
                            have c39b1 : (t1101 != 0) = false := bne_eq_false_iff_eq.mpr c39
                            clear c39
                            obtain rfl := Option.some.inj H
                            go_wp2
                            go_ret
                            exact ⟨by first | rfl | (simp [errW_none, errW_some] <;> rfl) | (simp [*, errW_none, errW_some] <;> rfl), by repeat (first | (with_reducible first | exact HB.out | apply below_alloc | apply pw_below_drewN | apply below_drew1) | exact HB.out)⟩
                          · rw [if_neg c39] at H
                            have c39b0 : (t1101 == 0) = false := beq_eq_false_iff_ne.mpr c39
                            have c39b1 : (t1101 != 0) = true := bne_iff_ne.mpr c39
                            obtain rfl := Option.some.inj H
                            go_wp2
                            go_ret
                            exact ⟨by first | rfl | (simp [errW_none, errW_some] <;> rfl) | (simp [*, errW_none, errW_some] <;> rfl), by repeat (first | (with_reducible first | exact HB.out | apply below_alloc | apply pw_below_drewN | apply below_drew1) | exact HB.out)⟩
                        · rw [if_neg c38] at H
                          have c38b0 : (t1093 == 4) = false := beq_eq_false_iff_ne.mpr c38
                          have c38b1 : (t1093 != 4) = true := bne_iff_ne.mpr c38
                          obtain rfl := Option.some.inj H
                          exact absurd HRR.out Bool.false_ne_true
                    · replace c35 := Bool.eq_false_iff.mpr c35
                      subst c35
                      have H1 : (some false) = some r := by rw [if_neg (show ¬ (false = true) by decide)] at H; exact H
                      clear H
                      have H := H1
                      clear H1
                      obtain rfl := Option.some.inj H
                      exact absurd HRR.out Bool.false_ne_true
                  · replace c34 := Bool.eq_false_iff.mpr c34
                    subst c34
                    have H1 : ((number_Mul.f kj31 t1090 l2).bind fun bt1108 => ((number_Mul.f kj31 l0 l2).bind fun bt1112 => ((number_Mul.f kj31 l1 l2).bind fun bt1116 => (if bt1108.2 = 0 then (if bt1112.2 = 0 then (headendlaw01_NumberRing.j3 kj31 l0 l2 t1086 t1098 bt1108.1 bt1112.1 bt1116.1 (bt1116.2 != 0)) else (headendlaw01_NumberRing.j3 kj31 l0 l2 t1086 t1098 bt1108.1 bt1112.1 bt1116.1 true)) else (headendlaw01_NumberRing.j3 kj31 l0 l2 t1086 t1098 bt1108.1 bt1112.1 bt1116.1 true))))) = some r := by rw [if_neg (show ¬ (false = true) by decide)] at H; exact H
                    clear H
                    have H := H1
                    clear H1
                    replace H := Option.bind_eq_some_iff.mp H
                    obtain ⟨⟨t1108, t1111⟩, A400, H⟩ := H
                    replace H : ((number_Mul.f kj31 l0 l2).bind fun bt1112 => ((number_Mul.f kj31 l1 l2).bind fun bt1116 => (if t1111 = 0 then (if bt1112.2 = 0 then (headendlaw01_NumberRing.j3 kj31 l0 l2 t1086 t1098 t1108 bt1112.1 bt1116.1 (bt1116.2 != 0)) else (headendlaw01_NumberRing.j3 kj31 l0 l2 t1086 t1098 t1108 bt1112.1 bt1116.1 true)) else (headendlaw01_NumberRing.j3 kj31 l0 l2 t1086 t1098 t1108 bt1112.1 bt1116.1 true)))) = some r := H
                    have A40 := Aside0.mk A400
                    clear A400
                    replace H := Option.bind_eq_some_iff.mp H
                    obtain ⟨⟨t1112, t1115⟩, A410, H⟩ := H
                    replace H : ((number_Mul.f kj31 l1 l2).bind fun bt1116 => (if t1111 = 0 then (if t1115 = 0 then (headendlaw01_NumberRing.j3 kj31 l0 l2 t1086 t1098 t1108 t1112 bt1116.1 (bt1116.2 != 0)) else (headendlaw01_NumberRing.j3 kj31 l0 l2 t1086 t1098 t1108 t1112 bt1116.1 true)) else (headendlaw01_NumberRing.j3 kj31 l0 l2 t1086 t1098 t1108 t1112 bt1116.1 true))) = some r := H
                    have A41 := Aside0.mk A410
                    clear A410
                    replace H := Option.bind_eq_some_iff.mp H
                    obtain ⟨⟨t1116, t1119⟩, A420, H⟩ := H
                    replace H : (if t1111 = 0 then (if t1115 = 0 then (headendlaw01_NumberRing.j3 kj31 l0 l2 t1086 t1098 t1108 t1112 t1116 (t1119 != 0)) else (headendlaw01_NumberRing.j3 kj31 l0 l2 t1086 t1098 t1108 t1112 t1116 true)) else (headendlaw01_NumberRing.j3 kj31 l0 l2 t1086 t1098 t1108 t1112 t1116 true)) = some r := H
                    have A42 := Aside0.mk A420
                    clear A420
                    have HC43 := Aside0.mk H
                    clear H
                    obtain ⟨Ao44, co44, eo44⟩ := Kd.R_slice HO_8.out
                    subst eo44
                    go_upto_region 15 with (first | ((with_reducible refine gate_callee (f := 49) rfl ?_); refine goesL_ (some 109) rfl rfl Try.func49 (by kernel_rfl) rfl #[.slice Ao44 t1090.length co44, .slice A2 l2.length c2] rfl (by (try simp only [List.map_toArray, List.map_cons, List.map_nil]); first | done | rfl | (simp only [List.length_drop, List.length_take]; rfl)) ?_; (with_reducible refine (number_Mul.calls kj31 (fun k_ => some k_ = (.slice Ao44 t1090.length co44 : Value).ownBlock) _ _ t1090 (fun k_ => k_ < w.heap.size) _ _ l2 t1108 t1111 _ ?side1 ?side2 A40.out).mono ?_); (case side1 => exact Kd.R_V (Kd.R_tight rfl (HO_8.out))); (case side2 => exact Kd.V_mk HC2.out (Kd.F_below (Kd.C_F (Kd.heap_int .u32) HR2.out) (by repeat (first | (with_reducible first | exact HB.out | apply below_alloc | apply pw_below_drewN | apply below_drew1) | exact HB.out)))); rintro e w45 ⟨v1109, rfl, ho0, hb⟩; refine ⟨_, rfl, ?_⟩; have n0_ := Aside0.mk (Kd.R_elder' (by (with_reducible repeat (first | apply Kd.R_alloc | apply Kd.R_drewN | apply Kd.R_drew)); exact HO_8.out) (Kd.R_base ho0) hb); have n1_ := Aside0.mk (Kd.R_elder' (by (with_reducible repeat (first | apply Kd.R_alloc | apply Kd.R_drewN | apply Kd.R_drew)); exact HO_12.out) (Kd.R_base ho0) hb); have n2_ := Aside0.mk (Kd.R_lower (Kd.R_new' (Kd.R_new' (Kd.R_mono (ok' := fun k_ => True) ho0 (fun _ hk_ => trivial)) (Kd.R_lt (by (with_reducible repeat (first | apply Kd.R_alloc | apply Kd.R_drewN | apply Kd.R_drew)); exact HO_8.out))) (Kd.R_lt (by (with_reducible repeat (first | apply Kd.R_alloc | apply Kd.R_drewN | apply Kd.R_drew)); exact HO_12.out))) (below_size (by repeat (first | (with_reducible first | exact HB.out | apply below_alloc | apply pw_below_drewN | apply below_drew1) | exact HB.out)))); have n3_ := Aside0.mk (below_step (by repeat (first | (with_reducible first | exact HB.out | apply below_alloc | apply pw_below_drewN | apply below_drew1) | exact HB.out)) hb); clear HO_8; clear HO_12; clear HB; have HO_8 := n0_; have HO_12 := n1_; have HO1110 := n2_; have HB := n3_; clear n0_ n1_ n2_ n3_; (try clear hb); (try clear hb2); (try clear hk); (try clear hi); (try clear ho0)) | ((with_reducible refine gate_callee (f := 49) rfl ?_); refine goesL_ (some 115) rfl rfl Try.func49 (by kernel_rfl) rfl #[.slice A0 l0.length c0, .slice A2 l2.length c2] rfl (by (try simp only [List.map_toArray, List.map_cons, List.map_nil]); first | done | rfl | (simp only [List.length_drop, List.length_take]; rfl)) ?_; (with_reducible refine (number_Mul.calls kj31 (fun k_ => k_ < w.heap.size) _ _ l0 (fun k_ => k_ < w.heap.size) _ _ l2 t1112 t1115 _ ?side1 ?side2 A41.out).mono ?_); (case side1 => exact Kd.V_mk HC0.out (Kd.F_below (Kd.C_F (Kd.heap_int .u32) HR0.out) (by repeat (first | (with_reducible first | exact HB.out | apply below_alloc | apply pw_below_drewN | apply below_drew1) | exact HB.out)))); (case side2 => exact Kd.V_mk HC2.out (Kd.F_below (Kd.C_F (Kd.heap_int .u32) HR2.out) (by repeat (first | (with_reducible first | exact HB.out | apply below_alloc | apply pw_below_drewN | apply below_drew1) | exact HB.out)))); rintro e w46 ⟨v1113, rfl, ho0, hb⟩; refine ⟨_, rfl, ?_⟩; have n0_ := Aside0.mk (Kd.R_elder' (by (with_reducible repeat (first | apply Kd.R_alloc | apply Kd.R_drewN | apply Kd.R_drew)); exact HO_8.out) (Kd.R_base ho0) hb); have n1_ := Aside0.mk (Kd.R_elder' (by (with_reducible repeat (first | apply Kd.R_alloc | apply Kd.R_drewN | apply Kd.R_drew)); exact HO_12.out) (Kd.R_base ho0) hb); have n2_ := Aside0.mk (Kd.R_elder' (by (with_reducible repeat (first | apply Kd.R_alloc | apply Kd.R_drewN | apply Kd.R_drew)); exact HO1110.out) (Kd.R_base ho0) hb); have n3_ := Aside0.mk (Kd.R_lower (Kd.R_new' (Kd.R_new' (Kd.R_new' (Kd.R_mono (ok' := fun k_ => True) ho0 (fun _ hk_ => trivial)) (Kd.R_lt (by (with_reducible repeat (first | apply Kd.R_alloc | apply Kd.R_drewN | apply Kd.R_drew)); exact HO_8.out))) (Kd.R_lt (by (with_reducible repeat (first | apply Kd.R_alloc | apply Kd.R_drewN | apply Kd.R_drew)); exact HO_12.out))) (Kd.R_lt (by (with_reducible repeat (first | apply Kd.R_alloc | apply Kd.R_drewN | apply Kd.R_drew)); exact HO1110.out))) (below_size (by repeat (first | (with_reducible first | exact HB.out | apply below_alloc | apply pw_below_drewN | apply below_drew1) | exact HB.out)))); have n4_ := Aside0.mk (below_step (by repeat (first | (with_reducible first | exact HB.out | apply below_alloc | apply pw_below_drewN | apply below_drew1) | exact HB.out)) hb); clear HO_8; clear HO_12; clear HO1110; clear HB; have HO_8 := n0_; have HO_12 := n1_; have HO1110 := n2_; have HO1114 := n3_; have HB := n4_; clear n0_ n1_ n2_ n3_ n4_; (try clear hb); (try clear hb2); (try clear hk); (try clear hi); (try clear ho0)) | ((with_reducible refine gate_callee (f := 49) rfl ?_); refine goesL_ (some 121) rfl rfl Try.func49 (by kernel_rfl) rfl #[.slice A1 l1.length c1, .slice A2 l2.length c2] rfl (by (try simp only [List.map_toArray, List.map_cons, List.map_nil]); first | done | rfl | (simp only [List.length_drop, List.length_take]; rfl)) ?_; (with_reducible refine (number_Mul.calls kj31 (fun k_ => k_ < w.heap.size) _ _ l1 (fun k_ => k_ < w.heap.size) _ _ l2 t1116 t1119 _ ?side1 ?side2 A42.out).mono ?_); (case side1 => exact Kd.V_mk HC1.out (Kd.F_below (Kd.C_F (Kd.heap_int .u32) HR1.out) (by repeat (first | (with_reducible first | exact HB.out | apply below_alloc | apply pw_below_drewN | apply below_drew1) | exact HB.out)))); (case side2 => exact Kd.V_mk HC2.out (Kd.F_below (Kd.C_F (Kd.heap_int .u32) HR2.out) (by repeat (first | (with_reducible first | exact HB.out | apply below_alloc | apply pw_below_drewN | apply below_drew1) | exact HB.out)))); rintro e w47 ⟨v1117, rfl, ho0, hb⟩; refine ⟨_, rfl, ?_⟩; have n0_ := Aside0.mk (Kd.R_elder' (by (with_reducible repeat (first | apply Kd.R_alloc | apply Kd.R_drewN | apply Kd.R_drew)); exact HO_8.out) (Kd.R_base ho0) hb); have n1_ := Aside0.mk (Kd.R_elder' (by (with_reducible repeat (first | apply Kd.R_alloc | apply Kd.R_drewN | apply Kd.R_drew)); exact HO_12.out) (Kd.R_base ho0) hb); have n2_ := Aside0.mk (Kd.R_elder' (by (with_reducible repeat (first | apply Kd.R_alloc | apply Kd.R_drewN | apply Kd.R_drew)); exact HO1110.out) (Kd.R_base ho0) hb); have n3_ := Aside0.mk (Kd.R_elder' (by (with_reducible repeat (first | apply Kd.R_alloc | apply Kd.R_drewN | apply Kd.R_drew)); exact HO1114.out) (Kd.R_base ho0) hb); have n4_ := Aside0.mk (Kd.R_lower (Kd.R_new' (Kd.R_new' (Kd.R_new' (Kd.R_new' (Kd.R_mono (ok' := fun k_ => True) ho0 (fun _ hk_ => trivial)) (Kd.R_lt (by (with_reducible repeat (first | apply Kd.R_alloc | apply Kd.R_drewN | apply Kd.R_drew)); exact HO_8.out))) (Kd.R_lt (by (with_reducible repeat (first | apply Kd.R_alloc | apply Kd.R_drewN | apply Kd.R_drew)); exact HO_12.out))) (Kd.R_lt (by (with_reducible repeat (first | apply Kd.R_alloc | apply Kd.R_drewN | apply Kd.R_drew)); exact HO1110.out))) (Kd.R_lt (by (with_reducible repeat (first | apply Kd.R_alloc | apply Kd.R_drewN | apply Kd.R_drew)); exact HO1114.out))) (below_size (by repeat (first | (with_reducible first | exact HB.out | apply below_alloc | apply pw_below_drewN | apply below_drew1) | exact HB.out)))); have n5_ := Aside0.mk (below_step (by repeat (first | (with_reducible first | exact HB.out | apply below_alloc | apply pw_below_drewN | apply below_drew1) | exact HB.out)) hb); clear HO_8; clear HO_12; clear HO1110; clear HO1114; clear HB; have HO_8 := n0_; have HO_12 := n1_; have HO1110 := n2_; have HO1114 := n3_; have HO1118 := n4_; have HB := n5_; clear n0_ n1_ n2_ n3_ n4_ n5_; (try clear hb); (try clear hb2); (try clear hk); (try clear hi); (try clear ho0)))
                    (try simp only [Act.put, List.setIfInBounds_toArray, List.set_cons_zero, List.set_cons_succ])
                    go_cut [133] (fun v133 wc => ∃ (kq : Nat) (x133_42 : Bool), v133 = .bool x133_42 ∧ Aside0 (headendlaw01_NumberRing.j3 kq l0 l2 t1086 t1098 t1108 t1112 t1116 x133_42 = some r) ∧ Aside0 (kq ≤ kj31) ∧ Aside0 (Kd.R (Kd.int .u32) 84 wc w.heap.size (fun k_ => some k_ ≠ (v1109 : Value).ownBlock ∧ some k_ ≠ (v1113 : Value).ownBlock ∧ some k_ ≠ (v1117 : Value).ownBlock) v1099 t1098) ∧ Aside0 (Kd.R (Kd.int .u32) 84 wc w.heap.size (fun k_ => some k_ ≠ (v1099 : Value).ownBlock ∧ some k_ ≠ (v1113 : Value).ownBlock ∧ some k_ ≠ (v1117 : Value).ownBlock) v1109 t1108) ∧ Aside0 (Kd.R (Kd.int .u32) 84 wc w.heap.size (fun k_ => some k_ ≠ (v1099 : Value).ownBlock ∧ some k_ ≠ (v1109 : Value).ownBlock ∧ some k_ ≠ (v1117 : Value).ownBlock) v1113 t1112) ∧ Aside0 (Kd.R (Kd.int .u32) 84 wc w.heap.size (fun k_ => some k_ ≠ (v1099 : Value).ownBlock ∧ some k_ ≠ (v1109 : Value).ownBlock ∧ some k_ ≠ (v1113 : Value).ownBlock) v1117 t1116) ∧ Aside0 (Below w.heap.size w wc))
                    case first =>
                      have H := HC43.out
                      clear HC43
                      by_cases c48 : t1111 = 0
                      · rw [if_pos c48] at H
                        have c48b0 : (t1111 == 0) = true := beq_iff_eq.mpr c48
                        have c48b1 : (t1111 != 0) = false := bne_eq_false_iff_eq.mpr c48
                        clear c48
                        (first | rw [c48b0] | (simp only [i64_w, i32_w, u8_w, u32_w, u64_of_u8, u64_of_u32]; rw [c48b0]) | skip)
                        by_cases c49 : t1115 = 0
                        · rw [if_pos c49] at H
                          have c49b0 : (t1115 == 0) = true := beq_iff_eq.mpr c49
                          have c49b1 : (t1115 != 0) = false := bne_eq_false_iff_eq.mpr c49
                          clear c49
                          have H' := Aside0.mk H
                          clear H
                          go_wp2
                          go_meet
                          case rel => exact ⟨_, ((t1119 != 0)), (by first | rfl | (simp; done) | (simp [*]; done)), H', ⟨by have := HJ4.out; have := HJ16.out; have := HJ31.out; first | omega | exact Nat.le_refl _⟩, ⟨by (with_reducible repeat (first | apply Kd.R_alloc | apply Kd.R_drewN | apply Kd.R_drew)); exact Kd.R_mono HO_12.out (fun _ hk => ⟨hk.1.1.2, ⟨hk.1.2, hk.2⟩⟩)⟩, ⟨by (with_reducible repeat (first | apply Kd.R_alloc | apply Kd.R_drewN | apply Kd.R_drew)); exact Kd.R_mono HO1110.out (fun _ hk => ⟨hk.1.1.2, ⟨hk.1.2, hk.2⟩⟩)⟩, ⟨by (with_reducible repeat (first | apply Kd.R_alloc | apply Kd.R_drewN | apply Kd.R_drew)); exact Kd.R_mono HO1114.out (fun _ hk => ⟨hk.1.1.2, ⟨hk.1.2, hk.2⟩⟩)⟩, ⟨by (with_reducible repeat (first | apply Kd.R_alloc | apply Kd.R_drewN | apply Kd.R_drew)); exact Kd.R_mono HO1118.out (fun _ hk => ⟨hk.1.1.2, ⟨hk.1.2, hk.2⟩⟩)⟩, ⟨by repeat (first | (with_reducible first | exact HB.out | apply below_alloc | apply pw_below_drewN | apply below_drew1) | exact HB.out)⟩⟩
                        · rw [if_neg c49] at H
                          have c49b0 : (t1115 == 0) = false := beq_eq_false_iff_ne.mpr c49
                          have c49b1 : (t1115 != 0) = true := bne_iff_ne.mpr c49
                          have H' := Aside0.mk H
                          clear H
                          go_wp2
                          go_meet
                          case rel => exact ⟨_, (true), (by first | rfl | (simp; done) | (simp [*]; done)), H', ⟨by have := HJ4.out; have := HJ16.out; have := HJ31.out; first | omega | exact Nat.le_refl _⟩, ⟨by (with_reducible repeat (first | apply Kd.R_alloc | apply Kd.R_drewN | apply Kd.R_drew)); exact Kd.R_mono HO_12.out (fun _ hk => ⟨hk.1.1.2, ⟨hk.1.2, hk.2⟩⟩)⟩, ⟨by (with_reducible repeat (first | apply Kd.R_alloc | apply Kd.R_drewN | apply Kd.R_drew)); exact Kd.R_mono HO1110.out (fun _ hk => ⟨hk.1.1.2, ⟨hk.1.2, hk.2⟩⟩)⟩, ⟨by (with_reducible repeat (first | apply Kd.R_alloc | apply Kd.R_drewN | apply Kd.R_drew)); exact Kd.R_mono HO1114.out (fun _ hk => ⟨hk.1.1.2, ⟨hk.1.2, hk.2⟩⟩)⟩, ⟨by (with_reducible repeat (first | apply Kd.R_alloc | apply Kd.R_drewN | apply Kd.R_drew)); exact Kd.R_mono HO1118.out (fun _ hk => ⟨hk.1.1.2, ⟨hk.1.2, hk.2⟩⟩)⟩, ⟨by repeat (first | (with_reducible first | exact HB.out | apply below_alloc | apply pw_below_drewN | apply below_drew1) | exact HB.out)⟩⟩
                      · rw [if_neg c48] at H
                        have c48b0 : (t1111 == 0) = false := beq_eq_false_iff_ne.mpr c48
                        have c48b1 : (t1111 != 0) = true := bne_iff_ne.mpr c48
                        (first | rw [c48b0] | (simp only [i64_w, i32_w, u8_w, u32_w, u64_of_u8, u64_of_u32]; rw [c48b0]) | skip)
                        have H' := Aside0.mk H
                        clear H
                        go_wp2
                        go_meet
                        case rel => exact ⟨_, (true), (by first | rfl | (simp; done) | (simp [*]; done)), H', ⟨by have := HJ4.out; have := HJ16.out; have := HJ31.out; first | omega | exact Nat.le_refl _⟩, ⟨by (with_reducible repeat (first | apply Kd.R_alloc | apply Kd.R_drewN | apply Kd.R_drew)); exact Kd.R_mono HO_12.out (fun _ hk => ⟨hk.1.1.2, ⟨hk.1.2, hk.2⟩⟩)⟩, ⟨by (with_reducible repeat (first | apply Kd.R_alloc | apply Kd.R_drewN | apply Kd.R_drew)); exact Kd.R_mono HO1110.out (fun _ hk => ⟨hk.1.1.2, ⟨hk.1.2, hk.2⟩⟩)⟩, ⟨by (with_reducible repeat (first | apply Kd.R_alloc | apply Kd.R_drewN | apply Kd.R_drew)); exact Kd.R_mono HO1114.out (fun _ hk => ⟨hk.1.1.2, ⟨hk.1.2, hk.2⟩⟩)⟩, ⟨by (with_reducible repeat (first | apply Kd.R_alloc | apply Kd.R_drewN | apply Kd.R_drew)); exact Kd.R_mono HO1118.out (fun _ hk => ⟨hk.1.1.2, ⟨hk.1.2, hk.2⟩⟩)⟩, ⟨by repeat (first | (with_reducible first | exact HB.out | apply below_alloc | apply pw_below_drewN | apply below_drew1) | exact HB.out)⟩⟩
                    case rest =>
                      clear HC43
                      try clear c1
                      try clear c2
                      try clear p2
                      try clear c3
                      try clear c4
                      try clear c5
                      try clear c8
                      try clear c10
                      try clear c12
                      try clear c22
                      try clear c22b0
                      try clear c22b1
                      try clear c23
                      try clear c23b0
                      try clear c23b1
                      try clear c25
                      try clear c31
                      try clear c33
                      try clear c33b0
                      try clear c33b1
                      try clear c34
                      try clear c35
                      try clear c36
                      try clear c36b0
                      try clear c36b1
                      try clear c37
                      try clear c37b0
                      try clear c37b1
                      try clear c38
                      try clear c38b0
                      try clear c38b1
                      try clear c39
                      try clear c39b0
                      try clear c39b1
                      try clear c47
                      try clear c48
                      try clear c48b0
                      try clear c48b1
                      try clear c49
                      try clear c49b0
                      try clear c49b1
                      try clear p2
                      obtain ⟨kq, x133_42, rfl, HA, HJ42, HO_12, HO_16, HO_17, HO_18, HB⟩ := hcut
                      cases kq with
                      | zero => exact absurd HA.out (by simp [headendlaw01_NumberRing.j3])
                      | succ kj42 =>
                        have H := HA.out
                        clear HA
                        simp only [headendlaw01_NumberRing.j3] at H
                        by_cases c50 : x133_42 = true
                        · subst c50
                          have H1 : (some t1086) = some r := by rw [if_pos rfl] at H; exact H
                          clear H
                          have H := H1
                          clear H1
                          obtain rfl := Option.some.inj H
                          go_wp2
                          go_ret
                          exact ⟨by first | rfl | (simp [errW_none, errW_some] <;> rfl) | (simp [*, errW_none, errW_some] <;> rfl), by repeat (first | (with_reducible first | exact HB.out | apply below_alloc | apply pw_below_drewN | apply below_drew1) | exact HB.out)⟩
                        · replace c50 := Bool.eq_false_iff.mpr c50
                          subst c50
                          have H1 : ((number_Add.f kj42 t1112 t1116).bind fun bt1120 => ((number_Mul.f kj42 t1098 l2).bind fun bt1124 => ((number_Mul.f kj42 l0 t1116).bind fun bt1128 => (if t1086 = true then (if bt1120.2 = 0 then ((headendref01_Same.f kj42 t1108 bt1120.1).bind fun t1132 => (if t1132 = true then (if bt1124.2 = bt1128.2 then ((headendref01_Same.f kj42 bt1124.1 bt1128.1).bind fun t1133 => (some t1133)) else (some false)) else (some false))) else (some false)) else (some false))))) = some r := by rw [if_neg (show ¬ (false = true) by decide)] at H; exact H
                          clear H
                          have H := H1
                          clear H1
                          replace H := Option.bind_eq_some_iff.mp H
                          obtain ⟨⟨t1120, t1123⟩, A510, H⟩ := H
                          replace H : ((number_Mul.f kj42 t1098 l2).bind fun bt1124 => ((number_Mul.f kj42 l0 t1116).bind fun bt1128 => (if t1086 = true then (if t1123 = 0 then ((headendref01_Same.f kj42 t1108 t1120).bind fun t1132 => (if t1132 = true then (if bt1124.2 = bt1128.2 then ((headendref01_Same.f kj42 bt1124.1 bt1128.1).bind fun t1133 => (some t1133)) else (some false)) else (some false))) else (some false)) else (some false)))) = some r := H
                          have A51 := Aside0.mk A510
                          clear A510
                          replace H := Option.bind_eq_some_iff.mp H
                          obtain ⟨⟨t1124, t1127⟩, A520, H⟩ := H
                          replace H : ((number_Mul.f kj42 l0 t1116).bind fun bt1128 => (if t1086 = true then (if t1123 = 0 then ((headendref01_Same.f kj42 t1108 t1120).bind fun t1132 => (if t1132 = true then (if t1127 = bt1128.2 then ((headendref01_Same.f kj42 t1124 bt1128.1).bind fun t1133 => (some t1133)) else (some false)) else (some false))) else (some false)) else (some false))) = some r := H
                          have A52 := Aside0.mk A520
                          clear A520
                          replace H := Option.bind_eq_some_iff.mp H
                          obtain ⟨⟨t1128, t1131⟩, A530, H⟩ := H
                          replace H : (if t1086 = true then (if t1123 = 0 then ((headendref01_Same.f kj42 t1108 t1120).bind fun t1132 => (if t1132 = true then (if t1127 = t1131 then ((headendref01_Same.f kj42 t1124 t1128).bind fun t1133 => (some t1133)) else (some false)) else (some false))) else (some false)) else (some false)) = some r := H
                          have A53 := Aside0.mk A530
                          clear A530
                          by_cases c54 : t1086 = true
                          · subst c54
                            have H1 : (if t1123 = 0 then ((headendref01_Same.f kj42 t1108 t1120).bind fun t1132 => (if t1132 = true then (if t1127 = t1131 then ((headendref01_Same.f kj42 t1124 t1128).bind fun t1133 => (some t1133)) else (some false)) else (some false))) else (some false)) = some r := by rw [if_pos rfl] at H; exact H
                            clear H
                            have H := H1
                            clear H1
                            by_cases c55 : t1123 = 0
                            · rw [if_pos c55] at H
                              have c55b0 : (t1123 == 0) = true := beq_iff_eq.mpr c55
                              have c55b1 : (t1123 != 0) = false := bne_eq_false_iff_eq.mpr c55
                              clear c55
                              replace H := Option.bind_eq_some_iff.mp H
                              obtain ⟨t1132, A560, H⟩ := H
                              replace H : (if t1132 = true then (if t1127 = t1131 then ((headendref01_Same.f kj42 t1124 t1128).bind fun t1133 => (some t1133)) else (some false)) else (some false)) = some r := H
                              have A56 := Aside0.mk A560
                              clear A560
                              by_cases c57 : t1132 = true
                              · subst c57
                                have H1 : (if t1127 = t1131 then ((headendref01_Same.f kj42 t1124 t1128).bind fun t1133 => (some t1133)) else (some false)) = some r := by rw [if_pos rfl] at H; exact H
                                clear H
                                have H := H1
                                clear H1
                                by_cases c58 : t1127 = t1131
                                · rw [if_pos c58] at H
                                  have c58b0 : (t1127 == t1131) = true := beq_iff_eq.mpr c58
                                  have c58b1 : (t1127 != t1131) = false := bne_eq_false_iff_eq.mpr c58
                                  clear c58
                                  replace H := Option.bind_eq_some_iff.mp H
                                  obtain ⟨t1133, A590, H⟩ := H
                                  replace H : (some t1133) = some r := H
                                  have A59 := Aside0.mk A590
                                  clear A590
                                  obtain rfl := Option.some.inj H
                                  obtain ⟨Ao60, co60, eo60⟩ := Kd.R_slice HO_17.out
                                  subst eo60
                                  obtain ⟨Ao61, co61, eo61⟩ := Kd.R_slice HO_18.out
                                  subst eo61
                                  go_wp2_with (first | ((with_reducible refine gate_callee (f := 50) rfl ?_); refine goesL_ (some 138) rfl rfl Try.func50 (by kernel_rfl) rfl #[.slice Ao60 t1112.length co60, .slice Ao61 t1116.length co61] rfl (by (try simp only [List.map_toArray, List.map_cons, List.map_nil]); first | done | rfl | (simp only [List.length_drop, List.length_take]; rfl)) ?_; (with_reducible refine (number_Add.calls kj42 (fun k_ => some k_ = (.slice Ao60 t1112.length co60 : Value).ownBlock) _ _ t1112 (fun k_ => some k_ = (.slice Ao61 t1116.length co61 : Value).ownBlock) _ _ t1116 t1120 t1123 _ ?side1 ?side2 A51.out).mono ?_); (case side1 => exact Kd.R_V (Kd.R_tight rfl (HO_17.out))); (case side2 => exact Kd.R_V (Kd.R_tight rfl (HO_18.out))); rintro e w62 ⟨v1121, rfl, ho0, hb⟩; refine ⟨_, rfl, ?_⟩; have n0_ := Aside0.mk (Kd.R_elder' (by (with_reducible repeat (first | apply Kd.R_alloc | apply Kd.R_drewN | apply Kd.R_drew)); exact HO_12.out) (Kd.R_base ho0) hb); have n1_ := Aside0.mk (Kd.R_elder' (by (with_reducible repeat (first | apply Kd.R_alloc | apply Kd.R_drewN | apply Kd.R_drew)); exact HO_16.out) (Kd.R_base ho0) hb); have n2_ := Aside0.mk (Kd.R_elder' (by (with_reducible repeat (first | apply Kd.R_alloc | apply Kd.R_drewN | apply Kd.R_drew)); exact HO_17.out) (Kd.R_base ho0) hb); have n3_ := Aside0.mk (Kd.R_elder' (by (with_reducible repeat (first | apply Kd.R_alloc | apply Kd.R_drewN | apply Kd.R_drew)); exact HO_18.out) (Kd.R_base ho0) hb); have n4_ := Aside0.mk (Kd.R_lower (Kd.R_new' (Kd.R_new' (Kd.R_new' (Kd.R_new' (Kd.R_mono (ok' := fun k_ => True) ho0 (fun _ hk_ => trivial)) (Kd.R_lt (by (with_reducible repeat (first | apply Kd.R_alloc | apply Kd.R_drewN | apply Kd.R_drew)); exact HO_12.out))) (Kd.R_lt (by (with_reducible repeat (first | apply Kd.R_alloc | apply Kd.R_drewN | apply Kd.R_drew)); exact HO_16.out))) (Kd.R_lt (by (with_reducible repeat (first | apply Kd.R_alloc | apply Kd.R_drewN | apply Kd.R_drew)); exact HO_17.out))) (Kd.R_lt (by (with_reducible repeat (first | apply Kd.R_alloc | apply Kd.R_drewN | apply Kd.R_drew)); exact HO_18.out))) (below_size (by repeat (first | (with_reducible first | exact HB.out | apply below_alloc | apply pw_below_drewN | apply below_drew1) | exact HB.out)))); have n5_ := Aside0.mk (below_step (by repeat (first | (with_reducible first | exact HB.out | apply below_alloc | apply pw_below_drewN | apply below_drew1) | exact HB.out)) hb); clear HO_12; clear HO_16; clear HO_17; clear HO_18; clear HB; have HO_12 := n0_; have HO_16 := n1_; have HO_17 := n2_; have HO_18 := n3_; have HO1122 := n4_; have HB := n5_; clear n0_ n1_ n2_ n3_ n4_ n5_; (try clear hb); (try clear hb2); (try clear hk); (try clear hi); (try clear ho0); obtain ⟨Ao63, co63, eo63⟩ := Kd.R_slice HO_12.out; subst eo63) | ((with_reducible refine gate_callee (f := 49) rfl ?_); refine goesL_ (some 144) rfl rfl Try.func49 (by kernel_rfl) rfl #[.slice Ao63 t1098.length co63, .slice A2 l2.length c2] rfl (by (try simp only [List.map_toArray, List.map_cons, List.map_nil]); first | done | rfl | (simp only [List.length_drop, List.length_take]; rfl)) ?_; (with_reducible refine (number_Mul.calls kj42 (fun k_ => some k_ = (.slice Ao63 t1098.length co63 : Value).ownBlock) _ _ t1098 (fun k_ => k_ < w.heap.size) _ _ l2 t1124 t1127 _ ?side1 ?side2 A52.out).mono ?_); (case side1 => exact Kd.R_V (Kd.R_tight rfl (HO_12.out))); (case side2 => exact Kd.V_mk HC2.out (Kd.F_below (Kd.C_F (Kd.heap_int .u32) HR2.out) (by repeat (first | (with_reducible first | exact HB.out | apply below_alloc | apply pw_below_drewN | apply below_drew1) | exact HB.out)))); rintro e w64 ⟨v1125, rfl, ho0, hb⟩; refine ⟨_, rfl, ?_⟩; have n0_ := Aside0.mk (Kd.R_elder' (by (with_reducible repeat (first | apply Kd.R_alloc | apply Kd.R_drewN | apply Kd.R_drew)); exact HO_12.out) (Kd.R_base ho0) hb); have n1_ := Aside0.mk (Kd.R_elder' (by (with_reducible repeat (first | apply Kd.R_alloc | apply Kd.R_drewN | apply Kd.R_drew)); exact HO_16.out) (Kd.R_base ho0) hb); have n2_ := Aside0.mk (Kd.R_elder' (by (with_reducible repeat (first | apply Kd.R_alloc | apply Kd.R_drewN | apply Kd.R_drew)); exact HO_17.out) (Kd.R_base ho0) hb); have n3_ := Aside0.mk (Kd.R_elder' (by (with_reducible repeat (first | apply Kd.R_alloc | apply Kd.R_drewN | apply Kd.R_drew)); exact HO_18.out) (Kd.R_base ho0) hb); have n4_ := Aside0.mk (Kd.R_elder' (by (with_reducible repeat (first | apply Kd.R_alloc | apply Kd.R_drewN | apply Kd.R_drew)); exact HO1122.out) (Kd.R_base ho0) hb); have n5_ := Aside0.mk (Kd.R_lower (Kd.R_new' (Kd.R_new' (Kd.R_new' (Kd.R_new' (Kd.R_new' (Kd.R_mono (ok' := fun k_ => True) ho0 (fun _ hk_ => trivial)) (Kd.R_lt (by (with_reducible repeat (first | apply Kd.R_alloc | apply Kd.R_drewN | apply Kd.R_drew)); exact HO_12.out))) (Kd.R_lt (by (with_reducible repeat (first | apply Kd.R_alloc | apply Kd.R_drewN | apply Kd.R_drew)); exact HO_16.out))) (Kd.R_lt (by (with_reducible repeat (first | apply Kd.R_alloc | apply Kd.R_drewN | apply Kd.R_drew)); exact HO_17.out))) (Kd.R_lt (by (with_reducible repeat (first | apply Kd.R_alloc | apply Kd.R_drewN | apply Kd.R_drew)); exact HO_18.out))) (Kd.R_lt (by (with_reducible repeat (first | apply Kd.R_alloc | apply Kd.R_drewN | apply Kd.R_drew)); exact HO1122.out))) (below_size (by repeat (first | (with_reducible first | exact HB.out | apply below_alloc | apply pw_below_drewN | apply below_drew1) | exact HB.out)))); have n6_ := Aside0.mk (below_step (by repeat (first | (with_reducible first | exact HB.out | apply below_alloc | apply pw_below_drewN | apply below_drew1) | exact HB.out)) hb); clear HO_12; clear HO_16; clear HO_17; clear HO_18; clear HO1122; clear HB; have HO_12 := n0_; have HO_16 := n1_; have HO_17 := n2_; have HO_18 := n3_; have HO1122 := n4_; have HO1126 := n5_; have HB := n6_; clear n0_ n1_ n2_ n3_ n4_ n5_ n6_; (try clear hb); (try clear hb2); (try clear hk); (try clear hi); (try clear ho0)) | ((with_reducible refine gate_callee (f := 49) rfl ?_); refine goesL_ (some 150) rfl rfl Try.func49 (by kernel_rfl) rfl #[.slice A0 l0.length c0, .slice Ao61 t1116.length co61] rfl (by (try simp only [List.map_toArray, List.map_cons, List.map_nil]); first | done | rfl | (simp only [List.length_drop, List.length_take]; rfl)) ?_; (with_reducible refine (number_Mul.calls kj42 (fun k_ => k_ < w.heap.size) _ _ l0 (fun k_ => some k_ = (.slice Ao61 t1116.length co61 : Value).ownBlock) _ _ t1116 t1128 t1131 _ ?side1 ?side2 A53.out).mono ?_); (case side1 => exact Kd.V_mk HC0.out (Kd.F_below (Kd.C_F (Kd.heap_int .u32) HR0.out) (by repeat (first | (with_reducible first | exact HB.out | apply below_alloc | apply pw_below_drewN | apply below_drew1) | exact HB.out)))); (case side2 => exact Kd.R_V (Kd.R_tight rfl (HO_18.out))); rintro e w65 ⟨v1129, rfl, ho0, hb⟩; refine ⟨_, rfl, ?_⟩; have n0_ := Aside0.mk (Kd.R_elder' (by (with_reducible repeat (first | apply Kd.R_alloc | apply Kd.R_drewN | apply Kd.R_drew)); exact HO_12.out) (Kd.R_base ho0) hb); have n1_ := Aside0.mk (Kd.R_elder' (by (with_reducible repeat (first | apply Kd.R_alloc | apply Kd.R_drewN | apply Kd.R_drew)); exact HO_16.out) (Kd.R_base ho0) hb); have n2_ := Aside0.mk (Kd.R_elder' (by (with_reducible repeat (first | apply Kd.R_alloc | apply Kd.R_drewN | apply Kd.R_drew)); exact HO_17.out) (Kd.R_base ho0) hb); have n3_ := Aside0.mk (Kd.R_elder' (by (with_reducible repeat (first | apply Kd.R_alloc | apply Kd.R_drewN | apply Kd.R_drew)); exact HO_18.out) (Kd.R_base ho0) hb); have n4_ := Aside0.mk (Kd.R_elder' (by (with_reducible repeat (first | apply Kd.R_alloc | apply Kd.R_drewN | apply Kd.R_drew)); exact HO1122.out) (Kd.R_base ho0) hb); have n5_ := Aside0.mk (Kd.R_elder' (by (with_reducible repeat (first | apply Kd.R_alloc | apply Kd.R_drewN | apply Kd.R_drew)); exact HO1126.out) (Kd.R_base ho0) hb); have n6_ := Aside0.mk (Kd.R_lower (Kd.R_new' (Kd.R_new' (Kd.R_new' (Kd.R_new' (Kd.R_new' (Kd.R_new' (Kd.R_mono (ok' := fun k_ => True) ho0 (fun _ hk_ => trivial)) (Kd.R_lt (by (with_reducible repeat (first | apply Kd.R_alloc | apply Kd.R_drewN | apply Kd.R_drew)); exact HO_12.out))) (Kd.R_lt (by (with_reducible repeat (first | apply Kd.R_alloc | apply Kd.R_drewN | apply Kd.R_drew)); exact HO_16.out))) (Kd.R_lt (by (with_reducible repeat (first | apply Kd.R_alloc | apply Kd.R_drewN | apply Kd.R_drew)); exact HO_17.out))) (Kd.R_lt (by (with_reducible repeat (first | apply Kd.R_alloc | apply Kd.R_drewN | apply Kd.R_drew)); exact HO_18.out))) (Kd.R_lt (by (with_reducible repeat (first | apply Kd.R_alloc | apply Kd.R_drewN | apply Kd.R_drew)); exact HO1122.out))) (Kd.R_lt (by (with_reducible repeat (first | apply Kd.R_alloc | apply Kd.R_drewN | apply Kd.R_drew)); exact HO1126.out))) (below_size (by repeat (first | (with_reducible first | exact HB.out | apply below_alloc | apply pw_below_drewN | apply below_drew1) | exact HB.out)))); have n7_ := Aside0.mk (below_step (by repeat (first | (with_reducible first | exact HB.out | apply below_alloc | apply pw_below_drewN | apply below_drew1) | exact HB.out)) hb); clear HO_12; clear HO_16; clear HO_17; clear HO_18; clear HO1122; clear HO1126; clear HB; have HO_12 := n0_; have HO_16 := n1_; have HO_17 := n2_; have HO_18 := n3_; have HO1122 := n4_; have HO1126 := n5_; have HO1130 := n6_; have HB := n7_; clear n0_ n1_ n2_ n3_ n4_ n5_ n6_ n7_; (try clear hb); (try clear hb2); (try clear hk); (try clear hi); (try clear ho0); obtain ⟨Ao66, co66, eo66⟩ := Kd.R_slice HO_16.out; subst eo66; obtain ⟨Ao67, co67, eo67⟩ := Kd.R_slice HO1122.out; subst eo67) | (go_at_call 31; (with_reducible refine (headendref01_Same.calls kj42 _ _ t1108 _ _ t1120 true _ ?side1 ?side2 ?side3 ?side4 A56.out).mono ?_); (case side1 => repeat (first | exact (Kd.R_reads' HO_16.out).2.2 | (with_reducible refine Kd.C_alloc ?_ _) | (with_reducible refine Kd.C_drewN ?_ _) | (with_reducible refine Kd.C_drew ?_))); (case side2 => exact (Kd.R_reads' HO_16.out).2.1); (case side3 => repeat (first | exact (Kd.R_reads' HO1122.out).2.2 | (with_reducible refine Kd.C_alloc ?_ _) | (with_reducible refine Kd.C_drewN ?_ _) | (with_reducible refine Kd.C_drew ?_))); (case side4 => exact (Kd.R_reads' HO1122.out).2.1); rintro e w' ⟨rfl, ⟨nd, rfl⟩⟩; obtain ⟨Ao68, co68, eo68⟩ := Kd.R_slice HO1126.out; subst eo68; obtain ⟨Ao69, co69, eo69⟩ := Kd.R_slice HO1130.out; subst eo69) | (go_at_call 31; (with_reducible refine (headendref01_Same.calls kj42 _ _ t1124 _ _ t1128 t1133 _ ?side1 ?side2 ?side3 ?side4 A59.out).mono ?_); (case side1 => repeat (first | exact (Kd.R_reads' HO1126.out).2.2 | (with_reducible refine Kd.C_alloc ?_ _) | (with_reducible refine Kd.C_drewN ?_ _) | (with_reducible refine Kd.C_drew ?_))); (case side2 => exact (Kd.R_reads' HO1126.out).2.1); (case side3 => repeat (first | exact (Kd.R_reads' HO1130.out).2.2 | (with_reducible refine Kd.C_alloc ?_ _) | (with_reducible refine Kd.C_drewN ?_ _) | (with_reducible refine Kd.C_drew ?_))); (case side4 => exact (Kd.R_reads' HO1130.out).2.1); rintro e w' ⟨rfl, ⟨nd, rfl⟩⟩))
                                  go_ret
                                  exact ⟨by first | rfl | (simp [errW_none, errW_some] <;> rfl) | (simp [*, errW_none, errW_some] <;> rfl), by repeat (first | (with_reducible first | exact HB.out | apply below_alloc | apply pw_below_drewN | apply below_drew1) | exact HB.out)⟩
                                · rw [if_neg c58] at H
                                  have c58b0 : (t1127 == t1131) = false := beq_eq_false_iff_ne.mpr c58
                                  have c58b1 : (t1127 != t1131) = true := bne_iff_ne.mpr c58
                                  obtain rfl := Option.some.inj H
                                  exact absurd HRR.out Bool.false_ne_true
                              · replace c57 := Bool.eq_false_iff.mpr c57
                                subst c57
                                have H1 : (some false) = some r := by rw [if_neg (show ¬ (false = true) by decide)] at H; exact H
                                clear H
                                have H := H1
                                clear H1
                                obtain rfl := Option.some.inj H
                                exact absurd HRR.out Bool.false_ne_true
                            · rw [if_neg c55] at H
                              have c55b0 : (t1123 == 0) = false := beq_eq_false_iff_ne.mpr c55
                              have c55b1 : (t1123 != 0) = true := bne_iff_ne.mpr c55
                              obtain rfl := Option.some.inj H
                              exact absurd HRR.out Bool.false_ne_true
                          · replace c54 := Bool.eq_false_iff.mpr c54
                            subst c54
                            have H1 : (some false) = some r := by rw [if_neg (show ¬ (false = true) by decide)] at H; exact H
                            clear H
                            have H := H1
                            clear H1
                            obtain rfl := Option.some.inj H
                            exact absurd HRR.out Bool.false_ne_true
/-- THE ONE PURE STATEMENT of headendlaw01_NumberRing: yours. -/
def headendlaw01_NumberRing.Pure : Prop := ∀ (l0 : List Int) (l1 : List Int) (l2 : List Int), l0.length ≤ maxLen → l0.length * 4 ≤ 140737488351232 → (∀ x ∈ l0, (Lit.int .u32 x).wf = true) → l1.length ≤ maxLen → l1.length * 4 ≤ 140737488351232 → (∀ x ∈ l1, (Lit.int .u32 x).wf = true) → l2.length ≤ maxLen → l2.length * 4 ≤ 140737488351232 → (∀ x ∈ l2, (Lit.int .u32 x).wf = true) → ∃ k, headendlaw01_NumberRing.f k l0 l1 l2 = some true
theorem headendlaw01_NumberRing.walk (P : headendlaw01_NumberRing.Pure) (a0 : Option Addr) (len0 cap0 : Nat) (z0 : List Int) (a1 : Option Addr) (len1 cap1 : Nat) (z1 : List Int) (a2 : Option Addr) (len2 cap2 : Nat) (z2 : List Int) (w : World) (w0 : (a0 = none ∧ len0 = 0 ∧ cap0 = 0 ∧ z0 = []) ∨ ∃ x, a0 = some x ∧ len0 ≤ cap0 ∧ cap0 ≤ maxLen ∧ z0.length = cap0 ∧ (∀ i, i < z0.length → w.cell? (x.add i) = some (.int .u32 (z0.getD i 0))) ∧ ∀ n ∈ z0, (Lit.int .u32 n).wf = true) (y0 : len0 * 4 ≤ 140737488351232) (w1 : (a1 = none ∧ len1 = 0 ∧ cap1 = 0 ∧ z1 = []) ∨ ∃ x, a1 = some x ∧ len1 ≤ cap1 ∧ cap1 ≤ maxLen ∧ z1.length = cap1 ∧ (∀ i, i < z1.length → w.cell? (x.add i) = some (.int .u32 (z1.getD i 0))) ∧ ∀ n ∈ z1, (Lit.int .u32 n).wf = true) (y1 : len1 * 4 ≤ 140737488351232) (w2 : (a2 = none ∧ len2 = 0 ∧ cap2 = 0 ∧ z2 = []) ∨ ∃ x, a2 = some x ∧ len2 ≤ cap2 ∧ cap2 ≤ maxLen ∧ z2.length = cap2 ∧ (∀ i, i < z2.length → w.cell? (x.add i) = some (.int .u32 (z2.getD i 0))) ∧ ∀ n ∈ z2, (Lit.int .u32 n).wf = true) (y2 : len2 * 4 ≤ 140737488351232) :
    Calls Try.prog 10 #[.slice a0 len0 cap0, .slice a1 len1 cap1, .slice a2 len2 cap2] w fun e w' => e = .returned (.bool true) ∧ Below w.heap.size w w' := by
  obtain ⟨l0, rfl, hr0, hm0, hw0, hc0⟩ := ReadsInt.ofRowC w0
  obtain ⟨l1, rfl, hr1, hm1, hw1, hc1⟩ := ReadsInt.ofRowC w1
  obtain ⟨l2, rfl, hr2, hm2, hw2, hc2⟩ := ReadsInt.ofRowC w2
  obtain ⟨k, h⟩ := P l0 l1 l2 hm0 y0 hw0 hm1 y1 hw1 hm2 y2 hw2
  refine (headendlaw01_NumberRing.calls k _ _ l0 _ _ l1 _ _ l2 true w (Kd.C_of_reads (d := (0 : Int)) (h1 := fun _ => rfl) hr0) hc0 (Kd.C_of_reads (d := (0 : Int)) (h1 := fun _ => rfl) hr1) hc1 (Kd.C_of_reads (d := (0 : Int)) (h1 := fun _ => rfl) hr2) hc2 h rfl).mono ?_
  rintro e w' ⟨rfl, hd⟩
  exact ⟨rfl, hd⟩
end Go.Proofs.Ythhgfogdeaaidaa.R

