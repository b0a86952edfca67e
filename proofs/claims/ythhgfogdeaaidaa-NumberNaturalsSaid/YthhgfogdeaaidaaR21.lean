-- Written by a program of this session (wip/printmore.py over the kit's print.py): callers of hand-proved contracts. Lean checks it.
import Derived.Test.YthhgfogdeaaidaaR0
import Derived.Test.YthhgfogdeaaidaaR13
import Derived.Test.YthhgfogdeaaidaaR16
import Derived.Test.YthhgfogdeaaidaaR17
import Derived.Test.YthhgfogdeaaidaaR19
import Derived.Test.YthhgfogdeaaidaaR20
namespace Go.Proofs.Ythhgfogdeaaidaa.R
open Go.RowKit Go.Proofs.YthhgfogdeaaidaaW.PrintWords Go.Proofs.YthhgfogdeaaidaaW.PrintLast Go.Proofs.YthhgfogdeaaidaaW.PrintMore
attribute [local go_sem] max2_int min2_int max_two min_two max_three min_three max_four min_four   -- for this text's walks alone
set_option linter.unusedVariables false
set_option linter.unusedSimpArgs false
/-! ### headendlaw01_NumberNaturals: function 8 -/
mutual
def headendlaw01_NumberNaturals.j0 : Nat → List Int → List Int → List Int → List Int → Bool → Option (Bool)
  | 0, _, _, _, _, _ => none
  | k + 1, x0, x1, x5, x6, x45 => if x45 = true then (some false) else ((number_Add.f k x5 x6).bind fun bt927 => ((headendref01_Add.f k x0 x1).bind fun bt931 => ((headendref01_Same.f k bt927.1 bt931.1).bind fun t935 => (if t935 = true then (headendlaw01_NumberNaturals.j1 k x0 x1 x5 x6 bt927.1 (bt927.2 != bt931.2)) else (headendlaw01_NumberNaturals.j1 k x0 x1 x5 x6 bt927.1 true)))))
def headendlaw01_NumberNaturals.j1 : Nat → List Int → List Int → List Int → List Int → List Int → Bool → Option (Bool)
  | 0, _, _, _, _, _, _ => none
  | k + 1, x0, x1, x5, x6, x11, x66 => if x66 = true then (some false) else ((headendlaw01_spoil.f k x11).bind fun t936 => ((number_Sub.f k x5 x6).bind fun bt937 => ((headendref01_Sub.f k x0 x1).bind fun bt941 => ((headendref01_Same.f k bt937.1 bt941.1).bind fun t945 => (if t945 = true then (headendlaw01_NumberNaturals.j2 k x0 x1 x5 x6 bt937.1 (bt937.2 != bt941.2)) else (headendlaw01_NumberNaturals.j2 k x0 x1 x5 x6 bt937.1 true))))))
def headendlaw01_NumberNaturals.j2 : Nat → List Int → List Int → List Int → List Int → List Int → Bool → Option (Bool)
  | 0, _, _, _, _, _, _ => none
  | k + 1, x0, x1, x5, x6, x11, x89 => if x89 = true then (some false) else ((headendlaw01_spoil.f k x11).bind fun t946 => ((number_Mul.f k x5 x6).bind fun bt947 => ((headendref01_Mul.f k x0 x1).bind fun bt951 => ((headendref01_Same.f k bt947.1 bt951.1).bind fun t955 => (if t955 = true then (headendlaw01_NumberNaturals.j3 k x0 x1 x5 x6 bt947.1 (bt947.2 != bt951.2)) else (headendlaw01_NumberNaturals.j3 k x0 x1 x5 x6 bt947.1 true))))))
def headendlaw01_NumberNaturals.j3 : Nat → List Int → List Int → List Int → List Int → List Int → Bool → Option (Bool)
  | 0, _, _, _, _, _, _ => none
  | k + 1, x0, x1, x5, x6, x11, x112 => if x112 = true then (some false) else ((headendlaw01_spoil.f k x11).bind fun t956 => ((number_Div.f x5 x6).bind fun bt957 => ((headendref01_Div.f k x0 x1).bind fun bt964 => ((headendref01_Same.f k bt957.1 bt964.1).bind fun t971 => (if t971 = true then ((headendref01_Same.f k bt957.2.1 bt964.2.1).bind fun t972 => (if t972 = true then (headendlaw01_NumberNaturals.j4 k x0 x1 x5 x6 bt957.1 bt957.2.1 (bt957.2.2 != bt964.2.2)) else (headendlaw01_NumberNaturals.j4 k x0 x1 x5 x6 bt957.1 bt957.2.1 true))) else (headendlaw01_NumberNaturals.j4 k x0 x1 x5 x6 bt957.1 bt957.2.1 true))))))
def headendlaw01_NumberNaturals.j4 : Nat → List Int → List Int → List Int → List Int → List Int → List Int → Bool → Option (Bool)
  | 0, _, _, _, _, _, _, _ => none
  | k + 1, x0, x1, x5, x6, x11, x13, x143 => if x143 = true then (some false) else ((headendlaw01_spoil.f k x11).bind fun t973 => ((headendlaw01_spoil.f k x13).bind fun t974 => ((number_Gcd.f k x5 x6).bind fun bt975 => ((headendref01_Gcd.f k x0 x1).bind fun bt979 => ((headendref01_Same.f k bt975.1 bt979.1).bind fun t983 => (if t983 = true then (headendlaw01_NumberNaturals.j5 k x0 x1 x5 x6 bt975.1 (bt975.2 != bt979.2)) else (headendlaw01_NumberNaturals.j5 k x0 x1 x5 x6 bt975.1 true)))))))
def headendlaw01_NumberNaturals.j5 : Nat → List Int → List Int → List Int → List Int → List Int → Bool → Option (Bool)
  | 0, _, _, _, _, _, _ => none
  | k + 1, x0, x1, x5, x6, x11, x168 => if x168 = true then (some false) else ((headendlaw01_spoil.f k x11).bind fun t984 => ((headendref01_Same.f k x5 x0).bind fun t985 => (if t985 = true then ((headendref01_Same.f k x6 x1).bind fun t986 => (some t986)) else (some false))))
end
def headendlaw01_NumberNaturals.f (k : Nat) (l0 : List Int) (l1 : List Int) : Option (Bool) := (headendlaw01_twin.f l0).bind fun t915 => ((headendlaw01_twin.f l1).bind fun t918 => ((number_Compare.f t915 t918).bind fun bt921 => ((headendref01_Compare.f k l0 l1).bind fun bt923 => (if bt921.1 = bt923.1 then (if bt921.2 = bt923.2 then ((number_Check.f t915).bind fun t925 => ((headendref01_Check.f l0).bind fun t926 => (headendlaw01_NumberNaturals.j0 k l0 l1 t915 t918 (t925 != t926)))) else (headendlaw01_NumberNaturals.j0 k l0 l1 t915 t918 true)) else (headendlaw01_NumberNaturals.j0 k l0 l1 t915 t918 true)))))
set_option maxHeartbeats 8000000 in
set_option maxRecDepth 100000 in
theorem headendlaw01_NumberNaturals.calls (k : Nat) (A0 : Option Addr) (c0 : Nat) (l0 : List Int) (A1 : Option Addr) (c1 : Nat) (l1 : List Int) (r : Bool) (w : World) (hr0 : Kd.C (Kd.int .u32) w A0 l0.length l0) (hc0 : l0.length ≤ c0) (hr1 : Kd.C (Kd.int .u32) w A1 l1.length l1) (hc1 : l1.length ≤ c1) (h : headendlaw01_NumberNaturals.f k l0 l1 = some r) (hr : r = true) :
    Calls Try.prog 8 #[.slice A0 l0.length c0, .slice A1 l1.length c1] w fun e w' => e = .returned (.bool r) ∧ Below w.heap.size w w' := by
  have HR0 := Aside0.mk hr0
  have HC0 := Aside0.mk hc0
  clear hr0 hc0
  have HR1 := Aside0.mk hr1
  have HC1 := Aside0.mk hc1
  clear hr1 hc1
  have HB := Aside0.mk (Below.refl w.heap.size w)
  have H : ((headendlaw01_twin.f l0).bind fun t915 => ((headendlaw01_twin.f l1).bind fun t918 => ((number_Compare.f t915 t918).bind fun bt921 => ((headendref01_Compare.f k l0 l1).bind fun bt923 => (if bt921.1 = bt923.1 then (if bt921.2 = bt923.2 then ((number_Check.f t915).bind fun t925 => ((headendref01_Check.f l0).bind fun t926 => (headendlaw01_NumberNaturals.j0 k l0 l1 t915 t918 (t925 != t926)))) else (headendlaw01_NumberNaturals.j0 k l0 l1 t915 t918 true)) else (headendlaw01_NumberNaturals.j0 k l0 l1 t915 t918 true)))))) = some r := h
  clear h
  have HRR := Aside0.mk hr
  clear hr
  replace H := Option.bind_eq_some_iff.mp H
  obtain ⟨t915, A30, H⟩ := H
  replace H : ((headendlaw01_twin.f l1).bind fun t918 => ((number_Compare.f t915 t918).bind fun bt921 => ((headendref01_Compare.f k l0 l1).bind fun bt923 => (if bt921.1 = bt923.1 then (if bt921.2 = bt923.2 then ((number_Check.f t915).bind fun t925 => ((headendref01_Check.f l0).bind fun t926 => (headendlaw01_NumberNaturals.j0 k l0 l1 t915 t918 (t925 != t926)))) else (headendlaw01_NumberNaturals.j0 k l0 l1 t915 t918 true)) else (headendlaw01_NumberNaturals.j0 k l0 l1 t915 t918 true))))) = some r := H
  have A3 := Aside0.mk A30
  clear A30
  replace H := Option.bind_eq_some_iff.mp H
  obtain ⟨t918, A40, H⟩ := H
  replace H : ((number_Compare.f t915 t918).bind fun bt921 => ((headendref01_Compare.f k l0 l1).bind fun bt923 => (if bt921.1 = bt923.1 then (if bt921.2 = bt923.2 then ((number_Check.f t915).bind fun t925 => ((headendref01_Check.f l0).bind fun t926 => (headendlaw01_NumberNaturals.j0 k l0 l1 t915 t918 (t925 != t926)))) else (headendlaw01_NumberNaturals.j0 k l0 l1 t915 t918 true)) else (headendlaw01_NumberNaturals.j0 k l0 l1 t915 t918 true)))) = some r := H
  have A4 := Aside0.mk A40
  clear A40
  replace H := Option.bind_eq_some_iff.mp H
  obtain ⟨⟨t921, t922⟩, A50, H⟩ := H
  replace H : ((headendref01_Compare.f k l0 l1).bind fun bt923 => (if t921 = bt923.1 then (if t922 = bt923.2 then ((number_Check.f t915).bind fun t925 => ((headendref01_Check.f l0).bind fun t926 => (headendlaw01_NumberNaturals.j0 k l0 l1 t915 t918 (t925 != t926)))) else (headendlaw01_NumberNaturals.j0 k l0 l1 t915 t918 true)) else (headendlaw01_NumberNaturals.j0 k l0 l1 t915 t918 true))) = some r := H
  have A5 := Aside0.mk A50
  clear A50
  replace H := Option.bind_eq_some_iff.mp H
  obtain ⟨⟨t923, t924⟩, A60, H⟩ := H
  replace H : (if t921 = t923 then (if t922 = t924 then ((number_Check.f t915).bind fun t925 => ((headendref01_Check.f l0).bind fun t926 => (headendlaw01_NumberNaturals.j0 k l0 l1 t915 t918 (t925 != t926)))) else (headendlaw01_NumberNaturals.j0 k l0 l1 t915 t918 true)) else (headendlaw01_NumberNaturals.j0 k l0 l1 t915 t918 true)) = some r := H
  have A6 := Aside0.mk A60
  clear A60
  have HC7 := Aside0.mk H
  clear H
  go_enter Try.func8, Try.ntmps8
  go_upto_region 4 with (first | ((with_reducible refine gate_callee (f := 34) rfl ?_); refine goesL_ (some 16) rfl rfl Try.func34 (by kernel_rfl) rfl #[.slice A0 l0.length c0] rfl (by (try simp only [List.map_toArray, List.map_cons, List.map_nil]); first | done | rfl | (simp only [List.length_drop, List.length_take]; rfl)) ?_; (with_reducible refine (headendlaw01_twin.calls _ _ l0 t915 _ ?side1 ?side2 A3.out).mono ?_); (case side1 => repeat (first | exact HR0.out | (with_reducible refine Kd.C_alloc ?_ _) | (with_reducible refine Kd.C_drewN ?_ _) | (with_reducible refine Kd.C_drew ?_))); (case side2 => exact HC0.out); rintro e w8 ⟨v916, rfl, ho0, hb⟩; refine ⟨_, rfl, ?_⟩; have n0_ := Aside0.mk (Kd.R_lower ho0 (below_size (by repeat (first | (with_reducible first | exact HB.out | apply below_alloc | apply pw_below_drewN | apply below_drew1) | exact HB.out)))); have n1_ := Aside0.mk (below_step (by repeat (first | (with_reducible first | exact HB.out | apply below_alloc | apply pw_below_drewN | apply below_drew1) | exact HB.out)) hb); clear HB; have HO917 := n0_; have HB := n1_; clear n0_ n1_; (try clear hb); (try clear hb2); (try clear hk); (try clear hi); (try clear ho0)) | ((with_reducible refine gate_callee (f := 34) rfl ?_); refine goesL_ (some 18) rfl rfl Try.func34 (by kernel_rfl) rfl #[.slice A1 l1.length c1] rfl (by (try simp only [List.map_toArray, List.map_cons, List.map_nil]); first | done | rfl | (simp only [List.length_drop, List.length_take]; rfl)) ?_; (with_reducible refine (headendlaw01_twin.calls _ _ l1 t918 _ ?side1 ?side2 A4.out).mono ?_); (case side1 => repeat (first | exact (Kd.C_below HR1.out HB.out) | (with_reducible refine Kd.C_alloc ?_ _) | (with_reducible refine Kd.C_drewN ?_ _) | (with_reducible refine Kd.C_drew ?_))); (case side2 => exact HC1.out); rintro e w9 ⟨v919, rfl, ho0, hb⟩; refine ⟨_, rfl, ?_⟩; have n0_ := Aside0.mk (Kd.R_elder' (by (with_reducible repeat (first | apply Kd.R_alloc | apply Kd.R_drewN | apply Kd.R_drew)); exact HO917.out) (Kd.R_base ho0) hb); have n1_ := Aside0.mk (Kd.R_lower (Kd.R_new' ho0 (Kd.R_lt (by (with_reducible repeat (first | apply Kd.R_alloc | apply Kd.R_drewN | apply Kd.R_drew)); exact HO917.out))) (below_size (by repeat (first | (with_reducible first | exact HB.out | apply below_alloc | apply pw_below_drewN | apply below_drew1) | exact HB.out)))); have n2_ := Aside0.mk (below_step (by repeat (first | (with_reducible first | exact HB.out | apply below_alloc | apply pw_below_drewN | apply below_drew1) | exact HB.out)) hb); clear HO917; clear HB; have HO917 := n0_; have HO920 := n1_; have HB := n2_; clear n0_ n1_ n2_; (try clear hb); (try clear hb2); (try clear hk); (try clear hi); (try clear ho0); obtain ⟨Ao10, co10, eo10⟩ := Kd.R_slice HO917.out; subst eo10; obtain ⟨Ao11, co11, eo11⟩ := Kd.R_slice HO920.out; subst eo11) | ((with_reducible refine gate_callee (f := 51) rfl ?_); refine goesL_ (some 22) rfl rfl Try.func51 (by kernel_rfl) rfl #[.slice Ao10 t915.length co10, .slice Ao11 t918.length co11] rfl (by (try simp only [List.map_toArray, List.map_cons, List.map_nil]); first | done | rfl | (simp only [List.length_drop, List.length_take]; rfl)) ?_; (with_reducible refine (number_Compare.calls (fun k_ => some k_ = (.slice Ao10 t915.length co10 : Value).ownBlock) _ _ t915 (fun k_ => some k_ = (.slice Ao11 t918.length co11 : Value).ownBlock) _ _ t918 t921 t922 _ ?side1 ?side2 A5.out).mono ?_); (case side1 => exact Kd.R_V (Kd.R_tight rfl (HO917.out))); (case side2 => exact Kd.R_V (Kd.R_tight rfl (HO920.out))); rintro e w12 ⟨rfl, hb⟩; refine ⟨_, rfl, ?_⟩; have n0_ := Aside0.mk (Kd.R_below (by (with_reducible repeat (first | apply Kd.R_alloc | apply Kd.R_drewN | apply Kd.R_drew)); exact HO917.out) hb); have n1_ := Aside0.mk (Kd.R_below (by (with_reducible repeat (first | apply Kd.R_alloc | apply Kd.R_drewN | apply Kd.R_drew)); exact HO920.out) hb); have n2_ := Aside0.mk (below_step (by repeat (first | (with_reducible first | exact HB.out | apply below_alloc | apply pw_below_drewN | apply below_drew1) | exact HB.out)) hb); clear HO917; clear HO920; clear HB; have HO917 := n0_; have HO920 := n1_; have HB := n2_; clear n0_ n1_ n2_; (try clear hb); (try clear hb2); (try clear hk); (try clear hi)) | ((with_reducible refine gate_callee (f := 52) rfl ?_); refine goesL_ (some 28) rfl rfl Try.func52 (by kernel_rfl) rfl #[.slice A0 l0.length c0, .slice A1 l1.length c1] rfl (by (try simp only [List.map_toArray, List.map_cons, List.map_nil]); first | done | rfl | (simp only [List.length_drop, List.length_take]; rfl)) ?_; (with_reducible refine (headendref01_Compare.calls k _ _ l0 _ _ l1 t923 t924 _ ?side1 ?side2 ?side3 ?side4 A6.out).mono ?_); (case side1 => repeat (first | exact (Kd.C_below HR0.out HB.out) | (with_reducible refine Kd.C_alloc ?_ _) | (with_reducible refine Kd.C_drewN ?_ _) | (with_reducible refine Kd.C_drew ?_))); (case side2 => exact HC0.out); (case side3 => repeat (first | exact (Kd.C_below HR1.out HB.out) | (with_reducible refine Kd.C_alloc ?_ _) | (with_reducible refine Kd.C_drewN ?_ _) | (with_reducible refine Kd.C_drew ?_))); (case side4 => exact HC1.out); rintro e w13 ⟨rfl, hb⟩; refine ⟨_, rfl, ?_⟩; have n0_ := Aside0.mk (Kd.R_below (by (with_reducible repeat (first | apply Kd.R_alloc | apply Kd.R_drewN | apply Kd.R_drew)); exact HO917.out) hb); have n1_ := Aside0.mk (Kd.R_below (by (with_reducible repeat (first | apply Kd.R_alloc | apply Kd.R_drewN | apply Kd.R_drew)); exact HO920.out) hb); have n2_ := Aside0.mk (below_step (by repeat (first | (with_reducible first | exact HB.out | apply below_alloc | apply pw_below_drewN | apply below_drew1) | exact HB.out)) hb); clear HO917; clear HO920; clear HB; have HO917 := n0_; have HO920 := n1_; have HB := n2_; clear n0_ n1_ n2_; (try clear hb); (try clear hb2); (try clear hk); (try clear hi)))
  (try simp only [Act.put, List.setIfInBounds_toArray, List.set_cons_zero, List.set_cons_succ])
  go_cut [45] (fun v45 wc => ∃ (kq : Nat) (x45_6 : Bool), v45 = .bool x45_6 ∧ Aside0 (headendlaw01_NumberNaturals.j0 kq l0 l1 t915 t918 x45_6 = some r) ∧ Aside0 (kq ≤ k) ∧ Aside0 (Kd.R (Kd.int .u32) 84 wc w.heap.size (fun k_ => some k_ ≠ ((.slice Ao11 t918.length co11) : Value).ownBlock) (.slice Ao10 t915.length co10) t915) ∧ Aside0 (Kd.R (Kd.int .u32) 84 wc w.heap.size (fun k_ => some k_ ≠ ((.slice Ao10 t915.length co10) : Value).ownBlock) (.slice Ao11 t918.length co11) t918) ∧ Aside0 (Below w.heap.size w wc))
  case first =>
    have H := HC7.out
    clear HC7
    by_cases c14 : t921 = t923
    · rw [if_pos c14] at H
      have c14b0 : (t921 == t923) = true := beq_iff_eq.mpr c14
      have c14b1 : (t921 != t923) = false := bne_eq_false_iff_eq.mpr c14
      clear c14
      (first | rw [c14b0] | (simp only [i64_w, i32_w, u8_w, u32_w, u64_of_u8, u64_of_u32]; rw [c14b0]) | skip)
      by_cases c15 : t922 = t924
      · rw [if_pos c15] at H
        have c15b0 : (t922 == t924) = true := beq_iff_eq.mpr c15
        have c15b1 : (t922 != t924) = false := bne_eq_false_iff_eq.mpr c15
        clear c15
        replace H := Option.bind_eq_some_iff.mp H
        obtain ⟨t925, A160, H⟩ := H
        replace H : ((headendref01_Check.f l0).bind fun t926 => (headendlaw01_NumberNaturals.j0 k l0 l1 t915 t918 (t925 != t926))) = some r := H
        have A16 := Aside0.mk A160
        clear A160
        replace H := Option.bind_eq_some_iff.mp H
        obtain ⟨t926, A170, H⟩ := H
        replace H : (headendlaw01_NumberNaturals.j0 k l0 l1 t915 t918 (t925 != t926)) = some r := H
        have A17 := Aside0.mk A170
        clear A170
        have H' := Aside0.mk H
        clear H
        go_wp2_with (first | (go_at_call 53; (with_reducible refine (number_Check.calls (fun k_ => some k_ = (.slice Ao10 t915.length co10 : Value).ownBlock) _ _ t915 t925 _ ?side1 A16.out).mono ?_); (case side1 => exact Kd.R_V (Kd.R_tight rfl (HO917.out))); rintro e w18 ⟨rfl, hb⟩; have n0_ := Aside0.mk (Kd.R_below (by (with_reducible repeat (first | apply Kd.R_alloc | apply Kd.R_drewN | apply Kd.R_drew)); exact HO917.out) hb); have n1_ := Aside0.mk (Kd.R_below (by (with_reducible repeat (first | apply Kd.R_alloc | apply Kd.R_drewN | apply Kd.R_drew)); exact HO920.out) hb); have n2_ := Aside0.mk (below_step (by repeat (first | (with_reducible first | exact HB.out | apply below_alloc | apply pw_below_drewN | apply below_drew1) | exact HB.out)) hb); clear HO917; clear HO920; clear HB; have HO917 := n0_; have HO920 := n1_; have HB := n2_; clear n0_ n1_ n2_; (try clear hb); (try clear hb2); (try clear hk); (try clear hi)) | (go_at_call 54; (with_reducible refine (headendref01_Check.calls _ _ l0 t926 _ ?side1 ?side2 A17.out).mono ?_); (case side1 => repeat (first | exact (Kd.C_below HR0.out HB.out) | (with_reducible refine Kd.C_alloc ?_ _) | (with_reducible refine Kd.C_drewN ?_ _) | (with_reducible refine Kd.C_drew ?_))); (case side2 => exact HC0.out); rintro e w' ⟨rfl, ⟨nd, rfl⟩⟩))
        go_meet
        case rel => exact ⟨_, ((t925 != t926)), (by first | rfl | (simp; done) | (simp [*]; done)), H', ⟨by first | omega | exact Nat.le_refl _⟩, ⟨by (with_reducible repeat (first | apply Kd.R_alloc | apply Kd.R_drewN | apply Kd.R_drew)); exact Kd.R_mono HO917.out (fun _ hk => hk.2)⟩, ⟨by (with_reducible repeat (first | apply Kd.R_alloc | apply Kd.R_drewN | apply Kd.R_drew)); exact Kd.R_mono HO920.out (fun _ hk => hk.2)⟩, ⟨by repeat (first | (with_reducible first | exact HB.out | apply below_alloc | apply pw_below_drewN | apply below_drew1) | exact HB.out)⟩⟩
      · rw [if_neg c15] at H
        have c15b0 : (t922 == t924) = false := beq_eq_false_iff_ne.mpr c15
        have c15b1 : (t922 != t924) = true := bne_iff_ne.mpr c15
        cases k with
        | zero => exact absurd H (by simp [headendlaw01_NumberNaturals.j0])
        | succ kd_ => (simp only [headendlaw01_NumberNaturals.j0] at H; (try rw [if_pos rfl] at H); obtain rfl := Option.some.inj H; exact absurd HRR.out Bool.false_ne_true)
    · rw [if_neg c14] at H
      have c14b0 : (t921 == t923) = false := beq_eq_false_iff_ne.mpr c14
      have c14b1 : (t921 != t923) = true := bne_iff_ne.mpr c14
      (first | rw [c14b0] | (simp only [i64_w, i32_w, u8_w, u32_w, u64_of_u8, u64_of_u32]; rw [c14b0]) | skip)
      cases k with
      | zero => exact absurd H (by simp [headendlaw01_NumberNaturals.j0])
      | succ kd_ => (simp only [headendlaw01_NumberNaturals.j0] at H; (try rw [if_pos rfl] at H); obtain rfl := Option.some.inj H; exact absurd HRR.out Bool.false_ne_true)
  case rest =>
    clear HC7
    try clear c1
    try clear p2
    try clear c3
    try clear c5
    try clear c8
    try clear c14
    try clear c14b0
    try clear c14b1
    try clear c15
    try clear c15b0
    try clear c15b1
    obtain ⟨kq, x45_6, rfl, HA, HJ6, HO_5, HO_6, HB⟩ := hcut
    cases kq with
    | zero => exact absurd HA.out (by simp [headendlaw01_NumberNaturals.j0])
    | succ kj6 =>
      have H := HA.out
      clear HA
      simp only [headendlaw01_NumberNaturals.j0] at H
      by_cases c19 : x45_6 = true
      · subst c19
        have H1 : (some false) = some r := by rw [if_pos rfl] at H; exact H
        clear H
        have H := H1
        clear H1
        obtain rfl := Option.some.inj H
        exact absurd HRR.out Bool.false_ne_true
      · replace c19 := Bool.eq_false_iff.mpr c19
        subst c19
        have H1 : ((number_Add.f kj6 t915 t918).bind fun bt927 => ((headendref01_Add.f kj6 l0 l1).bind fun bt931 => ((headendref01_Same.f kj6 bt927.1 bt931.1).bind fun t935 => (if t935 = true then (headendlaw01_NumberNaturals.j1 kj6 l0 l1 t915 t918 bt927.1 (bt927.2 != bt931.2)) else (headendlaw01_NumberNaturals.j1 kj6 l0 l1 t915 t918 bt927.1 true))))) = some r := by rw [if_neg (show ¬ (false = true) by decide)] at H; exact H
        clear H
        have H := H1
        clear H1
        replace H := Option.bind_eq_some_iff.mp H
        obtain ⟨⟨t927, t930⟩, A200, H⟩ := H
        replace H : ((headendref01_Add.f kj6 l0 l1).bind fun bt931 => ((headendref01_Same.f kj6 t927 bt931.1).bind fun t935 => (if t935 = true then (headendlaw01_NumberNaturals.j1 kj6 l0 l1 t915 t918 t927 (t930 != bt931.2)) else (headendlaw01_NumberNaturals.j1 kj6 l0 l1 t915 t918 t927 true)))) = some r := H
        have A20 := Aside0.mk A200
        clear A200
        replace H := Option.bind_eq_some_iff.mp H
        obtain ⟨⟨t931, t932⟩, A210, H⟩ := H
        replace H : ((headendref01_Same.f kj6 t927 t931).bind fun t935 => (if t935 = true then (headendlaw01_NumberNaturals.j1 kj6 l0 l1 t915 t918 t927 (t930 != t932)) else (headendlaw01_NumberNaturals.j1 kj6 l0 l1 t915 t918 t927 true))) = some r := H
        have A21 := Aside0.mk A210
        clear A210
        have HC22 := Aside0.mk H
        clear H
        go_upto_region 8 with (first | ((with_reducible refine gate_callee (f := 50) rfl ?_); refine goesL_ (some 49) rfl rfl Try.func50 (by kernel_rfl) rfl #[.slice Ao10 t915.length co10, .slice Ao11 t918.length co11] rfl (by (try simp only [List.map_toArray, List.map_cons, List.map_nil]); first | done | rfl | (simp only [List.length_drop, List.length_take]; rfl)) ?_; (with_reducible refine (number_Add.calls kj6 (fun k_ => some k_ = (.slice Ao10 t915.length co10 : Value).ownBlock) _ _ t915 (fun k_ => some k_ = (.slice Ao11 t918.length co11 : Value).ownBlock) _ _ t918 t927 t930 _ ?side1 ?side2 A20.out).mono ?_); (case side1 => exact Kd.R_V (Kd.R_tight rfl (HO_5.out))); (case side2 => exact Kd.R_V (Kd.R_tight rfl (HO_6.out))); rintro e w23 ⟨v928, rfl, ho0, hb⟩; refine ⟨_, rfl, ?_⟩; have n0_ := Aside0.mk (Kd.R_elder' (by (with_reducible repeat (first | apply Kd.R_alloc | apply Kd.R_drewN | apply Kd.R_drew)); exact HO_5.out) (Kd.R_base ho0) hb); have n1_ := Aside0.mk (Kd.R_elder' (by (with_reducible repeat (first | apply Kd.R_alloc | apply Kd.R_drewN | apply Kd.R_drew)); exact HO_6.out) (Kd.R_base ho0) hb); have n2_ := Aside0.mk (Kd.R_lower (Kd.R_new' (Kd.R_new' (Kd.R_mono (ok' := fun k_ => True) ho0 (fun _ hk_ => trivial)) (Kd.R_lt (by (with_reducible repeat (first | apply Kd.R_alloc | apply Kd.R_drewN | apply Kd.R_drew)); exact HO_5.out))) (Kd.R_lt (by (with_reducible repeat (first | apply Kd.R_alloc | apply Kd.R_drewN | apply Kd.R_drew)); exact HO_6.out))) (below_size (by repeat (first | (with_reducible first | exact HB.out | apply below_alloc | apply pw_below_drewN | apply below_drew1) | exact HB.out)))); have n3_ := Aside0.mk (below_step (by repeat (first | (with_reducible first | exact HB.out | apply below_alloc | apply pw_below_drewN | apply below_drew1) | exact HB.out)) hb); clear HO_5; clear HO_6; clear HB; have HO_5 := n0_; have HO_6 := n1_; have HO929 := n2_; have HB := n3_; clear n0_ n1_ n2_ n3_; (try clear hb); (try clear hb2); (try clear hk); (try clear hi); (try clear ho0)) | ((with_reducible refine gate_callee (f := 55) rfl ?_); refine goesL_ (some 55) rfl rfl Try.func55 (by kernel_rfl) rfl #[.slice A0 l0.length c0, .slice A1 l1.length c1] rfl (by (try simp only [List.map_toArray, List.map_cons, List.map_nil]); first | done | rfl | (simp only [List.length_drop, List.length_take]; rfl)) ?_; (with_reducible refine (headendref01_Add.calls kj6 _ _ l0 _ _ l1 t931 t932 _ ?side1 ?side2 ?side3 ?side4 A21.out).mono ?_); (case side1 => repeat (first | exact (Kd.C_below HR0.out HB.out) | (with_reducible refine Kd.C_alloc ?_ _) | (with_reducible refine Kd.C_drewN ?_ _) | (with_reducible refine Kd.C_drew ?_))); (case side2 => exact HC0.out); (case side3 => repeat (first | exact (Kd.C_below HR1.out HB.out) | (with_reducible refine Kd.C_alloc ?_ _) | (with_reducible refine Kd.C_drewN ?_ _) | (with_reducible refine Kd.C_drew ?_))); (case side4 => exact HC1.out); rintro e w24 ⟨v933, rfl, ho0, hb⟩; refine ⟨_, rfl, ?_⟩; have n0_ := Aside0.mk (Kd.R_elder' (by (with_reducible repeat (first | apply Kd.R_alloc | apply Kd.R_drewN | apply Kd.R_drew)); exact HO_5.out) (Kd.R_base ho0) hb); have n1_ := Aside0.mk (Kd.R_elder' (by (with_reducible repeat (first | apply Kd.R_alloc | apply Kd.R_drewN | apply Kd.R_drew)); exact HO_6.out) (Kd.R_base ho0) hb); have n2_ := Aside0.mk (Kd.R_elder' (by (with_reducible repeat (first | apply Kd.R_alloc | apply Kd.R_drewN | apply Kd.R_drew)); exact HO929.out) (Kd.R_base ho0) hb); have n3_ := Aside0.mk (Kd.R_lower (Kd.R_new' (Kd.R_new' (Kd.R_new' ho0 (Kd.R_lt (by (with_reducible repeat (first | apply Kd.R_alloc | apply Kd.R_drewN | apply Kd.R_drew)); exact HO_5.out))) (Kd.R_lt (by (with_reducible repeat (first | apply Kd.R_alloc | apply Kd.R_drewN | apply Kd.R_drew)); exact HO_6.out))) (Kd.R_lt (by (with_reducible repeat (first | apply Kd.R_alloc | apply Kd.R_drewN | apply Kd.R_drew)); exact HO929.out))) (below_size (by repeat (first | (with_reducible first | exact HB.out | apply below_alloc | apply pw_below_drewN | apply below_drew1) | exact HB.out)))); have n4_ := Aside0.mk (below_step (by repeat (first | (with_reducible first | exact HB.out | apply below_alloc | apply pw_below_drewN | apply below_drew1) | exact HB.out)) hb); clear HO_5; clear HO_6; clear HO929; clear HB; have HO_5 := n0_; have HO_6 := n1_; have HO929 := n2_; have HO934 := n3_; have HB := n4_; clear n0_ n1_ n2_ n3_ n4_; (try clear hb); (try clear hb2); (try clear hk); (try clear hi); (try clear ho0)))
        (try simp only [Act.put, List.setIfInBounds_toArray, List.set_cons_zero, List.set_cons_succ])
        go_cut [66] (fun v66 wc => ∃ (kq : Nat) (x66_21 : Bool), v66 = .bool x66_21 ∧ Aside0 (headendlaw01_NumberNaturals.j1 kq l0 l1 t915 t918 t927 x66_21 = some r) ∧ Aside0 (kq ≤ kj6) ∧ Aside0 (Kd.R (Kd.int .u32) 84 wc w.heap.size (fun k_ => some k_ ≠ ((.slice Ao11 t918.length co11) : Value).ownBlock ∧ some k_ ≠ (v928 : Value).ownBlock) (.slice Ao10 t915.length co10) t915) ∧ Aside0 (Kd.R (Kd.int .u32) 84 wc w.heap.size (fun k_ => some k_ ≠ ((.slice Ao10 t915.length co10) : Value).ownBlock ∧ some k_ ≠ (v928 : Value).ownBlock) (.slice Ao11 t918.length co11) t918) ∧ Aside0 (Kd.R (Kd.int .u32) 84 wc w.heap.size (fun k_ => some k_ ≠ ((.slice Ao10 t915.length co10) : Value).ownBlock ∧ some k_ ≠ ((.slice Ao11 t918.length co11) : Value).ownBlock) v928 t927) ∧ Aside0 (Below w.heap.size w wc))
        case first =>
          have H := HC22.out
          clear HC22
          replace H := Option.bind_eq_some_iff.mp H
          obtain ⟨t935, A250, H⟩ := H
          replace H : (if t935 = true then (headendlaw01_NumberNaturals.j1 kj6 l0 l1 t915 t918 t927 (t930 != t932)) else (headendlaw01_NumberNaturals.j1 kj6 l0 l1 t915 t918 t927 true)) = some r := H
          have A25 := Aside0.mk A250
          clear A250
          by_cases c26 : t935 = true
          · subst c26
            have H1 : (headendlaw01_NumberNaturals.j1 kj6 l0 l1 t915 t918 t927 (t930 != t932)) = some r := by rw [if_pos rfl] at H; exact H
            clear H
            have H := H1
            clear H1
            have H' := Aside0.mk H
            clear H
            obtain ⟨Ao27, co27, eo27⟩ := Kd.R_slice HO929.out
            subst eo27
            obtain ⟨Ao28, co28, eo28⟩ := Kd.R_slice HO934.out
            subst eo28
            go_wp2_with (first | ((with_reducible refine gate_callee (f := 31) rfl ?_); refine goesL_ (some 60) rfl rfl Try.func31 (by kernel_rfl) rfl #[.slice Ao27 t927.length co27, .slice Ao28 t931.length co28] rfl (by (try simp only [List.map_toArray, List.map_cons, List.map_nil]); first | done | rfl | (simp only [List.length_drop, List.length_take]; rfl)) ?_; (with_reducible refine (headendref01_Same.calls kj6 _ _ t927 _ _ t931 true _ ?side1 ?side2 ?side3 ?side4 A25.out).mono ?_); (case side1 => repeat (first | exact (Kd.R_reads' HO929.out).2.2 | (with_reducible refine Kd.C_alloc ?_ _) | (with_reducible refine Kd.C_drewN ?_ _) | (with_reducible refine Kd.C_drew ?_))); (case side2 => exact (Kd.R_reads' HO929.out).2.1); (case side3 => repeat (first | exact (Kd.R_reads' HO934.out).2.2 | (with_reducible refine Kd.C_alloc ?_ _) | (with_reducible refine Kd.C_drewN ?_ _) | (with_reducible refine Kd.C_drew ?_))); (case side4 => exact (Kd.R_reads' HO934.out).2.1); rintro e w' ⟨rfl, ⟨nd, rfl⟩⟩; refine ⟨_, rfl, ?_⟩))
            go_meet
            case rel => exact ⟨_, ((t930 != t932)), (by first | rfl | (simp; done) | (simp [*]; done)), H', ⟨by have := HJ6.out; first | omega | exact Nat.le_refl _⟩, ⟨by (with_reducible repeat (first | apply Kd.R_alloc | apply Kd.R_drewN | apply Kd.R_drew)); exact Kd.R_mono HO_5.out (fun _ hk => ⟨hk.1.1, hk.1.2⟩)⟩, ⟨by (with_reducible repeat (first | apply Kd.R_alloc | apply Kd.R_drewN | apply Kd.R_drew)); exact Kd.R_mono HO_6.out (fun _ hk => ⟨hk.1.1, hk.1.2⟩)⟩, ⟨by (with_reducible repeat (first | apply Kd.R_alloc | apply Kd.R_drewN | apply Kd.R_drew)); exact Kd.R_mono HO929.out (fun _ hk => ⟨hk.1.1.2, hk.1.2⟩)⟩, ⟨by repeat (first | (with_reducible first | exact HB.out | apply below_alloc | apply pw_below_drewN | apply below_drew1) | exact HB.out)⟩⟩
          · replace c26 := Bool.eq_false_iff.mpr c26
            subst c26
            have H1 : (headendlaw01_NumberNaturals.j1 kj6 l0 l1 t915 t918 t927 true) = some r := by rw [if_neg (show ¬ (false = true) by decide)] at H; exact H
            clear H
            have H := H1
            clear H1
            cases kj6 with
            | zero => exact absurd H (by simp [headendlaw01_NumberNaturals.j1])
            | succ kd_ => (simp only [headendlaw01_NumberNaturals.j1] at H; (try rw [if_pos rfl] at H); obtain rfl := Option.some.inj H; exact absurd HRR.out Bool.false_ne_true)
        case rest =>
          clear HC22
          try clear c1
          try clear c2
          try clear p2
          try clear c3
          try clear c5
          try clear c8
          try clear c14
          try clear c14b0
          try clear c14b1
          try clear c15
          try clear c15b0
          try clear c15b1
          try clear c19
          try clear c26
          try clear p2
          obtain ⟨kq, x66_21, rfl, HA, HJ21, HO_5, HO_6, HO_11, HB⟩ := hcut
          cases kq with
          | zero => exact absurd HA.out (by simp [headendlaw01_NumberNaturals.j1])
          | succ kj21 =>
            have H := HA.out
            clear HA
            simp only [headendlaw01_NumberNaturals.j1] at H
            by_cases c29 : x66_21 = true
            · subst c29
              have H1 : (some false) = some r := by rw [if_pos rfl] at H; exact H
              clear H
              have H := H1
              clear H1
              obtain rfl := Option.some.inj H
              exact absurd HRR.out Bool.false_ne_true
            · replace c29 := Bool.eq_false_iff.mpr c29
              subst c29
              have H1 : ((headendlaw01_spoil.f kj21 t927).bind fun t936 => ((number_Sub.f kj21 t915 t918).bind fun bt937 => ((headendref01_Sub.f kj21 l0 l1).bind fun bt941 => ((headendref01_Same.f kj21 bt937.1 bt941.1).bind fun t945 => (if t945 = true then (headendlaw01_NumberNaturals.j2 kj21 l0 l1 t915 t918 bt937.1 (bt937.2 != bt941.2)) else (headendlaw01_NumberNaturals.j2 kj21 l0 l1 t915 t918 bt937.1 true)))))) = some r := by rw [if_neg (show ¬ (false = true) by decide)] at H; exact H
              clear H
              have H := H1
              clear H1
              replace H := Option.bind_eq_some_iff.mp H
              obtain ⟨t936, A300, H⟩ := H
              replace H : ((number_Sub.f kj21 t915 t918).bind fun bt937 => ((headendref01_Sub.f kj21 l0 l1).bind fun bt941 => ((headendref01_Same.f kj21 bt937.1 bt941.1).bind fun t945 => (if t945 = true then (headendlaw01_NumberNaturals.j2 kj21 l0 l1 t915 t918 bt937.1 (bt937.2 != bt941.2)) else (headendlaw01_NumberNaturals.j2 kj21 l0 l1 t915 t918 bt937.1 true))))) = some r := H
              have A30 := Aside0.mk A300
              clear A300
              replace H := Option.bind_eq_some_iff.mp H
              obtain ⟨⟨t937, t940⟩, A310, H⟩ := H
              replace H : ((headendref01_Sub.f kj21 l0 l1).bind fun bt941 => ((headendref01_Same.f kj21 t937 bt941.1).bind fun t945 => (if t945 = true then (headendlaw01_NumberNaturals.j2 kj21 l0 l1 t915 t918 t937 (t940 != bt941.2)) else (headendlaw01_NumberNaturals.j2 kj21 l0 l1 t915 t918 t937 true)))) = some r := H
              have A31 := Aside0.mk A310
              clear A310
              replace H := Option.bind_eq_some_iff.mp H
              obtain ⟨⟨t941, t942⟩, A320, H⟩ := H
              replace H : ((headendref01_Same.f kj21 t937 t941).bind fun t945 => (if t945 = true then (headendlaw01_NumberNaturals.j2 kj21 l0 l1 t915 t918 t937 (t940 != t942)) else (headendlaw01_NumberNaturals.j2 kj21 l0 l1 t915 t918 t937 true))) = some r := H
              have A32 := Aside0.mk A320
              clear A320
              have HC33 := Aside0.mk H
              clear H
              obtain ⟨Ao34, co34, eo34⟩ := Kd.R_slice HO_11.out
              subst eo34
              go_upto_region 13 with (first | ((with_reducible refine gate_callee (f := 44) rfl ?_); refine goesL_ (some 68) rfl rfl Try.func44 (by kernel_rfl) rfl #[.slice Ao34 t927.length co34] rfl (by (try simp only [List.map_toArray, List.map_cons, List.map_nil]); first | done | rfl | (simp only [List.length_drop, List.length_take]; rfl)) ?_; (with_reducible refine (headendlaw01_spoil.calls kj21 (fun k_ => some k_ = (.slice Ao34 t927.length co34 : Value).ownBlock) (.slice Ao34 t927.length co34) t927 t936 w _ ?side1 ?side2 A30.out).mono ?_); (case side1 => repeat (first | (with_reducible first | exact HB.out | apply below_alloc | apply pw_below_drewN | apply below_drew1) | exact HB.out)); (case side2 => exact Kd.R_tight rfl HO_11.out); rintro e w35 ⟨rfl, hy0, hb, hkp⟩; refine ⟨_, rfl, ?_⟩; have n0_ := Aside0.mk (Kd.R_mono (ok' := fun k_ => some k_ ≠ (.slice Ao11 t918.length co11 : Value).ownBlock ∧ some k_ ≠ (.slice Ao34 t927.length co34 : Value).ownBlock) (Kd.R_keptB (HO_5.out) hkp (fun k_ hk_ hs_ => (hk_.2) hs_)) (fun k_ hk_ => ⟨hk_.1.1, hk_.1.2⟩)); have n1_ := Aside0.mk (Kd.R_mono (ok' := fun k_ => some k_ ≠ (.slice Ao10 t915.length co10 : Value).ownBlock ∧ some k_ ≠ (.slice Ao34 t927.length co34 : Value).ownBlock) (Kd.R_keptB (HO_6.out) hkp (fun k_ hk_ hs_ => (hk_.2) hs_)) (fun k_ hk_ => ⟨hk_.1.1, hk_.1.2⟩)); have n2_ := Aside0.mk (Kd.R_reok rfl hy0 (fun k_ e_ => HO_11.out.1 k_ e_)); have n3_ := Aside0.mk (hb); clear HO_5; clear HO_6; clear HO_11; clear HB; have HO_5 := n0_; have HO_6 := n1_; have HO_11 := n2_; have HB := n3_; clear n0_ n1_ n2_ n3_; (try clear hb); (try clear hkp); (try clear hy0)) | ((with_reducible refine gate_callee (f := 56) rfl ?_); refine goesL_ (some 72) rfl rfl Try.func56 (by kernel_rfl) rfl #[.slice Ao10 t915.length co10, .slice Ao11 t918.length co11] rfl (by (try simp only [List.map_toArray, List.map_cons, List.map_nil]); first | done | rfl | (simp only [List.length_drop, List.length_take]; rfl)) ?_; (with_reducible refine (number_Sub.calls kj21 (fun k_ => some k_ = (.slice Ao10 t915.length co10 : Value).ownBlock) _ _ t915 (fun k_ => some k_ = (.slice Ao11 t918.length co11 : Value).ownBlock) _ _ t918 t937 t940 _ ?side1 ?side2 A31.out).mono ?_); (case side1 => exact Kd.R_V (Kd.R_tight rfl (HO_5.out))); (case side2 => exact Kd.R_V (Kd.R_tight rfl (HO_6.out))); rintro e w36 ⟨v938, rfl, ho0, hb⟩; refine ⟨_, rfl, ?_⟩; have n0_ := Aside0.mk (Kd.R_elder' (by (with_reducible repeat (first | apply Kd.R_alloc | apply Kd.R_drewN | apply Kd.R_drew)); exact HO_5.out) (Kd.R_base ho0) hb); have n1_ := Aside0.mk (Kd.R_elder' (by (with_reducible repeat (first | apply Kd.R_alloc | apply Kd.R_drewN | apply Kd.R_drew)); exact HO_6.out) (Kd.R_base ho0) hb); have n2_ := Aside0.mk (Kd.R_elder' (by (with_reducible repeat (first | apply Kd.R_alloc | apply Kd.R_drewN | apply Kd.R_drew)); exact HO_11.out) (Kd.R_base ho0) hb); have n3_ := Aside0.mk (Kd.R_lower (Kd.R_new' (Kd.R_new' (Kd.R_new' (Kd.R_mono (ok' := fun k_ => True) ho0 (fun _ hk_ => trivial)) (Kd.R_lt (by (with_reducible repeat (first | apply Kd.R_alloc | apply Kd.R_drewN | apply Kd.R_drew)); exact HO_5.out))) (Kd.R_lt (by (with_reducible repeat (first | apply Kd.R_alloc | apply Kd.R_drewN | apply Kd.R_drew)); exact HO_6.out))) (Kd.R_lt (by (with_reducible repeat (first | apply Kd.R_alloc | apply Kd.R_drewN | apply Kd.R_drew)); exact HO_11.out))) (below_size (by repeat (first | (with_reducible first | exact HB.out | apply below_alloc | apply pw_below_drewN | apply below_drew1) | exact HB.out)))); have n4_ := Aside0.mk (below_step (by repeat (first | (with_reducible first | exact HB.out | apply below_alloc | apply pw_below_drewN | apply below_drew1) | exact HB.out)) hb); clear HO_5; clear HO_6; clear HO_11; clear HB; have HO_5 := n0_; have HO_6 := n1_; have HO_11 := n2_; have HO939 := n3_; have HB := n4_; clear n0_ n1_ n2_ n3_ n4_; (try clear hb); (try clear hb2); (try clear hk); (try clear hi); (try clear ho0)) | ((with_reducible refine gate_callee (f := 57) rfl ?_); refine goesL_ (some 78) rfl rfl Try.func57 (by kernel_rfl) rfl #[.slice A0 l0.length c0, .slice A1 l1.length c1] rfl (by (try simp only [List.map_toArray, List.map_cons, List.map_nil]); first | done | rfl | (simp only [List.length_drop, List.length_take]; rfl)) ?_; (with_reducible refine (headendref01_Sub.calls kj21 _ _ l0 _ _ l1 t941 t942 _ ?side1 ?side2 ?side3 ?side4 A32.out).mono ?_); (case side1 => repeat (first | exact (Kd.C_below HR0.out HB.out) | (with_reducible refine Kd.C_alloc ?_ _) | (with_reducible refine Kd.C_drewN ?_ _) | (with_reducible refine Kd.C_drew ?_))); (case side2 => exact HC0.out); (case side3 => repeat (first | exact (Kd.C_below HR1.out HB.out) | (with_reducible refine Kd.C_alloc ?_ _) | (with_reducible refine Kd.C_drewN ?_ _) | (with_reducible refine Kd.C_drew ?_))); (case side4 => exact HC1.out); rintro e w37 ⟨v943, rfl, ho0, hb⟩; refine ⟨_, rfl, ?_⟩; have n0_ := Aside0.mk (Kd.R_elder' (by (with_reducible repeat (first | apply Kd.R_alloc | apply Kd.R_drewN | apply Kd.R_drew)); exact HO_5.out) (Kd.R_base ho0) hb); have n1_ := Aside0.mk (Kd.R_elder' (by (with_reducible repeat (first | apply Kd.R_alloc | apply Kd.R_drewN | apply Kd.R_drew)); exact HO_6.out) (Kd.R_base ho0) hb); have n2_ := Aside0.mk (Kd.R_elder' (by (with_reducible repeat (first | apply Kd.R_alloc | apply Kd.R_drewN | apply Kd.R_drew)); exact HO_11.out) (Kd.R_base ho0) hb); have n3_ := Aside0.mk (Kd.R_elder' (by (with_reducible repeat (first | apply Kd.R_alloc | apply Kd.R_drewN | apply Kd.R_drew)); exact HO939.out) (Kd.R_base ho0) hb); have n4_ := Aside0.mk (Kd.R_lower (Kd.R_new' (Kd.R_new' (Kd.R_new' (Kd.R_new' ho0 (Kd.R_lt (by (with_reducible repeat (first | apply Kd.R_alloc | apply Kd.R_drewN | apply Kd.R_drew)); exact HO_5.out))) (Kd.R_lt (by (with_reducible repeat (first | apply Kd.R_alloc | apply Kd.R_drewN | apply Kd.R_drew)); exact HO_6.out))) (Kd.R_lt (by (with_reducible repeat (first | apply Kd.R_alloc | apply Kd.R_drewN | apply Kd.R_drew)); exact HO_11.out))) (Kd.R_lt (by (with_reducible repeat (first | apply Kd.R_alloc | apply Kd.R_drewN | apply Kd.R_drew)); exact HO939.out))) (below_size (by repeat (first | (with_reducible first | exact HB.out | apply below_alloc | apply pw_below_drewN | apply below_drew1) | exact HB.out)))); have n5_ := Aside0.mk (below_step (by repeat (first | (with_reducible first | exact HB.out | apply below_alloc | apply pw_below_drewN | apply below_drew1) | exact HB.out)) hb); clear HO_5; clear HO_6; clear HO_11; clear HO939; clear HB; have HO_5 := n0_; have HO_6 := n1_; have HO_11 := n2_; have HO939 := n3_; have HO944 := n4_; have HB := n5_; clear n0_ n1_ n2_ n3_ n4_ n5_; (try clear hb); (try clear hb2); (try clear hk); (try clear hi); (try clear ho0)))
              (try simp only [Act.put, List.setIfInBounds_toArray, List.set_cons_zero, List.set_cons_succ])
              go_cut [89] (fun v89 wc => ∃ (kq : Nat) (x89_32 : Bool), v89 = .bool x89_32 ∧ Aside0 (headendlaw01_NumberNaturals.j2 kq l0 l1 t915 t918 t937 x89_32 = some r) ∧ Aside0 (kq ≤ kj21) ∧ Aside0 (Kd.R (Kd.int .u32) 84 wc w.heap.size (fun k_ => some k_ ≠ ((.slice Ao11 t918.length co11) : Value).ownBlock ∧ some k_ ≠ (v938 : Value).ownBlock) (.slice Ao10 t915.length co10) t915) ∧ Aside0 (Kd.R (Kd.int .u32) 84 wc w.heap.size (fun k_ => some k_ ≠ ((.slice Ao10 t915.length co10) : Value).ownBlock ∧ some k_ ≠ (v938 : Value).ownBlock) (.slice Ao11 t918.length co11) t918) ∧ Aside0 (Kd.R (Kd.int .u32) 84 wc w.heap.size (fun k_ => some k_ ≠ ((.slice Ao10 t915.length co10) : Value).ownBlock ∧ some k_ ≠ ((.slice Ao11 t918.length co11) : Value).ownBlock) v938 t937) ∧ Aside0 (Below w.heap.size w wc))
              case first =>
                have H := HC33.out
                clear HC33
                replace H := Option.bind_eq_some_iff.mp H
                obtain ⟨t945, A380, H⟩ := H
                replace H : (if t945 = true then (headendlaw01_NumberNaturals.j2 kj21 l0 l1 t915 t918 t937 (t940 != t942)) else (headendlaw01_NumberNaturals.j2 kj21 l0 l1 t915 t918 t937 true)) = some r := H
                have A38 := Aside0.mk A380
                clear A380
                by_cases c39 : t945 = true
                · subst c39
                  have H1 : (headendlaw01_NumberNaturals.j2 kj21 l0 l1 t915 t918 t937 (t940 != t942)) = some r := by rw [if_pos rfl] at H; exact H
                  clear H
                  have H := H1
                  clear H1
                  have H' := Aside0.mk H
                  clear H
                  obtain ⟨Ao40, co40, eo40⟩ := Kd.R_slice HO939.out
                  subst eo40
                  obtain ⟨Ao41, co41, eo41⟩ := Kd.R_slice HO944.out
                  subst eo41
                  go_wp2_with (first | ((with_reducible refine gate_callee (f := 31) rfl ?_); refine goesL_ (some 83) rfl rfl Try.func31 (by kernel_rfl) rfl #[.slice Ao40 t937.length co40, .slice Ao41 t941.length co41] rfl (by (try simp only [List.map_toArray, List.map_cons, List.map_nil]); first | done | rfl | (simp only [List.length_drop, List.length_take]; rfl)) ?_; (with_reducible refine (headendref01_Same.calls kj21 _ _ t937 _ _ t941 true _ ?side1 ?side2 ?side3 ?side4 A38.out).mono ?_); (case side1 => repeat (first | exact (Kd.R_reads' HO939.out).2.2 | (with_reducible refine Kd.C_alloc ?_ _) | (with_reducible refine Kd.C_drewN ?_ _) | (with_reducible refine Kd.C_drew ?_))); (case side2 => exact (Kd.R_reads' HO939.out).2.1); (case side3 => repeat (first | exact (Kd.R_reads' HO944.out).2.2 | (with_reducible refine Kd.C_alloc ?_ _) | (with_reducible refine Kd.C_drewN ?_ _) | (with_reducible refine Kd.C_drew ?_))); (case side4 => exact (Kd.R_reads' HO944.out).2.1); rintro e w' ⟨rfl, ⟨nd, rfl⟩⟩; refine ⟨_, rfl, ?_⟩))
                  go_meet
                  case rel => exact ⟨_, ((t940 != t942)), (by first | rfl | (simp; done) | (simp [*]; done)), H', ⟨by have := HJ6.out; have := HJ21.out; first | omega | exact Nat.le_refl _⟩, ⟨by (with_reducible repeat (first | apply Kd.R_alloc | apply Kd.R_drewN | apply Kd.R_drew)); exact Kd.R_mono HO_5.out (fun _ hk => ⟨hk.1.1.1, hk.1.2⟩)⟩, ⟨by (with_reducible repeat (first | apply Kd.R_alloc | apply Kd.R_drewN | apply Kd.R_drew)); exact Kd.R_mono HO_6.out (fun _ hk => ⟨hk.1.1.1, hk.1.2⟩)⟩, ⟨by (with_reducible repeat (first | apply Kd.R_alloc | apply Kd.R_drewN | apply Kd.R_drew)); exact Kd.R_mono HO939.out (fun _ hk => ⟨hk.1.1.1.2, hk.1.1.2⟩)⟩, ⟨by repeat (first | (with_reducible first | exact HB.out | apply below_alloc | apply pw_below_drewN | apply below_drew1) | exact HB.out)⟩⟩
                · replace c39 := Bool.eq_false_iff.mpr c39
                  subst c39
                  have H1 : (headendlaw01_NumberNaturals.j2 kj21 l0 l1 t915 t918 t937 true) = some r := by rw [if_neg (show ¬ (false = true) by decide)] at H; exact H
                  clear H
                  have H := H1
                  clear H1
                  cases kj21 with
                  | zero => exact absurd H (by simp [headendlaw01_NumberNaturals.j2])
                  | succ kd_ => (simp only [headendlaw01_NumberNaturals.j2] at H; (try rw [if_pos rfl] at H); obtain rfl := Option.some.inj H; exact absurd HRR.out Bool.false_ne_true)
              case rest =>
                clear HC33
                try clear c1
                try clear c2
                try clear p2
                try clear c3
                try clear c4
                try clear c5
                try clear c8
                try clear c14
                try clear c14b0
                try clear c14b1
                try clear c15
                try clear c15b0
                try clear c15b1
                try clear c19
                try clear c26
                try clear c29
                try clear c31
                try clear c34
                try clear c39
                try clear p2
                obtain ⟨kq, x89_32, rfl, HA, HJ32, HO_5, HO_6, HO_11, HB⟩ := hcut
                cases kq with
                | zero => exact absurd HA.out (by simp [headendlaw01_NumberNaturals.j2])
                | succ kj32 =>
                  have H := HA.out
                  clear HA
                  simp only [headendlaw01_NumberNaturals.j2] at H
                  by_cases c42 : x89_32 = true
                  · subst c42
                    have H1 : (some false) = some r := by rw [if_pos rfl] at H; exact H
                    clear H
                    have H := H1
                    clear H1
                    obtain rfl := Option.some.inj H
                    exact absurd HRR.out Bool.false_ne_true
                  · replace c42 := Bool.eq_false_iff.mpr c42
                    subst c42
                    have H1 : ((headendlaw01_spoil.f kj32 t937).bind fun t946 => ((number_Mul.f kj32 t915 t918).bind fun bt947 => ((headendref01_Mul.f kj32 l0 l1).bind fun bt951 => ((headendref01_Same.f kj32 bt947.1 bt951.1).bind fun t955 => (if t955 = true then (headendlaw01_NumberNaturals.j3 kj32 l0 l1 t915 t918 bt947.1 (bt947.2 != bt951.2)) else (headendlaw01_NumberNaturals.j3 kj32 l0 l1 t915 t918 bt947.1 true)))))) = some r := by rw [if_neg (show ¬ (false = true) by decide)] at H; exact H
                    clear H
                    have H := H1
                    clear H1
                    replace H := Option.bind_eq_some_iff.mp H
                    obtain ⟨t946, A430, H⟩ := H
                    replace H : ((number_Mul.f kj32 t915 t918).bind fun bt947 => ((headendref01_Mul.f kj32 l0 l1).bind fun bt951 => ((headendref01_Same.f kj32 bt947.1 bt951.1).bind fun t955 => (if t955 = true then (headendlaw01_NumberNaturals.j3 kj32 l0 l1 t915 t918 bt947.1 (bt947.2 != bt951.2)) else (headendlaw01_NumberNaturals.j3 kj32 l0 l1 t915 t918 bt947.1 true))))) = some r := H
                    have A43 := Aside0.mk A430
                    clear A430
                    replace H := Option.bind_eq_some_iff.mp H
                    obtain ⟨⟨t947, t950⟩, A440, H⟩ := H
                    replace H : ((headendref01_Mul.f kj32 l0 l1).bind fun bt951 => ((headendref01_Same.f kj32 t947 bt951.1).bind fun t955 => (if t955 = true then (headendlaw01_NumberNaturals.j3 kj32 l0 l1 t915 t918 t947 (t950 != bt951.2)) else (headendlaw01_NumberNaturals.j3 kj32 l0 l1 t915 t918 t947 true)))) = some r := H
                    have A44 := Aside0.mk A440
                    clear A440
                    replace H := Option.bind_eq_some_iff.mp H
                    obtain ⟨⟨t951, t952⟩, A450, H⟩ := H
                    replace H : ((headendref01_Same.f kj32 t947 t951).bind fun t955 => (if t955 = true then (headendlaw01_NumberNaturals.j3 kj32 l0 l1 t915 t918 t947 (t950 != t952)) else (headendlaw01_NumberNaturals.j3 kj32 l0 l1 t915 t918 t947 true))) = some r := H
                    have A45 := Aside0.mk A450
                    clear A450
                    have HC46 := Aside0.mk H
                    clear H
                    obtain ⟨Ao47, co47, eo47⟩ := Kd.R_slice HO_11.out
                    subst eo47
                    go_upto_region 18 with (first | ((with_reducible refine gate_callee (f := 44) rfl ?_); refine goesL_ (some 91) rfl rfl Try.func44 (by kernel_rfl) rfl #[.slice Ao47 t937.length co47] rfl (by (try simp only [List.map_toArray, List.map_cons, List.map_nil]); first | done | rfl | (simp only [List.length_drop, List.length_take]; rfl)) ?_; (with_reducible refine (headendlaw01_spoil.calls kj32 (fun k_ => some k_ = (.slice Ao47 t937.length co47 : Value).ownBlock) (.slice Ao47 t937.length co47) t937 t946 w _ ?side1 ?side2 A43.out).mono ?_); (case side1 => repeat (first | (with_reducible first | exact HB.out | apply below_alloc | apply pw_below_drewN | apply below_drew1) | exact HB.out)); (case side2 => exact Kd.R_tight rfl HO_11.out); rintro e w48 ⟨rfl, hy0, hb, hkp⟩; refine ⟨_, rfl, ?_⟩; have n0_ := Aside0.mk (Kd.R_mono (ok' := fun k_ => some k_ ≠ (.slice Ao11 t918.length co11 : Value).ownBlock ∧ some k_ ≠ (.slice Ao47 t937.length co47 : Value).ownBlock) (Kd.R_keptB (HO_5.out) hkp (fun k_ hk_ hs_ => (hk_.2) hs_)) (fun k_ hk_ => ⟨hk_.1.1, hk_.1.2⟩)); have n1_ := Aside0.mk (Kd.R_mono (ok' := fun k_ => some k_ ≠ (.slice Ao10 t915.length co10 : Value).ownBlock ∧ some k_ ≠ (.slice Ao47 t937.length co47 : Value).ownBlock) (Kd.R_keptB (HO_6.out) hkp (fun k_ hk_ hs_ => (hk_.2) hs_)) (fun k_ hk_ => ⟨hk_.1.1, hk_.1.2⟩)); have n2_ := Aside0.mk (Kd.R_reok rfl hy0 (fun k_ e_ => HO_11.out.1 k_ e_)); have n3_ := Aside0.mk (hb); clear HO_5; clear HO_6; clear HO_11; clear HB; have HO_5 := n0_; have HO_6 := n1_; have HO_11 := n2_; have HB := n3_; clear n0_ n1_ n2_ n3_; (try clear hb); (try clear hkp); (try clear hy0)) | ((with_reducible refine gate_callee (f := 49) rfl ?_); refine goesL_ (some 95) rfl rfl Try.func49 (by kernel_rfl) rfl #[.slice Ao10 t915.length co10, .slice Ao11 t918.length co11] rfl (by (try simp only [List.map_toArray, List.map_cons, List.map_nil]); first | done | rfl | (simp only [List.length_drop, List.length_take]; rfl)) ?_; (with_reducible refine (number_Mul.calls kj32 (fun k_ => some k_ = (.slice Ao10 t915.length co10 : Value).ownBlock) _ _ t915 (fun k_ => some k_ = (.slice Ao11 t918.length co11 : Value).ownBlock) _ _ t918 t947 t950 _ ?side1 ?side2 A44.out).mono ?_); (case side1 => exact Kd.R_V (Kd.R_tight rfl (HO_5.out))); (case side2 => exact Kd.R_V (Kd.R_tight rfl (HO_6.out))); rintro e w49 ⟨v948, rfl, ho0, hb⟩; refine ⟨_, rfl, ?_⟩; have n0_ := Aside0.mk (Kd.R_elder' (by (with_reducible repeat (first | apply Kd.R_alloc | apply Kd.R_drewN | apply Kd.R_drew)); exact HO_5.out) (Kd.R_base ho0) hb); have n1_ := Aside0.mk (Kd.R_elder' (by (with_reducible repeat (first | apply Kd.R_alloc | apply Kd.R_drewN | apply Kd.R_drew)); exact HO_6.out) (Kd.R_base ho0) hb); have n2_ := Aside0.mk (Kd.R_elder' (by (with_reducible repeat (first | apply Kd.R_alloc | apply Kd.R_drewN | apply Kd.R_drew)); exact HO_11.out) (Kd.R_base ho0) hb); have n3_ := Aside0.mk (Kd.R_lower (Kd.R_new' (Kd.R_new' (Kd.R_new' (Kd.R_mono (ok' := fun k_ => True) ho0 (fun _ hk_ => trivial)) (Kd.R_lt (by (with_reducible repeat (first | apply Kd.R_alloc | apply Kd.R_drewN | apply Kd.R_drew)); exact HO_5.out))) (Kd.R_lt (by (with_reducible repeat (first | apply Kd.R_alloc | apply Kd.R_drewN | apply Kd.R_drew)); exact HO_6.out))) (Kd.R_lt (by (with_reducible repeat (first | apply Kd.R_alloc | apply Kd.R_drewN | apply Kd.R_drew)); exact HO_11.out))) (below_size (by repeat (first | (with_reducible first | exact HB.out | apply below_alloc | apply pw_below_drewN | apply below_drew1) | exact HB.out)))); have n4_ := Aside0.mk (below_step (by repeat (first | (with_reducible first | exact HB.out | apply below_alloc | apply pw_below_drewN | apply below_drew1) | exact HB.out)) hb); clear HO_5; clear HO_6; clear HO_11; clear HB; have HO_5 := n0_; have HO_6 := n1_; have HO_11 := n2_; have HO949 := n3_; have HB := n4_; clear n0_ n1_ n2_ n3_ n4_; (try clear hb); (try clear hb2); (try clear hk); (try clear hi); (try clear ho0)) | ((with_reducible refine gate_callee (f := 58) rfl ?_); refine goesL_ (some 101) rfl rfl Try.func58 (by kernel_rfl) rfl #[.slice A0 l0.length c0, .slice A1 l1.length c1] rfl (by (try simp only [List.map_toArray, List.map_cons, List.map_nil]); first | done | rfl | (simp only [List.length_drop, List.length_take]; rfl)) ?_; (with_reducible refine (headendref01_Mul.calls kj32 _ _ l0 _ _ l1 t951 t952 _ ?side1 ?side2 ?side3 ?side4 A45.out).mono ?_); (case side1 => repeat (first | exact (Kd.C_below HR0.out HB.out) | (with_reducible refine Kd.C_alloc ?_ _) | (with_reducible refine Kd.C_drewN ?_ _) | (with_reducible refine Kd.C_drew ?_))); (case side2 => exact HC0.out); (case side3 => repeat (first | exact (Kd.C_below HR1.out HB.out) | (with_reducible refine Kd.C_alloc ?_ _) | (with_reducible refine Kd.C_drewN ?_ _) | (with_reducible refine Kd.C_drew ?_))); (case side4 => exact HC1.out); rintro e w50 ⟨v953, rfl, ho0, hb⟩; refine ⟨_, rfl, ?_⟩; have n0_ := Aside0.mk (Kd.R_elder' (by (with_reducible repeat (first | apply Kd.R_alloc | apply Kd.R_drewN | apply Kd.R_drew)); exact HO_5.out) (Kd.R_base ho0) hb); have n1_ := Aside0.mk (Kd.R_elder' (by (with_reducible repeat (first | apply Kd.R_alloc | apply Kd.R_drewN | apply Kd.R_drew)); exact HO_6.out) (Kd.R_base ho0) hb); have n2_ := Aside0.mk (Kd.R_elder' (by (with_reducible repeat (first | apply Kd.R_alloc | apply Kd.R_drewN | apply Kd.R_drew)); exact HO_11.out) (Kd.R_base ho0) hb); have n3_ := Aside0.mk (Kd.R_elder' (by (with_reducible repeat (first | apply Kd.R_alloc | apply Kd.R_drewN | apply Kd.R_drew)); exact HO949.out) (Kd.R_base ho0) hb); have n4_ := Aside0.mk (Kd.R_lower (Kd.R_new' (Kd.R_new' (Kd.R_new' (Kd.R_new' ho0 (Kd.R_lt (by (with_reducible repeat (first | apply Kd.R_alloc | apply Kd.R_drewN | apply Kd.R_drew)); exact HO_5.out))) (Kd.R_lt (by (with_reducible repeat (first | apply Kd.R_alloc | apply Kd.R_drewN | apply Kd.R_drew)); exact HO_6.out))) (Kd.R_lt (by (with_reducible repeat (first | apply Kd.R_alloc | apply Kd.R_drewN | apply Kd.R_drew)); exact HO_11.out))) (Kd.R_lt (by (with_reducible repeat (first | apply Kd.R_alloc | apply Kd.R_drewN | apply Kd.R_drew)); exact HO949.out))) (below_size (by repeat (first | (with_reducible first | exact HB.out | apply below_alloc | apply pw_below_drewN | apply below_drew1) | exact HB.out)))); have n5_ := Aside0.mk (below_step (by repeat (first | (with_reducible first | exact HB.out | apply below_alloc | apply pw_below_drewN | apply below_drew1) | exact HB.out)) hb); clear HO_5; clear HO_6; clear HO_11; clear HO949; clear HB; have HO_5 := n0_; have HO_6 := n1_; have HO_11 := n2_; have HO949 := n3_; have HO954 := n4_; have HB := n5_; clear n0_ n1_ n2_ n3_ n4_ n5_; (try clear hb); (try clear hb2); (try clear hk); (try clear hi); (try clear ho0)))
                    (try simp only [Act.put, List.setIfInBounds_toArray, List.set_cons_zero, List.set_cons_succ])
                    go_cut [112] (fun v112 wc => ∃ (kq : Nat) (x112_45 : Bool), v112 = .bool x112_45 ∧ Aside0 (headendlaw01_NumberNaturals.j3 kq l0 l1 t915 t918 t947 x112_45 = some r) ∧ Aside0 (kq ≤ kj32) ∧ Aside0 (Kd.R (Kd.int .u32) 84 wc w.heap.size (fun k_ => some k_ ≠ ((.slice Ao11 t918.length co11) : Value).ownBlock ∧ some k_ ≠ (v948 : Value).ownBlock) (.slice Ao10 t915.length co10) t915) ∧ Aside0 (Kd.R (Kd.int .u32) 84 wc w.heap.size (fun k_ => some k_ ≠ ((.slice Ao10 t915.length co10) : Value).ownBlock ∧ some k_ ≠ (v948 : Value).ownBlock) (.slice Ao11 t918.length co11) t918) ∧ Aside0 (Kd.R (Kd.int .u32) 84 wc w.heap.size (fun k_ => some k_ ≠ ((.slice Ao10 t915.length co10) : Value).ownBlock ∧ some k_ ≠ ((.slice Ao11 t918.length co11) : Value).ownBlock) v948 t947) ∧ Aside0 (Below w.heap.size w wc))
                    case first =>
                      have H := HC46.out
                      clear HC46
                      replace H := Option.bind_eq_some_iff.mp H
                      obtain ⟨t955, A510, H⟩ := H
                      replace H : (if t955 = true then (headendlaw01_NumberNaturals.j3 kj32 l0 l1 t915 t918 t947 (t950 != t952)) else (headendlaw01_NumberNaturals.j3 kj32 l0 l1 t915 t918 t947 true)) = some r := H
                      have A51 := Aside0.mk A510
                      clear A510
                      by_cases c52 : t955 = true
                      · subst c52
                        have H1 : (headendlaw01_NumberNaturals.j3 kj32 l0 l1 t915 t918 t947 (t950 != t952)) = some r := by rw [if_pos rfl] at H; exact H
                        clear H
                        have H := H1
                        clear H1
                        have H' := Aside0.mk H
                        clear H
                        obtain ⟨Ao53, co53, eo53⟩ := Kd.R_slice HO949.out
                        subst eo53
                        obtain ⟨Ao54, co54, eo54⟩ := Kd.R_slice HO954.out
                        subst eo54
                        go_wp2_with (first | ((with_reducible refine gate_callee (f := 31) rfl ?_); refine goesL_ (some 106) rfl rfl Try.func31 (by kernel_rfl) rfl #[.slice Ao53 t947.length co53, .slice Ao54 t951.length co54] rfl (by (try simp only [List.map_toArray, List.map_cons, List.map_nil]); first | done | rfl | (simp only [List.length_drop, List.length_take]; rfl)) ?_; (with_reducible refine (headendref01_Same.calls kj32 _ _ t947 _ _ t951 true _ ?side1 ?side2 ?side3 ?side4 A51.out).mono ?_); (case side1 => repeat (first | exact (Kd.R_reads' HO949.out).2.2 | (with_reducible refine Kd.C_alloc ?_ _) | (with_reducible refine Kd.C_drewN ?_ _) | (with_reducible refine Kd.C_drew ?_))); (case side2 => exact (Kd.R_reads' HO949.out).2.1); (case side3 => repeat (first | exact (Kd.R_reads' HO954.out).2.2 | (with_reducible refine Kd.C_alloc ?_ _) | (with_reducible refine Kd.C_drewN ?_ _) | (with_reducible refine Kd.C_drew ?_))); (case side4 => exact (Kd.R_reads' HO954.out).2.1); rintro e w' ⟨rfl, ⟨nd, rfl⟩⟩; refine ⟨_, rfl, ?_⟩))
                        go_meet
                        case rel => exact ⟨_, ((t950 != t952)), (by first | rfl | (simp; done) | (simp [*]; done)), H', ⟨by have := HJ6.out; have := HJ21.out; have := HJ32.out; first | omega | exact Nat.le_refl _⟩, ⟨by (with_reducible repeat (first | apply Kd.R_alloc | apply Kd.R_drewN | apply Kd.R_drew)); exact Kd.R_mono HO_5.out (fun _ hk => ⟨hk.1.1.1, hk.1.2⟩)⟩, ⟨by (with_reducible repeat (first | apply Kd.R_alloc | apply Kd.R_drewN | apply Kd.R_drew)); exact Kd.R_mono HO_6.out (fun _ hk => ⟨hk.1.1.1, hk.1.2⟩)⟩, ⟨by (with_reducible repeat (first | apply Kd.R_alloc | apply Kd.R_drewN | apply Kd.R_drew)); exact Kd.R_mono HO949.out (fun _ hk => ⟨hk.1.1.1.2, hk.1.1.2⟩)⟩, ⟨by repeat (first | (with_reducible first | exact HB.out | apply below_alloc | apply pw_below_drewN | apply below_drew1) | exact HB.out)⟩⟩
                      · replace c52 := Bool.eq_false_iff.mpr c52
                        subst c52
                        have H1 : (headendlaw01_NumberNaturals.j3 kj32 l0 l1 t915 t918 t947 true) = some r := by rw [if_neg (show ¬ (false = true) by decide)] at H; exact H
                        clear H
                        have H := H1
                        clear H1
                        cases kj32 with
                        | zero => exact absurd H (by simp [headendlaw01_NumberNaturals.j3])
                        | succ kd_ => (simp only [headendlaw01_NumberNaturals.j3] at H; (try rw [if_pos rfl] at H); obtain rfl := Option.some.inj H; exact absurd HRR.out Bool.false_ne_true)
                    case rest =>
                      clear HC46
                      try clear c1
                      try clear c2
                      try clear p2
                      try clear c3
                      try clear c4
                      try clear c5
                      try clear c8
                      try clear c14
                      try clear c14b0
                      try clear c14b1
                      try clear c15
                      try clear c15b0
                      try clear c15b1
                      try clear c19
                      try clear c26
                      try clear c29
                      try clear c31
                      try clear c34
                      try clear c39
                      try clear c42
                      try clear c44
                      try clear c49
                      try clear c50
                      try clear c51
                      try clear c52
                      try clear p2
                      obtain ⟨kq, x112_45, rfl, HA, HJ45, HO_5, HO_6, HO_11, HB⟩ := hcut
                      cases kq with
                      | zero => exact absurd HA.out (by simp [headendlaw01_NumberNaturals.j3])
                      | succ kj45 =>
                        have H := HA.out
                        clear HA
                        simp only [headendlaw01_NumberNaturals.j3] at H
                        by_cases c55 : x112_45 = true
                        · subst c55
                          have H1 : (some false) = some r := by rw [if_pos rfl] at H; exact H
                          clear H
                          have H := H1
                          clear H1
                          obtain rfl := Option.some.inj H
                          exact absurd HRR.out Bool.false_ne_true
                        · replace c55 := Bool.eq_false_iff.mpr c55
                          subst c55
                          have H1 : ((headendlaw01_spoil.f kj45 t947).bind fun t956 => ((number_Div.f t915 t918).bind fun bt957 => ((headendref01_Div.f kj45 l0 l1).bind fun bt964 => ((headendref01_Same.f kj45 bt957.1 bt964.1).bind fun t971 => (if t971 = true then ((headendref01_Same.f kj45 bt957.2.1 bt964.2.1).bind fun t972 => (if t972 = true then (headendlaw01_NumberNaturals.j4 kj45 l0 l1 t915 t918 bt957.1 bt957.2.1 (bt957.2.2 != bt964.2.2)) else (headendlaw01_NumberNaturals.j4 kj45 l0 l1 t915 t918 bt957.1 bt957.2.1 true))) else (headendlaw01_NumberNaturals.j4 kj45 l0 l1 t915 t918 bt957.1 bt957.2.1 true)))))) = some r := by rw [if_neg (show ¬ (false = true) by decide)] at H; exact H
                          clear H
                          have H := H1
                          clear H1
                          replace H := Option.bind_eq_some_iff.mp H
                          obtain ⟨t956, A560, H⟩ := H
                          replace H : ((number_Div.f t915 t918).bind fun bt957 => ((headendref01_Div.f kj45 l0 l1).bind fun bt964 => ((headendref01_Same.f kj45 bt957.1 bt964.1).bind fun t971 => (if t971 = true then ((headendref01_Same.f kj45 bt957.2.1 bt964.2.1).bind fun t972 => (if t972 = true then (headendlaw01_NumberNaturals.j4 kj45 l0 l1 t915 t918 bt957.1 bt957.2.1 (bt957.2.2 != bt964.2.2)) else (headendlaw01_NumberNaturals.j4 kj45 l0 l1 t915 t918 bt957.1 bt957.2.1 true))) else (headendlaw01_NumberNaturals.j4 kj45 l0 l1 t915 t918 bt957.1 bt957.2.1 true))))) = some r := H
                          have A56 := Aside0.mk A560
                          clear A560
                          replace H := Option.bind_eq_some_iff.mp H
                          obtain ⟨⟨t957, t960, t963⟩, A570, H⟩ := H
                          replace H : ((headendref01_Div.f kj45 l0 l1).bind fun bt964 => ((headendref01_Same.f kj45 t957 bt964.1).bind fun t971 => (if t971 = true then ((headendref01_Same.f kj45 t960 bt964.2.1).bind fun t972 => (if t972 = true then (headendlaw01_NumberNaturals.j4 kj45 l0 l1 t915 t918 t957 t960 (t963 != bt964.2.2)) else (headendlaw01_NumberNaturals.j4 kj45 l0 l1 t915 t918 t957 t960 true))) else (headendlaw01_NumberNaturals.j4 kj45 l0 l1 t915 t918 t957 t960 true)))) = some r := H
                          have A57 := Aside0.mk A570
                          clear A570
                          replace H := Option.bind_eq_some_iff.mp H
                          obtain ⟨⟨t964, t965, t966⟩, A580, H⟩ := H
                          replace H : ((headendref01_Same.f kj45 t957 t964).bind fun t971 => (if t971 = true then ((headendref01_Same.f kj45 t960 t965).bind fun t972 => (if t972 = true then (headendlaw01_NumberNaturals.j4 kj45 l0 l1 t915 t918 t957 t960 (t963 != t966)) else (headendlaw01_NumberNaturals.j4 kj45 l0 l1 t915 t918 t957 t960 true))) else (headendlaw01_NumberNaturals.j4 kj45 l0 l1 t915 t918 t957 t960 true))) = some r := H
                          have A58 := Aside0.mk A580
                          clear A580
                          have HC59 := Aside0.mk H
                          clear H
                          obtain ⟨Ao60, co60, eo60⟩ := Kd.R_slice HO_11.out
                          subst eo60
                          go_upto_region 23 with (first | ((with_reducible refine gate_callee (f := 44) rfl ?_); refine goesL_ (some 114) rfl rfl Try.func44 (by kernel_rfl) rfl #[.slice Ao60 t947.length co60] rfl (by (try simp only [List.map_toArray, List.map_cons, List.map_nil]); first | done | rfl | (simp only [List.length_drop, List.length_take]; rfl)) ?_; (with_reducible refine (headendlaw01_spoil.calls kj45 (fun k_ => some k_ = (.slice Ao60 t947.length co60 : Value).ownBlock) (.slice Ao60 t947.length co60) t947 t956 w _ ?side1 ?side2 A56.out).mono ?_); (case side1 => repeat (first | (with_reducible first | exact HB.out | apply below_alloc | apply pw_below_drewN | apply below_drew1) | exact HB.out)); (case side2 => exact Kd.R_tight rfl HO_11.out); rintro e w61 ⟨rfl, hy0, hb, hkp⟩; refine ⟨_, rfl, ?_⟩; have n0_ := Aside0.mk (Kd.R_mono (ok' := fun k_ => some k_ ≠ (.slice Ao11 t918.length co11 : Value).ownBlock ∧ some k_ ≠ (.slice Ao60 t947.length co60 : Value).ownBlock) (Kd.R_keptB (HO_5.out) hkp (fun k_ hk_ hs_ => (hk_.2) hs_)) (fun k_ hk_ => ⟨hk_.1.1, hk_.1.2⟩)); have n1_ := Aside0.mk (Kd.R_mono (ok' := fun k_ => some k_ ≠ (.slice Ao10 t915.length co10 : Value).ownBlock ∧ some k_ ≠ (.slice Ao60 t947.length co60 : Value).ownBlock) (Kd.R_keptB (HO_6.out) hkp (fun k_ hk_ hs_ => (hk_.2) hs_)) (fun k_ hk_ => ⟨hk_.1.1, hk_.1.2⟩)); have n2_ := Aside0.mk (Kd.R_reok rfl hy0 (fun k_ e_ => HO_11.out.1 k_ e_)); have n3_ := Aside0.mk (hb); clear HO_5; clear HO_6; clear HO_11; clear HB; have HO_5 := n0_; have HO_6 := n1_; have HO_11 := n2_; have HB := n3_; clear n0_ n1_ n2_ n3_; (try clear hb); (try clear hkp); (try clear hy0)) | ((with_reducible refine gate_callee (f := 59) rfl ?_); refine goesL_ (some 118) rfl rfl Try.func59 (by kernel_rfl) rfl #[.slice Ao10 t915.length co10, .slice Ao11 t918.length co11] rfl (by (try simp only [List.map_toArray, List.map_cons, List.map_nil]); first | done | rfl | (simp only [List.length_drop, List.length_take]; rfl)) ?_; (with_reducible refine (number_Div.calls (fun k_ => some k_ = (.slice Ao10 t915.length co10 : Value).ownBlock) _ _ t915 (fun k_ => some k_ = (.slice Ao11 t918.length co11 : Value).ownBlock) _ _ t918 t957 t960 t963 _ ?side1 ?side2 A57.out).mono ?_); (case side1 => exact Kd.R_V (Kd.R_tight rfl (HO_5.out))); (case side2 => exact Kd.R_V (Kd.R_tight rfl (HO_6.out))); rintro e w62 ⟨v958, v961, rfl, ho0, ho1, hb⟩; refine ⟨_, rfl, ?_⟩; have n0_ := Aside0.mk (Kd.R_mono (Kd.R_told (Kd.R_told (Kd.R_old (by (with_reducible repeat (first | apply Kd.R_alloc | apply Kd.R_drewN | apply Kd.R_drew)); exact HO_5.out) hb) (Kd.R_base ho0)) (Kd.R_base ho1)) (fun _ h_ => h_.1)); have n1_ := Aside0.mk (Kd.R_mono (Kd.R_told (Kd.R_told (Kd.R_old (by (with_reducible repeat (first | apply Kd.R_alloc | apply Kd.R_drewN | apply Kd.R_drew)); exact HO_6.out) hb) (Kd.R_base ho0)) (Kd.R_base ho1)) (fun _ h_ => h_.1)); have n2_ := Aside0.mk (Kd.R_mono (Kd.R_told (Kd.R_told (Kd.R_old (by (with_reducible repeat (first | apply Kd.R_alloc | apply Kd.R_drewN | apply Kd.R_drew)); exact HO_11.out) hb) (Kd.R_base ho0)) (Kd.R_base ho1)) (fun _ h_ => h_.1)); have n3_ := Aside0.mk (Kd.R_lower (Kd.R_new' (Kd.R_new' (Kd.R_new' (Kd.R_mono (ok' := fun k_ => some k_ ≠ (v961 : Value).ownBlock) ho0 (fun _ hk_ => hk_.2)) (Kd.R_lt (by (with_reducible repeat (first | apply Kd.R_alloc | apply Kd.R_drewN | apply Kd.R_drew)); exact HO_5.out))) (Kd.R_lt (by (with_reducible repeat (first | apply Kd.R_alloc | apply Kd.R_drewN | apply Kd.R_drew)); exact HO_6.out))) (Kd.R_lt (by (with_reducible repeat (first | apply Kd.R_alloc | apply Kd.R_drewN | apply Kd.R_drew)); exact HO_11.out))) (below_size (by repeat (first | (with_reducible first | exact HB.out | apply below_alloc | apply pw_below_drewN | apply below_drew1) | exact HB.out)))); have n4_ := Aside0.mk (Kd.R_lower (Kd.R_new' (Kd.R_new' (Kd.R_new' (Kd.R_mono (ok' := fun k_ => some k_ ≠ (v958 : Value).ownBlock) ho1 (fun _ hk_ => hk_.2)) (Kd.R_lt (by (with_reducible repeat (first | apply Kd.R_alloc | apply Kd.R_drewN | apply Kd.R_drew)); exact HO_5.out))) (Kd.R_lt (by (with_reducible repeat (first | apply Kd.R_alloc | apply Kd.R_drewN | apply Kd.R_drew)); exact HO_6.out))) (Kd.R_lt (by (with_reducible repeat (first | apply Kd.R_alloc | apply Kd.R_drewN | apply Kd.R_drew)); exact HO_11.out))) (below_size (by repeat (first | (with_reducible first | exact HB.out | apply below_alloc | apply pw_below_drewN | apply below_drew1) | exact HB.out)))); have n5_ := Aside0.mk (below_step (by repeat (first | (with_reducible first | exact HB.out | apply below_alloc | apply pw_below_drewN | apply below_drew1) | exact HB.out)) hb); clear HO_5; clear HO_6; clear HO_11; clear HB; have HO_5 := n0_; have HO_6 := n1_; have HO_11 := n2_; have HO959 := n3_; have HO962 := n4_; have HB := n5_; clear n0_ n1_ n2_ n3_ n4_ n5_; (try clear hb); (try clear hb2); (try clear hk); (try clear hi); (try clear ho0); (try clear ho1)) | ((with_reducible refine gate_callee (f := 60) rfl ?_); refine goesL_ (some 125) rfl rfl Try.func60 (by kernel_rfl) rfl #[.slice A0 l0.length c0, .slice A1 l1.length c1] rfl (by (try simp only [List.map_toArray, List.map_cons, List.map_nil]); first | done | rfl | (simp only [List.length_drop, List.length_take]; rfl)) ?_; (with_reducible refine (headendref01_Div.calls kj45 _ _ l0 _ _ l1 t964 t965 t966 _ ?side1 ?side2 ?side3 ?side4 A58.out).mono ?_); (case side1 => repeat (first | exact (Kd.C_below HR0.out HB.out) | (with_reducible refine Kd.C_alloc ?_ _) | (with_reducible refine Kd.C_drewN ?_ _) | (with_reducible refine Kd.C_drew ?_))); (case side2 => exact HC0.out); (case side3 => repeat (first | exact (Kd.C_below HR1.out HB.out) | (with_reducible refine Kd.C_alloc ?_ _) | (with_reducible refine Kd.C_drewN ?_ _) | (with_reducible refine Kd.C_drew ?_))); (case side4 => exact HC1.out); rintro e w63 ⟨v967, v969, rfl, ho0, ho1, hb⟩; refine ⟨_, rfl, ?_⟩; have n0_ := Aside0.mk (Kd.R_mono (Kd.R_told (Kd.R_told (Kd.R_old (by (with_reducible repeat (first | apply Kd.R_alloc | apply Kd.R_drewN | apply Kd.R_drew)); exact HO_5.out) hb) (Kd.R_base ho0)) (Kd.R_base ho1)) (fun _ h_ => h_.1)); have n1_ := Aside0.mk (Kd.R_mono (Kd.R_told (Kd.R_told (Kd.R_old (by (with_reducible repeat (first | apply Kd.R_alloc | apply Kd.R_drewN | apply Kd.R_drew)); exact HO_6.out) hb) (Kd.R_base ho0)) (Kd.R_base ho1)) (fun _ h_ => h_.1)); have n2_ := Aside0.mk (Kd.R_mono (Kd.R_told (Kd.R_told (Kd.R_old (by (with_reducible repeat (first | apply Kd.R_alloc | apply Kd.R_drewN | apply Kd.R_drew)); exact HO_11.out) hb) (Kd.R_base ho0)) (Kd.R_base ho1)) (fun _ h_ => h_.1)); have n3_ := Aside0.mk (Kd.R_mono (Kd.R_told (Kd.R_told (Kd.R_old (by (with_reducible repeat (first | apply Kd.R_alloc | apply Kd.R_drewN | apply Kd.R_drew)); exact HO959.out) hb) (Kd.R_base ho0)) (Kd.R_base ho1)) (fun _ h_ => h_.1)); have n4_ := Aside0.mk (Kd.R_mono (Kd.R_told (Kd.R_told (Kd.R_old (by (with_reducible repeat (first | apply Kd.R_alloc | apply Kd.R_drewN | apply Kd.R_drew)); exact HO962.out) hb) (Kd.R_base ho0)) (Kd.R_base ho1)) (fun _ h_ => h_.1)); have n5_ := Aside0.mk (Kd.R_lower (Kd.R_new' (Kd.R_new' (Kd.R_new' (Kd.R_new' (Kd.R_new' ho0 (Kd.R_lt (by (with_reducible repeat (first | apply Kd.R_alloc | apply Kd.R_drewN | apply Kd.R_drew)); exact HO_5.out))) (Kd.R_lt (by (with_reducible repeat (first | apply Kd.R_alloc | apply Kd.R_drewN | apply Kd.R_drew)); exact HO_6.out))) (Kd.R_lt (by (with_reducible repeat (first | apply Kd.R_alloc | apply Kd.R_drewN | apply Kd.R_drew)); exact HO_11.out))) (Kd.R_lt (by (with_reducible repeat (first | apply Kd.R_alloc | apply Kd.R_drewN | apply Kd.R_drew)); exact HO959.out))) (Kd.R_lt (by (with_reducible repeat (first | apply Kd.R_alloc | apply Kd.R_drewN | apply Kd.R_drew)); exact HO962.out))) (below_size (by repeat (first | (with_reducible first | exact HB.out | apply below_alloc | apply pw_below_drewN | apply below_drew1) | exact HB.out)))); have n6_ := Aside0.mk (Kd.R_lower (Kd.R_new' (Kd.R_new' (Kd.R_new' (Kd.R_new' (Kd.R_new' ho1 (Kd.R_lt (by (with_reducible repeat (first | apply Kd.R_alloc | apply Kd.R_drewN | apply Kd.R_drew)); exact HO_5.out))) (Kd.R_lt (by (with_reducible repeat (first | apply Kd.R_alloc | apply Kd.R_drewN | apply Kd.R_drew)); exact HO_6.out))) (Kd.R_lt (by (with_reducible repeat (first | apply Kd.R_alloc | apply Kd.R_drewN | apply Kd.R_drew)); exact HO_11.out))) (Kd.R_lt (by (with_reducible repeat (first | apply Kd.R_alloc | apply Kd.R_drewN | apply Kd.R_drew)); exact HO959.out))) (Kd.R_lt (by (with_reducible repeat (first | apply Kd.R_alloc | apply Kd.R_drewN | apply Kd.R_drew)); exact HO962.out))) (below_size (by repeat (first | (with_reducible first | exact HB.out | apply below_alloc | apply pw_below_drewN | apply below_drew1) | exact HB.out)))); have n7_ := Aside0.mk (below_step (by repeat (first | (with_reducible first | exact HB.out | apply below_alloc | apply pw_below_drewN | apply below_drew1) | exact HB.out)) hb); clear HO_5; clear HO_6; clear HO_11; clear HO959; clear HO962; clear HB; have HO_5 := n0_; have HO_6 := n1_; have HO_11 := n2_; have HO959 := n3_; have HO962 := n4_; have HO968 := n5_; have HO970 := n6_; have HB := n7_; clear n0_ n1_ n2_ n3_ n4_ n5_ n6_ n7_; (try clear hb); (try clear hb2); (try clear hk); (try clear hi); (try clear ho0); (try clear ho1)))
                          (try simp only [Act.put, List.setIfInBounds_toArray, List.set_cons_zero, List.set_cons_succ])
                          go_cut [143] (fun v143 wc => ∃ (kq : Nat) (x143_58 : Bool), v143 = .bool x143_58 ∧ Aside0 (headendlaw01_NumberNaturals.j4 kq l0 l1 t915 t918 t957 t960 x143_58 = some r) ∧ Aside0 (kq ≤ kj45) ∧ Aside0 (Kd.R (Kd.int .u32) 84 wc w.heap.size (fun k_ => some k_ ≠ ((.slice Ao11 t918.length co11) : Value).ownBlock ∧ some k_ ≠ (v958 : Value).ownBlock ∧ some k_ ≠ (v961 : Value).ownBlock) (.slice Ao10 t915.length co10) t915) ∧ Aside0 (Kd.R (Kd.int .u32) 84 wc w.heap.size (fun k_ => some k_ ≠ ((.slice Ao10 t915.length co10) : Value).ownBlock ∧ some k_ ≠ (v958 : Value).ownBlock ∧ some k_ ≠ (v961 : Value).ownBlock) (.slice Ao11 t918.length co11) t918) ∧ Aside0 (Kd.R (Kd.int .u32) 84 wc w.heap.size (fun k_ => some k_ ≠ ((.slice Ao10 t915.length co10) : Value).ownBlock ∧ some k_ ≠ ((.slice Ao11 t918.length co11) : Value).ownBlock ∧ some k_ ≠ (v961 : Value).ownBlock) v958 t957) ∧ Aside0 (Kd.R (Kd.int .u32) 84 wc w.heap.size (fun k_ => some k_ ≠ ((.slice Ao10 t915.length co10) : Value).ownBlock ∧ some k_ ≠ ((.slice Ao11 t918.length co11) : Value).ownBlock ∧ some k_ ≠ (v958 : Value).ownBlock) v961 t960) ∧ Aside0 (Below w.heap.size w wc))
                          case first =>
                            have H := HC59.out
                            clear HC59
                            replace H := Option.bind_eq_some_iff.mp H
                            obtain ⟨t971, A640, H⟩ := H
                            replace H : (if t971 = true then ((headendref01_Same.f kj45 t960 t965).bind fun t972 => (if t972 = true then (headendlaw01_NumberNaturals.j4 kj45 l0 l1 t915 t918 t957 t960 (t963 != t966)) else (headendlaw01_NumberNaturals.j4 kj45 l0 l1 t915 t918 t957 t960 true))) else (headendlaw01_NumberNaturals.j4 kj45 l0 l1 t915 t918 t957 t960 true)) = some r := H
                            have A64 := Aside0.mk A640
                            clear A640
                            by_cases c65 : t971 = true
                            · subst c65
                              have H1 : ((headendref01_Same.f kj45 t960 t965).bind fun t972 => (if t972 = true then (headendlaw01_NumberNaturals.j4 kj45 l0 l1 t915 t918 t957 t960 (t963 != t966)) else (headendlaw01_NumberNaturals.j4 kj45 l0 l1 t915 t918 t957 t960 true))) = some r := by rw [if_pos rfl] at H; exact H
                              clear H
                              have H := H1
                              clear H1
                              replace H := Option.bind_eq_some_iff.mp H
                              obtain ⟨t972, A660, H⟩ := H
                              replace H : (if t972 = true then (headendlaw01_NumberNaturals.j4 kj45 l0 l1 t915 t918 t957 t960 (t963 != t966)) else (headendlaw01_NumberNaturals.j4 kj45 l0 l1 t915 t918 t957 t960 true)) = some r := H
                              have A66 := Aside0.mk A660
                              clear A660
                              by_cases c67 : t972 = true
                              · subst c67
                                have H1 : (headendlaw01_NumberNaturals.j4 kj45 l0 l1 t915 t918 t957 t960 (t963 != t966)) = some r := by rw [if_pos rfl] at H; exact H
                                clear H
                                have H := H1
                                clear H1
                                have H' := Aside0.mk H
                                clear H
                                obtain ⟨Ao68, co68, eo68⟩ := Kd.R_slice HO959.out
                                subst eo68
                                obtain ⟨Ao69, co69, eo69⟩ := Kd.R_slice HO968.out
                                subst eo69
                                go_wp2_with (first | ((with_reducible refine gate_callee (f := 31) rfl ?_); refine goesL_ (some 131) rfl rfl Try.func31 (by kernel_rfl) rfl #[.slice Ao68 t957.length co68, .slice Ao69 t964.length co69] rfl (by (try simp only [List.map_toArray, List.map_cons, List.map_nil]); first | done | rfl | (simp only [List.length_drop, List.length_take]; rfl)) ?_; (with_reducible refine (headendref01_Same.calls kj45 _ _ t957 _ _ t964 true _ ?side1 ?side2 ?side3 ?side4 A64.out).mono ?_); (case side1 => repeat (first | exact (Kd.R_reads' HO959.out).2.2 | (with_reducible refine Kd.C_alloc ?_ _) | (with_reducible refine Kd.C_drewN ?_ _) | (with_reducible refine Kd.C_drew ?_))); (case side2 => exact (Kd.R_reads' HO959.out).2.1); (case side3 => repeat (first | exact (Kd.R_reads' HO968.out).2.2 | (with_reducible refine Kd.C_alloc ?_ _) | (with_reducible refine Kd.C_drewN ?_ _) | (with_reducible refine Kd.C_drew ?_))); (case side4 => exact (Kd.R_reads' HO968.out).2.1); rintro e w' ⟨rfl, ⟨nd, rfl⟩⟩; refine ⟨_, rfl, ?_⟩; obtain ⟨Ao70, co70, eo70⟩ := Kd.R_slice HO962.out; subst eo70; obtain ⟨Ao71, co71, eo71⟩ := Kd.R_slice HO970.out; subst eo71) | (go_at_call 31; (with_reducible refine (headendref01_Same.calls kj45 _ _ t960 _ _ t965 true _ ?side1 ?side2 ?side3 ?side4 A66.out).mono ?_); (case side1 => repeat (first | exact (Kd.R_reads' HO962.out).2.2 | (with_reducible refine Kd.C_alloc ?_ _) | (with_reducible refine Kd.C_drewN ?_ _) | (with_reducible refine Kd.C_drew ?_))); (case side2 => exact (Kd.R_reads' HO962.out).2.1); (case side3 => repeat (first | exact (Kd.R_reads' HO970.out).2.2 | (with_reducible refine Kd.C_alloc ?_ _) | (with_reducible refine Kd.C_drewN ?_ _) | (with_reducible refine Kd.C_drew ?_))); (case side4 => exact (Kd.R_reads' HO970.out).2.1); rintro e w' ⟨rfl, ⟨nd, rfl⟩⟩))
                                go_meet
                                case rel => exact ⟨_, ((t963 != t966)), (by first | rfl | (simp; done) | (simp [*]; done)), H', ⟨by have := HJ6.out; have := HJ21.out; have := HJ32.out; have := HJ45.out; first | omega | exact Nat.le_refl _⟩, ⟨by (with_reducible repeat (first | apply Kd.R_alloc | apply Kd.R_drewN | apply Kd.R_drew)); exact Kd.R_mono HO_5.out (fun _ hk => ⟨hk.1.1.1.1.1, ⟨hk.1.1.1.2, hk.1.1.2⟩⟩)⟩, ⟨by (with_reducible repeat (first | apply Kd.R_alloc | apply Kd.R_drewN | apply Kd.R_drew)); exact Kd.R_mono HO_6.out (fun _ hk => ⟨hk.1.1.1.1.1, ⟨hk.1.1.1.2, hk.1.1.2⟩⟩)⟩, ⟨by (with_reducible repeat (first | apply Kd.R_alloc | apply Kd.R_drewN | apply Kd.R_drew)); exact Kd.R_mono HO959.out (fun _ hk => ⟨hk.1.1.1.1.2, ⟨hk.1.1.1.2, hk.1.1.1.1.1⟩⟩)⟩, ⟨by (with_reducible repeat (first | apply Kd.R_alloc | apply Kd.R_drewN | apply Kd.R_drew)); exact Kd.R_mono HO962.out (fun _ hk => ⟨hk.1.1.1.1.2, ⟨hk.1.1.1.2, hk.1.1.1.1.1⟩⟩)⟩, ⟨by repeat (first | (with_reducible first | exact HB.out | apply below_alloc | apply pw_below_drewN | apply below_drew1) | exact HB.out)⟩⟩
                              · replace c67 := Bool.eq_false_iff.mpr c67
                                subst c67
                                have H1 : (headendlaw01_NumberNaturals.j4 kj45 l0 l1 t915 t918 t957 t960 true) = some r := by rw [if_neg (show ¬ (false = true) by decide)] at H; exact H
                                clear H
                                have H := H1
                                clear H1
                                cases kj45 with
                                | zero => exact absurd H (by simp [headendlaw01_NumberNaturals.j4])
                                | succ kd_ => (simp only [headendlaw01_NumberNaturals.j4] at H; (try rw [if_pos rfl] at H); obtain rfl := Option.some.inj H; exact absurd HRR.out Bool.false_ne_true)
                            · replace c65 := Bool.eq_false_iff.mpr c65
                              subst c65
                              have H1 : (headendlaw01_NumberNaturals.j4 kj45 l0 l1 t915 t918 t957 t960 true) = some r := by rw [if_neg (show ¬ (false = true) by decide)] at H; exact H
                              clear H
                              have H := H1
                              clear H1
                              cases kj45 with
                              | zero => exact absurd H (by simp [headendlaw01_NumberNaturals.j4])
                              | succ kd_ => (simp only [headendlaw01_NumberNaturals.j4] at H; (try rw [if_pos rfl] at H); obtain rfl := Option.some.inj H; exact absurd HRR.out Bool.false_ne_true)
                          case rest =>
                            clear HC59
                            try clear c1
                            try clear c2
                            try clear p2
                            try clear c3
                            try clear c4
                            try clear c5
                            try clear c6
                            try clear c8
                            try clear c14
                            try clear c14b0
                            try clear c14b1
                            try clear c15
                            try clear c15b0
                            try clear c15b1
                            try clear c19
                            try clear c26
                            try clear c29
                            try clear c31
                            try clear c34
                            try clear c39
                            try clear c42
                            try clear c44
                            try clear c49
                            try clear c50
                            try clear c51
                            try clear c52
                            try clear c55
                            try clear c56
                            try clear c57
                            try clear c58
                            try clear c59
                            try clear c60
                            try clear c65
                            try clear c67
                            try clear p2
                            obtain ⟨kq, x143_58, rfl, HA, HJ58, HO_5, HO_6, HO_11, HO_13, HB⟩ := hcut
                            cases kq with
                            | zero => exact absurd HA.out (by simp [headendlaw01_NumberNaturals.j4])
                            | succ kj58 =>
                              have H := HA.out
                              clear HA
                              simp only [headendlaw01_NumberNaturals.j4] at H
                              by_cases c72 : x143_58 = true
                              · subst c72
                                have H1 : (some false) = some r := by rw [if_pos rfl] at H; exact H
                                clear H
                                have H := H1
                                clear H1
                                obtain rfl := Option.some.inj H
                                exact absurd HRR.out Bool.false_ne_true
                              · replace c72 := Bool.eq_false_iff.mpr c72
                                subst c72
                                have H1 : ((headendlaw01_spoil.f kj58 t957).bind fun t973 => ((headendlaw01_spoil.f kj58 t960).bind fun t974 => ((number_Gcd.f kj58 t915 t918).bind fun bt975 => ((headendref01_Gcd.f kj58 l0 l1).bind fun bt979 => ((headendref01_Same.f kj58 bt975.1 bt979.1).bind fun t983 => (if t983 = true then (headendlaw01_NumberNaturals.j5 kj58 l0 l1 t915 t918 bt975.1 (bt975.2 != bt979.2)) else (headendlaw01_NumberNaturals.j5 kj58 l0 l1 t915 t918 bt975.1 true))))))) = some r := by rw [if_neg (show ¬ (false = true) by decide)] at H; exact H
                                clear H
                                have H := H1
                                clear H1
                                replace H := Option.bind_eq_some_iff.mp H
                                obtain ⟨t973, A730, H⟩ := H
                                replace H : ((headendlaw01_spoil.f kj58 t960).bind fun t974 => ((number_Gcd.f kj58 t915 t918).bind fun bt975 => ((headendref01_Gcd.f kj58 l0 l1).bind fun bt979 => ((headendref01_Same.f kj58 bt975.1 bt979.1).bind fun t983 => (if t983 = true then (headendlaw01_NumberNaturals.j5 kj58 l0 l1 t915 t918 bt975.1 (bt975.2 != bt979.2)) else (headendlaw01_NumberNaturals.j5 kj58 l0 l1 t915 t918 bt975.1 true)))))) = some r := H
                                have A73 := Aside0.mk A730
                                clear A730
                                replace H := Option.bind_eq_some_iff.mp H
                                obtain ⟨t974, A740, H⟩ := H
                                replace H : ((number_Gcd.f kj58 t915 t918).bind fun bt975 => ((headendref01_Gcd.f kj58 l0 l1).bind fun bt979 => ((headendref01_Same.f kj58 bt975.1 bt979.1).bind fun t983 => (if t983 = true then (headendlaw01_NumberNaturals.j5 kj58 l0 l1 t915 t918 bt975.1 (bt975.2 != bt979.2)) else (headendlaw01_NumberNaturals.j5 kj58 l0 l1 t915 t918 bt975.1 true))))) = some r := H
                                have A74 := Aside0.mk A740
                                clear A740
                                replace H := Option.bind_eq_some_iff.mp H
                                obtain ⟨⟨t975, t978⟩, A750, H⟩ := H
                                replace H : ((headendref01_Gcd.f kj58 l0 l1).bind fun bt979 => ((headendref01_Same.f kj58 t975 bt979.1).bind fun t983 => (if t983 = true then (headendlaw01_NumberNaturals.j5 kj58 l0 l1 t915 t918 t975 (t978 != bt979.2)) else (headendlaw01_NumberNaturals.j5 kj58 l0 l1 t915 t918 t975 true)))) = some r := H
                                have A75 := Aside0.mk A750
                                clear A750
                                replace H := Option.bind_eq_some_iff.mp H
                                obtain ⟨⟨t979, t980⟩, A760, H⟩ := H
                                replace H : ((headendref01_Same.f kj58 t975 t979).bind fun t983 => (if t983 = true then (headendlaw01_NumberNaturals.j5 kj58 l0 l1 t915 t918 t975 (t978 != t980)) else (headendlaw01_NumberNaturals.j5 kj58 l0 l1 t915 t918 t975 true))) = some r := H
                                have A76 := Aside0.mk A760
                                clear A760
                                have HC77 := Aside0.mk H
                                clear H
                                obtain ⟨Ao78, co78, eo78⟩ := Kd.R_slice HO_11.out
                                subst eo78
                                go_upto_region 29 with (first | ((with_reducible refine gate_callee (f := 44) rfl ?_); refine goesL_ (some 145) rfl rfl Try.func44 (by kernel_rfl) rfl #[.slice Ao78 t957.length co78] rfl (by (try simp only [List.map_toArray, List.map_cons, List.map_nil]); first | done | rfl | (simp only [List.length_drop, List.length_take]; rfl)) ?_; (with_reducible refine (headendlaw01_spoil.calls kj58 (fun k_ => some k_ = (.slice Ao78 t957.length co78 : Value).ownBlock) (.slice Ao78 t957.length co78) t957 t973 w _ ?side1 ?side2 A73.out).mono ?_); (case side1 => repeat (first | (with_reducible first | exact HB.out | apply below_alloc | apply pw_below_drewN | apply below_drew1) | exact HB.out)); (case side2 => exact Kd.R_tight rfl HO_11.out); rintro e w79 ⟨rfl, hy0, hb, hkp⟩; refine ⟨_, rfl, ?_⟩; have n0_ := Aside0.mk (Kd.R_mono (ok' := fun k_ => some k_ ≠ (.slice Ao11 t918.length co11 : Value).ownBlock ∧ some k_ ≠ (.slice Ao78 t957.length co78 : Value).ownBlock ∧ some k_ ≠ (v961 : Value).ownBlock) (Kd.R_keptB (HO_5.out) hkp (fun k_ hk_ hs_ => (hk_.2.1) hs_)) (fun k_ hk_ => ⟨hk_.1.1, hk_.1.2.1, hk_.1.2.2⟩)); have n1_ := Aside0.mk (Kd.R_mono (ok' := fun k_ => some k_ ≠ (.slice Ao10 t915.length co10 : Value).ownBlock ∧ some k_ ≠ (.slice Ao78 t957.length co78 : Value).ownBlock ∧ some k_ ≠ (v961 : Value).ownBlock) (Kd.R_keptB (HO_6.out) hkp (fun k_ hk_ hs_ => (hk_.2.1) hs_)) (fun k_ hk_ => ⟨hk_.1.1, hk_.1.2.1, hk_.1.2.2⟩)); have n2_ := Aside0.mk (Kd.R_reok rfl hy0 (fun k_ e_ => HO_11.out.1 k_ e_)); have n3_ := Aside0.mk (Kd.R_mono (ok' := fun k_ => some k_ ≠ (.slice Ao10 t915.length co10 : Value).ownBlock ∧ some k_ ≠ (.slice Ao11 t918.length co11 : Value).ownBlock ∧ some k_ ≠ (.slice Ao78 t957.length co78 : Value).ownBlock) (Kd.R_keptB (HO_13.out) hkp (fun k_ hk_ hs_ => (hk_.2.2) hs_)) (fun k_ hk_ => ⟨hk_.1.1, hk_.1.2.1, hk_.1.2.2⟩)); have n4_ := Aside0.mk (hb); clear HO_5; clear HO_6; clear HO_11; clear HO_13; clear HB; have HO_5 := n0_; have HO_6 := n1_; have HO_11 := n2_; have HO_13 := n3_; have HB := n4_; clear n0_ n1_ n2_ n3_ n4_; (try clear hb); (try clear hkp); (try clear hy0); obtain ⟨Ao80, co80, eo80⟩ := Kd.R_slice HO_13.out; subst eo80) | ((with_reducible refine gate_callee (f := 44) rfl ?_); refine goesL_ (some 147) rfl rfl Try.func44 (by kernel_rfl) rfl #[.slice Ao80 t960.length co80] rfl (by (try simp only [List.map_toArray, List.map_cons, List.map_nil]); first | done | rfl | (simp only [List.length_drop, List.length_take]; rfl)) ?_; (with_reducible refine (headendlaw01_spoil.calls kj58 (fun k_ => some k_ = (.slice Ao80 t960.length co80 : Value).ownBlock) (.slice Ao80 t960.length co80) t960 t974 w _ ?side1 ?side2 A74.out).mono ?_); (case side1 => repeat (first | (with_reducible first | exact HB.out | apply below_alloc | apply pw_below_drewN | apply below_drew1) | exact HB.out)); (case side2 => exact Kd.R_tight rfl HO_13.out); rintro e w81 ⟨rfl, hy0, hb, hkp⟩; refine ⟨_, rfl, ?_⟩; have n0_ := Aside0.mk (Kd.R_mono (ok' := fun k_ => some k_ ≠ (.slice Ao11 t918.length co11 : Value).ownBlock ∧ some k_ ≠ (.slice Ao78 t957.length co78 : Value).ownBlock ∧ some k_ ≠ (.slice Ao80 t960.length co80 : Value).ownBlock) (Kd.R_keptB (HO_5.out) hkp (fun k_ hk_ hs_ => (hk_.2.2) hs_)) (fun k_ hk_ => ⟨hk_.1.1, hk_.1.2.1, hk_.1.2.2⟩)); have n1_ := Aside0.mk (Kd.R_mono (ok' := fun k_ => some k_ ≠ (.slice Ao10 t915.length co10 : Value).ownBlock ∧ some k_ ≠ (.slice Ao78 t957.length co78 : Value).ownBlock ∧ some k_ ≠ (.slice Ao80 t960.length co80 : Value).ownBlock) (Kd.R_keptB (HO_6.out) hkp (fun k_ hk_ hs_ => (hk_.2.2) hs_)) (fun k_ hk_ => ⟨hk_.1.1, hk_.1.2.1, hk_.1.2.2⟩)); have n2_ := Aside0.mk (Kd.R_mono (ok' := fun k_ => some k_ ≠ (.slice Ao10 t915.length co10 : Value).ownBlock ∧ some k_ ≠ (.slice Ao11 t918.length co11 : Value).ownBlock ∧ some k_ ≠ (.slice Ao80 t960.length co80 : Value).ownBlock) (Kd.R_keptB (HO_11.out) hkp (fun k_ hk_ hs_ => (hk_.2.2) hs_)) (fun k_ hk_ => ⟨hk_.1.1, hk_.1.2.1, hk_.1.2.2⟩)); have n3_ := Aside0.mk (Kd.R_reok rfl hy0 (fun k_ e_ => HO_13.out.1 k_ e_)); have n4_ := Aside0.mk (hb); clear HO_5; clear HO_6; clear HO_11; clear HO_13; clear HB; have HO_5 := n0_; have HO_6 := n1_; have HO_11 := n2_; have HO_13 := n3_; have HB := n4_; clear n0_ n1_ n2_ n3_ n4_; (try clear hb); (try clear hkp); (try clear hy0)) | ((with_reducible refine gate_callee (f := 61) rfl ?_); refine goesL_ (some 151) rfl rfl Try.func61 (by kernel_rfl) rfl #[.slice Ao10 t915.length co10, .slice Ao11 t918.length co11] rfl (by (try simp only [List.map_toArray, List.map_cons, List.map_nil]); first | done | rfl | (simp only [List.length_drop, List.length_take]; rfl)) ?_; (with_reducible refine (number_Gcd.calls kj58 (fun k_ => some k_ = (.slice Ao10 t915.length co10 : Value).ownBlock) _ _ t915 (fun k_ => some k_ = (.slice Ao11 t918.length co11 : Value).ownBlock) _ _ t918 t975 t978 _ ?side1 ?side2 A75.out).mono ?_); (case side1 => exact Kd.R_V (Kd.R_tight rfl (HO_5.out))); (case side2 => exact Kd.R_V (Kd.R_tight rfl (HO_6.out))); rintro e w82 ⟨v976, rfl, ho0, hb⟩; refine ⟨_, rfl, ?_⟩; have n0_ := Aside0.mk (Kd.R_elder' (by (with_reducible repeat (first | apply Kd.R_alloc | apply Kd.R_drewN | apply Kd.R_drew)); exact HO_5.out) (Kd.R_base ho0) hb); have n1_ := Aside0.mk (Kd.R_elder' (by (with_reducible repeat (first | apply Kd.R_alloc | apply Kd.R_drewN | apply Kd.R_drew)); exact HO_6.out) (Kd.R_base ho0) hb); have n2_ := Aside0.mk (Kd.R_elder' (by (with_reducible repeat (first | apply Kd.R_alloc | apply Kd.R_drewN | apply Kd.R_drew)); exact HO_11.out) (Kd.R_base ho0) hb); have n3_ := Aside0.mk (Kd.R_elder' (by (with_reducible repeat (first | apply Kd.R_alloc | apply Kd.R_drewN | apply Kd.R_drew)); exact HO_13.out) (Kd.R_base ho0) hb); have n4_ := Aside0.mk (Kd.R_lower (Kd.R_new' (Kd.R_new' (Kd.R_new' (Kd.R_new' (Kd.R_mono (ok' := fun k_ => True) ho0 (fun _ hk_ => trivial)) (Kd.R_lt (by (with_reducible repeat (first | apply Kd.R_alloc | apply Kd.R_drewN | apply Kd.R_drew)); exact HO_5.out))) (Kd.R_lt (by (with_reducible repeat (first | apply Kd.R_alloc | apply Kd.R_drewN | apply Kd.R_drew)); exact HO_6.out))) (Kd.R_lt (by (with_reducible repeat (first | apply Kd.R_alloc | apply Kd.R_drewN | apply Kd.R_drew)); exact HO_11.out))) (Kd.R_lt (by (with_reducible repeat (first | apply Kd.R_alloc | apply Kd.R_drewN | apply Kd.R_drew)); exact HO_13.out))) (below_size (by repeat (first | (with_reducible first | exact HB.out | apply below_alloc | apply pw_below_drewN | apply below_drew1) | exact HB.out)))); have n5_ := Aside0.mk (below_step (by repeat (first | (with_reducible first | exact HB.out | apply below_alloc | apply pw_below_drewN | apply below_drew1) | exact HB.out)) hb); clear HO_5; clear HO_6; clear HO_11; clear HO_13; clear HB; have HO_5 := n0_; have HO_6 := n1_; have HO_11 := n2_; have HO_13 := n3_; have HO977 := n4_; have HB := n5_; clear n0_ n1_ n2_ n3_ n4_ n5_; (try clear hb); (try clear hb2); (try clear hk); (try clear hi); (try clear ho0)) | ((with_reducible refine gate_callee (f := 62) rfl ?_); refine goesL_ (some 157) rfl rfl Try.func62 (by kernel_rfl) rfl #[.slice A0 l0.length c0, .slice A1 l1.length c1] rfl (by (try simp only [List.map_toArray, List.map_cons, List.map_nil]); first | done | rfl | (simp only [List.length_drop, List.length_take]; rfl)) ?_; (with_reducible refine (headendref01_Gcd.calls kj58 _ _ l0 _ _ l1 t979 t980 _ ?side1 ?side2 ?side3 ?side4 A76.out).mono ?_); (case side1 => repeat (first | exact (Kd.C_below HR0.out HB.out) | (with_reducible refine Kd.C_alloc ?_ _) | (with_reducible refine Kd.C_drewN ?_ _) | (with_reducible refine Kd.C_drew ?_))); (case side2 => exact HC0.out); (case side3 => repeat (first | exact (Kd.C_below HR1.out HB.out) | (with_reducible refine Kd.C_alloc ?_ _) | (with_reducible refine Kd.C_drewN ?_ _) | (with_reducible refine Kd.C_drew ?_))); (case side4 => exact HC1.out); rintro e w83 ⟨v981, rfl, ho0, hb⟩; refine ⟨_, rfl, ?_⟩; have n0_ := Aside0.mk (Kd.R_elder' (by (with_reducible repeat (first | apply Kd.R_alloc | apply Kd.R_drewN | apply Kd.R_drew)); exact HO_5.out) (Kd.R_base ho0) hb); have n1_ := Aside0.mk (Kd.R_elder' (by (with_reducible repeat (first | apply Kd.R_alloc | apply Kd.R_drewN | apply Kd.R_drew)); exact HO_6.out) (Kd.R_base ho0) hb); have n2_ := Aside0.mk (Kd.R_elder' (by (with_reducible repeat (first | apply Kd.R_alloc | apply Kd.R_drewN | apply Kd.R_drew)); exact HO_11.out) (Kd.R_base ho0) hb); have n3_ := Aside0.mk (Kd.R_elder' (by (with_reducible repeat (first | apply Kd.R_alloc | apply Kd.R_drewN | apply Kd.R_drew)); exact HO_13.out) (Kd.R_base ho0) hb); have n4_ := Aside0.mk (Kd.R_elder' (by (with_reducible repeat (first | apply Kd.R_alloc | apply Kd.R_drewN | apply Kd.R_drew)); exact HO977.out) (Kd.R_base ho0) hb); have n5_ := Aside0.mk (Kd.R_lower (Kd.R_new' (Kd.R_new' (Kd.R_new' (Kd.R_new' (Kd.R_new' ho0 (Kd.R_lt (by (with_reducible repeat (first | apply Kd.R_alloc | apply Kd.R_drewN | apply Kd.R_drew)); exact HO_5.out))) (Kd.R_lt (by (with_reducible repeat (first | apply Kd.R_alloc | apply Kd.R_drewN | apply Kd.R_drew)); exact HO_6.out))) (Kd.R_lt (by (with_reducible repeat (first | apply Kd.R_alloc | apply Kd.R_drewN | apply Kd.R_drew)); exact HO_11.out))) (Kd.R_lt (by (with_reducible repeat (first | apply Kd.R_alloc | apply Kd.R_drewN | apply Kd.R_drew)); exact HO_13.out))) (Kd.R_lt (by (with_reducible repeat (first | apply Kd.R_alloc | apply Kd.R_drewN | apply Kd.R_drew)); exact HO977.out))) (below_size (by repeat (first | (with_reducible first | exact HB.out | apply below_alloc | apply pw_below_drewN | apply below_drew1) | exact HB.out)))); have n6_ := Aside0.mk (below_step (by repeat (first | (with_reducible first | exact HB.out | apply below_alloc | apply pw_below_drewN | apply below_drew1) | exact HB.out)) hb); clear HO_5; clear HO_6; clear HO_11; clear HO_13; clear HO977; clear HB; have HO_5 := n0_; have HO_6 := n1_; have HO_11 := n2_; have HO_13 := n3_; have HO977 := n4_; have HO982 := n5_; have HB := n6_; clear n0_ n1_ n2_ n3_ n4_ n5_ n6_; (try clear hb); (try clear hb2); (try clear hk); (try clear hi); (try clear ho0)))
                                (try simp only [Act.put, List.setIfInBounds_toArray, List.set_cons_zero, List.set_cons_succ])
                                go_cut [168] (fun v168 wc => ∃ (kq : Nat) (x168_76 : Bool), v168 = .bool x168_76 ∧ Aside0 (headendlaw01_NumberNaturals.j5 kq l0 l1 t915 t918 t975 x168_76 = some r) ∧ Aside0 (kq ≤ kj58) ∧ Aside0 (Kd.R (Kd.int .u32) 84 wc w.heap.size (fun k_ => some k_ ≠ ((.slice Ao11 t918.length co11) : Value).ownBlock ∧ some k_ ≠ (v976 : Value).ownBlock) (.slice Ao10 t915.length co10) t915) ∧ Aside0 (Kd.R (Kd.int .u32) 84 wc w.heap.size (fun k_ => some k_ ≠ ((.slice Ao10 t915.length co10) : Value).ownBlock ∧ some k_ ≠ (v976 : Value).ownBlock) (.slice Ao11 t918.length co11) t918) ∧ Aside0 (Kd.R (Kd.int .u32) 84 wc w.heap.size (fun k_ => some k_ ≠ ((.slice Ao10 t915.length co10) : Value).ownBlock ∧ some k_ ≠ ((.slice Ao11 t918.length co11) : Value).ownBlock) v976 t975) ∧ Aside0 (Below w.heap.size w wc))
                                case first =>
                                  have H := HC77.out
                                  clear HC77
                                  replace H := Option.bind_eq_some_iff.mp H
                                  obtain ⟨t983, A840, H⟩ := H
                                  replace H : (if t983 = true then (headendlaw01_NumberNaturals.j5 kj58 l0 l1 t915 t918 t975 (t978 != t980)) else (headendlaw01_NumberNaturals.j5 kj58 l0 l1 t915 t918 t975 true)) = some r := H
                                  have A84 := Aside0.mk A840
                                  clear A840
                                  by_cases c85 : t983 = true
                                  · subst c85
                                    have H1 : (headendlaw01_NumberNaturals.j5 kj58 l0 l1 t915 t918 t975 (t978 != t980)) = some r := by rw [if_pos rfl] at H; exact H
                                    clear H
                                    have H := H1
                                    clear H1
                                    have H' := Aside0.mk H
                                    clear H
                                    obtain ⟨Ao86, co86, eo86⟩ := Kd.R_slice HO977.out
                                    subst eo86
                                    obtain ⟨Ao87, co87, eo87⟩ := Kd.R_slice HO982.out
                                    subst eo87
                                    go_wp2_with (first | ((with_reducible refine gate_callee (f := 31) rfl ?_); refine goesL_ (some 162) rfl rfl Try.func31 (by kernel_rfl) rfl #[.slice Ao86 t975.length co86, .slice Ao87 t979.length co87] rfl (by (try simp only [List.map_toArray, List.map_cons, List.map_nil]); first | done | rfl | (simp only [List.length_drop, List.length_take]; rfl)) ?_; (with_reducible refine (headendref01_Same.calls kj58 _ _ t975 _ _ t979 true _ ?side1 ?side2 ?side3 ?side4 A84.out).mono ?_); (case side1 => repeat (first | exact (Kd.R_reads' HO977.out).2.2 | (with_reducible refine Kd.C_alloc ?_ _) | (with_reducible refine Kd.C_drewN ?_ _) | (with_reducible refine Kd.C_drew ?_))); (case side2 => exact (Kd.R_reads' HO977.out).2.1); (case side3 => repeat (first | exact (Kd.R_reads' HO982.out).2.2 | (with_reducible refine Kd.C_alloc ?_ _) | (with_reducible refine Kd.C_drewN ?_ _) | (with_reducible refine Kd.C_drew ?_))); (case side4 => exact (Kd.R_reads' HO982.out).2.1); rintro e w' ⟨rfl, ⟨nd, rfl⟩⟩; refine ⟨_, rfl, ?_⟩))
                                    go_meet
                                    case rel => exact ⟨_, ((t978 != t980)), (by first | rfl | (simp; done) | (simp [*]; done)), H', ⟨by have := HJ6.out; have := HJ21.out; have := HJ32.out; have := HJ45.out; have := HJ58.out; first | omega | exact Nat.le_refl _⟩, ⟨by (with_reducible repeat (first | apply Kd.R_alloc | apply Kd.R_drewN | apply Kd.R_drew)); exact Kd.R_mono HO_5.out (fun _ hk => ⟨hk.1.1.1, hk.1.2⟩)⟩, ⟨by (with_reducible repeat (first | apply Kd.R_alloc | apply Kd.R_drewN | apply Kd.R_drew)); exact Kd.R_mono HO_6.out (fun _ hk => ⟨hk.1.1.1, hk.1.2⟩)⟩, ⟨by (with_reducible repeat (first | apply Kd.R_alloc | apply Kd.R_drewN | apply Kd.R_drew)); exact Kd.R_mono HO977.out (fun _ hk => ⟨hk.1.1.1.1.2, hk.1.1.1.2⟩)⟩, ⟨by repeat (first | (with_reducible first | exact HB.out | apply below_alloc | apply pw_below_drewN | apply below_drew1) | exact HB.out)⟩⟩
                                  · replace c85 := Bool.eq_false_iff.mpr c85
                                    subst c85
                                    have H1 : (headendlaw01_NumberNaturals.j5 kj58 l0 l1 t915 t918 t975 true) = some r := by rw [if_neg (show ¬ (false = true) by decide)] at H; exact H
                                    clear H
                                    have H := H1
                                    clear H1
                                    cases kj58 with
                                    | zero => exact absurd H (by simp [headendlaw01_NumberNaturals.j5])
                                    | succ kd_ => (simp only [headendlaw01_NumberNaturals.j5] at H; (try rw [if_pos rfl] at H); obtain rfl := Option.some.inj H; exact absurd HRR.out Bool.false_ne_true)
                                case rest =>
                                  clear HC77
                                  try clear c1
                                  try clear c2
                                  try clear p2
                                  try clear c3
                                  try clear c4
                                  try clear c5
                                  try clear c6
                                  try clear c7
                                  try clear c8
                                  try clear c14
                                  try clear c14b0
                                  try clear c14b1
                                  try clear c15
                                  try clear c15b0
                                  try clear c15b1
                                  try clear c19
                                  try clear c26
                                  try clear c29
                                  try clear c31
                                  try clear c34
                                  try clear c39
                                  try clear c42
                                  try clear c44
                                  try clear c49
                                  try clear c50
                                  try clear c51
                                  try clear c52
                                  try clear c55
                                  try clear c56
                                  try clear c57
                                  try clear c58
                                  try clear c59
                                  try clear c60
                                  try clear c61
                                  try clear c62
                                  try clear c65
                                  try clear c67
                                  try clear c72
                                  try clear c85
                                  try clear p2
                                  obtain ⟨kq, x168_76, rfl, HA, HJ76, HO_5, HO_6, HO_11, HB⟩ := hcut
                                  cases kq with
                                  | zero => exact absurd HA.out (by simp [headendlaw01_NumberNaturals.j5])
                                  | succ kj76 =>
                                    have H := HA.out
                                    clear HA
                                    simp only [headendlaw01_NumberNaturals.j5] at H
                                    by_cases c88 : x168_76 = true
                                    · subst c88
                                      have H1 : (some false) = some r := by rw [if_pos rfl] at H; exact H
                                      clear H
                                      have H := H1
                                      clear H1
                                      obtain rfl := Option.some.inj H
                                      exact absurd HRR.out Bool.false_ne_true
                                    · replace c88 := Bool.eq_false_iff.mpr c88
                                      subst c88
                                      have H1 : ((headendlaw01_spoil.f kj76 t975).bind fun t984 => ((headendref01_Same.f kj76 t915 l0).bind fun t985 => (if t985 = true then ((headendref01_Same.f kj76 t918 l1).bind fun t986 => (some t986)) else (some false)))) = some r := by rw [if_neg (show ¬ (false = true) by decide)] at H; exact H
                                      clear H
                                      have H := H1
                                      clear H1
                                      replace H := Option.bind_eq_some_iff.mp H
                                      obtain ⟨t984, A890, H⟩ := H
                                      replace H : ((headendref01_Same.f kj76 t915 l0).bind fun t985 => (if t985 = true then ((headendref01_Same.f kj76 t918 l1).bind fun t986 => (some t986)) else (some false))) = some r := H
                                      have A89 := Aside0.mk A890
                                      clear A890
                                      replace H := Option.bind_eq_some_iff.mp H
                                      obtain ⟨t985, A900, H⟩ := H
                                      replace H : (if t985 = true then ((headendref01_Same.f kj76 t918 l1).bind fun t986 => (some t986)) else (some false)) = some r := H
                                      have A90 := Aside0.mk A900
                                      clear A900
                                      by_cases c91 : t985 = true
                                      · subst c91
                                        have H1 : ((headendref01_Same.f kj76 t918 l1).bind fun t986 => (some t986)) = some r := by rw [if_pos rfl] at H; exact H
                                        clear H
                                        have H := H1
                                        clear H1
                                        replace H := Option.bind_eq_some_iff.mp H
                                        obtain ⟨t986, A920, H⟩ := H
                                        replace H : (some t986) = some r := H
                                        have A92 := Aside0.mk A920
                                        clear A920
                                        obtain rfl := Option.some.inj H
                                        obtain ⟨Ao93, co93, eo93⟩ := Kd.R_slice HO_11.out
                                        subst eo93
                                        go_wp2_with (first | ((with_reducible refine gate_callee (f := 44) rfl ?_); refine goesL_ (some 170) rfl rfl Try.func44 (by kernel_rfl) rfl #[.slice Ao93 t975.length co93] rfl (by (try simp only [List.map_toArray, List.map_cons, List.map_nil]); first | done | rfl | (simp only [List.length_drop, List.length_take]; rfl)) ?_; (with_reducible refine (headendlaw01_spoil.calls kj76 (fun k_ => some k_ = (.slice Ao93 t975.length co93 : Value).ownBlock) (.slice Ao93 t975.length co93) t975 t984 w _ ?side1 ?side2 A89.out).mono ?_); (case side1 => repeat (first | (with_reducible first | exact HB.out | apply below_alloc | apply pw_below_drewN | apply below_drew1) | exact HB.out)); (case side2 => exact Kd.R_tight rfl HO_11.out); rintro e w94 ⟨rfl, hy0, hb, hkp⟩; refine ⟨_, rfl, ?_⟩; have n0_ := Aside0.mk (Kd.R_mono (ok' := fun k_ => some k_ ≠ (.slice Ao11 t918.length co11 : Value).ownBlock ∧ some k_ ≠ (.slice Ao93 t975.length co93 : Value).ownBlock) (Kd.R_keptB (HO_5.out) hkp (fun k_ hk_ hs_ => (hk_.2) hs_)) (fun k_ hk_ => ⟨hk_.1.1, hk_.1.2⟩)); have n1_ := Aside0.mk (Kd.R_mono (ok' := fun k_ => some k_ ≠ (.slice Ao10 t915.length co10 : Value).ownBlock ∧ some k_ ≠ (.slice Ao93 t975.length co93 : Value).ownBlock) (Kd.R_keptB (HO_6.out) hkp (fun k_ hk_ hs_ => (hk_.2) hs_)) (fun k_ hk_ => ⟨hk_.1.1, hk_.1.2⟩)); have n2_ := Aside0.mk (Kd.R_reok rfl hy0 (fun k_ e_ => HO_11.out.1 k_ e_)); have n3_ := Aside0.mk (hb); clear HO_5; clear HO_6; clear HO_11; clear HB; have HO_5 := n0_; have HO_6 := n1_; have HO_11 := n2_; have HB := n3_; clear n0_ n1_ n2_ n3_; (try clear hb); (try clear hkp); (try clear hy0)) | ((with_reducible refine gate_callee (f := 31) rfl ?_); refine goesL_ (some 173) rfl rfl Try.func31 (by kernel_rfl) rfl #[.slice Ao10 t915.length co10, .slice A0 l0.length c0] rfl (by (try simp only [List.map_toArray, List.map_cons, List.map_nil]); first | done | rfl | (simp only [List.length_drop, List.length_take]; rfl)) ?_; (with_reducible refine (headendref01_Same.calls kj76 _ _ t915 _ _ l0 true _ ?side1 ?side2 ?side3 ?side4 A90.out).mono ?_); (case side1 => repeat (first | exact (Kd.R_reads' HO_5.out).2.2 | (with_reducible refine Kd.C_alloc ?_ _) | (with_reducible refine Kd.C_drewN ?_ _) | (with_reducible refine Kd.C_drew ?_))); (case side2 => exact (Kd.R_reads' HO_5.out).2.1); (case side3 => repeat (first | exact (Kd.C_below HR0.out HB.out) | (with_reducible refine Kd.C_alloc ?_ _) | (with_reducible refine Kd.C_drewN ?_ _) | (with_reducible refine Kd.C_drew ?_))); (case side4 => exact HC0.out); rintro e w' ⟨rfl, ⟨nd, rfl⟩⟩; refine ⟨_, rfl, ?_⟩) | (go_at_call 31; (with_reducible refine (headendref01_Same.calls kj76 _ _ t918 _ _ l1 t986 _ ?side1 ?side2 ?side3 ?side4 A92.out).mono ?_); (case side1 => repeat (first | exact (Kd.R_reads' HO_6.out).2.2 | (with_reducible refine Kd.C_alloc ?_ _) | (with_reducible refine Kd.C_drewN ?_ _) | (with_reducible refine Kd.C_drew ?_))); (case side2 => exact (Kd.R_reads' HO_6.out).2.1); (case side3 => repeat (first | exact (Kd.C_below HR1.out (by repeat (first | (with_reducible first | exact HB.out | apply below_alloc | apply pw_below_drewN | apply below_drew1) | exact HB.out))) | (with_reducible refine Kd.C_alloc ?_ _) | (with_reducible refine Kd.C_drewN ?_ _) | (with_reducible refine Kd.C_drew ?_))); (case side4 => exact HC1.out); rintro e w' ⟨rfl, ⟨nd, rfl⟩⟩))
                                        go_ret
                                        exact ⟨by first | rfl | (simp [errW_none, errW_some] <;> rfl) | (simp [*, errW_none, errW_some] <;> rfl), by repeat (first | (with_reducible first | exact HB.out | apply below_alloc | apply pw_below_drewN | apply below_drew1) | exact HB.out)⟩
                                      · replace c91 := Bool.eq_false_iff.mpr c91
                                        subst c91
                                        have H1 : (some false) = some r := by rw [if_neg (show ¬ (false = true) by decide)] at H; exact H
                                        clear H
                                        have H := H1
                                        clear H1
                                        obtain rfl := Option.some.inj H
                                        exact absurd HRR.out Bool.false_ne_true
/-- THE ONE PURE STATEMENT of headendlaw01_NumberNaturals: yours. -/
def headendlaw01_NumberNaturals.Pure : Prop := ∀ (l0 : List Int) (l1 : List Int), l0.length ≤ maxLen → l0.length * 4 ≤ 140737488351232 → (∀ x ∈ l0, (Lit.int .u32 x).wf = true) → l1.length ≤ maxLen → l1.length * 4 ≤ 140737488351232 → (∀ x ∈ l1, (Lit.int .u32 x).wf = true) → ∃ k, headendlaw01_NumberNaturals.f k l0 l1 = some true
theorem headendlaw01_NumberNaturals.walk (P : headendlaw01_NumberNaturals.Pure) (a0 : Option Addr) (len0 cap0 : Nat) (z0 : List Int) (a1 : Option Addr) (len1 cap1 : Nat) (z1 : List Int) (w : World) (w0 : (a0 = none ∧ len0 = 0 ∧ cap0 = 0 ∧ z0 = []) ∨ ∃ x, a0 = some x ∧ len0 ≤ cap0 ∧ cap0 ≤ maxLen ∧ z0.length = cap0 ∧ (∀ i, i < z0.length → w.cell? (x.add i) = some (.int .u32 (z0.getD i 0))) ∧ ∀ n ∈ z0, (Lit.int .u32 n).wf = true) (y0 : len0 * 4 ≤ 140737488351232) (w1 : (a1 = none ∧ len1 = 0 ∧ cap1 = 0 ∧ z1 = []) ∨ ∃ x, a1 = some x ∧ len1 ≤ cap1 ∧ cap1 ≤ maxLen ∧ z1.length = cap1 ∧ (∀ i, i < z1.length → w.cell? (x.add i) = some (.int .u32 (z1.getD i 0))) ∧ ∀ n ∈ z1, (Lit.int .u32 n).wf = true) (y1 : len1 * 4 ≤ 140737488351232) :
    Calls Try.prog 8 #[.slice a0 len0 cap0, .slice a1 len1 cap1] w fun e w' => e = .returned (.bool true) ∧ Below w.heap.size w w' := by
  obtain ⟨l0, rfl, hr0, hm0, hw0, hc0⟩ := ReadsInt.ofRowC w0
  obtain ⟨l1, rfl, hr1, hm1, hw1, hc1⟩ := ReadsInt.ofRowC w1
  obtain ⟨k, h⟩ := P l0 l1 hm0 y0 hw0 hm1 y1 hw1
  refine (headendlaw01_NumberNaturals.calls k _ _ l0 _ _ l1 true w (Kd.C_of_reads (d := (0 : Int)) (h1 := fun _ => rfl) hr0) hc0 (Kd.C_of_reads (d := (0 : Int)) (h1 := fun _ => rfl) hr1) hc1 h rfl).mono ?_
  rintro e w' ⟨rfl, hd⟩
  exact ⟨rfl, hd⟩
end Go.Proofs.Ythhgfogdeaaidaa.R

