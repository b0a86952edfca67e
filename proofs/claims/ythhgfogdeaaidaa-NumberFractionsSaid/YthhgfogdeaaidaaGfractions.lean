/- headendlaw01.NumberFractions: the walk, from what the functions it calls answer. -/
import Derived.Test.YthhgfogdeaaidaaR0
import Derived.Test.YthhgfogdeaaidaaR13
import Derived.Test.YthhgfogdeaaidaaR16
import Derived.Test.YthhgfogdeaaidaaR14
import Derived.Test.YthhgfogdeaaidaaR15
import Derived.Test.YthhgfogdeaaidaaR17
import Derived.Test.YthhgfogdeaaidaaR7
import Derived.Test.YthhgfogdeaaidaaR18
import Derived.Test.YthhgfogdeaaidaaGcross
import Derived.Test.YthhgfogdeaaidaaGalive
import Derived.Deep.RegionHeld3
import Derived.WalkMore
namespace Go.Proofs.Ythhgfogdeaaidaa.R
open Go.RowKit Go.Proofs.YthhgfogdeaaidaaW.PrintWords Go.Proofs.YthhgfogdeaaidaaW.PrintLast Go.Proofs.YthhgfogdeaaidaaW.PrintMore
set_option linter.unusedVariables false
set_option linter.unusedSimpArgs false
attribute [local go_sem] Oper.semAt_some
theorem fr_four {W : World} {a b c d : Value × List Int} {L : List (Value × List Int)} (h : Live W L) (ha : a ∈ L) (hb : b ∈ L) (hc : c ∈ L) (hd : d ∈ L) : Live W [a, b, c, d] := fun p hp => h p (by
  rcases List.mem_cons.1 hp with rfl | hp
  · exact ha
  · rcases List.mem_cons.1 hp with rfl | hp
    · exact hb
    · rcases List.mem_cons.1 hp with rfl | hp
      · exact hc
      · rcases List.mem_cons.1 hp with rfl | hp
        · exact hd
        · cases hp)
theorem joinH {P : Program} {ops : Array Oper} {Q : Exit → Act → World → Prop} {md : Region.Mode} {S : World → Prop} {σ : Type} {fuel : Nat} {l : Array Bool} {a : Act} {w : World} (fuel' : Nat) (l' : Array Bool) (ns : σ → List (Tmp × Value)) (F : σ → World → Prop)
    (hcont : ∀ s w', F s w' → wpAnyH P md ops Q S fuel' l' (putAll a (ns s)) w')
    (h : (∀ s w', F s w' → wpAnyH P md ops Q S fuel' l' (putAll a (ns s)) w') → wpAnyH P md ops Q S fuel l a w) : wpAnyH P md ops Q S fuel l a w := h hcont
def LiveN (n : Nat) (W : World) (L : List (Value × List Int)) : Prop := ∀ p ∈ L, Kd.V (Kd.int .u32) 84 W 0 (fun k => k < n) p.1 p.2
theorem liveN_start {W : World} {L : List (Value × List Int)} (h : Live W L) : LiveN W.heap.size W L := fun p hp => Kd.V_mono (Kd.V_bound (h p hp)) (fun k hk => hk.2)
theorem liveN_below {n : Nat} {W W1 : World} {L : List (Value × List Int)} (h : LiveN n W L) (hb : Below W.heap.size W W1) : LiveN n W1 L := fun p hp => Kd.V_below (h p hp) hb
theorem liveN_alloc {n : Nat} {W : World} {L : List (Value × List Int)} (h : LiveN n W L) (o : Obj) : LiveN n (W.alloc o) L := fun p hp => Kd.V_alloc (h p hp) o
theorem liveN_drew {n : Nat} {W : World} {L : List (Value × List Int)} (h : LiveN n W L) : LiveN n W.drew L := fun p hp => Kd.V_drew (h p hp)
theorem liveN_drewN {n : Nat} {W : World} {L : List (Value × List Int)} (h : LiveN n W L) (m : Nat) : LiveN n (W.drewN m) L := fun p hp => Kd.V_drewN (h p hp) m
theorem liveN_far {n : Nat} {W : World} {L : List (Value × List Int)} (h : LiveN n W L) {p : Addr} (hp : n ≤ p.block) (u : Value) : LiveN n (W.setCell p u) L := fun q hq => Kd.V_far (h q hq) (fun k hk => by have : k < n := hk; omega) u
theorem liveN_kept {n : Nat} {W W1 : World} {S : Nat → Prop} {L : List (Value × List Int)} (h : LiveN n W L) (hk : Kept W W1 S) (hS : ∀ k, S k → n ≤ k) : LiveN n W1 L := fun q hq => Kd.V_kept (h q hq) hk (fun k hk' hs => by have := hS k hs; have : k < n := hk'; omega)
theorem liveN_live {n : Nat} {W : World} {L : List (Value × List Int)} (h : LiveN n W L) : Live W L := fun p hp => Kd.V_mono (h p hp) (fun _ _ => trivial)
def LiveR (b : Nat) (ok : Nat → Prop) (W : World) (L : List (Value × List Int)) : Prop := ∀ p ∈ L, Kd.R (Kd.int .u32) 84 W b ok p.1 p.2
theorem liveR_nil (b : Nat) (ok : Nat → Prop) (W : World) : LiveR b ok W [] := fun p h => by cases h
theorem liveR_below {b : Nat} {ok : Nat → Prop} {W W1 : World} {L : List (Value × List Int)} (h : LiveR b ok W L) (hb : Below W.heap.size W W1) : LiveR b ok W1 L := fun p hp => Kd.R_below (h p hp) hb
theorem liveR_alloc {b : Nat} {ok : Nat → Prop} {W : World} {L : List (Value × List Int)} (h : LiveR b ok W L) (o : Obj) : LiveR b ok (W.alloc o) L := fun p hp => Kd.R_alloc (h p hp) o
theorem liveR_drew {b : Nat} {ok : Nat → Prop} {W : World} {L : List (Value × List Int)} (h : LiveR b ok W L) : LiveR b ok W.drew L := fun p hp => Kd.R_drew (h p hp)
theorem liveR_drewN {b : Nat} {ok : Nat → Prop} {W : World} {L : List (Value × List Int)} (h : LiveR b ok W L) (m : Nat) : LiveR b ok (W.drewN m) L := fun p hp => Kd.R_drewN (h p hp) m
theorem liveR_add {b b' : Nat} {ok : Nat → Prop} {W : World} {L : List (Value × List Int)} {v : Value} {xs : List Int} (h : LiveR b (fun _ => True) W L) (hv : Kd.R (Kd.int .u32) 84 W b' ok v xs) (hb : b ≤ b') : LiveR b (fun _ => True) W ((v, xs) :: L) := fun p hp => by
  rcases List.mem_cons.1 hp with rfl | hp
  · exact Kd.R_mono (Kd.R_lower hv hb) (fun _ _ => trivial)
  · exact h p hp
theorem r_store {b g : Nat} {ok : Nat → Prop} {W : World} {v : Value} {xs : List Int} {cs : Array Value} (h : Kd.R (Kd.int .u32) 84 W b ok v xs) (hg : W.heap[g]? = some (.cells cs 54 (0, 0))) (i : Nat) (u : Value) : Kd.R (Kd.int .u32) 84 (W.setCell ⟨g, i, none⟩ u) b ok v xs :=
  Kd.R_mono (Kd.R_far (Kd.R_types h hg (by decide)) (fun _ hk => hk.2) u) (fun _ hk => hk.1)
theorem liveR_store {b g : Nat} {ok : Nat → Prop} {W : World} {L : List (Value × List Int)} {cs : Array Value} (h : LiveR b ok W L) (hg : W.heap[g]? = some (.cells cs 54 (0, 0))) (i : Nat) (u : Value) : LiveR b ok (W.setCell ⟨g, i, none⟩ u) L := fun p hp => r_store (h p hp) hg i u
theorem liveR_bound {b : Nat} {ok : Nat → Prop} {W : World} {L : List (Value × List Int)} (h : LiveR b ok W L) : LiveR b (fun k => k < W.heap.size) W L := fun p hp => Kd.R_mono (Kd.R_bound (h p hp)) (fun k hk => hk.2.2.1)
theorem liveR_kept {b : Nat} {ok S : Nat → Prop} {W W1 : World} {L : List (Value × List Int)} (h : LiveR b ok W L) (hk : Kept W W1 S) (hS : ∀ k, ok k → ¬ S k) : LiveR b ok W1 L := fun p hp => Kd.R_step (h p hp) (fun k ho hl => hk.2 k hl (hS k ho))
theorem liveR_live {b : Nat} {ok : Nat → Prop} {W : World} {L : List (Value × List Int)} (h : LiveR b ok W L) : Live W L := fun p hp => Kd.V_mono (Kd.R_V (h p hp)) (fun _ _ => trivial)
theorem liveR_sub {b : Nat} {ok : Nat → Prop} {W : World} {L M : List (Value × List Int)} (h : LiveR b ok W L) (hs : ∀ p ∈ M, p ∈ L) : LiveR b ok W M := fun p hp => h p (hs p hp)
theorem liveR_true {b : Nat} {ok : Nat → Prop} {W : World} {L : List (Value × List Int)} (h : LiveR b ok W L) : LiveR b (fun _ => True) W L := fun p hp => Kd.R_mono (h p hp) (fun _ _ => trivial)
theorem NN_ {n : Nat} {W : World} {L : List (Value × List Int)} (h : LiveN n W L := by (repeat (first | exact HN.out | apply liveN_alloc | apply liveN_drewN | apply liveN_drew))) : LiveN n W L := h
theorem NR_ {b : Nat} {ok : Nat → Prop} {W : World} {L : List (Value × List Int)} (h : LiveR b ok W L := by (repeat (first | exact HR.out | apply liveR_alloc | apply liveR_drewN | apply liveR_drew))) : LiveR b ok W L := h
theorem live_app {W : World} {L M : List (Value × List Int)} (h : Live W L) (h2 : Live W M) : Live W (L ++ M) := fun p hp => (List.mem_append.1 hp).elim (h p) (h2 p)
theorem normH {P : Program} {ops : Array Oper} {Q : Exit → Act → World → Prop} {md : Region.Mode} {S : World → Prop} {fuel : Nat} {l : Array Bool} {a a' : Act} {w : World} (ha : a = a') (h : wpAnyH P md ops Q S fuel l a' w) : wpAnyH P md ops Q S fuel l a w := by
  subst ha
  exact h
set_option maxRecDepth 1000000 in
set_option maxHeartbeats 16000000 in
theorem fractions_walk (k : Nat) (A0 : Option Addr) (c0 : Nat) (l0 : List Int) (A1 : Option Addr) (c1 : Nat) (l1 : List Int) (A2 : Option Addr) (c2 : Nat) (l2 : List Int) (A3 : Option Addr) (c3 : Nat) (l3 : List Int) (A4 : Option Addr) (c4 : Nat) (l4 : List Int) (A5 : Option Addr) (c5 : Nat) (l5 : List Int) (rn rd an ad un ud p1 p2 p3 p4 : List Int) (re ke cn ce ae ue : Int) (w : World) (hL : Live w [(.slice A0 l0.length c0, l0), (.slice A1 l1.length c1, l1), (.slice A2 l2.length c2, l2), (.slice A3 l3.length c3, l3), (.slice A4 l4.length c4, l4), (.slice A5 l5.length c5, l5)])
    (hT2 : headendlaw01_twin.f l2 = some l2)
    (hT3 : headendlaw01_twin.f l3 = some l3)
    (hR1 : number_Ratio.f k l0 l1 = some (rn, rd, re))
    (hR2 : headendref01_Ratio.f k l0 l1 = some (rn, rd, re))
    (hS1 : headendref01_SameFraction.f k rn rd rn rd = some true)
    (hK1 : number_CheckFraction.f k l2 l3 = some ke)
    (hK2 : headendref01_CheckFraction.f k l2 l3 = some ke)
    (hC1_ : number_CompareFractions.f k l2 l3 l4 l5 = some (cn, ce))
    (hC2_ : headendref01_CompareFractions.f k l2 l3 l4 l5 = some (cn, ce))
    (hA1_ : number_AddFractions.f k l2 l3 l4 l5 = some (an, ad, ae))
    (hA2_ : headendref01_AddFractions.f k l2 l3 l4 l5 = some (an, ad, ae))
    (hS2 : headendref01_SameFraction.f k an ad an ad = some true)
    (hP1 : headendlaw01_spoil.f k an = some p1)
    (hP2 : headendlaw01_spoil.f k ad = some p2)
    (hM1_ : number_MulFractions.f k l2 l3 l4 l5 = some (un, ud, ue))
    (hM2_ : headendref01_MulFractions.f k l2 l3 l4 l5 = some (un, ud, ue))
    (hS3 : headendref01_SameFraction.f k un ud un ud = some true)
    (hP3 : headendlaw01_spoil.f k un = some p3)
    (hP4 : headendlaw01_spoil.f k ud = some p4)
    (hS4 : headendref01_SameFraction.f k l2 l3 l2 l3 = some true)
    :
    Calls Try.prog 6 #[.slice A0 l0.length c0, .slice A1 l1.length c1, .agg #[.slice A2 l2.length c2, .slice A3 l3.length c3], .agg #[.slice A4 l4.length c4, .slice A5 l5.length c5]] w fun e w' => e = .returned (.bool true) ∧ Below w.heap.size w w' := by
  have HL := Aside0.mk hL
  have HN := Aside0.mk (liveN_start hL)
  have HR := Aside0.mk (liveR_nil w.heap.size (fun _ => True) w)
  clear hL
  have T2 := Aside0.mk hT2
  have T3 := Aside0.mk hT3
  have R1 := Aside0.mk hR1
  have R2 := Aside0.mk hR2
  have S1 := Aside0.mk hS1
  have K1 := Aside0.mk hK1
  have K2 := Aside0.mk hK2
  have C1_ := Aside0.mk hC1_
  have C2_ := Aside0.mk hC2_
  have A1_ := Aside0.mk hA1_
  have A2_ := Aside0.mk hA2_
  have S2 := Aside0.mk hS2
  have P1 := Aside0.mk hP1
  have P2 := Aside0.mk hP2
  have M1_ := Aside0.mk hM1_
  have M2_ := Aside0.mk hM2_
  have S3 := Aside0.mk hS3
  have P3 := Aside0.mk hP3
  have P4 := Aside0.mk hP4
  have S4 := Aside0.mk hS4
  clear hT2 hT3 hR1 hR2 hS1 hK1 hK2 hC1_ hC2_ hA1_ hA2_ hS2 hP1 hP2 hM1_ hM2_ hS3 hP3 hP4 hS4
  have kk_re : (re != re) = false := bne_self_eq_false _
  have kk_ke : (ke != ke) = false := bne_self_eq_false _
  have kk_cn : (cn != cn) = false := bne_self_eq_false _
  have kk_ce : (ce != ce) = false := bne_self_eq_false _
  have kk_ae : (ae != ae) = false := bne_self_eq_false _
  have kk_ue : (ue != ue) = false := bne_self_eq_false _
  have HB := Aside0.mk (Below.refl w.heap.size w)
  go_enter Try.func6, Try.ntmps6
  go_upto_region 1 with fail
  have HX6 := Aside0.mk (show ((w.alloc (Obj.cells #[.slice A2 l2.length c2, .slice A3 l3.length c3] 54)).alloc (Obj.cells #[.slice A4 l4.length c4, .slice A5 l5.length c5] 54)).drew.heap[w.heap.size]? = some (.cells #[.slice A2 l2.length c2, .slice A3 l3.length c3] 54 (0, 0)) from blk_alloc (blk_new w _) _)
  have HX7 := Aside0.mk (show ((w.alloc (Obj.cells #[.slice A2 l2.length c2, .slice A3 l3.length c3] 54)).alloc (Obj.cells #[.slice A4 l4.length c4, .slice A5 l5.length c5] 54)).drew.heap[w.heap.size + 1]? = some (.cells #[.slice A4 l4.length c4, .slice A5 l5.length c5] 54 (0, 0)) from by have := blk_new (w.alloc (Obj.cells #[.slice A2 l2.length c2, .slice A3 l3.length c3] 54)) (Obj.cells #[.slice A4 l4.length c4, .slice A5 l5.length c5] 54); rwa [World.size_alloc] at this)
  have nl_ := Aside0.mk (live_drew (live_alloc (live_alloc HL.out (Obj.cells #[.slice A2 l2.length c2, .slice A3 l3.length c3] 54)) (Obj.cells #[.slice A4 l4.length c4, .slice A5 l5.length c5] 54)))
  have nn_ := Aside0.mk (liveN_drew (liveN_alloc (liveN_alloc HN.out (Obj.cells #[.slice A2 l2.length c2, .slice A3 l3.length c3] 54)) (Obj.cells #[.slice A4 l4.length c4, .slice A5 l5.length c5] 54)))
  have nr_ := Aside0.mk (liveR_drew (liveR_alloc (liveR_alloc HR.out (Obj.cells #[.slice A2 l2.length c2, .slice A3 l3.length c3] 54)) (Obj.cells #[.slice A4 l4.length c4, .slice A5 l5.length c5] 54)))
  have nb_ := Aside0.mk (below_drew1 (below_alloc (below_alloc HB.out (Obj.cells #[.slice A2 l2.length c2, .slice A3 l3.length c3] 54)) (Obj.cells #[.slice A4 l4.length c4, .slice A5 l5.length c5] 54)))
  clear HL HB HN HR
  have HL := nl_
  have HN := nn_
  have HR := nr_
  have HB := nb_
  clear nl_ nb_ nn_ nr_
  have hmx : Try.prog.follows .mixedOrders = true := by kernel_rfl
  have hS : ((w.alloc (Obj.cells #[.slice A2 l2.length c2, .slice A3 l3.length c3] 54)).alloc (Obj.cells #[.slice A4 l4.length c4, .slice A5 l5.length c5] 54)).drew.cell? ⟨w.heap.size, 0, none⟩ = some (.slice A2 l2.length c2) ∧ ((w.alloc (Obj.cells #[.slice A2 l2.length c2, .slice A3 l3.length c3] 54)).alloc (Obj.cells #[.slice A4 l4.length c4, .slice A5 l5.length c5] 54)).drew.cell? ⟨w.heap.size, 1, none⟩ = some (.slice A3 l3.length c3) := ⟨(blk_cell HX6.out 0).trans rfl, (blk_cell HX6.out 1).trans rfl⟩
  refine wp_region_any hmx ?_
  refine wpAny_of_held (S := fun W' => W'.cell? ⟨w.heap.size, 0, none⟩ = some (.slice A2 l2.length c2) ∧ W'.cell? ⟨w.heap.size, 1, none⟩ = some (.slice A3 l3.length c3)) _ _ _ _ ?_
  change wpAnyH _ _ _ _ _ 9 #[false, false, false, false, false, false, false, false, false] _ ((w.alloc (Obj.cells #[.slice A2 l2.length c2, .slice A3 l3.length c3] 54)).alloc (Obj.cells #[.slice A4 l4.length c4, .slice A5 l5.length c5] 54)).drew
  generalize ((w.alloc (Obj.cells #[.slice A2 l2.length c2, .slice A3 l3.length c3] 54)).alloc (Obj.cells #[.slice A4 l4.length c4, .slice A5 l5.length c5] 54)).drew = W1 at *
  refine take_at (i := 0) (v := .pointer (some ⟨w.heap.size, 0, none⟩)) rfl rfl (by kernel_rfl) (by kernel_rfl) (by kernel_rfl) (fun _ _ _ h => h) (Or.inl ⟨by rfl, ?_⟩) hS ?_
  · intro w hSw
    (try dsimp only at hSw)
    go_simp
  simp only [Act.put, List.setIfInBounds_toArray, List.set_cons_zero, List.set_cons_succ]
  refine take_at (i := 1) (v := .slice A2 l2.length c2) rfl rfl (by kernel_rfl) (by kernel_rfl) (by kernel_rfl) (fun _ _ _ h => h) (Or.inl ⟨by rfl, ?_⟩) hS ?_
  · intro w hSw
    (try dsimp only at hSw)
    go_simp
  simp only [Act.put, List.setIfInBounds_toArray, List.set_cons_zero, List.set_cons_succ]
  refine take_at (i := 3) (v := .pointer (some ⟨w.heap.size, 1, none⟩)) rfl rfl (by kernel_rfl) (by kernel_rfl) (by kernel_rfl) (fun _ _ _ h => h) (Or.inl ⟨by rfl, ?_⟩) hS ?_
  · intro w hSw
    (try dsimp only at hSw)
    go_simp
  simp only [Act.put, List.setIfInBounds_toArray, List.set_cons_zero, List.set_cons_succ]
  refine take_at (i := 4) (v := .slice A3 l3.length c3) rfl rfl (by kernel_rfl) (by kernel_rfl) (by kernel_rfl) (fun _ _ _ h => h) (Or.inl ⟨by rfl, ?_⟩) hS ?_
  · intro w hSw
    (try dsimp only at hSw)
    go_simp
  simp only [Act.put, List.setIfInBounds_toArray, List.set_cons_zero, List.set_cons_succ]
  refine joinH (σ := Option Addr × Nat × Option Addr × Nat × Nat) 1 #[true, true, true, true, true, true, true, true, false] (fun s_ => [(18, (.slice s_.1 l2.length s_.2.1)), (21, (.slice s_.2.2.1 l3.length s_.2.2.2.1)), (9, .pointer (some ⟨s_.2.2.2.2, 0, none⟩)), (22, .agg #[(.slice s_.1 l2.length s_.2.1), (.slice s_.2.2.1 l3.length s_.2.2.2.1)])]) (fun s_ w' => (w'.cell? ⟨w.heap.size, 0, none⟩ = some (.slice A2 l2.length c2) ∧ w'.cell? ⟨w.heap.size, 1, none⟩ = some (.slice A3 l3.length c3)) ∧ LiveN w.heap.size w' [(.slice A0 l0.length c0, l0), (.slice A1 l1.length c1, l1), (.slice A2 l2.length c2, l2), (.slice A3 l3.length c3, l3), (.slice A4 l4.length c4, l4), (.slice A5 l5.length c5, l5)] ∧ LiveR w.heap.size (fun _ => True) w' [((.slice s_.2.2.1 l3.length s_.2.2.2.1), l3), ((.slice s_.1 l2.length s_.2.1), l2)] ∧ w'.heap[w.heap.size]? = some (.cells #[.slice A2 l2.length c2, .slice A3 l3.length c3] 54 (0, 0)) ∧ w'.heap[w.heap.size + 1]? = some (.cells #[.slice A4 l4.length c4, .slice A5 l5.length c5] 54 (0, 0)) ∧ w'.heap[s_.2.2.2.2]? = some (.cells #[Value.slice none 0 0, Value.slice none 0 0] 54 (0, 0)) ∧ w.heap.size + 1 < s_.2.2.2.2 ∧ Below w.heap.size w w') ?_ ?_
  rotate_left
  · intro hCont
    refine wpAnyH_ready (rs := [2, 7]) (by kernel_rfl) (by simp) ?_
    refine AllReadyH.cons (i := 2) rfl (fun K hK => ?_) (AllReadyH.cons (i := 7) rfl (fun K hK => ?_) AllReadyH.nil)
    · go_simp
      refine (headendlaw01_twin.calls _ _ _ _ _ ?s0 ?s1 T2.out).mono ?_
      case s0 => exact (live_C LL_ LM_).2.2
      case s1 => exact (live_C LL_ LM_).2.1
      rintro e wt ⟨v, rfl, ho, hb⟩
      obtain ⟨AX, cX, rfl, _, _⟩ := Kd.R_reads ho
      dsimp only
      have hS9 := And.intro ((hb.cell (p := ⟨w.heap.size, 0, none⟩) (World.block_lt_of_cell? _ _ hS.1)).trans hS.1) ((hb.cell (p := ⟨w.heap.size, 1, none⟩) (World.block_lt_of_cell? _ _ hS.2)).trans hS.2)
      have nHX6_ := Aside0.mk ((hb.block _ (blk_lt HX6.out)).trans HX6.out)
      have nHX7_ := Aside0.mk ((hb.block _ (blk_lt HX7.out)).trans HX7.out)
      have nl_ := Aside0.mk (live_add HL.out hb ho)
      have nn_ := Aside0.mk (liveN_below HN.out hb)
      have nr_ := Aside0.mk (liveR_add (liveR_below HR.out hb) ho HB.out.size)
      have nb_ := Aside0.mk (below_step HB.out hb)
      refine hK.out _ _ hS9 (fun _ => ?_)
      clear hK K hb HL HB HN HR hS ho HX6 HX7
      have HL := nl_
      have HN := nn_
      have HR := nr_
      have HB := nb_
      have hS := hS9
      clear nl_ nb_ nn_ nr_ hS9
      have HX6 := nHX6_
      clear nHX6_
      have HX7 := nHX7_
      clear nHX7_
      simp only [Act.put, List.setIfInBounds_toArray, List.set_cons_zero, List.set_cons_succ]
      refine wpAnyH_ready (rs := [5, 7]) (by kernel_rfl) (by simp) ?_
      refine AllReadyH.cons (i := 5) rfl (fun K hK => ?_) (AllReadyH.cons (i := 7) rfl (fun K hK => ?_) AllReadyH.nil)
      · go_simp
        refine (headendlaw01_twin.calls _ _ _ _ _ ?s0 ?s1 T3.out).mono ?_
        case s0 => exact (live_C LL_ LM_).2.2
        case s1 => exact (live_C LL_ LM_).2.1
        rintro e wt ⟨v, rfl, ho, hb⟩
        obtain ⟨AY, cY, rfl, _, _⟩ := Kd.R_reads ho
        dsimp only
        have hS9 := And.intro ((hb.cell (p := ⟨w.heap.size, 0, none⟩) (World.block_lt_of_cell? _ _ hS.1)).trans hS.1) ((hb.cell (p := ⟨w.heap.size, 1, none⟩) (World.block_lt_of_cell? _ _ hS.2)).trans hS.2)
        have nHX6_ := Aside0.mk ((hb.block _ (blk_lt HX6.out)).trans HX6.out)
        have nHX7_ := Aside0.mk ((hb.block _ (blk_lt HX7.out)).trans HX7.out)
        have nl_ := Aside0.mk (live_add HL.out hb ho)
        have nn_ := Aside0.mk (liveN_below HN.out hb)
        have nr_ := Aside0.mk (liveR_add (liveR_below HR.out hb) ho HB.out.size)
        have nb_ := Aside0.mk (below_step HB.out hb)
        refine hK.out _ _ hS9 (fun _ => ?_)
        clear hK K hb HL HB HN HR hS ho HX6 HX7
        have HL := nl_
        have HN := nn_
        have HR := nr_
        have HB := nb_
        have hS := hS9
        clear nl_ nb_ nn_ nr_ hS9
        have HX6 := nHX6_
        clear nHX6_
        have HX7 := nHX7_
        clear nHX7_
        simp only [Act.put, List.setIfInBounds_toArray, List.set_cons_zero, List.set_cons_succ]
        refine take_at (i := 6) (v := .agg #[.slice AX l2.length cX, .slice AY l3.length cY]) rfl rfl (by kernel_rfl) (by kernel_rfl) (by kernel_rfl) (fun _ _ _ h => h) (Or.inl ⟨by rfl, ?_⟩) hS ?_
        · intro w hSw
          (try dsimp only at hSw)
          go_simp
        simp only [Act.put, List.setIfInBounds_toArray, List.set_cons_zero, List.set_cons_succ]
        refine wpAnyH_ready (rs := [7]) (by kernel_rfl) (by simp) ?_
        refine AllReadyH.cons (i := 7) rfl (fun K hK => ?_) AllReadyH.nil
        go_simp
        have hb : Below wt.heap.size wt (wt.alloc (Obj.cells #[Value.slice none 0 0, Value.slice none 0 0] 54)) := below_alloc (Below.refl _ _) _
        have hS9 := And.intro ((hb.cell (p := ⟨w.heap.size, 0, none⟩) (World.block_lt_of_cell? _ _ hS.1)).trans hS.1) ((hb.cell (p := ⟨w.heap.size, 1, none⟩) (World.block_lt_of_cell? _ _ hS.2)).trans hS.2)
        have HX9 := Aside0.mk (show (wt.alloc (Obj.cells #[Value.slice none 0 0, Value.slice none 0 0] 54)).heap[wt.heap.size]? = some (.cells #[Value.slice none 0 0, Value.slice none 0 0] 54 (0, 0)) from blk_new wt _)
        have HGT := Aside0.mk (blk_lt HX7.out)
        have nHX6_ := Aside0.mk (blk_alloc HX6.out (Obj.cells #[Value.slice none 0 0, Value.slice none 0 0] 54))
        have nHX7_ := Aside0.mk (blk_alloc HX7.out (Obj.cells #[Value.slice none 0 0, Value.slice none 0 0] 54))
        have nl_ := Aside0.mk (live_alloc HL.out (Obj.cells #[Value.slice none 0 0, Value.slice none 0 0] 54))
        have nn_ := Aside0.mk (liveN_alloc HN.out (Obj.cells #[Value.slice none 0 0, Value.slice none 0 0] 54))
        have nr_ := Aside0.mk (liveR_alloc HR.out (Obj.cells #[Value.slice none 0 0, Value.slice none 0 0] 54))
        have nb_ := Aside0.mk (below_alloc HB.out (Obj.cells #[Value.slice none 0 0, Value.slice none 0 0] 54))
        refine hK.out _ _ hS9 (fun _ => ?_)
        clear hK K hb HL HB HN HR hS HX6 HX7
        have HL := nl_
        have HN := nn_
        have HR := nr_
        have HB := nb_
        have hS := hS9
        clear nl_ nb_ nn_ nr_ hS9
        have HX6 := nHX6_
        clear nHX6_
        have HX7 := nHX7_
        clear nHX7_
        generalize hW_ : wt.alloc (Obj.cells #[Value.slice none 0 0, Value.slice none 0 0] 54) = wv at *
        generalize hg_ : wt.heap.size = gB at *
        clear hW_ hg_
        simp only [Act.put, List.setIfInBounds_toArray, List.set_cons_zero, List.set_cons_succ]
        exact normH (by simp only [putAll, Act.put, List.setIfInBounds_toArray, List.set_cons_zero, List.set_cons_succ]) (hCont (AX, cX, AY, cY, gB) _ ⟨hS, HN.out, HR.out, HX6.out, HX7.out, HX9.out, HGT.out, HB.out⟩)
      · go_simp
        have hb : Below wt.heap.size wt (wt.alloc (Obj.cells #[Value.slice none 0 0, Value.slice none 0 0] 54)) := below_alloc (Below.refl _ _) _
        have hS9 := And.intro ((hb.cell (p := ⟨w.heap.size, 0, none⟩) (World.block_lt_of_cell? _ _ hS.1)).trans hS.1) ((hb.cell (p := ⟨w.heap.size, 1, none⟩) (World.block_lt_of_cell? _ _ hS.2)).trans hS.2)
        have HX9 := Aside0.mk (show (wt.alloc (Obj.cells #[Value.slice none 0 0, Value.slice none 0 0] 54)).heap[wt.heap.size]? = some (.cells #[Value.slice none 0 0, Value.slice none 0 0] 54 (0, 0)) from blk_new wt _)
        have HGT := Aside0.mk (blk_lt HX7.out)
        have nHX6_ := Aside0.mk (blk_alloc HX6.out (Obj.cells #[Value.slice none 0 0, Value.slice none 0 0] 54))
        have nHX7_ := Aside0.mk (blk_alloc HX7.out (Obj.cells #[Value.slice none 0 0, Value.slice none 0 0] 54))
        have nl_ := Aside0.mk (live_alloc HL.out (Obj.cells #[Value.slice none 0 0, Value.slice none 0 0] 54))
        have nn_ := Aside0.mk (liveN_alloc HN.out (Obj.cells #[Value.slice none 0 0, Value.slice none 0 0] 54))
        have nr_ := Aside0.mk (liveR_alloc HR.out (Obj.cells #[Value.slice none 0 0, Value.slice none 0 0] 54))
        have nb_ := Aside0.mk (below_alloc HB.out (Obj.cells #[Value.slice none 0 0, Value.slice none 0 0] 54))
        refine hK.out _ _ hS9 (fun _ => ?_)
        clear hK K hb HL HB HN HR hS HX6 HX7
        have HL := nl_
        have HN := nn_
        have HR := nr_
        have HB := nb_
        have hS := hS9
        clear nl_ nb_ nn_ nr_ hS9
        have HX6 := nHX6_
        clear nHX6_
        have HX7 := nHX7_
        clear nHX7_
        generalize hW_ : wt.alloc (Obj.cells #[Value.slice none 0 0, Value.slice none 0 0] 54) = wv at *
        generalize hg_ : wt.heap.size = gB at *
        clear hW_ hg_
        simp only [Act.put, List.setIfInBounds_toArray, List.set_cons_zero, List.set_cons_succ]
        refine wpAnyH_ready (rs := [5]) (by kernel_rfl) (by simp) ?_
        refine AllReadyH.cons (i := 5) rfl (fun K hK => ?_) AllReadyH.nil
        go_simp
        refine (headendlaw01_twin.calls _ _ _ _ _ ?s0 ?s1 T3.out).mono ?_
        case s0 => exact (live_C LL_ LM_).2.2
        case s1 => exact (live_C LL_ LM_).2.1
        rintro e wt ⟨v, rfl, ho, hb⟩
        obtain ⟨AY, cY, rfl, _, _⟩ := Kd.R_reads ho
        dsimp only
        have hS9 := And.intro ((hb.cell (p := ⟨w.heap.size, 0, none⟩) (World.block_lt_of_cell? _ _ hS.1)).trans hS.1) ((hb.cell (p := ⟨w.heap.size, 1, none⟩) (World.block_lt_of_cell? _ _ hS.2)).trans hS.2)
        have nHX6_ := Aside0.mk ((hb.block _ (blk_lt HX6.out)).trans HX6.out)
        have nHX7_ := Aside0.mk ((hb.block _ (blk_lt HX7.out)).trans HX7.out)
        have nHX9_ := Aside0.mk ((hb.block _ (blk_lt HX9.out)).trans HX9.out)
        have nl_ := Aside0.mk (live_add HL.out hb ho)
        have nn_ := Aside0.mk (liveN_below HN.out hb)
        have nr_ := Aside0.mk (liveR_add (liveR_below HR.out hb) ho HB.out.size)
        have nb_ := Aside0.mk (below_step HB.out hb)
        refine hK.out _ _ hS9 (fun _ => ?_)
        clear hK K hb HL HB HN HR hS ho HX6 HX7 HX9
        have HL := nl_
        have HN := nn_
        have HR := nr_
        have HB := nb_
        have hS := hS9
        clear nl_ nb_ nn_ nr_ hS9
        have HX6 := nHX6_
        clear nHX6_
        have HX7 := nHX7_
        clear nHX7_
        have HX9 := nHX9_
        clear nHX9_
        simp only [Act.put, List.setIfInBounds_toArray, List.set_cons_zero, List.set_cons_succ]
        refine take_at (i := 6) (v := .agg #[.slice AX l2.length cX, .slice AY l3.length cY]) rfl rfl (by kernel_rfl) (by kernel_rfl) (by kernel_rfl) (fun _ _ _ h => h) (Or.inl ⟨by rfl, ?_⟩) hS ?_
        · intro w hSw
          (try dsimp only at hSw)
          go_simp
        simp only [Act.put, List.setIfInBounds_toArray, List.set_cons_zero, List.set_cons_succ]
        exact normH (by simp only [putAll, Act.put, List.setIfInBounds_toArray, List.set_cons_zero, List.set_cons_succ]) (hCont (AX, cX, AY, cY, gB) _ ⟨hS, HN.out, HR.out, HX6.out, HX7.out, HX9.out, HGT.out, HB.out⟩)
    · go_simp
      have hb : Below W1.heap.size W1 (W1.alloc (Obj.cells #[Value.slice none 0 0, Value.slice none 0 0] 54)) := below_alloc (Below.refl _ _) _
      have hS9 := And.intro ((hb.cell (p := ⟨w.heap.size, 0, none⟩) (World.block_lt_of_cell? _ _ hS.1)).trans hS.1) ((hb.cell (p := ⟨w.heap.size, 1, none⟩) (World.block_lt_of_cell? _ _ hS.2)).trans hS.2)
      have HX9 := Aside0.mk (show (W1.alloc (Obj.cells #[Value.slice none 0 0, Value.slice none 0 0] 54)).heap[W1.heap.size]? = some (.cells #[Value.slice none 0 0, Value.slice none 0 0] 54 (0, 0)) from blk_new W1 _)
      have HGT := Aside0.mk (blk_lt HX7.out)
      have nHX6_ := Aside0.mk (blk_alloc HX6.out (Obj.cells #[Value.slice none 0 0, Value.slice none 0 0] 54))
      have nHX7_ := Aside0.mk (blk_alloc HX7.out (Obj.cells #[Value.slice none 0 0, Value.slice none 0 0] 54))
      have nl_ := Aside0.mk (live_alloc HL.out (Obj.cells #[Value.slice none 0 0, Value.slice none 0 0] 54))
      have nn_ := Aside0.mk (liveN_alloc HN.out (Obj.cells #[Value.slice none 0 0, Value.slice none 0 0] 54))
      have nr_ := Aside0.mk (liveR_alloc HR.out (Obj.cells #[Value.slice none 0 0, Value.slice none 0 0] 54))
      have nb_ := Aside0.mk (below_alloc HB.out (Obj.cells #[Value.slice none 0 0, Value.slice none 0 0] 54))
      refine hK.out _ _ hS9 (fun _ => ?_)
      clear hK K hb HL HB HN HR hS HX6 HX7
      have HL := nl_
      have HN := nn_
      have HR := nr_
      have HB := nb_
      have hS := hS9
      clear nl_ nb_ nn_ nr_ hS9
      have HX6 := nHX6_
      clear nHX6_
      have HX7 := nHX7_
      clear nHX7_
      generalize hW_ : W1.alloc (Obj.cells #[Value.slice none 0 0, Value.slice none 0 0] 54) = wv at *
      generalize hg_ : W1.heap.size = gB at *
      clear hW_ hg_
      simp only [Act.put, List.setIfInBounds_toArray, List.set_cons_zero, List.set_cons_succ]
      refine wpAnyH_ready (rs := [2]) (by kernel_rfl) (by simp) ?_
      refine AllReadyH.cons (i := 2) rfl (fun K hK => ?_) AllReadyH.nil
      go_simp
      refine (headendlaw01_twin.calls _ _ _ _ _ ?s0 ?s1 T2.out).mono ?_
      case s0 => exact (live_C LL_ LM_).2.2
      case s1 => exact (live_C LL_ LM_).2.1
      rintro e wt ⟨v, rfl, ho, hb⟩
      obtain ⟨AX, cX, rfl, _, _⟩ := Kd.R_reads ho
      dsimp only
      have hS9 := And.intro ((hb.cell (p := ⟨w.heap.size, 0, none⟩) (World.block_lt_of_cell? _ _ hS.1)).trans hS.1) ((hb.cell (p := ⟨w.heap.size, 1, none⟩) (World.block_lt_of_cell? _ _ hS.2)).trans hS.2)
      have nHX6_ := Aside0.mk ((hb.block _ (blk_lt HX6.out)).trans HX6.out)
      have nHX7_ := Aside0.mk ((hb.block _ (blk_lt HX7.out)).trans HX7.out)
      have nHX9_ := Aside0.mk ((hb.block _ (blk_lt HX9.out)).trans HX9.out)
      have nl_ := Aside0.mk (live_add HL.out hb ho)
      have nn_ := Aside0.mk (liveN_below HN.out hb)
      have nr_ := Aside0.mk (liveR_add (liveR_below HR.out hb) ho HB.out.size)
      have nb_ := Aside0.mk (below_step HB.out hb)
      refine hK.out _ _ hS9 (fun _ => ?_)
      clear hK K hb HL HB HN HR hS ho HX6 HX7 HX9
      have HL := nl_
      have HN := nn_
      have HR := nr_
      have HB := nb_
      have hS := hS9
      clear nl_ nb_ nn_ nr_ hS9
      have HX6 := nHX6_
      clear nHX6_
      have HX7 := nHX7_
      clear nHX7_
      have HX9 := nHX9_
      clear nHX9_
      simp only [Act.put, List.setIfInBounds_toArray, List.set_cons_zero, List.set_cons_succ]
      refine wpAnyH_ready (rs := [5]) (by kernel_rfl) (by simp) ?_
      refine AllReadyH.cons (i := 5) rfl (fun K hK => ?_) AllReadyH.nil
      go_simp
      refine (headendlaw01_twin.calls _ _ _ _ _ ?s0 ?s1 T3.out).mono ?_
      case s0 => exact (live_C LL_ LM_).2.2
      case s1 => exact (live_C LL_ LM_).2.1
      rintro e wt ⟨v, rfl, ho, hb⟩
      obtain ⟨AY, cY, rfl, _, _⟩ := Kd.R_reads ho
      dsimp only
      have hS9 := And.intro ((hb.cell (p := ⟨w.heap.size, 0, none⟩) (World.block_lt_of_cell? _ _ hS.1)).trans hS.1) ((hb.cell (p := ⟨w.heap.size, 1, none⟩) (World.block_lt_of_cell? _ _ hS.2)).trans hS.2)
      have nHX6_ := Aside0.mk ((hb.block _ (blk_lt HX6.out)).trans HX6.out)
      have nHX7_ := Aside0.mk ((hb.block _ (blk_lt HX7.out)).trans HX7.out)
      have nHX9_ := Aside0.mk ((hb.block _ (blk_lt HX9.out)).trans HX9.out)
      have nl_ := Aside0.mk (live_add HL.out hb ho)
      have nn_ := Aside0.mk (liveN_below HN.out hb)
      have nr_ := Aside0.mk (liveR_add (liveR_below HR.out hb) ho HB.out.size)
      have nb_ := Aside0.mk (below_step HB.out hb)
      refine hK.out _ _ hS9 (fun _ => ?_)
      clear hK K hb HL HB HN HR hS ho HX6 HX7 HX9
      have HL := nl_
      have HN := nn_
      have HR := nr_
      have HB := nb_
      have hS := hS9
      clear nl_ nb_ nn_ nr_ hS9
      have HX6 := nHX6_
      clear nHX6_
      have HX7 := nHX7_
      clear nHX7_
      have HX9 := nHX9_
      clear nHX9_
      simp only [Act.put, List.setIfInBounds_toArray, List.set_cons_zero, List.set_cons_succ]
      refine take_at (i := 6) (v := .agg #[.slice AX l2.length cX, .slice AY l3.length cY]) rfl rfl (by kernel_rfl) (by kernel_rfl) (by kernel_rfl) (fun _ _ _ h => h) (Or.inl ⟨by rfl, ?_⟩) hS ?_
      · intro w hSw
        (try dsimp only at hSw)
        go_simp
      simp only [Act.put, List.setIfInBounds_toArray, List.set_cons_zero, List.set_cons_succ]
      exact normH (by simp only [putAll, Act.put, List.setIfInBounds_toArray, List.set_cons_zero, List.set_cons_succ]) (hCont (AX, cX, AY, cY, gB) _ ⟨hS, HN.out, HR.out, HX6.out, HX7.out, HX9.out, HGT.out, HB.out⟩)
  rintro ⟨AX, cX, AY, cY, gB⟩ W3 ⟨hS, HN0, HR0, HX60, HX70, HX90, HGT0, HB0⟩
  dsimp only at HN0 HR0 HX90 HGT0
  simp only [putAll, Act.put, List.setIfInBounds_toArray, List.set_cons_zero, List.set_cons_succ]
  clear HL HB HN HR HX6 HX7
  have c90 : W3.cell? ⟨gB, 0, none⟩ = some (.slice none 0 0) := (blk_cell HX90 0).trans rfl
  have c91 : W3.cell? ⟨gB, 1, none⟩ = some (.slice none 0 0) := (blk_cell HX90 1).trans rfl
  have f90 := blk_frozen HX90 0
  have f91 := blk_frozen HX90 1
  refine wpAnyH_ready (rs := [8]) (by kernel_rfl) (by simp) ?_
  refine AllReadyH.cons (i := 8) rfl (fun K hK => ?_) AllReadyH.nil
  go_simp
  have hSz := And.intro (pt_cell_far (p := ⟨gB, 1, none⟩) (u := .slice AY l3.length cY) (pt_cell_far (p := ⟨gB, 0, none⟩) (u := .slice AX l2.length cX) hS.1 (by dsimp only; omega)) (by dsimp only; omega)) (pt_cell_far (p := ⟨gB, 1, none⟩) (u := .slice AY l3.length cY) (pt_cell_far (p := ⟨gB, 0, none⟩) (u := .slice AX l2.length cX) hS.2 (by dsimp only; omega)) (by dsimp only; omega))
  refine hK.out _ _ hSz (fun _ => ?_)
  clear hK K hS hSz c90 c91 f90 f91
  refine wpAnyH_done (by kernel_rfl) ?_ _
  have h1_ := blk_put (cs := #[.slice none 0 0, .slice none 0 0]) (cs' := #[.slice AX l2.length cX, .slice none 0 0]) HX90 0 (.slice AX l2.length cX) rfl
  have HX9 := Aside0.mk (blk_put (cs := #[.slice AX l2.length cX, .slice none 0 0]) (cs' := #[.slice AX l2.length cX, .slice AY l3.length cY]) h1_ 1 (.slice AY l3.length cY) rfl)
  have HX6 := Aside0.mk (blk_far (p := ⟨gB, 1, none⟩) (blk_far (p := ⟨gB, 0, none⟩) HX60 (by dsimp only; omega) (.slice AX l2.length cX)) (by dsimp only; omega) (.slice AY l3.length cY))
  have HX7 := Aside0.mk (blk_far (p := ⟨gB, 1, none⟩) (blk_far (p := ⟨gB, 0, none⟩) HX70 (by dsimp only; omega) (.slice AX l2.length cX)) (by dsimp only; omega) (.slice AY l3.length cY))
  have HN := Aside0.mk (liveN_far (p := ⟨gB, 1, none⟩) (liveN_far (p := ⟨gB, 0, none⟩) HN0 (by dsimp only; omega) (.slice AX l2.length cX)) (by dsimp only; omega) (.slice AY l3.length cY))
  have HR := Aside0.mk (liveR_store (liveR_store HR0 HX90 0 (.slice AX l2.length cX)) h1_ 1 (.slice AY l3.length cY))
  have HB := Aside0.mk ((HB0.setCell (p := ⟨gB, 0, none⟩) (by dsimp only; omega) (.slice AX l2.length cX)).setCell (p := ⟨gB, 1, none⟩) (by dsimp only; omega) (.slice AY l3.length cY))
  have HL := Aside0.mk (show Live _ [(.slice AY l3.length cY, l3), (.slice AX l2.length cX, l2), (.slice A0 l0.length c0, l0), (.slice A1 l1.length c1, l1), (.slice A2 l2.length c2, l2), (.slice A3 l3.length c3, l3), (.slice A4 l4.length c4, l4), (.slice A5 l5.length c5, l5)] from live_app (liveR_live HR.out) (liveN_live HN.out))
  clear h1_ HN0 HR0 HX60 HX70 HX90 HB0
  generalize hW_ : ((W3.setCell ⟨gB, 0, none⟩ (.slice AX l2.length cX)).setCell ⟨gB, 1, none⟩ (.slice AY l3.length cY)) = W4 at *
  clear hW_
  go_upto_region 2 with fail
  go_upto_region 3 with (first | (go_at_call 35; (with_reducible refine (number_Ratio.calls k (fun _ => True) _ _ _ (fun _ => True) _ _ _ _ _ _ _ ?s0 ?s1 R1.out).mono ?_); (case s0 => exact live_get LL_ LM_ _); (case s1 => exact live_get LL_ LM_ _); rintro e wn ⟨v, u, rfl, ho, hu, hb⟩; obtain ⟨Arn, crn, rfl, _, _⟩ := Kd.R_reads ho; obtain ⟨Ard, crd, rfl, _, _⟩ := Kd.R_reads hu;  replace HX6 := Aside0.mk ((hb.block _ (blk_lt HX6.out)).trans HX6.out); replace HX7 := Aside0.mk ((hb.block _ (blk_lt HX7.out)).trans HX7.out); replace HX9 := Aside0.mk ((hb.block _ (blk_lt HX9.out)).trans HX9.out); have nn_ := Aside0.mk (liveN_below NN_ hb); have nr_ := Aside0.mk (liveR_add (liveR_add (liveR_below NR_ hb) ho (below_size BC_)) hu (below_size BC_)); have nb_ := Aside0.mk (below_step BC_ hb); clear HL HN HR HB; have HN := nn_; have HR := nr_; have HB := nb_; clear nn_ nr_ nb_ hb; have HL := Aside0.mk (show Live _ [(.slice Ard rd.length crd, rd), (.slice Arn rn.length crn, rn), (.slice AY l3.length cY, l3), (.slice AX l2.length cX, l2), (.slice A0 l0.length c0, l0), (.slice A1 l1.length c1, l1), (.slice A2 l2.length c2, l2), (.slice A3 l3.length c3, l3), (.slice A4 l4.length c4, l4), (.slice A5 l5.length c5, l5)] from live_app (liveR_live HR.out) (liveN_live HN.out)); clear ho; clear hu))
  have HC := Aside0.mk (show (wn.alloc (Obj.cells #[.slice Arn rn.length crn, .slice Ard rd.length crd] 54)).heap[wn.heap.size]? = some (.cells #[.slice Arn rn.length crn, .slice Ard rd.length crd] 54 (0, 0)) from blk_new wn _)
  have HC_ge := Aside0.mk (HB.out.size)
  have nHX6_ := Aside0.mk (blk_alloc HX6.out (Obj.cells #[.slice Arn rn.length crn, .slice Ard rd.length crd] 54))
  have HC_ne_HX6 := Aside0.mk (blk_lt HX6.out)
  clear HX6
  have HX6 := nHX6_
  clear nHX6_
  have nHX7_ := Aside0.mk (blk_alloc HX7.out (Obj.cells #[.slice Arn rn.length crn, .slice Ard rd.length crd] 54))
  have HC_ne_HX7 := Aside0.mk (blk_lt HX7.out)
  clear HX7
  have HX7 := nHX7_
  clear nHX7_
  have nHX9_ := Aside0.mk (blk_alloc HX9.out (Obj.cells #[.slice Arn rn.length crn, .slice Ard rd.length crd] 54))
  have HC_ne_HX9 := Aside0.mk (blk_lt HX9.out)
  clear HX9
  have HX9 := nHX9_
  clear nHX9_
  have nn_ := Aside0.mk (liveN_alloc HN.out (Obj.cells #[.slice Arn rn.length crn, .slice Ard rd.length crd] 54))
  have nr_ := Aside0.mk (liveR_alloc HR.out (Obj.cells #[.slice Arn rn.length crn, .slice Ard rd.length crd] 54))
  have nb_ := Aside0.mk (below_alloc HB.out (Obj.cells #[.slice Arn rn.length crn, .slice Ard rd.length crd] 54))
  clear HL HN HR HB
  have HN := nn_
  have HR := nr_
  have HB := nb_
  clear nn_ nr_ nb_
  have HL := Aside0.mk (show Live _ [(.slice Ard rd.length crd, rd), (.slice Arn rn.length crn, rn), (.slice AY l3.length cY, l3), (.slice AX l2.length cX, l2), (.slice A0 l0.length c0, l0), (.slice A1 l1.length c1, l1), (.slice A2 l2.length c2, l2), (.slice A3 l3.length c3, l3), (.slice A4 l4.length c4, l4), (.slice A5 l5.length c5, l5)] from live_app (liveR_live HR.out) (liveN_live HN.out))
  generalize hW_ : wn.alloc (Obj.cells #[.slice Arn rn.length crn, .slice Ard rd.length crd] 54) = W_gC at *
  generalize hg_ : wn.heap.size = gC at *
  clear hW_ hg_
  go_upto_region 4 with (first | (go_at_call 36; (with_reducible refine (headendref01_Ratio.calls k _ _ _ _ _ _ _ _ _ _ ?s0 ?s1 ?s2 ?s3 R2.out).mono ?_); (case s0 => exact (live_C LL_ LM_).2.2); (case s1 => exact (live_C LL_ LM_).2.1); (case s2 => exact (live_C LL_ LM_).2.2); (case s3 => exact (live_C LL_ LM_).2.1); rintro e wn ⟨v, u, rfl, ho, hu, hb⟩; obtain ⟨Asn, csn, rfl, _, _⟩ := Kd.R_reads ho; obtain ⟨Asd, csd, rfl, _, _⟩ := Kd.R_reads hu;  replace HX6 := Aside0.mk ((hb.block _ (blk_lt HX6.out)).trans HX6.out); replace HX7 := Aside0.mk ((hb.block _ (blk_lt HX7.out)).trans HX7.out); replace HX9 := Aside0.mk ((hb.block _ (blk_lt HX9.out)).trans HX9.out); replace HC := Aside0.mk ((hb.block _ (blk_lt HC.out)).trans HC.out); have nn_ := Aside0.mk (liveN_below NN_ hb); have nr_ := Aside0.mk (liveR_add (liveR_add (liveR_below NR_ hb) ho (below_size BC_)) hu (below_size BC_)); have nb_ := Aside0.mk (below_step BC_ hb); clear HL HN HR HB; have HN := nn_; have HR := nr_; have HB := nb_; clear nn_ nr_ nb_ hb; have HL := Aside0.mk (show Live _ [(.slice Asd rd.length csd, rd), (.slice Asn rn.length csn, rn), (.slice Ard rd.length crd, rd), (.slice Arn rn.length crn, rn), (.slice AY l3.length cY, l3), (.slice AX l2.length cX, l2), (.slice A0 l0.length c0, l0), (.slice A1 l1.length c1, l1), (.slice A2 l2.length c2, l2), (.slice A3 l3.length c3, l3), (.slice A4 l4.length c4, l4), (.slice A5 l5.length c5, l5)] from live_app (liveR_live HR.out) (liveN_live HN.out)); clear ho; clear hu))
  have HD := Aside0.mk (show (wn.alloc (Obj.cells #[.slice Asn rn.length csn, .slice Asd rd.length csd] 54)).heap[wn.heap.size]? = some (.cells #[.slice Asn rn.length csn, .slice Asd rd.length csd] 54 (0, 0)) from blk_new wn _)
  have HD_ge := Aside0.mk (HB.out.size)
  have nHX6_ := Aside0.mk (blk_alloc HX6.out (Obj.cells #[.slice Asn rn.length csn, .slice Asd rd.length csd] 54))
  have HD_ne_HX6 := Aside0.mk (blk_lt HX6.out)
  clear HX6
  have HX6 := nHX6_
  clear nHX6_
  have nHX7_ := Aside0.mk (blk_alloc HX7.out (Obj.cells #[.slice Asn rn.length csn, .slice Asd rd.length csd] 54))
  have HD_ne_HX7 := Aside0.mk (blk_lt HX7.out)
  clear HX7
  have HX7 := nHX7_
  clear nHX7_
  have nHX9_ := Aside0.mk (blk_alloc HX9.out (Obj.cells #[.slice Asn rn.length csn, .slice Asd rd.length csd] 54))
  have HD_ne_HX9 := Aside0.mk (blk_lt HX9.out)
  clear HX9
  have HX9 := nHX9_
  clear nHX9_
  have nHC_ := Aside0.mk (blk_alloc HC.out (Obj.cells #[.slice Asn rn.length csn, .slice Asd rd.length csd] 54))
  have HD_ne_HC := Aside0.mk (blk_lt HC.out)
  clear HC
  have HC := nHC_
  clear nHC_
  have nn_ := Aside0.mk (liveN_alloc HN.out (Obj.cells #[.slice Asn rn.length csn, .slice Asd rd.length csd] 54))
  have nr_ := Aside0.mk (liveR_alloc HR.out (Obj.cells #[.slice Asn rn.length csn, .slice Asd rd.length csd] 54))
  have nb_ := Aside0.mk (below_alloc HB.out (Obj.cells #[.slice Asn rn.length csn, .slice Asd rd.length csd] 54))
  clear HL HN HR HB
  have HN := nn_
  have HR := nr_
  have HB := nb_
  clear nn_ nr_ nb_
  have HL := Aside0.mk (show Live _ [(.slice Asd rd.length csd, rd), (.slice Asn rn.length csn, rn), (.slice Ard rd.length crd, rd), (.slice Arn rn.length crn, rn), (.slice AY l3.length cY, l3), (.slice AX l2.length cX, l2), (.slice A0 l0.length c0, l0), (.slice A1 l1.length c1, l1), (.slice A2 l2.length c2, l2), (.slice A3 l3.length c3, l3), (.slice A4 l4.length c4, l4), (.slice A5 l5.length c5, l5)] from live_app (liveR_live HR.out) (liveN_live HN.out))
  generalize hW_ : wn.alloc (Obj.cells #[.slice Asn rn.length csn, .slice Asd rd.length csd] 54) = W_gD at *
  generalize hg_ : wn.heap.size = gD at *
  clear hW_ hg_
  have hS : W_gD.drew.cell? ⟨gC, 0, none⟩ = some (.slice Arn rn.length crn) ∧ W_gD.drew.cell? ⟨gC, 1, none⟩ = some (.slice Ard rd.length crd) ∧ W_gD.drew.cell? ⟨gD, 0, none⟩ = some (.slice Asn rn.length csn) ∧ W_gD.drew.cell? ⟨gD, 1, none⟩ = some (.slice Asd rd.length csd) ∧ W_gD.drew.cell? ⟨gB, 0, none⟩ = some (.slice AX l2.length cX) ∧ W_gD.drew.cell? ⟨gB, 1, none⟩ = some (.slice AY l3.length cY) ∧ W_gD.drew.cell? ⟨w.heap.size, 0, none⟩ = some (.slice A2 l2.length c2) ∧ W_gD.drew.cell? ⟨w.heap.size, 1, none⟩ = some (.slice A3 l3.length c3) := ⟨(blk_cell HC.out 0).trans rfl, (blk_cell HC.out 1).trans rfl, (blk_cell HD.out 0).trans rfl, (blk_cell HD.out 1).trans rfl, (blk_cell HX9.out 0).trans rfl, (blk_cell HX9.out 1).trans rfl, (blk_cell HX6.out 0).trans rfl, (blk_cell HX6.out 1).trans rfl⟩
  replace HX6 := Aside0.mk (blk_drew HX6.out)
  replace HX7 := Aside0.mk (blk_drew HX7.out)
  replace HX9 := Aside0.mk (blk_drew HX9.out)
  replace HC := Aside0.mk (blk_drew HC.out)
  replace HD := Aside0.mk (blk_drew HD.out)
  have nn_ := Aside0.mk (liveN_drew HN.out)
  have nr_ := Aside0.mk (liveR_drew HR.out)
  have nb_ := Aside0.mk (below_drew1 HB.out)
  clear HL HN HR HB
  have HN := nn_
  have HR := nr_
  have HB := nb_
  clear nn_ nr_ nb_
  have HL := Aside0.mk (show Live _ [(.slice Asd rd.length csd, rd), (.slice Asn rn.length csn, rn), (.slice Ard rd.length crd, rd), (.slice Arn rn.length crn, rn), (.slice AY l3.length cY, l3), (.slice AX l2.length cX, l2), (.slice A0 l0.length c0, l0), (.slice A1 l1.length c1, l1), (.slice A2 l2.length c2, l2), (.slice A3 l3.length c3, l3), (.slice A4 l4.length c4, l4), (.slice A5 l5.length c5, l5)] from live_app (liveR_live HR.out) (liveN_live HN.out))
  refine wp_region_any hmx ?_
  refine wpAny_of_held (S := fun W' => W'.cell? ⟨gC, 0, none⟩ = some (.slice Arn rn.length crn) ∧ W'.cell? ⟨gC, 1, none⟩ = some (.slice Ard rd.length crd) ∧ W'.cell? ⟨gD, 0, none⟩ = some (.slice Asn rn.length csn) ∧ W'.cell? ⟨gD, 1, none⟩ = some (.slice Asd rd.length csd) ∧ W'.cell? ⟨gB, 0, none⟩ = some (.slice AX l2.length cX) ∧ W'.cell? ⟨gB, 1, none⟩ = some (.slice AY l3.length cY) ∧ W'.cell? ⟨w.heap.size, 0, none⟩ = some (.slice A2 l2.length c2) ∧ W'.cell? ⟨w.heap.size, 1, none⟩ = some (.slice A3 l3.length c3)) _ _ _ _ ?_
  change wpAnyH _ _ _ _ _ 16 #[false, false, false, false, false, false, false, false, false, false, false, false, false, false, false, false] _ W_gD.drew
  generalize W_gD.drew = W5 at *
  refine take_at (i := 0) (v := .agg #[.slice Arn rn.length crn, .slice Ard rd.length crd]) rfl rfl (by kernel_rfl) (by kernel_rfl) (by kernel_rfl) (fun _ _ _ h => h) (Or.inl ⟨by rfl, ?_⟩) hS ?_
  · intro w hSw
    (try dsimp only at hSw)
    go_simp
  simp only [Act.put, List.setIfInBounds_toArray, List.set_cons_zero, List.set_cons_succ]
  refine take_at (i := 1) (v := .agg #[.slice Asn rn.length csn, .slice Asd rd.length csd]) rfl rfl (by kernel_rfl) (by kernel_rfl) (by kernel_rfl) (fun _ _ _ h => h) (Or.inl ⟨by rfl, ?_⟩) hS ?_
  · intro w hSw
    (try dsimp only at hSw)
    go_simp
  simp only [Act.put, List.setIfInBounds_toArray, List.set_cons_zero, List.set_cons_succ]
  refine wpAnyH_ready (rs := [2]) (by kernel_rfl) (by simp) ?_
  refine AllReadyH.cons (i := 2) rfl (fun K hK => ?_) AllReadyH.nil
  go_simp
  refine (headendref01_SameFraction.calls k _ _ _ _ _ _ _ _ _ _ _ _ _ _ ?s0 ?s1 ?s2 ?s3 ?s4 ?s5 ?s6 ?s7 S1.out).mono ?_
  case s0 => exact (live_C LL_ LM_).2.2
  case s1 => exact (live_C LL_ LM_).2.1
  case s2 => exact (live_C LL_ LM_).2.2
  case s3 => exact (live_C LL_ LM_).2.1
  case s4 => exact (live_C LL_ LM_).2.2
  case s5 => exact (live_C LL_ LM_).2.1
  case s6 => exact (live_C LL_ LM_).2.2
  case s7 => exact (live_C LL_ LM_).2.1
  rintro e w2 ⟨rfl, hb⟩
  dsimp only
  have hS9 : _ ∧ _ ∧ _ ∧ _ ∧ _ ∧ _ ∧ _ ∧ _ := ⟨(hb.cell (World.block_lt_of_cell? _ _ hS.1)).trans hS.1, (hb.cell (World.block_lt_of_cell? _ _ hS.2.1)).trans hS.2.1, (hb.cell (World.block_lt_of_cell? _ _ hS.2.2.1)).trans hS.2.2.1, (hb.cell (World.block_lt_of_cell? _ _ hS.2.2.2.1)).trans hS.2.2.2.1, (hb.cell (World.block_lt_of_cell? _ _ hS.2.2.2.2.1)).trans hS.2.2.2.2.1, (hb.cell (World.block_lt_of_cell? _ _ hS.2.2.2.2.2.1)).trans hS.2.2.2.2.2.1, (hb.cell (World.block_lt_of_cell? _ _ hS.2.2.2.2.2.2.1)).trans hS.2.2.2.2.2.2.1, (hb.cell (World.block_lt_of_cell? _ _ hS.2.2.2.2.2.2.2)).trans hS.2.2.2.2.2.2.2⟩
  have nHX6_ := Aside0.mk ((hb.block _ (blk_lt HX6.out)).trans HX6.out)
  have nHX7_ := Aside0.mk ((hb.block _ (blk_lt HX7.out)).trans HX7.out)
  have nHX9_ := Aside0.mk ((hb.block _ (blk_lt HX9.out)).trans HX9.out)
  have nHC_ := Aside0.mk ((hb.block _ (blk_lt HC.out)).trans HC.out)
  have nHD_ := Aside0.mk ((hb.block _ (blk_lt HD.out)).trans HD.out)
  have nn_ := Aside0.mk (liveN_below HN.out hb)
  have nr_ := Aside0.mk (liveR_below HR.out hb)
  have nb_ := Aside0.mk (below_step HB.out hb)
  refine hK.out _ _ hS9 (fun _ => ?_)
  clear hK K hb HL HN HR HB hS HX6 HX7 HX9 HC HD
  have HN := nn_
  have HR := nr_
  have HB := nb_
  have hS := hS9
  clear nn_ nr_ nb_ hS9
  have HX6 := nHX6_
  clear nHX6_
  have HX7 := nHX7_
  clear nHX7_
  have HX9 := nHX9_
  clear nHX9_
  have HC := nHC_
  clear nHC_
  have HD := nHD_
  clear nHD_
  have HL := Aside0.mk (show Live _ [(.slice Asd rd.length csd, rd), (.slice Asn rn.length csn, rn), (.slice Ard rd.length crd, rd), (.slice Arn rn.length crn, rn), (.slice AY l3.length cY, l3), (.slice AX l2.length cX, l2), (.slice A0 l0.length c0, l0), (.slice A1 l1.length c1, l1), (.slice A2 l2.length c2, l2), (.slice A3 l3.length c3, l3), (.slice A4 l4.length c4, l4), (.slice A5 l5.length c5, l5)] from live_app (liveR_live HR.out) (liveN_live HN.out))
  simp only [Act.put, List.setIfInBounds_toArray, List.set_cons_zero, List.set_cons_succ]
  refine take_at (i := 3) (v := .bool false) rfl rfl (by kernel_rfl) (by kernel_rfl) (by kernel_rfl) (fun _ _ _ h => h) (Or.inl ⟨by rfl, ?_⟩) hS ?_
  · intro w hSw
    (try dsimp only at hSw)
    go_simp
  simp only [Act.put, List.setIfInBounds_toArray, List.set_cons_zero, List.set_cons_succ]
  refine take_at (i := 4) (v := .bool false) rfl rfl (by kernel_rfl) (by kernel_rfl) (by kernel_rfl) (fun _ _ _ h => h) (Or.inl ⟨by rfl, ?_⟩) hS ?_
  · intro w hSw
    (try dsimp only at hSw)
    go_simp
  simp only [Act.put, List.setIfInBounds_toArray, List.set_cons_zero, List.set_cons_succ]
  refine take_at (i := 5) (v := .int .i64 re) rfl rfl (by kernel_rfl) (by kernel_rfl) (by kernel_rfl) (fun _ _ _ h => h) (Or.inl ⟨by rfl, ?_⟩) hS ?_
  · intro w hSw
    (try dsimp only at hSw)
    go_simp
  simp only [Act.put, List.setIfInBounds_toArray, List.set_cons_zero, List.set_cons_succ]
  refine take_at (i := 6) (v := .int .i64 re) rfl rfl (by kernel_rfl) (by kernel_rfl) (by kernel_rfl) (fun _ _ _ h => h) (Or.inl ⟨by rfl, ?_⟩) hS ?_
  · intro w hSw
    (try dsimp only at hSw)
    go_simp
  simp only [Act.put, List.setIfInBounds_toArray, List.set_cons_zero, List.set_cons_succ]
  refine take_at (i := 7) (v := .bool false) rfl rfl (by kernel_rfl) (by kernel_rfl) (by kernel_rfl) (fun _ _ _ h => h) (Or.inl ⟨by rfl, ?_⟩) hS ?_
  · intro w hSw
    (try dsimp only at hSw)
    go_simp
  simp only [Act.put, List.setIfInBounds_toArray, List.set_cons_zero, List.set_cons_succ]
  refine take_at (i := 8) (v := .bool false) rfl rfl (by kernel_rfl) (by kernel_rfl) (by kernel_rfl) (fun _ _ _ h => h) (Or.inl ⟨by rfl, ?_⟩) hS ?_
  · intro w hSw
    (try dsimp only at hSw)
    go_simp
  simp only [Act.put, List.setIfInBounds_toArray, List.set_cons_zero, List.set_cons_succ]
  refine take_at (i := 9) (v := .bool false) rfl rfl (by kernel_rfl) (by kernel_rfl) (by kernel_rfl) (fun _ _ _ h => h) (Or.inl ⟨by rfl, ?_⟩) hS ?_
  · intro w hSw
    (try dsimp only at hSw)
    go_simp
  simp only [Act.put, List.setIfInBounds_toArray, List.set_cons_zero, List.set_cons_succ]
  refine take_at (i := 10) (v := .agg #[.slice AX l2.length cX, .slice AY l3.length cY]) rfl rfl (by kernel_rfl) (by kernel_rfl) (by kernel_rfl) (fun _ _ _ h => h) (Or.inl ⟨by rfl, ?_⟩) hS ?_
  · intro w hSw
    (try dsimp only at hSw)
    go_simp
  simp only [Act.put, List.setIfInBounds_toArray, List.set_cons_zero, List.set_cons_succ]
  refine take_at (i := 12) (v := .agg #[.slice A2 l2.length c2, .slice A3 l3.length c3]) rfl rfl (by kernel_rfl) (by kernel_rfl) (by kernel_rfl) (fun _ _ _ h => h) (Or.inl ⟨by rfl, ?_⟩) hS ?_
  · intro w hSw
    (try dsimp only at hSw)
    go_simp
  simp only [Act.put, List.setIfInBounds_toArray, List.set_cons_zero, List.set_cons_succ]
  refine wpAnyH_ready (rs := [11]) (by kernel_rfl) (by simp) ?_
  refine AllReadyH.cons (i := 11) rfl (fun K hK => ?_) AllReadyH.nil
  go_simp
  refine (number_CheckFraction.calls k (fun _ => True) _ _ _ (fun _ => True) _ _ _ _ _ ?s0 ?s1 K1.out).mono ?_
  case s0 => exact live_get LL_ LM_ _
  case s1 => exact live_get LL_ LM_ _
  rintro e w11 ⟨rfl, hb⟩
  dsimp only
  have hS9 : _ ∧ _ ∧ _ ∧ _ ∧ _ ∧ _ ∧ _ ∧ _ := ⟨(hb.cell (World.block_lt_of_cell? _ _ hS.1)).trans hS.1, (hb.cell (World.block_lt_of_cell? _ _ hS.2.1)).trans hS.2.1, (hb.cell (World.block_lt_of_cell? _ _ hS.2.2.1)).trans hS.2.2.1, (hb.cell (World.block_lt_of_cell? _ _ hS.2.2.2.1)).trans hS.2.2.2.1, (hb.cell (World.block_lt_of_cell? _ _ hS.2.2.2.2.1)).trans hS.2.2.2.2.1, (hb.cell (World.block_lt_of_cell? _ _ hS.2.2.2.2.2.1)).trans hS.2.2.2.2.2.1, (hb.cell (World.block_lt_of_cell? _ _ hS.2.2.2.2.2.2.1)).trans hS.2.2.2.2.2.2.1, (hb.cell (World.block_lt_of_cell? _ _ hS.2.2.2.2.2.2.2)).trans hS.2.2.2.2.2.2.2⟩
  have nHX6_ := Aside0.mk ((hb.block _ (blk_lt HX6.out)).trans HX6.out)
  have nHX7_ := Aside0.mk ((hb.block _ (blk_lt HX7.out)).trans HX7.out)
  have nHX9_ := Aside0.mk ((hb.block _ (blk_lt HX9.out)).trans HX9.out)
  have nHC_ := Aside0.mk ((hb.block _ (blk_lt HC.out)).trans HC.out)
  have nHD_ := Aside0.mk ((hb.block _ (blk_lt HD.out)).trans HD.out)
  have nn_ := Aside0.mk (liveN_below HN.out hb)
  have nr_ := Aside0.mk (liveR_below HR.out hb)
  have nb_ := Aside0.mk (below_step HB.out hb)
  refine hK.out _ _ hS9 (fun _ => ?_)
  clear hK K hb HL HN HR HB hS HX6 HX7 HX9 HC HD
  have HN := nn_
  have HR := nr_
  have HB := nb_
  have hS := hS9
  clear nn_ nr_ nb_ hS9
  have HX6 := nHX6_
  clear nHX6_
  have HX7 := nHX7_
  clear nHX7_
  have HX9 := nHX9_
  clear nHX9_
  have HC := nHC_
  clear nHC_
  have HD := nHD_
  clear nHD_
  have HL := Aside0.mk (show Live _ [(.slice Asd rd.length csd, rd), (.slice Asn rn.length csn, rn), (.slice Ard rd.length crd, rd), (.slice Arn rn.length crn, rn), (.slice AY l3.length cY, l3), (.slice AX l2.length cX, l2), (.slice A0 l0.length c0, l0), (.slice A1 l1.length c1, l1), (.slice A2 l2.length c2, l2), (.slice A3 l3.length c3, l3), (.slice A4 l4.length c4, l4), (.slice A5 l5.length c5, l5)] from live_app (liveR_live HR.out) (liveN_live HN.out))
  simp only [Act.put, List.setIfInBounds_toArray, List.set_cons_zero, List.set_cons_succ]
  refine wpAnyH_ready (rs := [13]) (by kernel_rfl) (by simp) ?_
  refine AllReadyH.cons (i := 13) rfl (fun K hK => ?_) AllReadyH.nil
  go_simp
  refine (headendref01_CheckFraction.calls k _ _ _ _ _ _ _ _ ?s0 ?s1 ?s2 ?s3 K2.out).mono ?_
  case s0 => exact (live_C LL_ LM_).2.2
  case s1 => exact (live_C LL_ LM_).2.1
  case s2 => exact (live_C LL_ LM_).2.2
  case s3 => exact (live_C LL_ LM_).2.1
  rintro e w13 ⟨rfl, hb⟩
  dsimp only
  have hS9 : _ ∧ _ ∧ _ ∧ _ ∧ _ ∧ _ ∧ _ ∧ _ := ⟨(hb.cell (World.block_lt_of_cell? _ _ hS.1)).trans hS.1, (hb.cell (World.block_lt_of_cell? _ _ hS.2.1)).trans hS.2.1, (hb.cell (World.block_lt_of_cell? _ _ hS.2.2.1)).trans hS.2.2.1, (hb.cell (World.block_lt_of_cell? _ _ hS.2.2.2.1)).trans hS.2.2.2.1, (hb.cell (World.block_lt_of_cell? _ _ hS.2.2.2.2.1)).trans hS.2.2.2.2.1, (hb.cell (World.block_lt_of_cell? _ _ hS.2.2.2.2.2.1)).trans hS.2.2.2.2.2.1, (hb.cell (World.block_lt_of_cell? _ _ hS.2.2.2.2.2.2.1)).trans hS.2.2.2.2.2.2.1, (hb.cell (World.block_lt_of_cell? _ _ hS.2.2.2.2.2.2.2)).trans hS.2.2.2.2.2.2.2⟩
  have nHX6_ := Aside0.mk ((hb.block _ (blk_lt HX6.out)).trans HX6.out)
  have nHX7_ := Aside0.mk ((hb.block _ (blk_lt HX7.out)).trans HX7.out)
  have nHX9_ := Aside0.mk ((hb.block _ (blk_lt HX9.out)).trans HX9.out)
  have nHC_ := Aside0.mk ((hb.block _ (blk_lt HC.out)).trans HC.out)
  have nHD_ := Aside0.mk ((hb.block _ (blk_lt HD.out)).trans HD.out)
  have nn_ := Aside0.mk (liveN_below HN.out hb)
  have nr_ := Aside0.mk (liveR_below HR.out hb)
  have nb_ := Aside0.mk (below_step HB.out hb)
  refine hK.out _ _ hS9 (fun _ => ?_)
  clear hK K hb HL HN HR HB hS HX6 HX7 HX9 HC HD
  have HN := nn_
  have HR := nr_
  have HB := nb_
  have hS := hS9
  clear nn_ nr_ nb_ hS9
  have HX6 := nHX6_
  clear nHX6_
  have HX7 := nHX7_
  clear nHX7_
  have HX9 := nHX9_
  clear nHX9_
  have HC := nHC_
  clear nHC_
  have HD := nHD_
  clear nHD_
  have HL := Aside0.mk (show Live _ [(.slice Asd rd.length csd, rd), (.slice Asn rn.length csn, rn), (.slice Ard rd.length crd, rd), (.slice Arn rn.length crn, rn), (.slice AY l3.length cY, l3), (.slice AX l2.length cX, l2), (.slice A0 l0.length c0, l0), (.slice A1 l1.length c1, l1), (.slice A2 l2.length c2, l2), (.slice A3 l3.length c3, l3), (.slice A4 l4.length c4, l4), (.slice A5 l5.length c5, l5)] from live_app (liveR_live HR.out) (liveN_live HN.out))
  simp only [Act.put, List.setIfInBounds_toArray, List.set_cons_zero, List.set_cons_succ]
  refine take_at (i := 14) (v := .bool false) rfl rfl (by kernel_rfl) (by kernel_rfl) (by kernel_rfl) (fun _ _ _ h => h) (Or.inl ⟨by rfl, ?_⟩) hS ?_
  · intro w hSw
    (try dsimp only at hSw)
    go_simp
  simp only [Act.put, List.setIfInBounds_toArray, List.set_cons_zero, List.set_cons_succ]
  refine take_at (i := 15) (v := .bool false) rfl rfl (by kernel_rfl) (by kernel_rfl) (by kernel_rfl) (fun _ _ _ h => h) (Or.inl ⟨by rfl, ?_⟩) hS ?_
  · intro w hSw
    (try dsimp only at hSw)
    go_simp
  simp only [Act.put, List.setIfInBounds_toArray, List.set_cons_zero, List.set_cons_succ]
  refine wpAnyH_done (by kernel_rfl) ?_ _
  clear hS
  have qgB0 : w13.cell? ⟨gB, 0, none⟩ = some (.slice AX l2.length cX) := (blk_cell HX9.out 0).trans rfl
  have qgB1 : w13.cell? ⟨gB, 1, none⟩ = some (.slice AY l3.length cY) := (blk_cell HX9.out 1).trans rfl
  have qg70 : w13.cell? ⟨w.heap.size + 1, 0, none⟩ = some (.slice A4 l4.length c4) := (blk_cell HX7.out 0).trans rfl
  have qg71 : w13.cell? ⟨w.heap.size + 1, 1, none⟩ = some (.slice A5 l5.length c5) := (blk_cell HX7.out 1).trans rfl
  have qg60 : w13.cell? ⟨w.heap.size, 0, none⟩ = some (.slice A2 l2.length c2) := (blk_cell HX6.out 0).trans rfl
  have qg61 : w13.cell? ⟨w.heap.size, 1, none⟩ = some (.slice A3 l3.length c3) := (blk_cell HX6.out 1).trans rfl
  go_upto_region 10 with (first | (go_at_call 40; (with_reducible refine (number_CompareFractions.calls k _ _ _ _ _ _ _ _ _ _ _ _ _ _ _ ?s0 C1_.out).mono ?_); (case s0 => exact fr_four LL_ LM_ LM_ LM_ LM_); rintro e wn ⟨rfl, hb⟩; replace qgB0 := (hb.cell (World.block_lt_of_cell? _ _ qgB0)).trans qgB0; replace qgB1 := (hb.cell (World.block_lt_of_cell? _ _ qgB1)).trans qgB1; replace qg70 := (hb.cell (World.block_lt_of_cell? _ _ qg70)).trans qg70; replace qg71 := (hb.cell (World.block_lt_of_cell? _ _ qg71)).trans qg71; replace qg60 := (hb.cell (World.block_lt_of_cell? _ _ qg60)).trans qg60; replace qg61 := (hb.cell (World.block_lt_of_cell? _ _ qg61)).trans qg61; replace HX6 := Aside0.mk ((hb.block _ (blk_lt HX6.out)).trans HX6.out); replace HX7 := Aside0.mk ((hb.block _ (blk_lt HX7.out)).trans HX7.out); replace HX9 := Aside0.mk ((hb.block _ (blk_lt HX9.out)).trans HX9.out); replace HC := Aside0.mk ((hb.block _ (blk_lt HC.out)).trans HC.out); replace HD := Aside0.mk ((hb.block _ (blk_lt HD.out)).trans HD.out); have nn_ := Aside0.mk (liveN_below NN_ hb); have nr_ := Aside0.mk (liveR_below NR_ hb); have nb_ := Aside0.mk (below_step BC_ hb); clear HL HN HR HB; have HN := nn_; have HR := nr_; have HB := nb_; clear nn_ nr_ nb_ hb; have HL := Aside0.mk (show Live _ [(.slice Asd rd.length csd, rd), (.slice Asn rn.length csn, rn), (.slice Ard rd.length crd, rd), (.slice Arn rn.length crn, rn), (.slice AY l3.length cY, l3), (.slice AX l2.length cX, l2), (.slice A0 l0.length c0, l0), (.slice A1 l1.length c1, l1), (.slice A2 l2.length c2, l2), (.slice A3 l3.length c3, l3), (.slice A4 l4.length c4, l4), (.slice A5 l5.length c5, l5)] from live_app (liveR_live HR.out) (liveN_live HN.out))) | (go_at_call 41; (with_reducible refine (headendref01_CompareFractions.calls k _ _ _ _ _ _ _ _ _ _ _ _ _ _ _ ?s0 ?s1 ?s2 ?s3 ?s4 ?s5 ?s6 ?s7 C2_.out).mono ?_); (case s0 => exact (live_C LL_ LM_).2.2); (case s1 => exact (live_C LL_ LM_).2.1); (case s2 => exact (live_C LL_ LM_).2.2); (case s3 => exact (live_C LL_ LM_).2.1); (case s4 => exact (live_C LL_ LM_).2.2); (case s5 => exact (live_C LL_ LM_).2.1); (case s6 => exact (live_C LL_ LM_).2.2); (case s7 => exact (live_C LL_ LM_).2.1); rintro e wn ⟨rfl, hb⟩; replace qgB0 := (hb.cell (World.block_lt_of_cell? _ _ qgB0)).trans qgB0; replace qgB1 := (hb.cell (World.block_lt_of_cell? _ _ qgB1)).trans qgB1; replace qg70 := (hb.cell (World.block_lt_of_cell? _ _ qg70)).trans qg70; replace qg71 := (hb.cell (World.block_lt_of_cell? _ _ qg71)).trans qg71; replace qg60 := (hb.cell (World.block_lt_of_cell? _ _ qg60)).trans qg60; replace qg61 := (hb.cell (World.block_lt_of_cell? _ _ qg61)).trans qg61; replace HX6 := Aside0.mk ((hb.block _ (blk_lt HX6.out)).trans HX6.out); replace HX7 := Aside0.mk ((hb.block _ (blk_lt HX7.out)).trans HX7.out); replace HX9 := Aside0.mk ((hb.block _ (blk_lt HX9.out)).trans HX9.out); replace HC := Aside0.mk ((hb.block _ (blk_lt HC.out)).trans HC.out); replace HD := Aside0.mk ((hb.block _ (blk_lt HD.out)).trans HD.out); have nn_ := Aside0.mk (liveN_below NN_ hb); have nr_ := Aside0.mk (liveR_below NR_ hb); have nb_ := Aside0.mk (below_step BC_ hb); clear HL HN HR HB; have HN := nn_; have HR := nr_; have HB := nb_; clear nn_ nr_ nb_ hb; have HL := Aside0.mk (show Live _ [(.slice Asd rd.length csd, rd), (.slice Asn rn.length csn, rn), (.slice Ard rd.length crd, rd), (.slice Arn rn.length crn, rn), (.slice AY l3.length cY, l3), (.slice AX l2.length cX, l2), (.slice A0 l0.length c0, l0), (.slice A1 l1.length c1, l1), (.slice A2 l2.length c2, l2), (.slice A3 l3.length c3, l3), (.slice A4 l4.length c4, l4), (.slice A5 l5.length c5, l5)] from live_app (liveR_live HR.out) (liveN_live HN.out))))
  obtain ⟨Na, hN_⟩ : ∃ n, wn.heap.size = n := ⟨_, rfl⟩
  have HXR := Aside0.mk (show LiveR w.heap.size (fun k => k < Na) wn [(.slice AY l3.length cY, l3), (.slice AX l2.length cX, l2)] from by rw [← hN_]; exact liveR_bound (liveR_sub HR.out (by simp)))
  have HNE := Aside0.mk hN_
  have HNBa := Aside0.mk (show w.heap.size ≤ Na ∧ gD < Na from by rw [← hN_]; exact ⟨HB.out.size, blk_lt HD.out⟩)
  clear hN_
  have nr_ := Aside0.mk (show LiveR w.heap.size (fun _ => True) wn [(.slice AY l3.length cY, l3), (.slice AX l2.length cX, l2)] from liveR_sub HR.out (by simp))
  clear HR HL
  have HR := nr_
  clear nr_
  have HL := Aside0.mk (show Live _ [(.slice AY l3.length cY, l3), (.slice AX l2.length cX, l2), (.slice A0 l0.length c0, l0), (.slice A1 l1.length c1, l1), (.slice A2 l2.length c2, l2), (.slice A3 l3.length c3, l3), (.slice A4 l4.length c4, l4), (.slice A5 l5.length c5, l5)] from live_app (liveR_live HR.out) (liveN_live HN.out))
  have qgC0 : wn.cell? ⟨gC, 0, none⟩ = some (.slice Arn rn.length crn) := (blk_cell HC.out 0).trans rfl
  have qgC1 : wn.cell? ⟨gC, 1, none⟩ = some (.slice Ard rd.length crd) := (blk_cell HC.out 1).trans rfl
  go_upto_region 11 with (first | (go_at_call 42; (with_reducible refine (number_AddFractions.calls k _ _ _ _ _ _ _ _ _ _ _ _ _ _ _ _ ?s0 A1_.out).mono ?_); (case s0 => exact fr_four LL_ LM_ LM_ LM_ LM_); rintro e wn ⟨v, u, rfl, ho, hu, hb⟩; obtain ⟨Acan, ccan, rfl, _, _⟩ := Kd.R_reads ho; obtain ⟨Acad, ccad, rfl, _, _⟩ := Kd.R_reads hu; have HC0 := Aside0.mk (Kd.R_lower (Kd.R_mono (Kd.R_bound ho) (ok' := fun k => Na ≤ k ∧ some k ≠ (Value.ownBlock (.slice Acad ad.length ccad))) (fun k hk => ⟨by have h_ := hk.2.1; rw [HNE.out] at h_; exact h_, hk.1⟩)) HB.out.size); have HC1 := Aside0.mk (Kd.R_lower (Kd.R_mono (Kd.R_bound hu) (ok' := fun k => Na ≤ k ∧ some k ≠ (Value.ownBlock (.slice Acan an.length ccan))) (fun k hk => ⟨by have h_ := hk.2.1; rw [HNE.out] at h_; exact h_, hk.1⟩)) HB.out.size); clear HNE; replace HXR := Aside0.mk (liveR_below HXR.out hb); replace qgB0 := (hb.cell (World.block_lt_of_cell? _ _ qgB0)).trans qgB0; replace qgB1 := (hb.cell (World.block_lt_of_cell? _ _ qgB1)).trans qgB1; replace qg70 := (hb.cell (World.block_lt_of_cell? _ _ qg70)).trans qg70; replace qg71 := (hb.cell (World.block_lt_of_cell? _ _ qg71)).trans qg71; replace qg60 := (hb.cell (World.block_lt_of_cell? _ _ qg60)).trans qg60; replace qg61 := (hb.cell (World.block_lt_of_cell? _ _ qg61)).trans qg61; replace qgC0 := (hb.cell (World.block_lt_of_cell? _ _ qgC0)).trans qgC0; replace qgC1 := (hb.cell (World.block_lt_of_cell? _ _ qgC1)).trans qgC1; replace HX6 := Aside0.mk ((hb.block _ (blk_lt HX6.out)).trans HX6.out); replace HX7 := Aside0.mk ((hb.block _ (blk_lt HX7.out)).trans HX7.out); replace HX9 := Aside0.mk ((hb.block _ (blk_lt HX9.out)).trans HX9.out); replace HC := Aside0.mk ((hb.block _ (blk_lt HC.out)).trans HC.out); replace HD := Aside0.mk ((hb.block _ (blk_lt HD.out)).trans HD.out); have nn_ := Aside0.mk (liveN_below NN_ hb); have nr_ := Aside0.mk (liveR_add (liveR_add (liveR_below NR_ hb) ho (below_size BC_)) hu (below_size BC_)); have nb_ := Aside0.mk (below_step BC_ hb); clear HL HN HR HB; have HN := nn_; have HR := nr_; have HB := nb_; clear nn_ nr_ nb_ hb; have HL := Aside0.mk (show Live _ [(.slice Acad ad.length ccad, ad), (.slice Acan an.length ccan, an), (.slice AY l3.length cY, l3), (.slice AX l2.length cX, l2), (.slice A0 l0.length c0, l0), (.slice A1 l1.length c1, l1), (.slice A2 l2.length c2, l2), (.slice A3 l3.length c3, l3), (.slice A4 l4.length c4, l4), (.slice A5 l5.length c5, l5)] from live_app (liveR_live HR.out) (liveN_live HN.out)); clear ho; clear hu; have fC0 := blk_frozen HC.out 0; have fC1 := blk_frozen HC.out 1))
  clear fC0 fC1
  clear qgB0 qgB1 qg70 qg71 qg60 qg61 qgC0 qgC1
  have o1_ := HC_ne_HX9.out
  have o2_ := HD_ne_HC.out
  have h0_ := HC.out
  have h1_ := blk_put (cs := #[.slice Arn rn.length crn, .slice Ard rd.length crd]) (cs' := #[.slice Acan an.length ccan, .slice Ard rd.length crd]) h0_ 0 (.slice Acan an.length ccan) rfl
  have nHC_ := Aside0.mk (blk_put (cs := #[.slice Acan an.length ccan, .slice Ard rd.length crd]) (cs' := #[.slice Acan an.length ccan, .slice Acad ad.length ccad]) h1_ 1 (.slice Acad ad.length ccad) rfl)
  have nHX6_ := Aside0.mk (blk_far (p := ⟨gC, 1, none⟩) (blk_far (p := ⟨gC, 0, none⟩) HX6.out (by dsimp only; omega) (.slice Acan an.length ccan)) (by dsimp only; omega) (.slice Acad ad.length ccad))
  have nHX7_ := Aside0.mk (blk_far (p := ⟨gC, 1, none⟩) (blk_far (p := ⟨gC, 0, none⟩) HX7.out (by dsimp only; omega) (.slice Acan an.length ccan)) (by dsimp only; omega) (.slice Acad ad.length ccad))
  have nHX9_ := Aside0.mk (blk_far (p := ⟨gC, 1, none⟩) (blk_far (p := ⟨gC, 0, none⟩) HX9.out (by dsimp only; omega) (.slice Acan an.length ccan)) (by dsimp only; omega) (.slice Acad ad.length ccad))
  have nHD_ := Aside0.mk (blk_far (p := ⟨gC, 1, none⟩) (blk_far (p := ⟨gC, 0, none⟩) HD.out (by dsimp only; omega) (.slice Acan an.length ccan)) (by dsimp only; omega) (.slice Acad ad.length ccad))
  have nn_ := Aside0.mk (liveN_far (p := ⟨gC, 1, none⟩) (liveN_far (p := ⟨gC, 0, none⟩) HN.out (by dsimp only; omega) (.slice Acan an.length ccan)) (by dsimp only; omega) (.slice Acad ad.length ccad))
  have nr_ := Aside0.mk (liveR_store (liveR_store HR.out h0_ 0 (.slice Acan an.length ccan)) h1_ 1 (.slice Acad ad.length ccad))
  have nHXR_ := Aside0.mk (liveR_store (liveR_store HXR.out h0_ 0 (.slice Acan an.length ccan)) h1_ 1 (.slice Acad ad.length ccad))
  have nHC0_ := Aside0.mk (r_store (r_store HC0.out h0_ 0 (.slice Acan an.length ccan)) h1_ 1 (.slice Acad ad.length ccad))
  have nHC1_ := Aside0.mk (r_store (r_store HC1.out h0_ 0 (.slice Acan an.length ccan)) h1_ 1 (.slice Acad ad.length ccad))
  have nb_ := Aside0.mk ((HB.out.setCell (p := ⟨gC, 0, none⟩) (by dsimp only; omega) (.slice Acan an.length ccan)).setCell (p := ⟨gC, 1, none⟩) (by dsimp only; omega) (.slice Acad ad.length ccad))
  clear h0_ h1_ o1_ o2_ HX6 HX7 HX9 HC HD HN HR HB HL HXR HC0 HC1
  have HX6 := nHX6_
  have HX7 := nHX7_
  have HX9 := nHX9_
  have HC := nHC_
  have HD := nHD_
  have HXR := nHXR_
  have HC0 := nHC0_
  have HC1 := nHC1_
  have HN := nn_
  have HR := nr_
  have HB := nb_
  clear nn_ nr_ nb_ nHX6_ nHX7_ nHX9_ nHC_ nHD_ nHXR_ nHC0_ nHC1_
  have HL := Aside0.mk (show Live _ [(.slice Acad ad.length ccad, ad), (.slice Acan an.length ccan, an), (.slice AY l3.length cY, l3), (.slice AX l2.length cX, l2), (.slice A0 l0.length c0, l0), (.slice A1 l1.length c1, l1), (.slice A2 l2.length c2, l2), (.slice A3 l3.length c3, l3), (.slice A4 l4.length c4, l4), (.slice A5 l5.length c5, l5)] from live_app (liveR_live HR.out) (liveN_live HN.out))
  generalize hW_ : ((wn.setCell ⟨gC, 0, none⟩ (.slice Acan an.length ccan)).setCell ⟨gC, 1, none⟩ (.slice Acad ad.length ccad)) = WCa at *
  clear hW_
  have qg60 : WCa.cell? ⟨w.heap.size, 0, none⟩ = some (.slice A2 l2.length c2) := (blk_cell HX6.out 0).trans rfl
  have qg61 : WCa.cell? ⟨w.heap.size, 1, none⟩ = some (.slice A3 l3.length c3) := (blk_cell HX6.out 1).trans rfl
  have qg70 : WCa.cell? ⟨w.heap.size + 1, 0, none⟩ = some (.slice A4 l4.length c4) := (blk_cell HX7.out 0).trans rfl
  have qg71 : WCa.cell? ⟨w.heap.size + 1, 1, none⟩ = some (.slice A5 l5.length c5) := (blk_cell HX7.out 1).trans rfl
  have qgD0 : WCa.cell? ⟨gD, 0, none⟩ = some (.slice Asn rn.length csn) := (blk_cell HD.out 0).trans rfl
  have qgD1 : WCa.cell? ⟨gD, 1, none⟩ = some (.slice Asd rd.length csd) := (blk_cell HD.out 1).trans rfl
  go_upto_region 12 with (first | (go_at_call 43; (with_reducible refine (headendref01_AddFractions.calls k _ _ _ _ _ _ _ _ _ _ _ _ _ _ _ _ ?s0 ?s1 ?s2 ?s3 ?s4 ?s5 ?s6 ?s7 A2_.out).mono ?_); (case s0 => exact (live_C LL_ LM_).2.2); (case s1 => exact (live_C LL_ LM_).2.1); (case s2 => exact (live_C LL_ LM_).2.2); (case s3 => exact (live_C LL_ LM_).2.1); (case s4 => exact (live_C LL_ LM_).2.2); (case s5 => exact (live_C LL_ LM_).2.1); (case s6 => exact (live_C LL_ LM_).2.2); (case s7 => exact (live_C LL_ LM_).2.1); rintro e wn ⟨v, u, rfl, ho, hu, hb⟩; obtain ⟨Adan, cdan, rfl, _, _⟩ := Kd.R_reads ho; obtain ⟨Adad, cdad, rfl, _, _⟩ := Kd.R_reads hu; replace HXR := Aside0.mk (liveR_below HXR.out hb); replace HC0 := Aside0.mk (Kd.R_below HC0.out hb); replace HC1 := Aside0.mk (Kd.R_below HC1.out hb); replace qg60 := (hb.cell (World.block_lt_of_cell? _ _ qg60)).trans qg60; replace qg61 := (hb.cell (World.block_lt_of_cell? _ _ qg61)).trans qg61; replace qg70 := (hb.cell (World.block_lt_of_cell? _ _ qg70)).trans qg70; replace qg71 := (hb.cell (World.block_lt_of_cell? _ _ qg71)).trans qg71; replace qgD0 := (hb.cell (World.block_lt_of_cell? _ _ qgD0)).trans qgD0; replace qgD1 := (hb.cell (World.block_lt_of_cell? _ _ qgD1)).trans qgD1; replace HX6 := Aside0.mk ((hb.block _ (blk_lt HX6.out)).trans HX6.out); replace HX7 := Aside0.mk ((hb.block _ (blk_lt HX7.out)).trans HX7.out); replace HX9 := Aside0.mk ((hb.block _ (blk_lt HX9.out)).trans HX9.out); replace HC := Aside0.mk ((hb.block _ (blk_lt HC.out)).trans HC.out); replace HD := Aside0.mk ((hb.block _ (blk_lt HD.out)).trans HD.out); have nn_ := Aside0.mk (liveN_below NN_ hb); have nr_ := Aside0.mk (liveR_add (liveR_add (liveR_below NR_ hb) ho (below_size BC_)) hu (below_size BC_)); have nb_ := Aside0.mk (below_step BC_ hb); clear HL HN HR HB; have HN := nn_; have HR := nr_; have HB := nb_; clear nn_ nr_ nb_ hb; have HL := Aside0.mk (show Live _ [(.slice Adad ad.length cdad, ad), (.slice Adan an.length cdan, an), (.slice Acad ad.length ccad, ad), (.slice Acan an.length ccan, an), (.slice AY l3.length cY, l3), (.slice AX l2.length cX, l2), (.slice A0 l0.length c0, l0), (.slice A1 l1.length c1, l1), (.slice A2 l2.length c2, l2), (.slice A3 l3.length c3, l3), (.slice A4 l4.length c4, l4), (.slice A5 l5.length c5, l5)] from live_app (liveR_live HR.out) (liveN_live HN.out)); clear ho; clear hu; have fC0 := blk_frozen HD.out 0; have fC1 := blk_frozen HD.out 1))
  clear fC0 fC1
  clear qg60 qg61 qg70 qg71 qgD0 qgD1
  have o1_ := HC_ne_HX9.out
  have o2_ := HD_ne_HC.out
  have h0_ := HD.out
  have h1_ := blk_put (cs := #[.slice Asn rn.length csn, .slice Asd rd.length csd]) (cs' := #[.slice Adan an.length cdan, .slice Asd rd.length csd]) h0_ 0 (.slice Adan an.length cdan) rfl
  have nHD_ := Aside0.mk (blk_put (cs := #[.slice Adan an.length cdan, .slice Asd rd.length csd]) (cs' := #[.slice Adan an.length cdan, .slice Adad ad.length cdad]) h1_ 1 (.slice Adad ad.length cdad) rfl)
  have nHX6_ := Aside0.mk (blk_far (p := ⟨gD, 1, none⟩) (blk_far (p := ⟨gD, 0, none⟩) HX6.out (by dsimp only; omega) (.slice Adan an.length cdan)) (by dsimp only; omega) (.slice Adad ad.length cdad))
  have nHX7_ := Aside0.mk (blk_far (p := ⟨gD, 1, none⟩) (blk_far (p := ⟨gD, 0, none⟩) HX7.out (by dsimp only; omega) (.slice Adan an.length cdan)) (by dsimp only; omega) (.slice Adad ad.length cdad))
  have nHX9_ := Aside0.mk (blk_far (p := ⟨gD, 1, none⟩) (blk_far (p := ⟨gD, 0, none⟩) HX9.out (by dsimp only; omega) (.slice Adan an.length cdan)) (by dsimp only; omega) (.slice Adad ad.length cdad))
  have nHC_ := Aside0.mk (blk_far (p := ⟨gD, 1, none⟩) (blk_far (p := ⟨gD, 0, none⟩) HC.out (by dsimp only; omega) (.slice Adan an.length cdan)) (by dsimp only; omega) (.slice Adad ad.length cdad))
  have nn_ := Aside0.mk (liveN_far (p := ⟨gD, 1, none⟩) (liveN_far (p := ⟨gD, 0, none⟩) HN.out (by dsimp only; omega) (.slice Adan an.length cdan)) (by dsimp only; omega) (.slice Adad ad.length cdad))
  have nr_ := Aside0.mk (liveR_store (liveR_store HR.out h0_ 0 (.slice Adan an.length cdan)) h1_ 1 (.slice Adad ad.length cdad))
  have nHXR_ := Aside0.mk (liveR_store (liveR_store HXR.out h0_ 0 (.slice Adan an.length cdan)) h1_ 1 (.slice Adad ad.length cdad))
  have nHC0_ := Aside0.mk (r_store (r_store HC0.out h0_ 0 (.slice Adan an.length cdan)) h1_ 1 (.slice Adad ad.length cdad))
  have nHC1_ := Aside0.mk (r_store (r_store HC1.out h0_ 0 (.slice Adan an.length cdan)) h1_ 1 (.slice Adad ad.length cdad))
  have nb_ := Aside0.mk ((HB.out.setCell (p := ⟨gD, 0, none⟩) (by dsimp only; omega) (.slice Adan an.length cdan)).setCell (p := ⟨gD, 1, none⟩) (by dsimp only; omega) (.slice Adad ad.length cdad))
  clear h0_ h1_ o1_ o2_ HX6 HX7 HX9 HC HD HN HR HB HL HXR HC0 HC1
  have HX6 := nHX6_
  have HX7 := nHX7_
  have HX9 := nHX9_
  have HC := nHC_
  have HD := nHD_
  have HXR := nHXR_
  have HC0 := nHC0_
  have HC1 := nHC1_
  have HN := nn_
  have HR := nr_
  have HB := nb_
  clear nn_ nr_ nb_ nHX6_ nHX7_ nHX9_ nHC_ nHD_ nHXR_ nHC0_ nHC1_
  have HL := Aside0.mk (show Live _ [(.slice Adad ad.length cdad, ad), (.slice Adan an.length cdan, an), (.slice Acad ad.length ccad, ad), (.slice Acan an.length ccan, an), (.slice AY l3.length cY, l3), (.slice AX l2.length cX, l2), (.slice A0 l0.length c0, l0), (.slice A1 l1.length c1, l1), (.slice A2 l2.length c2, l2), (.slice A3 l3.length c3, l3), (.slice A4 l4.length c4, l4), (.slice A5 l5.length c5, l5)] from live_app (liveR_live HR.out) (liveN_live HN.out))
  generalize hW_ : ((wn.setCell ⟨gD, 0, none⟩ (.slice Adan an.length cdan)).setCell ⟨gD, 1, none⟩ (.slice Adad ad.length cdad)) = WDa at *
  clear hW_
  have qgC0 : WDa.cell? ⟨gC, 0, none⟩ = some (.slice Acan an.length ccan) := (blk_cell HC.out 0).trans rfl
  have qgC1 : WDa.cell? ⟨gC, 1, none⟩ = some (.slice Acad ad.length ccad) := (blk_cell HC.out 1).trans rfl
  have qgD0 : WDa.cell? ⟨gD, 0, none⟩ = some (.slice Adan an.length cdan) := (blk_cell HD.out 0).trans rfl
  have qgD1 : WDa.cell? ⟨gD, 1, none⟩ = some (.slice Adad ad.length cdad) := (blk_cell HD.out 1).trans rfl
  go_upto_region 14 with (first | (go_at_call 37; (with_reducible refine (headendref01_SameFraction.calls k _ _ _ _ _ _ _ _ _ _ _ _ _ _ ?s0 ?s1 ?s2 ?s3 ?s4 ?s5 ?s6 ?s7 S2.out).mono ?_); (case s0 => exact (live_C LL_ LM_).2.2); (case s1 => exact (live_C LL_ LM_).2.1); (case s2 => exact (live_C LL_ LM_).2.2); (case s3 => exact (live_C LL_ LM_).2.1); (case s4 => exact (live_C LL_ LM_).2.2); (case s5 => exact (live_C LL_ LM_).2.1); (case s6 => exact (live_C LL_ LM_).2.2); (case s7 => exact (live_C LL_ LM_).2.1); rintro e wn ⟨rfl, hb⟩; replace HXR := Aside0.mk (liveR_below HXR.out hb); replace HC0 := Aside0.mk (Kd.R_below HC0.out hb); replace HC1 := Aside0.mk (Kd.R_below HC1.out hb); replace qgC0 := (hb.cell (World.block_lt_of_cell? _ _ qgC0)).trans qgC0; replace qgC1 := (hb.cell (World.block_lt_of_cell? _ _ qgC1)).trans qgC1; replace qgD0 := (hb.cell (World.block_lt_of_cell? _ _ qgD0)).trans qgD0; replace qgD1 := (hb.cell (World.block_lt_of_cell? _ _ qgD1)).trans qgD1; replace HX6 := Aside0.mk ((hb.block _ (blk_lt HX6.out)).trans HX6.out); replace HX7 := Aside0.mk ((hb.block _ (blk_lt HX7.out)).trans HX7.out); replace HX9 := Aside0.mk ((hb.block _ (blk_lt HX9.out)).trans HX9.out); replace HC := Aside0.mk ((hb.block _ (blk_lt HC.out)).trans HC.out); replace HD := Aside0.mk ((hb.block _ (blk_lt HD.out)).trans HD.out); have nn_ := Aside0.mk (liveN_below NN_ hb); have nr_ := Aside0.mk (liveR_below NR_ hb); have nb_ := Aside0.mk (below_step BC_ hb); clear HL HN HR HB; have HN := nn_; have HR := nr_; have HB := nb_; clear nn_ nr_ nb_ hb; have HL := Aside0.mk (show Live _ [(.slice Adad ad.length cdad, ad), (.slice Adan an.length cdan, an), (.slice Acad ad.length ccad, ad), (.slice Acan an.length ccan, an), (.slice AY l3.length cY, l3), (.slice AX l2.length cX, l2), (.slice A0 l0.length c0, l0), (.slice A1 l1.length c1, l1), (.slice A2 l2.length c2, l2), (.slice A3 l3.length c3, l3), (.slice A4 l4.length c4, l4), (.slice A5 l5.length c5, l5)] from live_app (liveR_live HR.out) (liveN_live HN.out))))
  clear qgC0 qgC1 qgD0 qgD1
  have qgC0 : wn.cell? ⟨gC, 0, none⟩ = some (.slice Acan an.length ccan) := (blk_cell HC.out 0).trans rfl
  have qgC1 : wn.cell? ⟨gC, 1, none⟩ = some (.slice Acad ad.length ccad) := (blk_cell HC.out 1).trans rfl
  go_upto_region 15 with (first | (go_at_call 44; (with_reducible refine (headendlaw01_spoil.calls k (fun k => Na ≤ k ∧ some k ≠ Value.ownBlock (.slice Acad ad.length ccad)) _ _ _ w _ HB.out HC0.out P1.out).mono ?_); rintro e wn ⟨rfl, hr_, hbb, hkk⟩; have o1_ := HC_ne_HX9.out; have o2_ := HD_ne_HC.out; have o3_ := HNBa.out; clear qgC0 qgC1; have nHX6_ := Aside0.mk ((hkk.2 _ (blk_lt HX6.out) (fun h_ => by have := h_.1; omega)).trans HX6.out); have nHX7_ := Aside0.mk ((hkk.2 _ (blk_lt HX7.out) (fun h_ => by have := h_.1; omega)).trans HX7.out); have nHX9_ := Aside0.mk ((hkk.2 _ (blk_lt HX9.out) (fun h_ => by have := h_.1; omega)).trans HX9.out); have nHC_ := Aside0.mk ((hkk.2 _ (blk_lt HC.out) (fun h_ => by have := h_.1; omega)).trans HC.out); have nHD_ := Aside0.mk ((hkk.2 _ (blk_lt HD.out) (fun h_ => by have := h_.1; omega)).trans HD.out); have nn_ := Aside0.mk (liveN_kept HN.out hkk (fun k_ h_ => by have := h_.1; omega)); have nx_ := Aside0.mk (liveR_kept HXR.out hkk (fun k_ h1_ h2_ => by have := h2_.1; omega)); have nc_ := Aside0.mk (Kd.R_step (Kd.R_mono (Kd.R_tight rfl HC1.out) (ok' := fun k_ => Na ≤ k_ ∧ some k_ = Value.ownBlock (.slice Acad ad.length ccad)) (fun k_ h_ => ⟨(HC1.out.1 k_ h_.symm).1, h_⟩)) (fun k_ h_ hl_ => hkk.2 k_ hl_ (fun hp_ => hp_.2 h_.2))); clear HX6 HX7 HX9 HC HD HN HR HL HB HXR HC0 HC1 hkk hr_ o1_ o2_ o3_; have HB := Aside0.mk hbb; have HN := nn_; have HXR := nx_; clear hbb nn_ nx_; have HC1 := nc_; clear nc_; have HC0 := Aside0.mk trivial; have HX6 := nHX6_; clear nHX6_; have HX7 := nHX7_; clear nHX7_; have HX9 := nHX9_; clear nHX9_; have HC := nHC_; clear nHC_; have HD := nHD_; clear nHD_; have HR := Aside0.mk (liveR_true HXR.out); have HL := Aside0.mk (show Live _ [(.slice AY l3.length cY, l3), (.slice AX l2.length cX, l2), (.slice A0 l0.length c0, l0), (.slice A1 l1.length c1, l1), (.slice A2 l2.length c2, l2), (.slice A3 l3.length c3, l3), (.slice A4 l4.length c4, l4), (.slice A5 l5.length c5, l5)] from live_app (liveR_live HR.out) (liveN_live HN.out)); have qgC0 : wn.cell? ⟨gC, 0, none⟩ = some (.slice Acan an.length ccan) := (blk_cell HC.out 0).trans rfl; have qgC1 : wn.cell? ⟨gC, 1, none⟩ = some (.slice Acad ad.length ccad) := (blk_cell HC.out 1).trans rfl))
  go_upto_region 16 with (first | (go_at_call 44; (with_reducible refine (headendlaw01_spoil.calls k (fun k => Na ≤ k ∧ some k = Value.ownBlock (.slice Acad ad.length ccad)) _ _ _ w _ HB.out HC1.out P2.out).mono ?_); rintro e wn ⟨rfl, hr_, hbb, hkk⟩; have o1_ := HC_ne_HX9.out; have o2_ := HD_ne_HC.out; have o3_ := HNBa.out; clear qgC0 qgC1; have nHX6_ := Aside0.mk ((hkk.2 _ (blk_lt HX6.out) (fun h_ => by have := h_.1; omega)).trans HX6.out); have nHX7_ := Aside0.mk ((hkk.2 _ (blk_lt HX7.out) (fun h_ => by have := h_.1; omega)).trans HX7.out); have nHX9_ := Aside0.mk ((hkk.2 _ (blk_lt HX9.out) (fun h_ => by have := h_.1; omega)).trans HX9.out); have nHC_ := Aside0.mk ((hkk.2 _ (blk_lt HC.out) (fun h_ => by have := h_.1; omega)).trans HC.out); have nHD_ := Aside0.mk ((hkk.2 _ (blk_lt HD.out) (fun h_ => by have := h_.1; omega)).trans HD.out); have nn_ := Aside0.mk (liveN_kept HN.out hkk (fun k_ h_ => by have := h_.1; omega)); have nx_ := Aside0.mk (liveR_kept HXR.out hkk (fun k_ h1_ h2_ => by have := h2_.1; omega)); clear HX6 HX7 HX9 HC HD HN HR HL HB HXR HC0  hkk hr_ o1_ o2_ o3_; have HB := Aside0.mk hbb; have HN := nn_; have HXR := nx_; clear hbb nn_ nx_; have HX6 := nHX6_; clear nHX6_; have HX7 := nHX7_; clear nHX7_; have HX9 := nHX9_; clear nHX9_; have HC := nHC_; clear nHC_; have HD := nHD_; clear nHD_; have HR := Aside0.mk (liveR_true HXR.out); have HL := Aside0.mk (show Live _ [(.slice AY l3.length cY, l3), (.slice AX l2.length cX, l2), (.slice A0 l0.length c0, l0), (.slice A1 l1.length c1, l1), (.slice A2 l2.length c2, l2), (.slice A3 l3.length c3, l3), (.slice A4 l4.length c4, l4), (.slice A5 l5.length c5, l5)] from live_app (liveR_live HR.out) (liveN_live HN.out)); have qgC0 : wn.cell? ⟨gC, 0, none⟩ = some (.slice Acan an.length ccan) := (blk_cell HC.out 0).trans rfl; have qgC1 : wn.cell? ⟨gC, 1, none⟩ = some (.slice Acad ad.length ccad) := (blk_cell HC.out 1).trans rfl))
  clear qgC0 qgC1 HC1 HXR
  have qgB0 : wn.cell? ⟨gB, 0, none⟩ = some (.slice AX l2.length cX) := (blk_cell HX9.out 0).trans rfl
  have qgB1 : wn.cell? ⟨gB, 1, none⟩ = some (.slice AY l3.length cY) := (blk_cell HX9.out 1).trans rfl
  have qg70 : wn.cell? ⟨w.heap.size + 1, 0, none⟩ = some (.slice A4 l4.length c4) := (blk_cell HX7.out 0).trans rfl
  have qg71 : wn.cell? ⟨w.heap.size + 1, 1, none⟩ = some (.slice A5 l5.length c5) := (blk_cell HX7.out 1).trans rfl
  have qg60 : wn.cell? ⟨w.heap.size, 0, none⟩ = some (.slice A2 l2.length c2) := (blk_cell HX6.out 0).trans rfl
  have qg61 : wn.cell? ⟨w.heap.size, 1, none⟩ = some (.slice A3 l3.length c3) := (blk_cell HX6.out 1).trans rfl
  obtain ⟨Nm, hN_⟩ : ∃ n, wn.heap.size = n := ⟨_, rfl⟩
  have HXR := Aside0.mk (show LiveR w.heap.size (fun k => k < Nm) wn [(.slice AY l3.length cY, l3), (.slice AX l2.length cX, l2)] from by rw [← hN_]; exact liveR_bound (liveR_sub HR.out (by simp)))
  have HNE := Aside0.mk hN_
  have HNBm := Aside0.mk (show w.heap.size ≤ Nm ∧ gD < Nm from by rw [← hN_]; exact ⟨HB.out.size, blk_lt HD.out⟩)
  clear hN_
  have nr_ := Aside0.mk (show LiveR w.heap.size (fun _ => True) wn [(.slice AY l3.length cY, l3), (.slice AX l2.length cX, l2)] from liveR_sub HR.out (by simp))
  clear HR HL
  have HR := nr_
  clear nr_
  have HL := Aside0.mk (show Live _ [(.slice AY l3.length cY, l3), (.slice AX l2.length cX, l2), (.slice A0 l0.length c0, l0), (.slice A1 l1.length c1, l1), (.slice A2 l2.length c2, l2), (.slice A3 l3.length c3, l3), (.slice A4 l4.length c4, l4), (.slice A5 l5.length c5, l5)] from live_app (liveR_live HR.out) (liveN_live HN.out))
  have qgC0 : wn.cell? ⟨gC, 0, none⟩ = some (.slice Acan an.length ccan) := (blk_cell HC.out 0).trans rfl
  have qgC1 : wn.cell? ⟨gC, 1, none⟩ = some (.slice Acad ad.length ccad) := (blk_cell HC.out 1).trans rfl
  go_upto_region 17 with (first | (go_at_call 45; (with_reducible refine (number_MulFractions.calls k _ _ _ _ _ _ _ _ _ _ _ _ _ _ _ _ ?s0 M1_.out).mono ?_); (case s0 => exact fr_four LL_ LM_ LM_ LM_ LM_); rintro e wn ⟨v, u, rfl, ho, hu, hb⟩; obtain ⟨Acmn, ccmn, rfl, _, _⟩ := Kd.R_reads ho; obtain ⟨Acmd, ccmd, rfl, _, _⟩ := Kd.R_reads hu; have HC0 := Aside0.mk (Kd.R_lower (Kd.R_mono (Kd.R_bound ho) (ok' := fun k => Nm ≤ k ∧ some k ≠ (Value.ownBlock (.slice Acmd ud.length ccmd))) (fun k hk => ⟨by have h_ := hk.2.1; rw [HNE.out] at h_; exact h_, hk.1⟩)) HB.out.size); have HC1 := Aside0.mk (Kd.R_lower (Kd.R_mono (Kd.R_bound hu) (ok' := fun k => Nm ≤ k ∧ some k ≠ (Value.ownBlock (.slice Acmn un.length ccmn))) (fun k hk => ⟨by have h_ := hk.2.1; rw [HNE.out] at h_; exact h_, hk.1⟩)) HB.out.size); clear HNE; replace HXR := Aside0.mk (liveR_below HXR.out hb); replace qgB0 := (hb.cell (World.block_lt_of_cell? _ _ qgB0)).trans qgB0; replace qgB1 := (hb.cell (World.block_lt_of_cell? _ _ qgB1)).trans qgB1; replace qg70 := (hb.cell (World.block_lt_of_cell? _ _ qg70)).trans qg70; replace qg71 := (hb.cell (World.block_lt_of_cell? _ _ qg71)).trans qg71; replace qg60 := (hb.cell (World.block_lt_of_cell? _ _ qg60)).trans qg60; replace qg61 := (hb.cell (World.block_lt_of_cell? _ _ qg61)).trans qg61; replace qgC0 := (hb.cell (World.block_lt_of_cell? _ _ qgC0)).trans qgC0; replace qgC1 := (hb.cell (World.block_lt_of_cell? _ _ qgC1)).trans qgC1; replace HX6 := Aside0.mk ((hb.block _ (blk_lt HX6.out)).trans HX6.out); replace HX7 := Aside0.mk ((hb.block _ (blk_lt HX7.out)).trans HX7.out); replace HX9 := Aside0.mk ((hb.block _ (blk_lt HX9.out)).trans HX9.out); replace HC := Aside0.mk ((hb.block _ (blk_lt HC.out)).trans HC.out); replace HD := Aside0.mk ((hb.block _ (blk_lt HD.out)).trans HD.out); have nn_ := Aside0.mk (liveN_below NN_ hb); have nr_ := Aside0.mk (liveR_add (liveR_add (liveR_below NR_ hb) ho (below_size BC_)) hu (below_size BC_)); have nb_ := Aside0.mk (below_step BC_ hb); clear HL HN HR HB; have HN := nn_; have HR := nr_; have HB := nb_; clear nn_ nr_ nb_ hb; have HL := Aside0.mk (show Live _ [(.slice Acmd ud.length ccmd, ud), (.slice Acmn un.length ccmn, un), (.slice AY l3.length cY, l3), (.slice AX l2.length cX, l2), (.slice A0 l0.length c0, l0), (.slice A1 l1.length c1, l1), (.slice A2 l2.length c2, l2), (.slice A3 l3.length c3, l3), (.slice A4 l4.length c4, l4), (.slice A5 l5.length c5, l5)] from live_app (liveR_live HR.out) (liveN_live HN.out)); clear ho; clear hu; have fC0 := blk_frozen HC.out 0; have fC1 := blk_frozen HC.out 1))
  clear fC0 fC1
  clear qgB0 qgB1 qg70 qg71 qg60 qg61 qgC0 qgC1
  have o1_ := HC_ne_HX9.out
  have o2_ := HD_ne_HC.out
  have h0_ := HC.out
  have h1_ := blk_put (cs := #[.slice Acan an.length ccan, .slice Acad ad.length ccad]) (cs' := #[.slice Acmn un.length ccmn, .slice Acad ad.length ccad]) h0_ 0 (.slice Acmn un.length ccmn) rfl
  have nHC_ := Aside0.mk (blk_put (cs := #[.slice Acmn un.length ccmn, .slice Acad ad.length ccad]) (cs' := #[.slice Acmn un.length ccmn, .slice Acmd ud.length ccmd]) h1_ 1 (.slice Acmd ud.length ccmd) rfl)
  have nHX6_ := Aside0.mk (blk_far (p := ⟨gC, 1, none⟩) (blk_far (p := ⟨gC, 0, none⟩) HX6.out (by dsimp only; omega) (.slice Acmn un.length ccmn)) (by dsimp only; omega) (.slice Acmd ud.length ccmd))
  have nHX7_ := Aside0.mk (blk_far (p := ⟨gC, 1, none⟩) (blk_far (p := ⟨gC, 0, none⟩) HX7.out (by dsimp only; omega) (.slice Acmn un.length ccmn)) (by dsimp only; omega) (.slice Acmd ud.length ccmd))
  have nHX9_ := Aside0.mk (blk_far (p := ⟨gC, 1, none⟩) (blk_far (p := ⟨gC, 0, none⟩) HX9.out (by dsimp only; omega) (.slice Acmn un.length ccmn)) (by dsimp only; omega) (.slice Acmd ud.length ccmd))
  have nHD_ := Aside0.mk (blk_far (p := ⟨gC, 1, none⟩) (blk_far (p := ⟨gC, 0, none⟩) HD.out (by dsimp only; omega) (.slice Acmn un.length ccmn)) (by dsimp only; omega) (.slice Acmd ud.length ccmd))
  have nn_ := Aside0.mk (liveN_far (p := ⟨gC, 1, none⟩) (liveN_far (p := ⟨gC, 0, none⟩) HN.out (by dsimp only; omega) (.slice Acmn un.length ccmn)) (by dsimp only; omega) (.slice Acmd ud.length ccmd))
  have nr_ := Aside0.mk (liveR_store (liveR_store HR.out h0_ 0 (.slice Acmn un.length ccmn)) h1_ 1 (.slice Acmd ud.length ccmd))
  have nHXR_ := Aside0.mk (liveR_store (liveR_store HXR.out h0_ 0 (.slice Acmn un.length ccmn)) h1_ 1 (.slice Acmd ud.length ccmd))
  have nHC0_ := Aside0.mk (r_store (r_store HC0.out h0_ 0 (.slice Acmn un.length ccmn)) h1_ 1 (.slice Acmd ud.length ccmd))
  have nHC1_ := Aside0.mk (r_store (r_store HC1.out h0_ 0 (.slice Acmn un.length ccmn)) h1_ 1 (.slice Acmd ud.length ccmd))
  have nb_ := Aside0.mk ((HB.out.setCell (p := ⟨gC, 0, none⟩) (by dsimp only; omega) (.slice Acmn un.length ccmn)).setCell (p := ⟨gC, 1, none⟩) (by dsimp only; omega) (.slice Acmd ud.length ccmd))
  clear h0_ h1_ o1_ o2_ HX6 HX7 HX9 HC HD HN HR HB HL HXR HC0 HC1
  have HX6 := nHX6_
  have HX7 := nHX7_
  have HX9 := nHX9_
  have HC := nHC_
  have HD := nHD_
  have HXR := nHXR_
  have HC0 := nHC0_
  have HC1 := nHC1_
  have HN := nn_
  have HR := nr_
  have HB := nb_
  clear nn_ nr_ nb_ nHX6_ nHX7_ nHX9_ nHC_ nHD_ nHXR_ nHC0_ nHC1_
  have HL := Aside0.mk (show Live _ [(.slice Acmd ud.length ccmd, ud), (.slice Acmn un.length ccmn, un), (.slice AY l3.length cY, l3), (.slice AX l2.length cX, l2), (.slice A0 l0.length c0, l0), (.slice A1 l1.length c1, l1), (.slice A2 l2.length c2, l2), (.slice A3 l3.length c3, l3), (.slice A4 l4.length c4, l4), (.slice A5 l5.length c5, l5)] from live_app (liveR_live HR.out) (liveN_live HN.out))
  generalize hW_ : ((wn.setCell ⟨gC, 0, none⟩ (.slice Acmn un.length ccmn)).setCell ⟨gC, 1, none⟩ (.slice Acmd ud.length ccmd)) = WCm at *
  clear hW_
  have qg60 : WCm.cell? ⟨w.heap.size, 0, none⟩ = some (.slice A2 l2.length c2) := (blk_cell HX6.out 0).trans rfl
  have qg61 : WCm.cell? ⟨w.heap.size, 1, none⟩ = some (.slice A3 l3.length c3) := (blk_cell HX6.out 1).trans rfl
  have qg70 : WCm.cell? ⟨w.heap.size + 1, 0, none⟩ = some (.slice A4 l4.length c4) := (blk_cell HX7.out 0).trans rfl
  have qg71 : WCm.cell? ⟨w.heap.size + 1, 1, none⟩ = some (.slice A5 l5.length c5) := (blk_cell HX7.out 1).trans rfl
  have qgD0 : WCm.cell? ⟨gD, 0, none⟩ = some (.slice Adan an.length cdan) := (blk_cell HD.out 0).trans rfl
  have qgD1 : WCm.cell? ⟨gD, 1, none⟩ = some (.slice Adad ad.length cdad) := (blk_cell HD.out 1).trans rfl
  go_upto_region 18 with (first | (go_at_call 46; (with_reducible refine (headendref01_MulFractions.calls k _ _ _ _ _ _ _ _ _ _ _ _ _ _ _ _ ?s0 ?s1 ?s2 ?s3 ?s4 ?s5 ?s6 ?s7 M2_.out).mono ?_); (case s0 => exact (live_C LL_ LM_).2.2); (case s1 => exact (live_C LL_ LM_).2.1); (case s2 => exact (live_C LL_ LM_).2.2); (case s3 => exact (live_C LL_ LM_).2.1); (case s4 => exact (live_C LL_ LM_).2.2); (case s5 => exact (live_C LL_ LM_).2.1); (case s6 => exact (live_C LL_ LM_).2.2); (case s7 => exact (live_C LL_ LM_).2.1); rintro e wn ⟨v, u, rfl, ho, hu, hb⟩; obtain ⟨Admn, cdmn, rfl, _, _⟩ := Kd.R_reads ho; obtain ⟨Admd, cdmd, rfl, _, _⟩ := Kd.R_reads hu; replace HXR := Aside0.mk (liveR_below HXR.out hb); replace HC0 := Aside0.mk (Kd.R_below HC0.out hb); replace HC1 := Aside0.mk (Kd.R_below HC1.out hb); replace qg60 := (hb.cell (World.block_lt_of_cell? _ _ qg60)).trans qg60; replace qg61 := (hb.cell (World.block_lt_of_cell? _ _ qg61)).trans qg61; replace qg70 := (hb.cell (World.block_lt_of_cell? _ _ qg70)).trans qg70; replace qg71 := (hb.cell (World.block_lt_of_cell? _ _ qg71)).trans qg71; replace qgD0 := (hb.cell (World.block_lt_of_cell? _ _ qgD0)).trans qgD0; replace qgD1 := (hb.cell (World.block_lt_of_cell? _ _ qgD1)).trans qgD1; replace HX6 := Aside0.mk ((hb.block _ (blk_lt HX6.out)).trans HX6.out); replace HX7 := Aside0.mk ((hb.block _ (blk_lt HX7.out)).trans HX7.out); replace HX9 := Aside0.mk ((hb.block _ (blk_lt HX9.out)).trans HX9.out); replace HC := Aside0.mk ((hb.block _ (blk_lt HC.out)).trans HC.out); replace HD := Aside0.mk ((hb.block _ (blk_lt HD.out)).trans HD.out); have nn_ := Aside0.mk (liveN_below NN_ hb); have nr_ := Aside0.mk (liveR_add (liveR_add (liveR_below NR_ hb) ho (below_size BC_)) hu (below_size BC_)); have nb_ := Aside0.mk (below_step BC_ hb); clear HL HN HR HB; have HN := nn_; have HR := nr_; have HB := nb_; clear nn_ nr_ nb_ hb; have HL := Aside0.mk (show Live _ [(.slice Admd ud.length cdmd, ud), (.slice Admn un.length cdmn, un), (.slice Acmd ud.length ccmd, ud), (.slice Acmn un.length ccmn, un), (.slice AY l3.length cY, l3), (.slice AX l2.length cX, l2), (.slice A0 l0.length c0, l0), (.slice A1 l1.length c1, l1), (.slice A2 l2.length c2, l2), (.slice A3 l3.length c3, l3), (.slice A4 l4.length c4, l4), (.slice A5 l5.length c5, l5)] from live_app (liveR_live HR.out) (liveN_live HN.out)); clear ho; clear hu; have fC0 := blk_frozen HD.out 0; have fC1 := blk_frozen HD.out 1))
  clear fC0 fC1
  clear qg60 qg61 qg70 qg71 qgD0 qgD1
  have o1_ := HC_ne_HX9.out
  have o2_ := HD_ne_HC.out
  have h0_ := HD.out
  have h1_ := blk_put (cs := #[.slice Adan an.length cdan, .slice Adad ad.length cdad]) (cs' := #[.slice Admn un.length cdmn, .slice Adad ad.length cdad]) h0_ 0 (.slice Admn un.length cdmn) rfl
  have nHD_ := Aside0.mk (blk_put (cs := #[.slice Admn un.length cdmn, .slice Adad ad.length cdad]) (cs' := #[.slice Admn un.length cdmn, .slice Admd ud.length cdmd]) h1_ 1 (.slice Admd ud.length cdmd) rfl)
  have nHX6_ := Aside0.mk (blk_far (p := ⟨gD, 1, none⟩) (blk_far (p := ⟨gD, 0, none⟩) HX6.out (by dsimp only; omega) (.slice Admn un.length cdmn)) (by dsimp only; omega) (.slice Admd ud.length cdmd))
  have nHX7_ := Aside0.mk (blk_far (p := ⟨gD, 1, none⟩) (blk_far (p := ⟨gD, 0, none⟩) HX7.out (by dsimp only; omega) (.slice Admn un.length cdmn)) (by dsimp only; omega) (.slice Admd ud.length cdmd))
  have nHX9_ := Aside0.mk (blk_far (p := ⟨gD, 1, none⟩) (blk_far (p := ⟨gD, 0, none⟩) HX9.out (by dsimp only; omega) (.slice Admn un.length cdmn)) (by dsimp only; omega) (.slice Admd ud.length cdmd))
  have nHC_ := Aside0.mk (blk_far (p := ⟨gD, 1, none⟩) (blk_far (p := ⟨gD, 0, none⟩) HC.out (by dsimp only; omega) (.slice Admn un.length cdmn)) (by dsimp only; omega) (.slice Admd ud.length cdmd))
  have nn_ := Aside0.mk (liveN_far (p := ⟨gD, 1, none⟩) (liveN_far (p := ⟨gD, 0, none⟩) HN.out (by dsimp only; omega) (.slice Admn un.length cdmn)) (by dsimp only; omega) (.slice Admd ud.length cdmd))
  have nr_ := Aside0.mk (liveR_store (liveR_store HR.out h0_ 0 (.slice Admn un.length cdmn)) h1_ 1 (.slice Admd ud.length cdmd))
  have nHXR_ := Aside0.mk (liveR_store (liveR_store HXR.out h0_ 0 (.slice Admn un.length cdmn)) h1_ 1 (.slice Admd ud.length cdmd))
  have nHC0_ := Aside0.mk (r_store (r_store HC0.out h0_ 0 (.slice Admn un.length cdmn)) h1_ 1 (.slice Admd ud.length cdmd))
  have nHC1_ := Aside0.mk (r_store (r_store HC1.out h0_ 0 (.slice Admn un.length cdmn)) h1_ 1 (.slice Admd ud.length cdmd))
  have nb_ := Aside0.mk ((HB.out.setCell (p := ⟨gD, 0, none⟩) (by dsimp only; omega) (.slice Admn un.length cdmn)).setCell (p := ⟨gD, 1, none⟩) (by dsimp only; omega) (.slice Admd ud.length cdmd))
  clear h0_ h1_ o1_ o2_ HX6 HX7 HX9 HC HD HN HR HB HL HXR HC0 HC1
  have HX6 := nHX6_
  have HX7 := nHX7_
  have HX9 := nHX9_
  have HC := nHC_
  have HD := nHD_
  have HXR := nHXR_
  have HC0 := nHC0_
  have HC1 := nHC1_
  have HN := nn_
  have HR := nr_
  have HB := nb_
  clear nn_ nr_ nb_ nHX6_ nHX7_ nHX9_ nHC_ nHD_ nHXR_ nHC0_ nHC1_
  have HL := Aside0.mk (show Live _ [(.slice Admd ud.length cdmd, ud), (.slice Admn un.length cdmn, un), (.slice Acmd ud.length ccmd, ud), (.slice Acmn un.length ccmn, un), (.slice AY l3.length cY, l3), (.slice AX l2.length cX, l2), (.slice A0 l0.length c0, l0), (.slice A1 l1.length c1, l1), (.slice A2 l2.length c2, l2), (.slice A3 l3.length c3, l3), (.slice A4 l4.length c4, l4), (.slice A5 l5.length c5, l5)] from live_app (liveR_live HR.out) (liveN_live HN.out))
  generalize hW_ : ((wn.setCell ⟨gD, 0, none⟩ (.slice Admn un.length cdmn)).setCell ⟨gD, 1, none⟩ (.slice Admd ud.length cdmd)) = WDm at *
  clear hW_
  have qgC0 : WDm.cell? ⟨gC, 0, none⟩ = some (.slice Acmn un.length ccmn) := (blk_cell HC.out 0).trans rfl
  have qgC1 : WDm.cell? ⟨gC, 1, none⟩ = some (.slice Acmd ud.length ccmd) := (blk_cell HC.out 1).trans rfl
  have qgD0 : WDm.cell? ⟨gD, 0, none⟩ = some (.slice Admn un.length cdmn) := (blk_cell HD.out 0).trans rfl
  have qgD1 : WDm.cell? ⟨gD, 1, none⟩ = some (.slice Admd ud.length cdmd) := (blk_cell HD.out 1).trans rfl
  go_upto_region 20 with (first | (go_at_call 37; (with_reducible refine (headendref01_SameFraction.calls k _ _ _ _ _ _ _ _ _ _ _ _ _ _ ?s0 ?s1 ?s2 ?s3 ?s4 ?s5 ?s6 ?s7 S3.out).mono ?_); (case s0 => exact (live_C LL_ LM_).2.2); (case s1 => exact (live_C LL_ LM_).2.1); (case s2 => exact (live_C LL_ LM_).2.2); (case s3 => exact (live_C LL_ LM_).2.1); (case s4 => exact (live_C LL_ LM_).2.2); (case s5 => exact (live_C LL_ LM_).2.1); (case s6 => exact (live_C LL_ LM_).2.2); (case s7 => exact (live_C LL_ LM_).2.1); rintro e wn ⟨rfl, hb⟩; replace HXR := Aside0.mk (liveR_below HXR.out hb); replace HC0 := Aside0.mk (Kd.R_below HC0.out hb); replace HC1 := Aside0.mk (Kd.R_below HC1.out hb); replace qgC0 := (hb.cell (World.block_lt_of_cell? _ _ qgC0)).trans qgC0; replace qgC1 := (hb.cell (World.block_lt_of_cell? _ _ qgC1)).trans qgC1; replace qgD0 := (hb.cell (World.block_lt_of_cell? _ _ qgD0)).trans qgD0; replace qgD1 := (hb.cell (World.block_lt_of_cell? _ _ qgD1)).trans qgD1; replace HX6 := Aside0.mk ((hb.block _ (blk_lt HX6.out)).trans HX6.out); replace HX7 := Aside0.mk ((hb.block _ (blk_lt HX7.out)).trans HX7.out); replace HX9 := Aside0.mk ((hb.block _ (blk_lt HX9.out)).trans HX9.out); replace HC := Aside0.mk ((hb.block _ (blk_lt HC.out)).trans HC.out); replace HD := Aside0.mk ((hb.block _ (blk_lt HD.out)).trans HD.out); have nn_ := Aside0.mk (liveN_below NN_ hb); have nr_ := Aside0.mk (liveR_below NR_ hb); have nb_ := Aside0.mk (below_step BC_ hb); clear HL HN HR HB; have HN := nn_; have HR := nr_; have HB := nb_; clear nn_ nr_ nb_ hb; have HL := Aside0.mk (show Live _ [(.slice Admd ud.length cdmd, ud), (.slice Admn un.length cdmn, un), (.slice Acmd ud.length ccmd, ud), (.slice Acmn un.length ccmn, un), (.slice AY l3.length cY, l3), (.slice AX l2.length cX, l2), (.slice A0 l0.length c0, l0), (.slice A1 l1.length c1, l1), (.slice A2 l2.length c2, l2), (.slice A3 l3.length c3, l3), (.slice A4 l4.length c4, l4), (.slice A5 l5.length c5, l5)] from live_app (liveR_live HR.out) (liveN_live HN.out))))
  clear qgC0 qgC1 qgD0 qgD1
  have qgC0 : wn.cell? ⟨gC, 0, none⟩ = some (.slice Acmn un.length ccmn) := (blk_cell HC.out 0).trans rfl
  have qgC1 : wn.cell? ⟨gC, 1, none⟩ = some (.slice Acmd ud.length ccmd) := (blk_cell HC.out 1).trans rfl
  go_upto_region 21 with (first | (go_at_call 44; (with_reducible refine (headendlaw01_spoil.calls k (fun k => Nm ≤ k ∧ some k ≠ Value.ownBlock (.slice Acmd ud.length ccmd)) _ _ _ w _ HB.out HC0.out P3.out).mono ?_); rintro e wn ⟨rfl, hr_, hbb, hkk⟩; have o1_ := HC_ne_HX9.out; have o2_ := HD_ne_HC.out; have o3_ := HNBm.out; clear qgC0 qgC1; have nHX6_ := Aside0.mk ((hkk.2 _ (blk_lt HX6.out) (fun h_ => by have := h_.1; omega)).trans HX6.out); have nHX7_ := Aside0.mk ((hkk.2 _ (blk_lt HX7.out) (fun h_ => by have := h_.1; omega)).trans HX7.out); have nHX9_ := Aside0.mk ((hkk.2 _ (blk_lt HX9.out) (fun h_ => by have := h_.1; omega)).trans HX9.out); have nHC_ := Aside0.mk ((hkk.2 _ (blk_lt HC.out) (fun h_ => by have := h_.1; omega)).trans HC.out); have nHD_ := Aside0.mk ((hkk.2 _ (blk_lt HD.out) (fun h_ => by have := h_.1; omega)).trans HD.out); have nn_ := Aside0.mk (liveN_kept HN.out hkk (fun k_ h_ => by have := h_.1; omega)); have nx_ := Aside0.mk (liveR_kept HXR.out hkk (fun k_ h1_ h2_ => by have := h2_.1; omega)); have nc_ := Aside0.mk (Kd.R_step (Kd.R_mono (Kd.R_tight rfl HC1.out) (ok' := fun k_ => Nm ≤ k_ ∧ some k_ = Value.ownBlock (.slice Acmd ud.length ccmd)) (fun k_ h_ => ⟨(HC1.out.1 k_ h_.symm).1, h_⟩)) (fun k_ h_ hl_ => hkk.2 k_ hl_ (fun hp_ => hp_.2 h_.2))); clear HX6 HX7 HX9 HC HD HN HR HL HB HXR HC0 HC1 hkk hr_ o1_ o2_ o3_; have HB := Aside0.mk hbb; have HN := nn_; have HXR := nx_; clear hbb nn_ nx_; have HC1 := nc_; clear nc_; have HC0 := Aside0.mk trivial; have HX6 := nHX6_; clear nHX6_; have HX7 := nHX7_; clear nHX7_; have HX9 := nHX9_; clear nHX9_; have HC := nHC_; clear nHC_; have HD := nHD_; clear nHD_; have HR := Aside0.mk (liveR_true HXR.out); have HL := Aside0.mk (show Live _ [(.slice AY l3.length cY, l3), (.slice AX l2.length cX, l2), (.slice A0 l0.length c0, l0), (.slice A1 l1.length c1, l1), (.slice A2 l2.length c2, l2), (.slice A3 l3.length c3, l3), (.slice A4 l4.length c4, l4), (.slice A5 l5.length c5, l5)] from live_app (liveR_live HR.out) (liveN_live HN.out)); have qgC0 : wn.cell? ⟨gC, 0, none⟩ = some (.slice Acmn un.length ccmn) := (blk_cell HC.out 0).trans rfl; have qgC1 : wn.cell? ⟨gC, 1, none⟩ = some (.slice Acmd ud.length ccmd) := (blk_cell HC.out 1).trans rfl))
  go_upto_region 22 with (first | (go_at_call 44; (with_reducible refine (headendlaw01_spoil.calls k (fun k => Nm ≤ k ∧ some k = Value.ownBlock (.slice Acmd ud.length ccmd)) _ _ _ w _ HB.out HC1.out P4.out).mono ?_); rintro e wn ⟨rfl, hr_, hbb, hkk⟩; have o1_ := HC_ne_HX9.out; have o2_ := HD_ne_HC.out; have o3_ := HNBm.out; clear qgC0 qgC1; have nHX6_ := Aside0.mk ((hkk.2 _ (blk_lt HX6.out) (fun h_ => by have := h_.1; omega)).trans HX6.out); have nHX7_ := Aside0.mk ((hkk.2 _ (blk_lt HX7.out) (fun h_ => by have := h_.1; omega)).trans HX7.out); have nHX9_ := Aside0.mk ((hkk.2 _ (blk_lt HX9.out) (fun h_ => by have := h_.1; omega)).trans HX9.out); have nHC_ := Aside0.mk ((hkk.2 _ (blk_lt HC.out) (fun h_ => by have := h_.1; omega)).trans HC.out); have nHD_ := Aside0.mk ((hkk.2 _ (blk_lt HD.out) (fun h_ => by have := h_.1; omega)).trans HD.out); have nn_ := Aside0.mk (liveN_kept HN.out hkk (fun k_ h_ => by have := h_.1; omega)); have nx_ := Aside0.mk (liveR_kept HXR.out hkk (fun k_ h1_ h2_ => by have := h2_.1; omega)); clear HX6 HX7 HX9 HC HD HN HR HL HB HXR HC0  hkk hr_ o1_ o2_ o3_; have HB := Aside0.mk hbb; have HN := nn_; have HXR := nx_; clear hbb nn_ nx_; have HX6 := nHX6_; clear nHX6_; have HX7 := nHX7_; clear nHX7_; have HX9 := nHX9_; clear nHX9_; have HC := nHC_; clear nHC_; have HD := nHD_; clear nHD_; have HR := Aside0.mk (liveR_true HXR.out); have HL := Aside0.mk (show Live _ [(.slice AY l3.length cY, l3), (.slice AX l2.length cX, l2), (.slice A0 l0.length c0, l0), (.slice A1 l1.length c1, l1), (.slice A2 l2.length c2, l2), (.slice A3 l3.length c3, l3), (.slice A4 l4.length c4, l4), (.slice A5 l5.length c5, l5)] from live_app (liveR_live HR.out) (liveN_live HN.out)); have qgC0 : wn.cell? ⟨gC, 0, none⟩ = some (.slice Acmn un.length ccmn) := (blk_cell HC.out 0).trans rfl; have qgC1 : wn.cell? ⟨gC, 1, none⟩ = some (.slice Acmd ud.length ccmd) := (blk_cell HC.out 1).trans rfl))
  clear qgC0 qgC1 HC1 HXR
  have qgB0 : wn.cell? ⟨gB, 0, none⟩ = some (.slice AX l2.length cX) := (blk_cell HX9.out 0).trans rfl
  have qgB1 : wn.cell? ⟨gB, 1, none⟩ = some (.slice AY l3.length cY) := (blk_cell HX9.out 1).trans rfl
  have qg60 : wn.cell? ⟨w.heap.size, 0, none⟩ = some (.slice A2 l2.length c2) := (blk_cell HX6.out 0).trans rfl
  have qg61 : wn.cell? ⟨w.heap.size, 1, none⟩ = some (.slice A3 l3.length c3) := (blk_cell HX6.out 1).trans rfl
  go_wp2_with (first | (go_at_call 37; (with_reducible refine (headendref01_SameFraction.calls k _ _ _ _ _ _ _ _ _ _ _ _ _ _ ?s0 ?s1 ?s2 ?s3 ?s4 ?s5 ?s6 ?s7 S4.out).mono ?_); (case s0 => exact (live_C LL_ LM_).2.2); (case s1 => exact (live_C LL_ LM_).2.1); (case s2 => exact (live_C LL_ LM_).2.2); (case s3 => exact (live_C LL_ LM_).2.1); (case s4 => exact (live_C LL_ LM_).2.2); (case s5 => exact (live_C LL_ LM_).2.1); (case s6 => exact (live_C LL_ LM_).2.2); (case s7 => exact (live_C LL_ LM_).2.1); rintro e wn ⟨rfl, hb⟩; replace qgB0 := (hb.cell (World.block_lt_of_cell? _ _ qgB0)).trans qgB0; replace qgB1 := (hb.cell (World.block_lt_of_cell? _ _ qgB1)).trans qgB1; replace qg60 := (hb.cell (World.block_lt_of_cell? _ _ qg60)).trans qg60; replace qg61 := (hb.cell (World.block_lt_of_cell? _ _ qg61)).trans qg61; replace HX6 := Aside0.mk ((hb.block _ (blk_lt HX6.out)).trans HX6.out); replace HX7 := Aside0.mk ((hb.block _ (blk_lt HX7.out)).trans HX7.out); replace HX9 := Aside0.mk ((hb.block _ (blk_lt HX9.out)).trans HX9.out); have nn_ := Aside0.mk (liveN_below NN_ hb); have nr_ := Aside0.mk (liveR_below NR_ hb); have nb_ := Aside0.mk (below_step BC_ hb); clear HL HN HR HB; have HN := nn_; have HR := nr_; have HB := nb_; clear nn_ nr_ nb_ hb; have HL := Aside0.mk (show Live _ [(.slice AY l3.length cY, l3), (.slice AX l2.length cX, l2), (.slice A0 l0.length c0, l0), (.slice A1 l1.length c1, l1), (.slice A2 l2.length c2, l2), (.slice A3 l3.length c3, l3), (.slice A4 l4.length c4, l4), (.slice A5 l5.length c5, l5)] from live_app (liveR_live HR.out) (liveN_live HN.out))))
  go_ret
  exact ⟨rfl, HB.out⟩
end Go.Proofs.Ythhgfogdeaaidaa.R
