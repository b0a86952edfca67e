/- number.cross and the functions of fractions: the walks, from what the functions they call answer. -/
import Derived.Test.YthhgfogdeaaidaaR0
import Derived.Test.YthhgfogdeaaidaaR14
import Derived.Test.YthhgfogdeaaidaaR9
import Derived.Test.YthhgfogdeaaidaaGorder
import Derived.Test.YthhgfogdeaaidaaR13
import Derived.Test.YthhgfogdeaaidaaR15
import Derived.Test.YthhgfogdeaaidaaGalwalk
import Derived.Deep.RegionHeld3
import Derived.WalkMore
namespace Go.Proofs.Ythhgfogdeaaidaa.R
open Go.RowKit Go.Proofs.YthhgfogdeaaidaaW.PrintWords Go.Proofs.YthhgfogdeaaidaaW.PrintLast Go.Proofs.YthhgfogdeaaidaaW.PrintMore
set_option linter.unusedVariables false
set_option linter.unusedSimpArgs false
attribute [local go_sem] Oper.semAt_some
theorem live_two {W : World} {a b : Value × List Int} {L : List (Value × List Int)} (h : Live W (a :: b :: L)) : Live W [a, b] := fun p hp => h p (by
  rcases List.mem_cons.1 hp with rfl | hp
  · exact List.mem_cons_self ..
  · rcases List.mem_cons.1 hp with rfl | hp
    · exact List.mem_cons_of_mem _ (List.mem_cons_self ..)
    · cases hp)
set_option maxRecDepth 1000000 in
set_option maxHeartbeats 8000000 in
theorem cross_int (k : Nat) (A0 : Option Addr) (c0 : Nat) (l0 : List Int) (A1 : Option Addr) (c1 : Nat) (l1 : List Int) (A2 : Option Addr) (c2 : Nat) (l2 : List Int) (A3 : Option Addr) (c3 : Nat) (l3 : List Int) (p q : List Int) (r : Int) (w : World) (hL : Live w [(.slice A0 l0.length c0, l0), (.slice A1 l1.length c1, l1), (.slice A2 l2.length c2, l2), (.slice A3 l3.length c3, l3)])
    (hE1 : number_CheckFraction.f k l0 l1 = some 0)
    (hE2 : number_CheckFraction.f k l2 l3 = some 0)
    (hT1 : number_times.f k l0 l3 = some p)
    (hT2 : number_times.f k l2 l1 = some q)
    (hO : number_order.f p q = some r)
    :
    Calls Try.prog 91 #[.agg #[.slice A0 l0.length c0, .slice A1 l1.length c1], .agg #[.slice A2 l2.length c2, .slice A3 l3.length c3], Value.func (Fn.func 92) #[] #[]] w fun e w' => e = .returned (.tuple #[.int .i64 r, .int .i64 0]) ∧ Below w.heap.size w w' := by
  have HL := Aside0.mk hL
  clear hL
  have E1 := Aside0.mk hE1
  have E2 := Aside0.mk hE2
  have T1 := Aside0.mk hT1
  have T2 := Aside0.mk hT2
  have O := Aside0.mk hO
  clear hE1 hE2 hT1 hT2 hO
  have HB := Aside0.mk (Below.refl w.heap.size w)
  go_enter Try.func91, Try.ntmps91
  go_upto_region 1 with fail
  have HX0 := Aside0.mk (show ((w.alloc (Obj.cells #[.slice A0 l0.length c0, .slice A1 l1.length c1] 54)).alloc (Obj.cells #[.slice A2 l2.length c2, .slice A3 l3.length c3] 54)).heap[w.heap.size]? = some (.cells #[.slice A0 l0.length c0, .slice A1 l1.length c1] 54 (0, 0)) from blk_alloc (blk_new w _) _)
  have HX1 := Aside0.mk (show ((w.alloc (Obj.cells #[.slice A0 l0.length c0, .slice A1 l1.length c1] 54)).alloc (Obj.cells #[.slice A2 l2.length c2, .slice A3 l3.length c3] 54)).heap[w.heap.size + 1]? = some (.cells #[.slice A2 l2.length c2, .slice A3 l3.length c3] 54 (0, 0)) from by have := blk_new (w.alloc (Obj.cells #[.slice A0 l0.length c0, .slice A1 l1.length c1] 54)) (Obj.cells #[.slice A2 l2.length c2, .slice A3 l3.length c3] 54); rwa [World.size_alloc] at this)
  have nl_ := Aside0.mk (live_alloc (live_alloc HL.out (Obj.cells #[.slice A0 l0.length c0, .slice A1 l1.length c1] 54)) (Obj.cells #[.slice A2 l2.length c2, .slice A3 l3.length c3] 54))
  have nb_ := Aside0.mk (below_alloc (below_alloc HB.out (Obj.cells #[.slice A0 l0.length c0, .slice A1 l1.length c1] 54)) (Obj.cells #[.slice A2 l2.length c2, .slice A3 l3.length c3] 54))
  clear HL HB
  have HL := nl_
  have HB := nb_
  clear nl_ nb_
  generalize hW0 : ((w.alloc (Obj.cells #[.slice A0 l0.length c0, .slice A1 l1.length c1] 54)).alloc (Obj.cells #[.slice A2 l2.length c2, .slice A3 l3.length c3] 54)) = W0 at *
  clear hW0
  have q00 : W0.cell? ⟨w.heap.size, 0, none⟩ = some (.slice A0 l0.length c0) := (blk_cell HX0.out 0).trans rfl
  have q01 : W0.cell? ⟨w.heap.size, 1, none⟩ = some (.slice A1 l1.length c1) := (blk_cell HX0.out 1).trans rfl
  have q10 : W0.cell? ⟨w.heap.size + 1, 0, none⟩ = some (.slice A2 l2.length c2) := (blk_cell HX1.out 0).trans rfl
  have q11 : W0.cell? ⟨w.heap.size + 1, 1, none⟩ = some (.slice A3 l3.length c3) := (blk_cell HX1.out 1).trans rfl
  go_upto_region 3 with (first | (go_at_call 38; (with_reducible refine (number_CheckFraction.calls k (fun _ => True) _ _ _ (fun _ => True) _ _ _ _ _ ?s0 ?s1 E1.out).mono ?_); (case s0 => exact live_get LL_ LM_ _); (case s1 => exact live_get LL_ LM_ _); rintro e wn ⟨rfl, hb⟩; replace q00 := (hb.cell (World.block_lt_of_cell? _ _ q00)).trans q00; replace q01 := (hb.cell (World.block_lt_of_cell? _ _ q01)).trans q01; replace q10 := (hb.cell (World.block_lt_of_cell? _ _ q10)).trans q10; replace q11 := (hb.cell (World.block_lt_of_cell? _ _ q11)).trans q11; replace HX0 := Aside0.mk ((hb.block _ (blk_lt HX0.out)).trans HX0.out); replace HX1 := Aside0.mk ((hb.block _ (blk_lt HX1.out)).trans HX1.out); have nl_ := Aside0.mk (live_below LL_ hb); have nb_ := Aside0.mk (below_step BC_ hb); clear HL HB; have HL := nl_; have HB := nb_; clear nl_ nb_ hb) | (go_at_call 38; (with_reducible refine (number_CheckFraction.calls k (fun _ => True) _ _ _ (fun _ => True) _ _ _ _ _ ?s0 ?s1 E2.out).mono ?_); (case s0 => exact live_get LL_ LM_ _); (case s1 => exact live_get LL_ LM_ _); rintro e wn ⟨rfl, hb⟩; replace q00 := (hb.cell (World.block_lt_of_cell? _ _ q00)).trans q00; replace q01 := (hb.cell (World.block_lt_of_cell? _ _ q01)).trans q01; replace q10 := (hb.cell (World.block_lt_of_cell? _ _ q10)).trans q10; replace q11 := (hb.cell (World.block_lt_of_cell? _ _ q11)).trans q11; replace HX0 := Aside0.mk ((hb.block _ (blk_lt HX0.out)).trans HX0.out); replace HX1 := Aside0.mk ((hb.block _ (blk_lt HX1.out)).trans HX1.out); have nl_ := Aside0.mk (live_below LL_ hb); have nb_ := Aside0.mk (below_step BC_ hb); clear HL HB; have HL := nl_; have HB := nb_; clear nl_ nb_ hb))
  have hmx : Try.prog.follows .mixedOrders = true := by kernel_rfl
  have hS : wn.drew.cell? ⟨w.heap.size, 0, none⟩ = some (.slice A0 l0.length c0) ∧ wn.drew.cell? ⟨w.heap.size, 1, none⟩ = some (.slice A1 l1.length c1) ∧ wn.drew.cell? ⟨w.heap.size + 1, 0, none⟩ = some (.slice A2 l2.length c2) ∧ wn.drew.cell? ⟨w.heap.size + 1, 1, none⟩ = some (.slice A3 l3.length c3) := ⟨q00, q01, q10, q11⟩
  have nl_ := Aside0.mk (live_drew HL.out)
  have nb_ := Aside0.mk (below_drew1 HB.out)
  clear HL HB
  have HL := nl_
  have HB := nb_
  clear nl_ nb_
  clear q00 q01 q10 q11
  refine wp_region_any hmx ?_
  refine wpAny_of_held (S := fun W' => W'.cell? ⟨w.heap.size, 0, none⟩ = some (.slice A0 l0.length c0) ∧ W'.cell? ⟨w.heap.size, 1, none⟩ = some (.slice A1 l1.length c1) ∧ W'.cell? ⟨w.heap.size + 1, 0, none⟩ = some (.slice A2 l2.length c2) ∧ W'.cell? ⟨w.heap.size + 1, 1, none⟩ = some (.slice A3 l3.length c3)) _ _ _ _ ?_
  change wpAnyH _ _ _ _ _ 14 #[false, false, false, false, false, false, false, false, false, false, false, false, false, false] _ wn.drew
  generalize wn.drew = W1 at *
  refine take_at (i := 0) (v := Value.func (Fn.func 92) #[] #[]) rfl rfl (by kernel_rfl) (by kernel_rfl) (by kernel_rfl) (fun _ _ _ h => h) (Or.inl ⟨by rfl, ?_⟩) hS ?_
  · intro w hSw
    (try dsimp only at hSw)
    go_simp
  simp only [Act.put, List.setIfInBounds_toArray, List.set_cons_zero, List.set_cons_succ]
  refine take_at (i := 1) (v := .pointer (some ⟨w.heap.size, 0, none⟩)) rfl rfl (by kernel_rfl) (by kernel_rfl) (by kernel_rfl) (fun _ _ _ h => h) (Or.inl ⟨by rfl, ?_⟩) hS ?_
  · intro w hSw
    (try dsimp only at hSw)
    go_simp
  simp only [Act.put, List.setIfInBounds_toArray, List.set_cons_zero, List.set_cons_succ]
  refine take_at (i := 2) (v := .slice A0 l0.length c0) rfl rfl (by kernel_rfl) (by kernel_rfl) (by kernel_rfl) (fun _ _ _ h => h) (Or.inl ⟨by rfl, ?_⟩) hS ?_
  · intro w hSw
    (try dsimp only at hSw)
    go_simp
  simp only [Act.put, List.setIfInBounds_toArray, List.set_cons_zero, List.set_cons_succ]
  refine take_at (i := 3) (v := .pointer (some ⟨w.heap.size + 1, 1, none⟩)) rfl rfl (by kernel_rfl) (by kernel_rfl) (by kernel_rfl) (fun _ _ _ h => h) (Or.inl ⟨by rfl, ?_⟩) hS ?_
  · intro w hSw
    (try dsimp only at hSw)
    go_simp
  simp only [Act.put, List.setIfInBounds_toArray, List.set_cons_zero, List.set_cons_succ]
  refine take_at (i := 4) (v := .slice A3 l3.length c3) rfl rfl (by kernel_rfl) (by kernel_rfl) (by kernel_rfl) (fun _ _ _ h => h) (Or.inl ⟨by rfl, ?_⟩) hS ?_
  · intro w hSw
    (try dsimp only at hSw)
    go_simp
  simp only [Act.put, List.setIfInBounds_toArray, List.set_cons_zero, List.set_cons_succ]
  refine take_at (i := 6) (v := .pointer (some ⟨w.heap.size + 1, 0, none⟩)) rfl rfl (by kernel_rfl) (by kernel_rfl) (by kernel_rfl) (fun _ _ _ h => h) (Or.inl ⟨by rfl, ?_⟩) hS ?_
  · intro w hSw
    (try dsimp only at hSw)
    go_simp
  simp only [Act.put, List.setIfInBounds_toArray, List.set_cons_zero, List.set_cons_succ]
  refine take_at (i := 7) (v := .slice A2 l2.length c2) rfl rfl (by kernel_rfl) (by kernel_rfl) (by kernel_rfl) (fun _ _ _ h => h) (Or.inl ⟨by rfl, ?_⟩) hS ?_
  · intro w hSw
    (try dsimp only at hSw)
    go_simp
  simp only [Act.put, List.setIfInBounds_toArray, List.set_cons_zero, List.set_cons_succ]
  refine take_at (i := 8) (v := .pointer (some ⟨w.heap.size, 1, none⟩)) rfl rfl (by kernel_rfl) (by kernel_rfl) (by kernel_rfl) (fun _ _ _ h => h) (Or.inl ⟨by rfl, ?_⟩) hS ?_
  · intro w hSw
    (try dsimp only at hSw)
    go_simp
  simp only [Act.put, List.setIfInBounds_toArray, List.set_cons_zero, List.set_cons_succ]
  refine take_at (i := 9) (v := .slice A1 l1.length c1) rfl rfl (by kernel_rfl) (by kernel_rfl) (by kernel_rfl) (fun _ _ _ h => h) (Or.inl ⟨by rfl, ?_⟩) hS ?_
  · intro w hSw
    (try dsimp only at hSw)
    go_simp
  simp only [Act.put, List.setIfInBounds_toArray, List.set_cons_zero, List.set_cons_succ]
  refine wpAnyH_ready (rs := [5]) (by kernel_rfl) (by simp) ?_
  refine AllReadyH.cons (i := 5) rfl (fun K hK => ?_) AllReadyH.nil
  go_simp
  refine (number_times.calls k _ _ _ _ _ _ _ _ ?s0 ?s1 ?s2 ?s3 T1.out).mono ?_
  case s0 => exact (live_C LL_ LM_).2.2
  case s1 => exact (live_C LL_ LM_).2.1
  case s2 => exact (live_C LL_ LM_).2.2
  case s3 => exact (live_C LL_ LM_).2.1
  rintro e w5 ⟨v, rfl, ho, hb⟩
  obtain ⟨Ap, cp, rfl, _, _⟩ := Kd.R_reads ho
  dsimp only
  have hS9 : _ ∧ _ ∧ _ ∧ _ := ⟨(hb.cell (World.block_lt_of_cell? _ _ hS.1)).trans hS.1, (hb.cell (World.block_lt_of_cell? _ _ hS.2.1)).trans hS.2.1, (hb.cell (World.block_lt_of_cell? _ _ hS.2.2.1)).trans hS.2.2.1, (hb.cell (World.block_lt_of_cell? _ _ hS.2.2.2)).trans hS.2.2.2⟩
  have nl_ := Aside0.mk (live_add HL.out hb ho)
  have nb_ := Aside0.mk (below_step HB.out hb)
  refine hK.out _ _ hS9 (fun _ => ?_)
  clear hK K hb HL HB hS
  have HL := nl_
  have HB := nb_
  have hS := hS9
  clear nl_ nb_ hS9
  simp only [Act.put, List.setIfInBounds_toArray, List.set_cons_zero, List.set_cons_succ]
  refine wpAnyH_ready (rs := [10]) (by kernel_rfl) (by simp) ?_
  refine AllReadyH.cons (i := 10) rfl (fun K hK => ?_) AllReadyH.nil
  go_simp
  refine (number_times.calls k _ _ _ _ _ _ _ _ ?s0 ?s1 ?s2 ?s3 T2.out).mono ?_
  case s0 => exact (live_C LL_ LM_).2.2
  case s1 => exact (live_C LL_ LM_).2.1
  case s2 => exact (live_C LL_ LM_).2.2
  case s3 => exact (live_C LL_ LM_).2.1
  rintro e w10 ⟨v, rfl, ho, hb⟩
  obtain ⟨Aq, cq, rfl, _, _⟩ := Kd.R_reads ho
  dsimp only
  have hS9 : _ ∧ _ ∧ _ ∧ _ := ⟨(hb.cell (World.block_lt_of_cell? _ _ hS.1)).trans hS.1, (hb.cell (World.block_lt_of_cell? _ _ hS.2.1)).trans hS.2.1, (hb.cell (World.block_lt_of_cell? _ _ hS.2.2.1)).trans hS.2.2.1, (hb.cell (World.block_lt_of_cell? _ _ hS.2.2.2)).trans hS.2.2.2⟩
  have nl_ := Aside0.mk (live_add HL.out hb ho)
  have nb_ := Aside0.mk (below_step HB.out hb)
  refine hK.out _ _ hS9 (fun _ => ?_)
  clear hK K hb HL HB hS
  have HL := nl_
  have HB := nb_
  have hS := hS9
  clear nl_ nb_ hS9
  simp only [Act.put, List.setIfInBounds_toArray, List.set_cons_zero, List.set_cons_succ]
  refine wpAnyH_ready (rs := [11]) (by kernel_rfl) (by simp) ?_
  refine AllReadyH.cons (i := 11) rfl (fun K hK => ?_) AllReadyH.nil
  go_simp
  refine (number_order.calls _ _ _ _ _ _ _ _ ?s0 ?s1 ?s2 ?s3 O.out).mono ?_
  case s0 => exact (live_C LL_ LM_).2.2
  case s1 => exact (live_C LL_ LM_).2.1
  case s2 => exact (live_C LL_ LM_).2.2
  case s3 => exact (live_C LL_ LM_).2.1
  rintro e w11 ⟨rfl, hb⟩
  dsimp only
  have hS9 : _ ∧ _ ∧ _ ∧ _ := ⟨(hb.cell (World.block_lt_of_cell? _ _ hS.1)).trans hS.1, (hb.cell (World.block_lt_of_cell? _ _ hS.2.1)).trans hS.2.1, (hb.cell (World.block_lt_of_cell? _ _ hS.2.2.1)).trans hS.2.2.1, (hb.cell (World.block_lt_of_cell? _ _ hS.2.2.2)).trans hS.2.2.2⟩
  have nl_ := Aside0.mk (live_below HL.out hb)
  have nb_ := Aside0.mk (below_step HB.out hb)
  refine hK.out _ _ hS9 (fun _ => ?_)
  clear hK K hb HL HB hS
  have HL := nl_
  have HB := nb_
  have hS := hS9
  clear nl_ nb_ hS9
  simp only [Act.put, List.setIfInBounds_toArray, List.set_cons_zero, List.set_cons_succ]
  refine take_at (i := 12) (v := .int .i64 r) rfl rfl (by kernel_rfl) (by kernel_rfl) (by kernel_rfl) (fun _ _ _ h => h) (Or.inl ⟨by rfl, ?_⟩) hS ?_
  · intro w hSw
    (try dsimp only at hSw)
    go_simp
  simp only [Act.put, List.setIfInBounds_toArray, List.set_cons_zero, List.set_cons_succ]
  refine take_at (i := 13) (v := .int .i64 0) rfl rfl (by kernel_rfl) (by kernel_rfl) (by kernel_rfl) (fun _ _ _ h => h) (Or.inl ⟨by rfl, ?_⟩) hS ?_
  · intro w hSw
    (try dsimp only at hSw)
    go_simp
  simp only [Act.put, List.setIfInBounds_toArray, List.set_cons_zero, List.set_cons_succ]
  refine wpAnyH_done (by kernel_rfl) ?_ _
  clear hS
  go_wp2
  go_ret2
  exact ⟨rfl, HB.out⟩
set_option maxRecDepth 1000000 in
set_option maxHeartbeats 8000000 in
theorem cross_int_bad1 (k : Nat) (A0 : Option Addr) (c0 : Nat) (l0 : List Int) (A1 : Option Addr) (c1 : Nat) (l1 : List Int) (A2 : Option Addr) (c2 : Nat) (l2 : List Int) (A3 : Option Addr) (c3 : Nat) (l3 : List Int) (w : World) (hL : Live w [(.slice A0 l0.length c0, l0), (.slice A1 l1.length c1, l1), (.slice A2 l2.length c2, l2), (.slice A3 l3.length c3, l3)])
    (hE1 : number_CheckFraction.f k l0 l1 = some 8)
    :
    Calls Try.prog 91 #[.agg #[.slice A0 l0.length c0, .slice A1 l1.length c1], .agg #[.slice A2 l2.length c2, .slice A3 l3.length c3], Value.func (Fn.func 92) #[] #[]] w fun e w' => e = .returned (.tuple #[.int .i64 0, .int .i64 8]) ∧ Below w.heap.size w w' := by
  have HL := Aside0.mk hL
  clear hL
  have E1 := Aside0.mk hE1
  clear hE1
  have HB := Aside0.mk (Below.refl w.heap.size w)
  go_enter Try.func91, Try.ntmps91
  go_upto_region 1 with fail
  have HX0 := Aside0.mk (show ((w.alloc (Obj.cells #[.slice A0 l0.length c0, .slice A1 l1.length c1] 54)).alloc (Obj.cells #[.slice A2 l2.length c2, .slice A3 l3.length c3] 54)).heap[w.heap.size]? = some (.cells #[.slice A0 l0.length c0, .slice A1 l1.length c1] 54 (0, 0)) from blk_alloc (blk_new w _) _)
  have HX1 := Aside0.mk (show ((w.alloc (Obj.cells #[.slice A0 l0.length c0, .slice A1 l1.length c1] 54)).alloc (Obj.cells #[.slice A2 l2.length c2, .slice A3 l3.length c3] 54)).heap[w.heap.size + 1]? = some (.cells #[.slice A2 l2.length c2, .slice A3 l3.length c3] 54 (0, 0)) from by have := blk_new (w.alloc (Obj.cells #[.slice A0 l0.length c0, .slice A1 l1.length c1] 54)) (Obj.cells #[.slice A2 l2.length c2, .slice A3 l3.length c3] 54); rwa [World.size_alloc] at this)
  have nl_ := Aside0.mk (live_alloc (live_alloc HL.out (Obj.cells #[.slice A0 l0.length c0, .slice A1 l1.length c1] 54)) (Obj.cells #[.slice A2 l2.length c2, .slice A3 l3.length c3] 54))
  have nb_ := Aside0.mk (below_alloc (below_alloc HB.out (Obj.cells #[.slice A0 l0.length c0, .slice A1 l1.length c1] 54)) (Obj.cells #[.slice A2 l2.length c2, .slice A3 l3.length c3] 54))
  clear HL HB
  have HL := nl_
  have HB := nb_
  clear nl_ nb_
  generalize hW0 : ((w.alloc (Obj.cells #[.slice A0 l0.length c0, .slice A1 l1.length c1] 54)).alloc (Obj.cells #[.slice A2 l2.length c2, .slice A3 l3.length c3] 54)) = W0 at *
  clear hW0
  have q00 : W0.cell? ⟨w.heap.size, 0, none⟩ = some (.slice A0 l0.length c0) := (blk_cell HX0.out 0).trans rfl
  have q01 : W0.cell? ⟨w.heap.size, 1, none⟩ = some (.slice A1 l1.length c1) := (blk_cell HX0.out 1).trans rfl
  have q10 : W0.cell? ⟨w.heap.size + 1, 0, none⟩ = some (.slice A2 l2.length c2) := (blk_cell HX1.out 0).trans rfl
  have q11 : W0.cell? ⟨w.heap.size + 1, 1, none⟩ = some (.slice A3 l3.length c3) := (blk_cell HX1.out 1).trans rfl
  go_wp2_with (first | (go_at_call 38; (with_reducible refine (number_CheckFraction.calls k (fun _ => True) _ _ _ (fun _ => True) _ _ _ _ _ ?s0 ?s1 E1.out).mono ?_); (case s0 => exact live_get LL_ LM_ _); (case s1 => exact live_get LL_ LM_ _); rintro e wn ⟨rfl, hb⟩; replace q00 := (hb.cell (World.block_lt_of_cell? _ _ q00)).trans q00; replace q01 := (hb.cell (World.block_lt_of_cell? _ _ q01)).trans q01; replace q10 := (hb.cell (World.block_lt_of_cell? _ _ q10)).trans q10; replace q11 := (hb.cell (World.block_lt_of_cell? _ _ q11)).trans q11; replace HX0 := Aside0.mk ((hb.block _ (blk_lt HX0.out)).trans HX0.out); replace HX1 := Aside0.mk ((hb.block _ (blk_lt HX1.out)).trans HX1.out); have nl_ := Aside0.mk (live_below LL_ hb); have nb_ := Aside0.mk (below_step BC_ hb); clear HL HB; have HL := nl_; have HB := nb_; clear nl_ nb_ hb))
  go_ret2
  exact ⟨rfl, HB.out⟩
set_option maxRecDepth 1000000 in
set_option maxHeartbeats 8000000 in
theorem cross_int_bad2 (k : Nat) (A0 : Option Addr) (c0 : Nat) (l0 : List Int) (A1 : Option Addr) (c1 : Nat) (l1 : List Int) (A2 : Option Addr) (c2 : Nat) (l2 : List Int) (A3 : Option Addr) (c3 : Nat) (l3 : List Int) (w : World) (hL : Live w [(.slice A0 l0.length c0, l0), (.slice A1 l1.length c1, l1), (.slice A2 l2.length c2, l2), (.slice A3 l3.length c3, l3)])
    (hE1 : number_CheckFraction.f k l0 l1 = some 0)
    (hE2 : number_CheckFraction.f k l2 l3 = some 8)
    :
    Calls Try.prog 91 #[.agg #[.slice A0 l0.length c0, .slice A1 l1.length c1], .agg #[.slice A2 l2.length c2, .slice A3 l3.length c3], Value.func (Fn.func 92) #[] #[]] w fun e w' => e = .returned (.tuple #[.int .i64 0, .int .i64 8]) ∧ Below w.heap.size w w' := by
  have HL := Aside0.mk hL
  clear hL
  have E1 := Aside0.mk hE1
  have E2 := Aside0.mk hE2
  clear hE1 hE2
  have HB := Aside0.mk (Below.refl w.heap.size w)
  go_enter Try.func91, Try.ntmps91
  go_upto_region 1 with fail
  have HX0 := Aside0.mk (show ((w.alloc (Obj.cells #[.slice A0 l0.length c0, .slice A1 l1.length c1] 54)).alloc (Obj.cells #[.slice A2 l2.length c2, .slice A3 l3.length c3] 54)).heap[w.heap.size]? = some (.cells #[.slice A0 l0.length c0, .slice A1 l1.length c1] 54 (0, 0)) from blk_alloc (blk_new w _) _)
  have HX1 := Aside0.mk (show ((w.alloc (Obj.cells #[.slice A0 l0.length c0, .slice A1 l1.length c1] 54)).alloc (Obj.cells #[.slice A2 l2.length c2, .slice A3 l3.length c3] 54)).heap[w.heap.size + 1]? = some (.cells #[.slice A2 l2.length c2, .slice A3 l3.length c3] 54 (0, 0)) from by have := blk_new (w.alloc (Obj.cells #[.slice A0 l0.length c0, .slice A1 l1.length c1] 54)) (Obj.cells #[.slice A2 l2.length c2, .slice A3 l3.length c3] 54); rwa [World.size_alloc] at this)
  have nl_ := Aside0.mk (live_alloc (live_alloc HL.out (Obj.cells #[.slice A0 l0.length c0, .slice A1 l1.length c1] 54)) (Obj.cells #[.slice A2 l2.length c2, .slice A3 l3.length c3] 54))
  have nb_ := Aside0.mk (below_alloc (below_alloc HB.out (Obj.cells #[.slice A0 l0.length c0, .slice A1 l1.length c1] 54)) (Obj.cells #[.slice A2 l2.length c2, .slice A3 l3.length c3] 54))
  clear HL HB
  have HL := nl_
  have HB := nb_
  clear nl_ nb_
  generalize hW0 : ((w.alloc (Obj.cells #[.slice A0 l0.length c0, .slice A1 l1.length c1] 54)).alloc (Obj.cells #[.slice A2 l2.length c2, .slice A3 l3.length c3] 54)) = W0 at *
  clear hW0
  have q00 : W0.cell? ⟨w.heap.size, 0, none⟩ = some (.slice A0 l0.length c0) := (blk_cell HX0.out 0).trans rfl
  have q01 : W0.cell? ⟨w.heap.size, 1, none⟩ = some (.slice A1 l1.length c1) := (blk_cell HX0.out 1).trans rfl
  have q10 : W0.cell? ⟨w.heap.size + 1, 0, none⟩ = some (.slice A2 l2.length c2) := (blk_cell HX1.out 0).trans rfl
  have q11 : W0.cell? ⟨w.heap.size + 1, 1, none⟩ = some (.slice A3 l3.length c3) := (blk_cell HX1.out 1).trans rfl
  go_wp2_with (first | (go_at_call 38; (with_reducible refine (number_CheckFraction.calls k (fun _ => True) _ _ _ (fun _ => True) _ _ _ _ _ ?s0 ?s1 E1.out).mono ?_); (case s0 => exact live_get LL_ LM_ _); (case s1 => exact live_get LL_ LM_ _); rintro e wn ⟨rfl, hb⟩; replace q00 := (hb.cell (World.block_lt_of_cell? _ _ q00)).trans q00; replace q01 := (hb.cell (World.block_lt_of_cell? _ _ q01)).trans q01; replace q10 := (hb.cell (World.block_lt_of_cell? _ _ q10)).trans q10; replace q11 := (hb.cell (World.block_lt_of_cell? _ _ q11)).trans q11; replace HX0 := Aside0.mk ((hb.block _ (blk_lt HX0.out)).trans HX0.out); replace HX1 := Aside0.mk ((hb.block _ (blk_lt HX1.out)).trans HX1.out); have nl_ := Aside0.mk (live_below LL_ hb); have nb_ := Aside0.mk (below_step BC_ hb); clear HL HB; have HL := nl_; have HB := nb_; clear nl_ nb_ hb) | (go_at_call 38; (with_reducible refine (number_CheckFraction.calls k (fun _ => True) _ _ _ (fun _ => True) _ _ _ _ _ ?s0 ?s1 E2.out).mono ?_); (case s0 => exact live_get LL_ LM_ _); (case s1 => exact live_get LL_ LM_ _); rintro e wn ⟨rfl, hb⟩; replace q00 := (hb.cell (World.block_lt_of_cell? _ _ q00)).trans q00; replace q01 := (hb.cell (World.block_lt_of_cell? _ _ q01)).trans q01; replace q10 := (hb.cell (World.block_lt_of_cell? _ _ q10)).trans q10; replace q11 := (hb.cell (World.block_lt_of_cell? _ _ q11)).trans q11; replace HX0 := Aside0.mk ((hb.block _ (blk_lt HX0.out)).trans HX0.out); replace HX1 := Aside0.mk ((hb.block _ (blk_lt HX1.out)).trans HX1.out); have nl_ := Aside0.mk (live_below LL_ hb); have nb_ := Aside0.mk (below_step BC_ hb); clear HL HB; have HL := nl_; have HB := nb_; clear nl_ nb_ hb))
  go_ret2
  exact ⟨rfl, HB.out⟩
set_option maxRecDepth 1000000 in
set_option maxHeartbeats 8000000 in
theorem cross_frac96 (k : Nat) (A0 : Option Addr) (c0 : Nat) (l0 : List Int) (A1 : Option Addr) (c1 : Nat) (l1 : List Int) (A2 : Option Addr) (c2 : Nat) (l2 : List Int) (A3 : Option Addr) (c3 : Nat) (l3 : List Int) (p q r1 r2 : List Int) (bF bG : Nat) (w : World) (hL : Live w [(.slice A0 l0.length c0, l0), (.slice A1 l1.length c1, l1), (.slice A2 l2.length c2, l2), (.slice A3 l3.length c3, l3)])
    (hE1 : number_CheckFraction.f k l0 l1 = some 0)
    (hE2 : number_CheckFraction.f k l2 l3 = some 0)
    (hT1 : number_times.f k l0 l3 = some p)
    (hT2 : number_times.f k l2 l1 = some q)
    (hdo : ∀ (W' : World) (Ap : Option Addr) (cp : Nat) (Aq : Option Addr) (cq : Nat), Below w.heap.size w W' → Live W' [(.slice Aq q.length cq, q), (.slice Ap p.length cp, p)] →
      Calls Try.prog 96 #[.slice Ap p.length cp, .slice Aq q.length cq, .pointer (some ⟨bF, 0, none⟩), .pointer (some ⟨bG, 0, none⟩)] W' fun e w' => ∃ v0 v1 : Value, e = .returned (.agg #[v0, v1]) ∧ Kd.R (Kd.int .u32) 84 w' W'.heap.size (fun k => some k ≠ v1.ownBlock) v0 r1 ∧ Kd.R (Kd.int .u32) 84 w' W'.heap.size (fun k => some k ≠ v0.ownBlock) v1 r2 ∧ Below W'.heap.size W' w')
    :
    Calls Try.prog 95 #[.agg #[.slice A0 l0.length c0, .slice A1 l1.length c1], .agg #[.slice A2 l2.length c2, .slice A3 l3.length c3], Value.func (Fn.func 96) #[] #[.pointer (some ⟨bF, 0, none⟩), .pointer (some ⟨bG, 0, none⟩)]] w fun e w' => ∃ v0 v1 : Value, e = .returned (.tuple #[.agg #[v0, v1], .int .i64 0]) ∧ Kd.R (Kd.int .u32) 84 w' w.heap.size (fun k => some k ≠ v1.ownBlock) v0 r1 ∧ Kd.R (Kd.int .u32) 84 w' w.heap.size (fun k => some k ≠ v0.ownBlock) v1 r2 ∧ Below w.heap.size w w' := by
  have HL := Aside0.mk hL
  clear hL
  have HDO := Aside0.mk hdo
  clear hdo
  have E1 := Aside0.mk hE1
  have E2 := Aside0.mk hE2
  have T1 := Aside0.mk hT1
  have T2 := Aside0.mk hT2
  clear hE1 hE2 hT1 hT2
  have HB := Aside0.mk (Below.refl w.heap.size w)
  go_enter Try.func95, Try.ntmps95
  go_upto_region 1 with fail
  have HX0 := Aside0.mk (show ((w.alloc (Obj.cells #[.slice A0 l0.length c0, .slice A1 l1.length c1] 54)).alloc (Obj.cells #[.slice A2 l2.length c2, .slice A3 l3.length c3] 54)).heap[w.heap.size]? = some (.cells #[.slice A0 l0.length c0, .slice A1 l1.length c1] 54 (0, 0)) from blk_alloc (blk_new w _) _)
  have HX1 := Aside0.mk (show ((w.alloc (Obj.cells #[.slice A0 l0.length c0, .slice A1 l1.length c1] 54)).alloc (Obj.cells #[.slice A2 l2.length c2, .slice A3 l3.length c3] 54)).heap[w.heap.size + 1]? = some (.cells #[.slice A2 l2.length c2, .slice A3 l3.length c3] 54 (0, 0)) from by have := blk_new (w.alloc (Obj.cells #[.slice A0 l0.length c0, .slice A1 l1.length c1] 54)) (Obj.cells #[.slice A2 l2.length c2, .slice A3 l3.length c3] 54); rwa [World.size_alloc] at this)
  have nx0_ := Aside0.mk (blk_alloc HX0.out (Obj.cells #[Value.slice none 0 0, Value.slice none 0 0] 54))
  have nx1_ := Aside0.mk (blk_alloc HX1.out (Obj.cells #[Value.slice none 0 0, Value.slice none 0 0] 54))
  clear HX0 HX1
  have HX0 := nx0_
  have HX1 := nx1_
  clear nx0_ nx1_
  have HX2 := Aside0.mk (show (((w.alloc (Obj.cells #[.slice A0 l0.length c0, .slice A1 l1.length c1] 54)).alloc (Obj.cells #[.slice A2 l2.length c2, .slice A3 l3.length c3] 54)).alloc (Obj.cells #[Value.slice none 0 0, Value.slice none 0 0] 54)).heap[w.heap.size + 1 + 1]? = some (.cells #[Value.slice none 0 0, Value.slice none 0 0] 54 (0, 0)) from by have := blk_new ((w.alloc (Obj.cells #[.slice A0 l0.length c0, .slice A1 l1.length c1] 54)).alloc (Obj.cells #[.slice A2 l2.length c2, .slice A3 l3.length c3] 54)) (Obj.cells #[Value.slice none 0 0, Value.slice none 0 0] 54); rwa [World.size_alloc, World.size_alloc] at this)
  have nl_ := Aside0.mk (live_alloc (live_alloc (live_alloc HL.out (Obj.cells #[.slice A0 l0.length c0, .slice A1 l1.length c1] 54)) (Obj.cells #[.slice A2 l2.length c2, .slice A3 l3.length c3] 54)) (Obj.cells #[Value.slice none 0 0, Value.slice none 0 0] 54))
  have nb_ := Aside0.mk (below_alloc (below_alloc (below_alloc HB.out (Obj.cells #[.slice A0 l0.length c0, .slice A1 l1.length c1] 54)) (Obj.cells #[.slice A2 l2.length c2, .slice A3 l3.length c3] 54)) (Obj.cells #[Value.slice none 0 0, Value.slice none 0 0] 54))
  clear HL HB
  have HL := nl_
  have HB := nb_
  clear nl_ nb_
  generalize hW0 : (((w.alloc (Obj.cells #[.slice A0 l0.length c0, .slice A1 l1.length c1] 54)).alloc (Obj.cells #[.slice A2 l2.length c2, .slice A3 l3.length c3] 54)).alloc (Obj.cells #[Value.slice none 0 0, Value.slice none 0 0] 54)) = W0 at *
  clear hW0
  have q00 : W0.cell? ⟨w.heap.size, 0, none⟩ = some (.slice A0 l0.length c0) := (blk_cell HX0.out 0).trans rfl
  have q01 : W0.cell? ⟨w.heap.size, 1, none⟩ = some (.slice A1 l1.length c1) := (blk_cell HX0.out 1).trans rfl
  have q10 : W0.cell? ⟨w.heap.size + 1, 0, none⟩ = some (.slice A2 l2.length c2) := (blk_cell HX1.out 0).trans rfl
  have q11 : W0.cell? ⟨w.heap.size + 1, 1, none⟩ = some (.slice A3 l3.length c3) := (blk_cell HX1.out 1).trans rfl
  go_upto_region 3 with (first | (go_at_call 38; (with_reducible refine (number_CheckFraction.calls k (fun _ => True) _ _ _ (fun _ => True) _ _ _ _ _ ?s0 ?s1 E1.out).mono ?_); (case s0 => exact live_get LL_ LM_ _); (case s1 => exact live_get LL_ LM_ _); rintro e wn ⟨rfl, hb⟩; replace q00 := (hb.cell (World.block_lt_of_cell? _ _ q00)).trans q00; replace q01 := (hb.cell (World.block_lt_of_cell? _ _ q01)).trans q01; replace q10 := (hb.cell (World.block_lt_of_cell? _ _ q10)).trans q10; replace q11 := (hb.cell (World.block_lt_of_cell? _ _ q11)).trans q11; replace HX0 := Aside0.mk ((hb.block _ (blk_lt HX0.out)).trans HX0.out); replace HX1 := Aside0.mk ((hb.block _ (blk_lt HX1.out)).trans HX1.out); replace HX2 := Aside0.mk ((hb.block _ (blk_lt HX2.out)).trans HX2.out); have nl_ := Aside0.mk (live_below LL_ hb); have nb_ := Aside0.mk (below_step BC_ hb); clear HL HB; have HL := nl_; have HB := nb_; clear nl_ nb_ hb) | (go_at_call 38; (with_reducible refine (number_CheckFraction.calls k (fun _ => True) _ _ _ (fun _ => True) _ _ _ _ _ ?s0 ?s1 E2.out).mono ?_); (case s0 => exact live_get LL_ LM_ _); (case s1 => exact live_get LL_ LM_ _); rintro e wn ⟨rfl, hb⟩; replace q00 := (hb.cell (World.block_lt_of_cell? _ _ q00)).trans q00; replace q01 := (hb.cell (World.block_lt_of_cell? _ _ q01)).trans q01; replace q10 := (hb.cell (World.block_lt_of_cell? _ _ q10)).trans q10; replace q11 := (hb.cell (World.block_lt_of_cell? _ _ q11)).trans q11; replace HX0 := Aside0.mk ((hb.block _ (blk_lt HX0.out)).trans HX0.out); replace HX1 := Aside0.mk ((hb.block _ (blk_lt HX1.out)).trans HX1.out); replace HX2 := Aside0.mk ((hb.block _ (blk_lt HX2.out)).trans HX2.out); have nl_ := Aside0.mk (live_below LL_ hb); have nb_ := Aside0.mk (below_step BC_ hb); clear HL HB; have HL := nl_; have HB := nb_; clear nl_ nb_ hb))
  have hmx : Try.prog.follows .mixedOrders = true := by kernel_rfl
  have hS : wn.drew.cell? ⟨w.heap.size, 0, none⟩ = some (.slice A0 l0.length c0) ∧ wn.drew.cell? ⟨w.heap.size, 1, none⟩ = some (.slice A1 l1.length c1) ∧ wn.drew.cell? ⟨w.heap.size + 1, 0, none⟩ = some (.slice A2 l2.length c2) ∧ wn.drew.cell? ⟨w.heap.size + 1, 1, none⟩ = some (.slice A3 l3.length c3) := ⟨q00, q01, q10, q11⟩
  have nl_ := Aside0.mk (live_drew HL.out)
  have nb_ := Aside0.mk (below_drew1 HB.out)
  clear HL HB
  have HL := nl_
  have HB := nb_
  clear nl_ nb_
  clear q00 q01 q10 q11
  refine wp_region_any hmx ?_
  refine wpAny_of_held (S := fun W' => W'.cell? ⟨w.heap.size, 0, none⟩ = some (.slice A0 l0.length c0) ∧ W'.cell? ⟨w.heap.size, 1, none⟩ = some (.slice A1 l1.length c1) ∧ W'.cell? ⟨w.heap.size + 1, 0, none⟩ = some (.slice A2 l2.length c2) ∧ W'.cell? ⟨w.heap.size + 1, 1, none⟩ = some (.slice A3 l3.length c3)) _ _ _ _ ?_
  change wpAnyH _ _ _ _ _ 14 #[false, false, false, false, false, false, false, false, false, false, false, false, false, false] _ wn.drew
  have nx2_ := Aside0.mk (show wn.drew.heap[w.heap.size + 1 + 1]? = some (.cells #[Value.slice none 0 0, Value.slice none 0 0] 54 (0, 0)) from HX2.out)
  clear HX0 HX1 HX2
  have HX2 := nx2_
  clear nx2_
  generalize wn.drew = W1 at *
  refine take_at (i := 0) (v := Value.func (Fn.func 96) #[] #[.pointer (some ⟨bF, 0, none⟩), .pointer (some ⟨bG, 0, none⟩)]) rfl rfl (by kernel_rfl) (by kernel_rfl) (by kernel_rfl) (fun _ _ _ h => h) (Or.inl ⟨by rfl, ?_⟩) hS ?_
  · intro w hSw
    (try dsimp only at hSw)
    go_simp
  simp only [Act.put, List.setIfInBounds_toArray, List.set_cons_zero, List.set_cons_succ]
  refine take_at (i := 1) (v := .pointer (some ⟨w.heap.size, 0, none⟩)) rfl rfl (by kernel_rfl) (by kernel_rfl) (by kernel_rfl) (fun _ _ _ h => h) (Or.inl ⟨by rfl, ?_⟩) hS ?_
  · intro w hSw
    (try dsimp only at hSw)
    go_simp
  simp only [Act.put, List.setIfInBounds_toArray, List.set_cons_zero, List.set_cons_succ]
  refine take_at (i := 2) (v := .slice A0 l0.length c0) rfl rfl (by kernel_rfl) (by kernel_rfl) (by kernel_rfl) (fun _ _ _ h => h) (Or.inl ⟨by rfl, ?_⟩) hS ?_
  · intro w hSw
    (try dsimp only at hSw)
    go_simp
  simp only [Act.put, List.setIfInBounds_toArray, List.set_cons_zero, List.set_cons_succ]
  refine take_at (i := 3) (v := .pointer (some ⟨w.heap.size + 1, 1, none⟩)) rfl rfl (by kernel_rfl) (by kernel_rfl) (by kernel_rfl) (fun _ _ _ h => h) (Or.inl ⟨by rfl, ?_⟩) hS ?_
  · intro w hSw
    (try dsimp only at hSw)
    go_simp
  simp only [Act.put, List.setIfInBounds_toArray, List.set_cons_zero, List.set_cons_succ]
  refine take_at (i := 4) (v := .slice A3 l3.length c3) rfl rfl (by kernel_rfl) (by kernel_rfl) (by kernel_rfl) (fun _ _ _ h => h) (Or.inl ⟨by rfl, ?_⟩) hS ?_
  · intro w hSw
    (try dsimp only at hSw)
    go_simp
  simp only [Act.put, List.setIfInBounds_toArray, List.set_cons_zero, List.set_cons_succ]
  refine take_at (i := 6) (v := .pointer (some ⟨w.heap.size + 1, 0, none⟩)) rfl rfl (by kernel_rfl) (by kernel_rfl) (by kernel_rfl) (fun _ _ _ h => h) (Or.inl ⟨by rfl, ?_⟩) hS ?_
  · intro w hSw
    (try dsimp only at hSw)
    go_simp
  simp only [Act.put, List.setIfInBounds_toArray, List.set_cons_zero, List.set_cons_succ]
  refine take_at (i := 7) (v := .slice A2 l2.length c2) rfl rfl (by kernel_rfl) (by kernel_rfl) (by kernel_rfl) (fun _ _ _ h => h) (Or.inl ⟨by rfl, ?_⟩) hS ?_
  · intro w hSw
    (try dsimp only at hSw)
    go_simp
  simp only [Act.put, List.setIfInBounds_toArray, List.set_cons_zero, List.set_cons_succ]
  refine take_at (i := 8) (v := .pointer (some ⟨w.heap.size, 1, none⟩)) rfl rfl (by kernel_rfl) (by kernel_rfl) (by kernel_rfl) (fun _ _ _ h => h) (Or.inl ⟨by rfl, ?_⟩) hS ?_
  · intro w hSw
    (try dsimp only at hSw)
    go_simp
  simp only [Act.put, List.setIfInBounds_toArray, List.set_cons_zero, List.set_cons_succ]
  refine take_at (i := 9) (v := .slice A1 l1.length c1) rfl rfl (by kernel_rfl) (by kernel_rfl) (by kernel_rfl) (fun _ _ _ h => h) (Or.inl ⟨by rfl, ?_⟩) hS ?_
  · intro w hSw
    (try dsimp only at hSw)
    go_simp
  simp only [Act.put, List.setIfInBounds_toArray, List.set_cons_zero, List.set_cons_succ]
  refine wpAnyH_ready (rs := [5]) (by kernel_rfl) (by simp) ?_
  refine AllReadyH.cons (i := 5) rfl (fun K hK => ?_) AllReadyH.nil
  go_simp
  refine (number_times.calls k _ _ _ _ _ _ _ _ ?s0 ?s1 ?s2 ?s3 T1.out).mono ?_
  case s0 => exact (live_C LL_ LM_).2.2
  case s1 => exact (live_C LL_ LM_).2.1
  case s2 => exact (live_C LL_ LM_).2.2
  case s3 => exact (live_C LL_ LM_).2.1
  rintro e w5 ⟨v, rfl, ho, hb⟩
  obtain ⟨Ap, cp, rfl, _, _⟩ := Kd.R_reads ho
  dsimp only
  have hS9 : _ ∧ _ ∧ _ ∧ _ := ⟨(hb.cell (World.block_lt_of_cell? _ _ hS.1)).trans hS.1, (hb.cell (World.block_lt_of_cell? _ _ hS.2.1)).trans hS.2.1, (hb.cell (World.block_lt_of_cell? _ _ hS.2.2.1)).trans hS.2.2.1, (hb.cell (World.block_lt_of_cell? _ _ hS.2.2.2)).trans hS.2.2.2⟩
  have nl_ := Aside0.mk (live_add HL.out hb ho)
  have nb_ := Aside0.mk (below_step HB.out hb)
  have nx2_ := Aside0.mk ((hb.block _ (blk_lt HX2.out)).trans HX2.out)
  refine hK.out _ _ hS9 (fun _ => ?_)
  clear hK K hb HL HB hS
  have HL := nl_
  have HB := nb_
  have hS := hS9
  clear HX2
  have HX2 := nx2_
  clear nl_ nb_ nx2_ hS9
  simp only [Act.put, List.setIfInBounds_toArray, List.set_cons_zero, List.set_cons_succ]
  refine wpAnyH_ready (rs := [10]) (by kernel_rfl) (by simp) ?_
  refine AllReadyH.cons (i := 10) rfl (fun K hK => ?_) AllReadyH.nil
  go_simp
  refine (number_times.calls k _ _ _ _ _ _ _ _ ?s0 ?s1 ?s2 ?s3 T2.out).mono ?_
  case s0 => exact (live_C LL_ LM_).2.2
  case s1 => exact (live_C LL_ LM_).2.1
  case s2 => exact (live_C LL_ LM_).2.2
  case s3 => exact (live_C LL_ LM_).2.1
  rintro e w10 ⟨v, rfl, ho, hb⟩
  obtain ⟨Aq, cq, rfl, _, _⟩ := Kd.R_reads ho
  dsimp only
  have hS9 : _ ∧ _ ∧ _ ∧ _ := ⟨(hb.cell (World.block_lt_of_cell? _ _ hS.1)).trans hS.1, (hb.cell (World.block_lt_of_cell? _ _ hS.2.1)).trans hS.2.1, (hb.cell (World.block_lt_of_cell? _ _ hS.2.2.1)).trans hS.2.2.1, (hb.cell (World.block_lt_of_cell? _ _ hS.2.2.2)).trans hS.2.2.2⟩
  have nl_ := Aside0.mk (live_add HL.out hb ho)
  have nb_ := Aside0.mk (below_step HB.out hb)
  have nx2_ := Aside0.mk ((hb.block _ (blk_lt HX2.out)).trans HX2.out)
  refine hK.out _ _ hS9 (fun _ => ?_)
  clear hK K hb HL HB hS
  have HL := nl_
  have HB := nb_
  have hS := hS9
  clear HX2
  have HX2 := nx2_
  clear nl_ nb_ nx2_ hS9
  simp only [Act.put, List.setIfInBounds_toArray, List.set_cons_zero, List.set_cons_succ]
  refine wpAnyH_ready (rs := [11]) (by kernel_rfl) (by simp) ?_
  refine AllReadyH.cons (i := 11) rfl (fun K hK => ?_) AllReadyH.nil
  go_simp
  have HSZ := Aside0.mk (And.intro HB.out.size (blk_lt HX2.out))
  refine (HDO.out _ _ _ _ _ HB.out (live_two HL.out)).mono ?_
  rintro e w11 ⟨v0, v1, rfl, ho, hu, hb⟩
  obtain ⟨Av, cv, rfl, _, _⟩ := Kd.R_reads ho
  obtain ⟨Au, cu, rfl, _, _⟩ := Kd.R_reads hu
  have HO := Aside0.mk (Kd.R_below ho (Below.refl _ _))
  have HU := Aside0.mk (Kd.R_below hu (Below.refl _ _))
  clear ho hu
  dsimp only
  have hS9 : _ ∧ _ ∧ _ ∧ _ := ⟨(hb.cell (World.block_lt_of_cell? _ _ hS.1)).trans hS.1, (hb.cell (World.block_lt_of_cell? _ _ hS.2.1)).trans hS.2.1, (hb.cell (World.block_lt_of_cell? _ _ hS.2.2.1)).trans hS.2.2.1, (hb.cell (World.block_lt_of_cell? _ _ hS.2.2.2)).trans hS.2.2.2⟩
  have nl_ := Aside0.mk (live_below HL.out hb)
  have nb_ := Aside0.mk (below_step HB.out hb)
  have nx2_ := Aside0.mk ((hb.block _ (blk_lt HX2.out)).trans HX2.out)
  refine hK.out _ _ hS9 (fun _ => ?_)
  clear hK K hb HL HB hS
  have HL := nl_
  have HB := nb_
  have hS := hS9
  clear HX2
  have HX2 := nx2_
  clear nl_ nb_ nx2_ hS9
  simp only [Act.put, List.setIfInBounds_toArray, List.set_cons_zero, List.set_cons_succ]
  have q20 : w11.cell? ⟨w.heap.size + 1 + 1, 0, none⟩ = some (.slice none 0 0) := (blk_cell HX2.out 0).trans rfl
  have q21 : w11.cell? ⟨w.heap.size + 1 + 1, 1, none⟩ = some (.slice none 0 0) := (blk_cell HX2.out 1).trans rfl
  have f20 := blk_frozen HX2.out 0
  have f21 := blk_frozen HX2.out 1
  refine wpAnyH_ready (rs := [12]) (by kernel_rfl) (by simp) ?_
  refine AllReadyH.cons (i := 12) rfl (fun K hK => ?_) AllReadyH.nil
  go_simp
  have hSz := And.intro (pt_cell_far (p := ⟨w.heap.size + 1 + 1, 1, none⟩) (u := .slice Au r2.length cu) (pt_cell_far (p := ⟨w.heap.size + 1 + 1, 0, none⟩) (u := .slice Av r1.length cv) hS.1 (by dsimp only; omega)) (by dsimp only; omega)) (And.intro (pt_cell_far (p := ⟨w.heap.size + 1 + 1, 1, none⟩) (u := .slice Au r2.length cu) (pt_cell_far (p := ⟨w.heap.size + 1 + 1, 0, none⟩) (u := .slice Av r1.length cv) hS.2.1 (by dsimp only; omega)) (by dsimp only; omega)) (And.intro (pt_cell_far (p := ⟨w.heap.size + 1 + 1, 1, none⟩) (u := .slice Au r2.length cu) (pt_cell_far (p := ⟨w.heap.size + 1 + 1, 0, none⟩) (u := .slice Av r1.length cv) hS.2.2.1 (by dsimp only; omega)) (by dsimp only; omega)) (pt_cell_far (p := ⟨w.heap.size + 1 + 1, 1, none⟩) (u := .slice Au r2.length cu) (pt_cell_far (p := ⟨w.heap.size + 1 + 1, 0, none⟩) (u := .slice Av r1.length cv) hS.2.2.2 (by dsimp only; omega)) (by dsimp only; omega))))
  refine hK.out _ _ hSz (fun _ => ?_)
  clear hK K hS q20 q21 f20 f21
  have hS := hSz
  clear hSz
  simp only [Act.put, List.setIfInBounds_toArray, List.set_cons_zero, List.set_cons_succ]
  refine take_at (i := 13) (v := .int .i64 0) rfl rfl (by kernel_rfl) (by kernel_rfl) (by kernel_rfl) (fun _ _ _ h => h) (Or.inl ⟨by rfl, ?_⟩) hS ?_
  · intro w hSw
    (try dsimp only at hSw)
    go_simp
  simp only [Act.put, List.setIfInBounds_toArray, List.set_cons_zero, List.set_cons_succ]
  refine wpAnyH_done (by kernel_rfl) ?_ _
  clear hS
  go_wp2
  refine bodyPost_ret (results_ct rfl _ _ (w.heap.size + 1 + 1) 54 #[.slice Av r1.length cv, .slice Au r2.length cu] (0, 0) _ rfl (blk_put (cs := #[.slice Av r1.length cv, .slice none 0 0]) (blk_put (cs := #[.slice none 0 0, .slice none 0 0]) HX2.out 0 _ rfl) 1 _ rfl) Try.underlying54 rfl (by kernel_rfl)) rfl ?_
  have hsz := HSZ.out
  refine ⟨_, _, rfl, Kd.R_mono (Kd.R_far (p := ⟨w.heap.size + 1 + 1, 1, none⟩) (Kd.R_far (p := ⟨w.heap.size + 1 + 1, 0, none⟩) (Kd.R_lower (Kd.R_bound HO.out) hsz.1) (fun k hk => by have := hk.2.1; dsimp only; omega) _) (fun k hk => by have := hk.2.1; dsimp only; omega) _) (fun k hk => hk.1), Kd.R_mono (Kd.R_far (p := ⟨w.heap.size + 1 + 1, 1, none⟩) (Kd.R_far (p := ⟨w.heap.size + 1 + 1, 0, none⟩) (Kd.R_lower (Kd.R_bound HU.out) hsz.1) (fun k hk => by have := hk.2.1; dsimp only; omega) _) (fun k hk => by have := hk.2.1; dsimp only; omega) _) (fun k hk => hk.1), (HB.out.setCell (p := ⟨w.heap.size + 1 + 1, 0, none⟩) (by dsimp only; omega) _).setCell (p := ⟨w.heap.size + 1 + 1, 1, none⟩) (by dsimp only; omega) _⟩
set_option maxRecDepth 1000000 in
set_option maxHeartbeats 8000000 in
theorem cross_frac96_bad1 (k : Nat) (A0 : Option Addr) (c0 : Nat) (l0 : List Int) (A1 : Option Addr) (c1 : Nat) (l1 : List Int) (A2 : Option Addr) (c2 : Nat) (l2 : List Int) (A3 : Option Addr) (c3 : Nat) (l3 : List Int) (bF bG : Nat) (w : World) (hL : Live w [(.slice A0 l0.length c0, l0), (.slice A1 l1.length c1, l1), (.slice A2 l2.length c2, l2), (.slice A3 l3.length c3, l3)])
    (hE1 : number_CheckFraction.f k l0 l1 = some 8)
    :
    Calls Try.prog 95 #[.agg #[.slice A0 l0.length c0, .slice A1 l1.length c1], .agg #[.slice A2 l2.length c2, .slice A3 l3.length c3], Value.func (Fn.func 96) #[] #[.pointer (some ⟨bF, 0, none⟩), .pointer (some ⟨bG, 0, none⟩)]] w fun e w' => ∃ v0 v1 : Value, e = .returned (.tuple #[.agg #[v0, v1], .int .i64 8]) ∧ Kd.R (Kd.int .u32) 84 w' w.heap.size (fun k => some k ≠ v1.ownBlock) v0 [] ∧ Kd.R (Kd.int .u32) 84 w' w.heap.size (fun k => some k ≠ v0.ownBlock) v1 [] ∧ Below w.heap.size w w' := by
  have HL := Aside0.mk hL
  clear hL
  have E1 := Aside0.mk hE1
  clear hE1
  have HB := Aside0.mk (Below.refl w.heap.size w)
  go_enter Try.func95, Try.ntmps95
  go_upto_region 1 with fail
  have HX0 := Aside0.mk (show ((w.alloc (Obj.cells #[.slice A0 l0.length c0, .slice A1 l1.length c1] 54)).alloc (Obj.cells #[.slice A2 l2.length c2, .slice A3 l3.length c3] 54)).heap[w.heap.size]? = some (.cells #[.slice A0 l0.length c0, .slice A1 l1.length c1] 54 (0, 0)) from blk_alloc (blk_new w _) _)
  have HX1 := Aside0.mk (show ((w.alloc (Obj.cells #[.slice A0 l0.length c0, .slice A1 l1.length c1] 54)).alloc (Obj.cells #[.slice A2 l2.length c2, .slice A3 l3.length c3] 54)).heap[w.heap.size + 1]? = some (.cells #[.slice A2 l2.length c2, .slice A3 l3.length c3] 54 (0, 0)) from by have := blk_new (w.alloc (Obj.cells #[.slice A0 l0.length c0, .slice A1 l1.length c1] 54)) (Obj.cells #[.slice A2 l2.length c2, .slice A3 l3.length c3] 54); rwa [World.size_alloc] at this)
  have nx0_ := Aside0.mk (blk_alloc HX0.out (Obj.cells #[Value.slice none 0 0, Value.slice none 0 0] 54))
  have nx1_ := Aside0.mk (blk_alloc HX1.out (Obj.cells #[Value.slice none 0 0, Value.slice none 0 0] 54))
  clear HX0 HX1
  have HX0 := nx0_
  have HX1 := nx1_
  clear nx0_ nx1_
  have HX2 := Aside0.mk (show (((w.alloc (Obj.cells #[.slice A0 l0.length c0, .slice A1 l1.length c1] 54)).alloc (Obj.cells #[.slice A2 l2.length c2, .slice A3 l3.length c3] 54)).alloc (Obj.cells #[Value.slice none 0 0, Value.slice none 0 0] 54)).heap[w.heap.size + 1 + 1]? = some (.cells #[Value.slice none 0 0, Value.slice none 0 0] 54 (0, 0)) from by have := blk_new ((w.alloc (Obj.cells #[.slice A0 l0.length c0, .slice A1 l1.length c1] 54)).alloc (Obj.cells #[.slice A2 l2.length c2, .slice A3 l3.length c3] 54)) (Obj.cells #[Value.slice none 0 0, Value.slice none 0 0] 54); rwa [World.size_alloc, World.size_alloc] at this)
  have nl_ := Aside0.mk (live_alloc (live_alloc (live_alloc HL.out (Obj.cells #[.slice A0 l0.length c0, .slice A1 l1.length c1] 54)) (Obj.cells #[.slice A2 l2.length c2, .slice A3 l3.length c3] 54)) (Obj.cells #[Value.slice none 0 0, Value.slice none 0 0] 54))
  have nb_ := Aside0.mk (below_alloc (below_alloc (below_alloc HB.out (Obj.cells #[.slice A0 l0.length c0, .slice A1 l1.length c1] 54)) (Obj.cells #[.slice A2 l2.length c2, .slice A3 l3.length c3] 54)) (Obj.cells #[Value.slice none 0 0, Value.slice none 0 0] 54))
  clear HL HB
  have HL := nl_
  have HB := nb_
  clear nl_ nb_
  generalize hW0 : (((w.alloc (Obj.cells #[.slice A0 l0.length c0, .slice A1 l1.length c1] 54)).alloc (Obj.cells #[.slice A2 l2.length c2, .slice A3 l3.length c3] 54)).alloc (Obj.cells #[Value.slice none 0 0, Value.slice none 0 0] 54)) = W0 at *
  clear hW0
  have q00 : W0.cell? ⟨w.heap.size, 0, none⟩ = some (.slice A0 l0.length c0) := (blk_cell HX0.out 0).trans rfl
  have q01 : W0.cell? ⟨w.heap.size, 1, none⟩ = some (.slice A1 l1.length c1) := (blk_cell HX0.out 1).trans rfl
  have q10 : W0.cell? ⟨w.heap.size + 1, 0, none⟩ = some (.slice A2 l2.length c2) := (blk_cell HX1.out 0).trans rfl
  have q11 : W0.cell? ⟨w.heap.size + 1, 1, none⟩ = some (.slice A3 l3.length c3) := (blk_cell HX1.out 1).trans rfl
  go_wp2_with (first | (go_at_call 38; (with_reducible refine (number_CheckFraction.calls k (fun _ => True) _ _ _ (fun _ => True) _ _ _ _ _ ?s0 ?s1 E1.out).mono ?_); (case s0 => exact live_get LL_ LM_ _); (case s1 => exact live_get LL_ LM_ _); rintro e wn ⟨rfl, hb⟩; replace q00 := (hb.cell (World.block_lt_of_cell? _ _ q00)).trans q00; replace q01 := (hb.cell (World.block_lt_of_cell? _ _ q01)).trans q01; replace q10 := (hb.cell (World.block_lt_of_cell? _ _ q10)).trans q10; replace q11 := (hb.cell (World.block_lt_of_cell? _ _ q11)).trans q11; replace HX0 := Aside0.mk ((hb.block _ (blk_lt HX0.out)).trans HX0.out); replace HX1 := Aside0.mk ((hb.block _ (blk_lt HX1.out)).trans HX1.out); replace HX2 := Aside0.mk ((hb.block _ (blk_lt HX2.out)).trans HX2.out); have nl_ := Aside0.mk (live_below LL_ hb); have nb_ := Aside0.mk (below_step BC_ hb); clear HL HB; have HL := nl_; have HB := nb_; clear nl_ nb_ hb; have q20 : wn.cell? ⟨w.heap.size + 1 + 1, 0, none⟩ = some (.slice none 0 0) := (blk_cell HX2.out 0).trans rfl; have q21 : wn.cell? ⟨w.heap.size + 1 + 1, 1, none⟩ = some (.slice none 0 0) := (blk_cell HX2.out 1).trans rfl; have f20 := blk_frozen HX2.out 0; have f21 := blk_frozen HX2.out 1))
  refine bodyPost_ret (results_ct rfl _ _ (w.heap.size + 1 + 1) 54 #[.slice none 0 0, .slice none 0 0] (0, 0) _ rfl (blk_put (cs := #[.slice none 0 0, .slice none 0 0]) (blk_put (cs := #[.slice none 0 0, .slice none 0 0]) HX2.out 0 _ rfl) 1 _ rfl) Try.underlying54 rfl (by kernel_rfl)) rfl ?_
  exact ⟨_, _, rfl, Kd.R_nil _ _ _ _ _, Kd.R_nil _ _ _ _ _, (HB.out.setCell (p := ⟨w.heap.size + 1 + 1, 0, none⟩) (by dsimp only; omega) _).setCell (p := ⟨w.heap.size + 1 + 1, 1, none⟩) (by dsimp only; omega) _⟩
set_option maxRecDepth 1000000 in
set_option maxHeartbeats 8000000 in
theorem cross_frac96_bad2 (k : Nat) (A0 : Option Addr) (c0 : Nat) (l0 : List Int) (A1 : Option Addr) (c1 : Nat) (l1 : List Int) (A2 : Option Addr) (c2 : Nat) (l2 : List Int) (A3 : Option Addr) (c3 : Nat) (l3 : List Int) (bF bG : Nat) (w : World) (hL : Live w [(.slice A0 l0.length c0, l0), (.slice A1 l1.length c1, l1), (.slice A2 l2.length c2, l2), (.slice A3 l3.length c3, l3)])
    (hE1 : number_CheckFraction.f k l0 l1 = some 0)
    (hE2 : number_CheckFraction.f k l2 l3 = some 8)
    :
    Calls Try.prog 95 #[.agg #[.slice A0 l0.length c0, .slice A1 l1.length c1], .agg #[.slice A2 l2.length c2, .slice A3 l3.length c3], Value.func (Fn.func 96) #[] #[.pointer (some ⟨bF, 0, none⟩), .pointer (some ⟨bG, 0, none⟩)]] w fun e w' => ∃ v0 v1 : Value, e = .returned (.tuple #[.agg #[v0, v1], .int .i64 8]) ∧ Kd.R (Kd.int .u32) 84 w' w.heap.size (fun k => some k ≠ v1.ownBlock) v0 [] ∧ Kd.R (Kd.int .u32) 84 w' w.heap.size (fun k => some k ≠ v0.ownBlock) v1 [] ∧ Below w.heap.size w w' := by
  have HL := Aside0.mk hL
  clear hL
  have E1 := Aside0.mk hE1
  have E2 := Aside0.mk hE2
  clear hE1 hE2
  have HB := Aside0.mk (Below.refl w.heap.size w)
  go_enter Try.func95, Try.ntmps95
  go_upto_region 1 with fail
  have HX0 := Aside0.mk (show ((w.alloc (Obj.cells #[.slice A0 l0.length c0, .slice A1 l1.length c1] 54)).alloc (Obj.cells #[.slice A2 l2.length c2, .slice A3 l3.length c3] 54)).heap[w.heap.size]? = some (.cells #[.slice A0 l0.length c0, .slice A1 l1.length c1] 54 (0, 0)) from blk_alloc (blk_new w _) _)
  have HX1 := Aside0.mk (show ((w.alloc (Obj.cells #[.slice A0 l0.length c0, .slice A1 l1.length c1] 54)).alloc (Obj.cells #[.slice A2 l2.length c2, .slice A3 l3.length c3] 54)).heap[w.heap.size + 1]? = some (.cells #[.slice A2 l2.length c2, .slice A3 l3.length c3] 54 (0, 0)) from by have := blk_new (w.alloc (Obj.cells #[.slice A0 l0.length c0, .slice A1 l1.length c1] 54)) (Obj.cells #[.slice A2 l2.length c2, .slice A3 l3.length c3] 54); rwa [World.size_alloc] at this)
  have nx0_ := Aside0.mk (blk_alloc HX0.out (Obj.cells #[Value.slice none 0 0, Value.slice none 0 0] 54))
  have nx1_ := Aside0.mk (blk_alloc HX1.out (Obj.cells #[Value.slice none 0 0, Value.slice none 0 0] 54))
  clear HX0 HX1
  have HX0 := nx0_
  have HX1 := nx1_
  clear nx0_ nx1_
  have HX2 := Aside0.mk (show (((w.alloc (Obj.cells #[.slice A0 l0.length c0, .slice A1 l1.length c1] 54)).alloc (Obj.cells #[.slice A2 l2.length c2, .slice A3 l3.length c3] 54)).alloc (Obj.cells #[Value.slice none 0 0, Value.slice none 0 0] 54)).heap[w.heap.size + 1 + 1]? = some (.cells #[Value.slice none 0 0, Value.slice none 0 0] 54 (0, 0)) from by have := blk_new ((w.alloc (Obj.cells #[.slice A0 l0.length c0, .slice A1 l1.length c1] 54)).alloc (Obj.cells #[.slice A2 l2.length c2, .slice A3 l3.length c3] 54)) (Obj.cells #[Value.slice none 0 0, Value.slice none 0 0] 54); rwa [World.size_alloc, World.size_alloc] at this)
  have nl_ := Aside0.mk (live_alloc (live_alloc (live_alloc HL.out (Obj.cells #[.slice A0 l0.length c0, .slice A1 l1.length c1] 54)) (Obj.cells #[.slice A2 l2.length c2, .slice A3 l3.length c3] 54)) (Obj.cells #[Value.slice none 0 0, Value.slice none 0 0] 54))
  have nb_ := Aside0.mk (below_alloc (below_alloc (below_alloc HB.out (Obj.cells #[.slice A0 l0.length c0, .slice A1 l1.length c1] 54)) (Obj.cells #[.slice A2 l2.length c2, .slice A3 l3.length c3] 54)) (Obj.cells #[Value.slice none 0 0, Value.slice none 0 0] 54))
  clear HL HB
  have HL := nl_
  have HB := nb_
  clear nl_ nb_
  generalize hW0 : (((w.alloc (Obj.cells #[.slice A0 l0.length c0, .slice A1 l1.length c1] 54)).alloc (Obj.cells #[.slice A2 l2.length c2, .slice A3 l3.length c3] 54)).alloc (Obj.cells #[Value.slice none 0 0, Value.slice none 0 0] 54)) = W0 at *
  clear hW0
  have q00 : W0.cell? ⟨w.heap.size, 0, none⟩ = some (.slice A0 l0.length c0) := (blk_cell HX0.out 0).trans rfl
  have q01 : W0.cell? ⟨w.heap.size, 1, none⟩ = some (.slice A1 l1.length c1) := (blk_cell HX0.out 1).trans rfl
  have q10 : W0.cell? ⟨w.heap.size + 1, 0, none⟩ = some (.slice A2 l2.length c2) := (blk_cell HX1.out 0).trans rfl
  have q11 : W0.cell? ⟨w.heap.size + 1, 1, none⟩ = some (.slice A3 l3.length c3) := (blk_cell HX1.out 1).trans rfl
  go_wp2_with (first | (go_at_call 38; (with_reducible refine (number_CheckFraction.calls k (fun _ => True) _ _ _ (fun _ => True) _ _ _ _ _ ?s0 ?s1 E1.out).mono ?_); (case s0 => exact live_get LL_ LM_ _); (case s1 => exact live_get LL_ LM_ _); rintro e wn ⟨rfl, hb⟩; replace q00 := (hb.cell (World.block_lt_of_cell? _ _ q00)).trans q00; replace q01 := (hb.cell (World.block_lt_of_cell? _ _ q01)).trans q01; replace q10 := (hb.cell (World.block_lt_of_cell? _ _ q10)).trans q10; replace q11 := (hb.cell (World.block_lt_of_cell? _ _ q11)).trans q11; replace HX0 := Aside0.mk ((hb.block _ (blk_lt HX0.out)).trans HX0.out); replace HX1 := Aside0.mk ((hb.block _ (blk_lt HX1.out)).trans HX1.out); replace HX2 := Aside0.mk ((hb.block _ (blk_lt HX2.out)).trans HX2.out); have nl_ := Aside0.mk (live_below LL_ hb); have nb_ := Aside0.mk (below_step BC_ hb); clear HL HB; have HL := nl_; have HB := nb_; clear nl_ nb_ hb) | (go_at_call 38; (with_reducible refine (number_CheckFraction.calls k (fun _ => True) _ _ _ (fun _ => True) _ _ _ _ _ ?s0 ?s1 E2.out).mono ?_); (case s0 => exact live_get LL_ LM_ _); (case s1 => exact live_get LL_ LM_ _); rintro e wn ⟨rfl, hb⟩; replace q00 := (hb.cell (World.block_lt_of_cell? _ _ q00)).trans q00; replace q01 := (hb.cell (World.block_lt_of_cell? _ _ q01)).trans q01; replace q10 := (hb.cell (World.block_lt_of_cell? _ _ q10)).trans q10; replace q11 := (hb.cell (World.block_lt_of_cell? _ _ q11)).trans q11; replace HX0 := Aside0.mk ((hb.block _ (blk_lt HX0.out)).trans HX0.out); replace HX1 := Aside0.mk ((hb.block _ (blk_lt HX1.out)).trans HX1.out); replace HX2 := Aside0.mk ((hb.block _ (blk_lt HX2.out)).trans HX2.out); have nl_ := Aside0.mk (live_below LL_ hb); have nb_ := Aside0.mk (below_step BC_ hb); clear HL HB; have HL := nl_; have HB := nb_; clear nl_ nb_ hb; have q20 : wn.cell? ⟨w.heap.size + 1 + 1, 0, none⟩ = some (.slice none 0 0) := (blk_cell HX2.out 0).trans rfl; have q21 : wn.cell? ⟨w.heap.size + 1 + 1, 1, none⟩ = some (.slice none 0 0) := (blk_cell HX2.out 1).trans rfl; have f20 := blk_frozen HX2.out 0; have f21 := blk_frozen HX2.out 1))
  refine bodyPost_ret (results_ct rfl _ _ (w.heap.size + 1 + 1) 54 #[.slice none 0 0, .slice none 0 0] (0, 0) _ rfl (blk_put (cs := #[.slice none 0 0, .slice none 0 0]) (blk_put (cs := #[.slice none 0 0, .slice none 0 0]) HX2.out 0 _ rfl) 1 _ rfl) Try.underlying54 rfl (by kernel_rfl)) rfl ?_
  exact ⟨_, _, rfl, Kd.R_nil _ _ _ _ _, Kd.R_nil _ _ _ _ _, (HB.out.setCell (p := ⟨w.heap.size + 1 + 1, 0, none⟩) (by dsimp only; omega) _).setCell (p := ⟨w.heap.size + 1 + 1, 1, none⟩) (by dsimp only; omega) _⟩
set_option maxRecDepth 1000000 in
set_option maxHeartbeats 8000000 in
theorem cross_frac98 (k : Nat) (A0 : Option Addr) (c0 : Nat) (l0 : List Int) (A1 : Option Addr) (c1 : Nat) (l1 : List Int) (A2 : Option Addr) (c2 : Nat) (l2 : List Int) (A3 : Option Addr) (c3 : Nat) (l3 : List Int) (p q r1 r2 : List Int) (bF bG : Nat) (w : World) (hL : Live w [(.slice A0 l0.length c0, l0), (.slice A1 l1.length c1, l1), (.slice A2 l2.length c2, l2), (.slice A3 l3.length c3, l3)])
    (hE1 : number_CheckFraction.f k l0 l1 = some 0)
    (hE2 : number_CheckFraction.f k l2 l3 = some 0)
    (hT1 : number_times.f k l0 l3 = some p)
    (hT2 : number_times.f k l2 l1 = some q)
    (hdo : ∀ (W' : World) (Ap : Option Addr) (cp : Nat) (Aq : Option Addr) (cq : Nat), Below w.heap.size w W' → Live W' [(.slice Aq q.length cq, q), (.slice Ap p.length cp, p)] →
      Calls Try.prog 98 #[.slice Ap p.length cp, .slice Aq q.length cq, .pointer (some ⟨bF, 0, none⟩), .pointer (some ⟨bG, 0, none⟩)] W' fun e w' => ∃ v0 v1 : Value, e = .returned (.agg #[v0, v1]) ∧ Kd.R (Kd.int .u32) 84 w' W'.heap.size (fun k => some k ≠ v1.ownBlock) v0 r1 ∧ Kd.R (Kd.int .u32) 84 w' W'.heap.size (fun k => some k ≠ v0.ownBlock) v1 r2 ∧ Below W'.heap.size W' w')
    :
    Calls Try.prog 95 #[.agg #[.slice A0 l0.length c0, .slice A1 l1.length c1], .agg #[.slice A2 l2.length c2, .slice A3 l3.length c3], Value.func (Fn.func 98) #[] #[.pointer (some ⟨bF, 0, none⟩), .pointer (some ⟨bG, 0, none⟩)]] w fun e w' => ∃ v0 v1 : Value, e = .returned (.tuple #[.agg #[v0, v1], .int .i64 0]) ∧ Kd.R (Kd.int .u32) 84 w' w.heap.size (fun k => some k ≠ v1.ownBlock) v0 r1 ∧ Kd.R (Kd.int .u32) 84 w' w.heap.size (fun k => some k ≠ v0.ownBlock) v1 r2 ∧ Below w.heap.size w w' := by
  have HL := Aside0.mk hL
  clear hL
  have HDO := Aside0.mk hdo
  clear hdo
  have E1 := Aside0.mk hE1
  have E2 := Aside0.mk hE2
  have T1 := Aside0.mk hT1
  have T2 := Aside0.mk hT2
  clear hE1 hE2 hT1 hT2
  have HB := Aside0.mk (Below.refl w.heap.size w)
  go_enter Try.func95, Try.ntmps95
  go_upto_region 1 with fail
  have HX0 := Aside0.mk (show ((w.alloc (Obj.cells #[.slice A0 l0.length c0, .slice A1 l1.length c1] 54)).alloc (Obj.cells #[.slice A2 l2.length c2, .slice A3 l3.length c3] 54)).heap[w.heap.size]? = some (.cells #[.slice A0 l0.length c0, .slice A1 l1.length c1] 54 (0, 0)) from blk_alloc (blk_new w _) _)
  have HX1 := Aside0.mk (show ((w.alloc (Obj.cells #[.slice A0 l0.length c0, .slice A1 l1.length c1] 54)).alloc (Obj.cells #[.slice A2 l2.length c2, .slice A3 l3.length c3] 54)).heap[w.heap.size + 1]? = some (.cells #[.slice A2 l2.length c2, .slice A3 l3.length c3] 54 (0, 0)) from by have := blk_new (w.alloc (Obj.cells #[.slice A0 l0.length c0, .slice A1 l1.length c1] 54)) (Obj.cells #[.slice A2 l2.length c2, .slice A3 l3.length c3] 54); rwa [World.size_alloc] at this)
  have nx0_ := Aside0.mk (blk_alloc HX0.out (Obj.cells #[Value.slice none 0 0, Value.slice none 0 0] 54))
  have nx1_ := Aside0.mk (blk_alloc HX1.out (Obj.cells #[Value.slice none 0 0, Value.slice none 0 0] 54))
  clear HX0 HX1
  have HX0 := nx0_
  have HX1 := nx1_
  clear nx0_ nx1_
  have HX2 := Aside0.mk (show (((w.alloc (Obj.cells #[.slice A0 l0.length c0, .slice A1 l1.length c1] 54)).alloc (Obj.cells #[.slice A2 l2.length c2, .slice A3 l3.length c3] 54)).alloc (Obj.cells #[Value.slice none 0 0, Value.slice none 0 0] 54)).heap[w.heap.size + 1 + 1]? = some (.cells #[Value.slice none 0 0, Value.slice none 0 0] 54 (0, 0)) from by have := blk_new ((w.alloc (Obj.cells #[.slice A0 l0.length c0, .slice A1 l1.length c1] 54)).alloc (Obj.cells #[.slice A2 l2.length c2, .slice A3 l3.length c3] 54)) (Obj.cells #[Value.slice none 0 0, Value.slice none 0 0] 54); rwa [World.size_alloc, World.size_alloc] at this)
  have nl_ := Aside0.mk (live_alloc (live_alloc (live_alloc HL.out (Obj.cells #[.slice A0 l0.length c0, .slice A1 l1.length c1] 54)) (Obj.cells #[.slice A2 l2.length c2, .slice A3 l3.length c3] 54)) (Obj.cells #[Value.slice none 0 0, Value.slice none 0 0] 54))
  have nb_ := Aside0.mk (below_alloc (below_alloc (below_alloc HB.out (Obj.cells #[.slice A0 l0.length c0, .slice A1 l1.length c1] 54)) (Obj.cells #[.slice A2 l2.length c2, .slice A3 l3.length c3] 54)) (Obj.cells #[Value.slice none 0 0, Value.slice none 0 0] 54))
  clear HL HB
  have HL := nl_
  have HB := nb_
  clear nl_ nb_
  generalize hW0 : (((w.alloc (Obj.cells #[.slice A0 l0.length c0, .slice A1 l1.length c1] 54)).alloc (Obj.cells #[.slice A2 l2.length c2, .slice A3 l3.length c3] 54)).alloc (Obj.cells #[Value.slice none 0 0, Value.slice none 0 0] 54)) = W0 at *
  clear hW0
  have q00 : W0.cell? ⟨w.heap.size, 0, none⟩ = some (.slice A0 l0.length c0) := (blk_cell HX0.out 0).trans rfl
  have q01 : W0.cell? ⟨w.heap.size, 1, none⟩ = some (.slice A1 l1.length c1) := (blk_cell HX0.out 1).trans rfl
  have q10 : W0.cell? ⟨w.heap.size + 1, 0, none⟩ = some (.slice A2 l2.length c2) := (blk_cell HX1.out 0).trans rfl
  have q11 : W0.cell? ⟨w.heap.size + 1, 1, none⟩ = some (.slice A3 l3.length c3) := (blk_cell HX1.out 1).trans rfl
  go_upto_region 3 with (first | (go_at_call 38; (with_reducible refine (number_CheckFraction.calls k (fun _ => True) _ _ _ (fun _ => True) _ _ _ _ _ ?s0 ?s1 E1.out).mono ?_); (case s0 => exact live_get LL_ LM_ _); (case s1 => exact live_get LL_ LM_ _); rintro e wn ⟨rfl, hb⟩; replace q00 := (hb.cell (World.block_lt_of_cell? _ _ q00)).trans q00; replace q01 := (hb.cell (World.block_lt_of_cell? _ _ q01)).trans q01; replace q10 := (hb.cell (World.block_lt_of_cell? _ _ q10)).trans q10; replace q11 := (hb.cell (World.block_lt_of_cell? _ _ q11)).trans q11; replace HX0 := Aside0.mk ((hb.block _ (blk_lt HX0.out)).trans HX0.out); replace HX1 := Aside0.mk ((hb.block _ (blk_lt HX1.out)).trans HX1.out); replace HX2 := Aside0.mk ((hb.block _ (blk_lt HX2.out)).trans HX2.out); have nl_ := Aside0.mk (live_below LL_ hb); have nb_ := Aside0.mk (below_step BC_ hb); clear HL HB; have HL := nl_; have HB := nb_; clear nl_ nb_ hb) | (go_at_call 38; (with_reducible refine (number_CheckFraction.calls k (fun _ => True) _ _ _ (fun _ => True) _ _ _ _ _ ?s0 ?s1 E2.out).mono ?_); (case s0 => exact live_get LL_ LM_ _); (case s1 => exact live_get LL_ LM_ _); rintro e wn ⟨rfl, hb⟩; replace q00 := (hb.cell (World.block_lt_of_cell? _ _ q00)).trans q00; replace q01 := (hb.cell (World.block_lt_of_cell? _ _ q01)).trans q01; replace q10 := (hb.cell (World.block_lt_of_cell? _ _ q10)).trans q10; replace q11 := (hb.cell (World.block_lt_of_cell? _ _ q11)).trans q11; replace HX0 := Aside0.mk ((hb.block _ (blk_lt HX0.out)).trans HX0.out); replace HX1 := Aside0.mk ((hb.block _ (blk_lt HX1.out)).trans HX1.out); replace HX2 := Aside0.mk ((hb.block _ (blk_lt HX2.out)).trans HX2.out); have nl_ := Aside0.mk (live_below LL_ hb); have nb_ := Aside0.mk (below_step BC_ hb); clear HL HB; have HL := nl_; have HB := nb_; clear nl_ nb_ hb))
  have hmx : Try.prog.follows .mixedOrders = true := by kernel_rfl
  have hS : wn.drew.cell? ⟨w.heap.size, 0, none⟩ = some (.slice A0 l0.length c0) ∧ wn.drew.cell? ⟨w.heap.size, 1, none⟩ = some (.slice A1 l1.length c1) ∧ wn.drew.cell? ⟨w.heap.size + 1, 0, none⟩ = some (.slice A2 l2.length c2) ∧ wn.drew.cell? ⟨w.heap.size + 1, 1, none⟩ = some (.slice A3 l3.length c3) := ⟨q00, q01, q10, q11⟩
  have nl_ := Aside0.mk (live_drew HL.out)
  have nb_ := Aside0.mk (below_drew1 HB.out)
  clear HL HB
  have HL := nl_
  have HB := nb_
  clear nl_ nb_
  clear q00 q01 q10 q11
  refine wp_region_any hmx ?_
  refine wpAny_of_held (S := fun W' => W'.cell? ⟨w.heap.size, 0, none⟩ = some (.slice A0 l0.length c0) ∧ W'.cell? ⟨w.heap.size, 1, none⟩ = some (.slice A1 l1.length c1) ∧ W'.cell? ⟨w.heap.size + 1, 0, none⟩ = some (.slice A2 l2.length c2) ∧ W'.cell? ⟨w.heap.size + 1, 1, none⟩ = some (.slice A3 l3.length c3)) _ _ _ _ ?_
  change wpAnyH _ _ _ _ _ 14 #[false, false, false, false, false, false, false, false, false, false, false, false, false, false] _ wn.drew
  have nx2_ := Aside0.mk (show wn.drew.heap[w.heap.size + 1 + 1]? = some (.cells #[Value.slice none 0 0, Value.slice none 0 0] 54 (0, 0)) from HX2.out)
  clear HX0 HX1 HX2
  have HX2 := nx2_
  clear nx2_
  generalize wn.drew = W1 at *
  refine take_at (i := 0) (v := Value.func (Fn.func 98) #[] #[.pointer (some ⟨bF, 0, none⟩), .pointer (some ⟨bG, 0, none⟩)]) rfl rfl (by kernel_rfl) (by kernel_rfl) (by kernel_rfl) (fun _ _ _ h => h) (Or.inl ⟨by rfl, ?_⟩) hS ?_
  · intro w hSw
    (try dsimp only at hSw)
    go_simp
  simp only [Act.put, List.setIfInBounds_toArray, List.set_cons_zero, List.set_cons_succ]
  refine take_at (i := 1) (v := .pointer (some ⟨w.heap.size, 0, none⟩)) rfl rfl (by kernel_rfl) (by kernel_rfl) (by kernel_rfl) (fun _ _ _ h => h) (Or.inl ⟨by rfl, ?_⟩) hS ?_
  · intro w hSw
    (try dsimp only at hSw)
    go_simp
  simp only [Act.put, List.setIfInBounds_toArray, List.set_cons_zero, List.set_cons_succ]
  refine take_at (i := 2) (v := .slice A0 l0.length c0) rfl rfl (by kernel_rfl) (by kernel_rfl) (by kernel_rfl) (fun _ _ _ h => h) (Or.inl ⟨by rfl, ?_⟩) hS ?_
  · intro w hSw
    (try dsimp only at hSw)
    go_simp
  simp only [Act.put, List.setIfInBounds_toArray, List.set_cons_zero, List.set_cons_succ]
  refine take_at (i := 3) (v := .pointer (some ⟨w.heap.size + 1, 1, none⟩)) rfl rfl (by kernel_rfl) (by kernel_rfl) (by kernel_rfl) (fun _ _ _ h => h) (Or.inl ⟨by rfl, ?_⟩) hS ?_
  · intro w hSw
    (try dsimp only at hSw)
    go_simp
  simp only [Act.put, List.setIfInBounds_toArray, List.set_cons_zero, List.set_cons_succ]
  refine take_at (i := 4) (v := .slice A3 l3.length c3) rfl rfl (by kernel_rfl) (by kernel_rfl) (by kernel_rfl) (fun _ _ _ h => h) (Or.inl ⟨by rfl, ?_⟩) hS ?_
  · intro w hSw
    (try dsimp only at hSw)
    go_simp
  simp only [Act.put, List.setIfInBounds_toArray, List.set_cons_zero, List.set_cons_succ]
  refine take_at (i := 6) (v := .pointer (some ⟨w.heap.size + 1, 0, none⟩)) rfl rfl (by kernel_rfl) (by kernel_rfl) (by kernel_rfl) (fun _ _ _ h => h) (Or.inl ⟨by rfl, ?_⟩) hS ?_
  · intro w hSw
    (try dsimp only at hSw)
    go_simp
  simp only [Act.put, List.setIfInBounds_toArray, List.set_cons_zero, List.set_cons_succ]
  refine take_at (i := 7) (v := .slice A2 l2.length c2) rfl rfl (by kernel_rfl) (by kernel_rfl) (by kernel_rfl) (fun _ _ _ h => h) (Or.inl ⟨by rfl, ?_⟩) hS ?_
  · intro w hSw
    (try dsimp only at hSw)
    go_simp
  simp only [Act.put, List.setIfInBounds_toArray, List.set_cons_zero, List.set_cons_succ]
  refine take_at (i := 8) (v := .pointer (some ⟨w.heap.size, 1, none⟩)) rfl rfl (by kernel_rfl) (by kernel_rfl) (by kernel_rfl) (fun _ _ _ h => h) (Or.inl ⟨by rfl, ?_⟩) hS ?_
  · intro w hSw
    (try dsimp only at hSw)
    go_simp
  simp only [Act.put, List.setIfInBounds_toArray, List.set_cons_zero, List.set_cons_succ]
  refine take_at (i := 9) (v := .slice A1 l1.length c1) rfl rfl (by kernel_rfl) (by kernel_rfl) (by kernel_rfl) (fun _ _ _ h => h) (Or.inl ⟨by rfl, ?_⟩) hS ?_
  · intro w hSw
    (try dsimp only at hSw)
    go_simp
  simp only [Act.put, List.setIfInBounds_toArray, List.set_cons_zero, List.set_cons_succ]
  refine wpAnyH_ready (rs := [5]) (by kernel_rfl) (by simp) ?_
  refine AllReadyH.cons (i := 5) rfl (fun K hK => ?_) AllReadyH.nil
  go_simp
  refine (number_times.calls k _ _ _ _ _ _ _ _ ?s0 ?s1 ?s2 ?s3 T1.out).mono ?_
  case s0 => exact (live_C LL_ LM_).2.2
  case s1 => exact (live_C LL_ LM_).2.1
  case s2 => exact (live_C LL_ LM_).2.2
  case s3 => exact (live_C LL_ LM_).2.1
  rintro e w5 ⟨v, rfl, ho, hb⟩
  obtain ⟨Ap, cp, rfl, _, _⟩ := Kd.R_reads ho
  dsimp only
  have hS9 : _ ∧ _ ∧ _ ∧ _ := ⟨(hb.cell (World.block_lt_of_cell? _ _ hS.1)).trans hS.1, (hb.cell (World.block_lt_of_cell? _ _ hS.2.1)).trans hS.2.1, (hb.cell (World.block_lt_of_cell? _ _ hS.2.2.1)).trans hS.2.2.1, (hb.cell (World.block_lt_of_cell? _ _ hS.2.2.2)).trans hS.2.2.2⟩
  have nl_ := Aside0.mk (live_add HL.out hb ho)
  have nb_ := Aside0.mk (below_step HB.out hb)
  have nx2_ := Aside0.mk ((hb.block _ (blk_lt HX2.out)).trans HX2.out)
  refine hK.out _ _ hS9 (fun _ => ?_)
  clear hK K hb HL HB hS
  have HL := nl_
  have HB := nb_
  have hS := hS9
  clear HX2
  have HX2 := nx2_
  clear nl_ nb_ nx2_ hS9
  simp only [Act.put, List.setIfInBounds_toArray, List.set_cons_zero, List.set_cons_succ]
  refine wpAnyH_ready (rs := [10]) (by kernel_rfl) (by simp) ?_
  refine AllReadyH.cons (i := 10) rfl (fun K hK => ?_) AllReadyH.nil
  go_simp
  refine (number_times.calls k _ _ _ _ _ _ _ _ ?s0 ?s1 ?s2 ?s3 T2.out).mono ?_
  case s0 => exact (live_C LL_ LM_).2.2
  case s1 => exact (live_C LL_ LM_).2.1
  case s2 => exact (live_C LL_ LM_).2.2
  case s3 => exact (live_C LL_ LM_).2.1
  rintro e w10 ⟨v, rfl, ho, hb⟩
  obtain ⟨Aq, cq, rfl, _, _⟩ := Kd.R_reads ho
  dsimp only
  have hS9 : _ ∧ _ ∧ _ ∧ _ := ⟨(hb.cell (World.block_lt_of_cell? _ _ hS.1)).trans hS.1, (hb.cell (World.block_lt_of_cell? _ _ hS.2.1)).trans hS.2.1, (hb.cell (World.block_lt_of_cell? _ _ hS.2.2.1)).trans hS.2.2.1, (hb.cell (World.block_lt_of_cell? _ _ hS.2.2.2)).trans hS.2.2.2⟩
  have nl_ := Aside0.mk (live_add HL.out hb ho)
  have nb_ := Aside0.mk (below_step HB.out hb)
  have nx2_ := Aside0.mk ((hb.block _ (blk_lt HX2.out)).trans HX2.out)
  refine hK.out _ _ hS9 (fun _ => ?_)
  clear hK K hb HL HB hS
  have HL := nl_
  have HB := nb_
  have hS := hS9
  clear HX2
  have HX2 := nx2_
  clear nl_ nb_ nx2_ hS9
  simp only [Act.put, List.setIfInBounds_toArray, List.set_cons_zero, List.set_cons_succ]
  refine wpAnyH_ready (rs := [11]) (by kernel_rfl) (by simp) ?_
  refine AllReadyH.cons (i := 11) rfl (fun K hK => ?_) AllReadyH.nil
  go_simp
  have HSZ := Aside0.mk (And.intro HB.out.size (blk_lt HX2.out))
  refine (HDO.out _ _ _ _ _ HB.out (live_two HL.out)).mono ?_
  rintro e w11 ⟨v0, v1, rfl, ho, hu, hb⟩
  obtain ⟨Av, cv, rfl, _, _⟩ := Kd.R_reads ho
  obtain ⟨Au, cu, rfl, _, _⟩ := Kd.R_reads hu
  have HO := Aside0.mk (Kd.R_below ho (Below.refl _ _))
  have HU := Aside0.mk (Kd.R_below hu (Below.refl _ _))
  clear ho hu
  dsimp only
  have hS9 : _ ∧ _ ∧ _ ∧ _ := ⟨(hb.cell (World.block_lt_of_cell? _ _ hS.1)).trans hS.1, (hb.cell (World.block_lt_of_cell? _ _ hS.2.1)).trans hS.2.1, (hb.cell (World.block_lt_of_cell? _ _ hS.2.2.1)).trans hS.2.2.1, (hb.cell (World.block_lt_of_cell? _ _ hS.2.2.2)).trans hS.2.2.2⟩
  have nl_ := Aside0.mk (live_below HL.out hb)
  have nb_ := Aside0.mk (below_step HB.out hb)
  have nx2_ := Aside0.mk ((hb.block _ (blk_lt HX2.out)).trans HX2.out)
  refine hK.out _ _ hS9 (fun _ => ?_)
  clear hK K hb HL HB hS
  have HL := nl_
  have HB := nb_
  have hS := hS9
  clear HX2
  have HX2 := nx2_
  clear nl_ nb_ nx2_ hS9
  simp only [Act.put, List.setIfInBounds_toArray, List.set_cons_zero, List.set_cons_succ]
  have q20 : w11.cell? ⟨w.heap.size + 1 + 1, 0, none⟩ = some (.slice none 0 0) := (blk_cell HX2.out 0).trans rfl
  have q21 : w11.cell? ⟨w.heap.size + 1 + 1, 1, none⟩ = some (.slice none 0 0) := (blk_cell HX2.out 1).trans rfl
  have f20 := blk_frozen HX2.out 0
  have f21 := blk_frozen HX2.out 1
  refine wpAnyH_ready (rs := [12]) (by kernel_rfl) (by simp) ?_
  refine AllReadyH.cons (i := 12) rfl (fun K hK => ?_) AllReadyH.nil
  go_simp
  have hSz := And.intro (pt_cell_far (p := ⟨w.heap.size + 1 + 1, 1, none⟩) (u := .slice Au r2.length cu) (pt_cell_far (p := ⟨w.heap.size + 1 + 1, 0, none⟩) (u := .slice Av r1.length cv) hS.1 (by dsimp only; omega)) (by dsimp only; omega)) (And.intro (pt_cell_far (p := ⟨w.heap.size + 1 + 1, 1, none⟩) (u := .slice Au r2.length cu) (pt_cell_far (p := ⟨w.heap.size + 1 + 1, 0, none⟩) (u := .slice Av r1.length cv) hS.2.1 (by dsimp only; omega)) (by dsimp only; omega)) (And.intro (pt_cell_far (p := ⟨w.heap.size + 1 + 1, 1, none⟩) (u := .slice Au r2.length cu) (pt_cell_far (p := ⟨w.heap.size + 1 + 1, 0, none⟩) (u := .slice Av r1.length cv) hS.2.2.1 (by dsimp only; omega)) (by dsimp only; omega)) (pt_cell_far (p := ⟨w.heap.size + 1 + 1, 1, none⟩) (u := .slice Au r2.length cu) (pt_cell_far (p := ⟨w.heap.size + 1 + 1, 0, none⟩) (u := .slice Av r1.length cv) hS.2.2.2 (by dsimp only; omega)) (by dsimp only; omega))))
  refine hK.out _ _ hSz (fun _ => ?_)
  clear hK K hS q20 q21 f20 f21
  have hS := hSz
  clear hSz
  simp only [Act.put, List.setIfInBounds_toArray, List.set_cons_zero, List.set_cons_succ]
  refine take_at (i := 13) (v := .int .i64 0) rfl rfl (by kernel_rfl) (by kernel_rfl) (by kernel_rfl) (fun _ _ _ h => h) (Or.inl ⟨by rfl, ?_⟩) hS ?_
  · intro w hSw
    (try dsimp only at hSw)
    go_simp
  simp only [Act.put, List.setIfInBounds_toArray, List.set_cons_zero, List.set_cons_succ]
  refine wpAnyH_done (by kernel_rfl) ?_ _
  clear hS
  go_wp2
  refine bodyPost_ret (results_ct rfl _ _ (w.heap.size + 1 + 1) 54 #[.slice Av r1.length cv, .slice Au r2.length cu] (0, 0) _ rfl (blk_put (cs := #[.slice Av r1.length cv, .slice none 0 0]) (blk_put (cs := #[.slice none 0 0, .slice none 0 0]) HX2.out 0 _ rfl) 1 _ rfl) Try.underlying54 rfl (by kernel_rfl)) rfl ?_
  have hsz := HSZ.out
  refine ⟨_, _, rfl, Kd.R_mono (Kd.R_far (p := ⟨w.heap.size + 1 + 1, 1, none⟩) (Kd.R_far (p := ⟨w.heap.size + 1 + 1, 0, none⟩) (Kd.R_lower (Kd.R_bound HO.out) hsz.1) (fun k hk => by have := hk.2.1; dsimp only; omega) _) (fun k hk => by have := hk.2.1; dsimp only; omega) _) (fun k hk => hk.1), Kd.R_mono (Kd.R_far (p := ⟨w.heap.size + 1 + 1, 1, none⟩) (Kd.R_far (p := ⟨w.heap.size + 1 + 1, 0, none⟩) (Kd.R_lower (Kd.R_bound HU.out) hsz.1) (fun k hk => by have := hk.2.1; dsimp only; omega) _) (fun k hk => by have := hk.2.1; dsimp only; omega) _) (fun k hk => hk.1), (HB.out.setCell (p := ⟨w.heap.size + 1 + 1, 0, none⟩) (by dsimp only; omega) _).setCell (p := ⟨w.heap.size + 1 + 1, 1, none⟩) (by dsimp only; omega) _⟩
set_option maxRecDepth 1000000 in
set_option maxHeartbeats 8000000 in
theorem cross_frac98_bad1 (k : Nat) (A0 : Option Addr) (c0 : Nat) (l0 : List Int) (A1 : Option Addr) (c1 : Nat) (l1 : List Int) (A2 : Option Addr) (c2 : Nat) (l2 : List Int) (A3 : Option Addr) (c3 : Nat) (l3 : List Int) (bF bG : Nat) (w : World) (hL : Live w [(.slice A0 l0.length c0, l0), (.slice A1 l1.length c1, l1), (.slice A2 l2.length c2, l2), (.slice A3 l3.length c3, l3)])
    (hE1 : number_CheckFraction.f k l0 l1 = some 8)
    :
    Calls Try.prog 95 #[.agg #[.slice A0 l0.length c0, .slice A1 l1.length c1], .agg #[.slice A2 l2.length c2, .slice A3 l3.length c3], Value.func (Fn.func 98) #[] #[.pointer (some ⟨bF, 0, none⟩), .pointer (some ⟨bG, 0, none⟩)]] w fun e w' => ∃ v0 v1 : Value, e = .returned (.tuple #[.agg #[v0, v1], .int .i64 8]) ∧ Kd.R (Kd.int .u32) 84 w' w.heap.size (fun k => some k ≠ v1.ownBlock) v0 [] ∧ Kd.R (Kd.int .u32) 84 w' w.heap.size (fun k => some k ≠ v0.ownBlock) v1 [] ∧ Below w.heap.size w w' := by
  have HL := Aside0.mk hL
  clear hL
  have E1 := Aside0.mk hE1
  clear hE1
  have HB := Aside0.mk (Below.refl w.heap.size w)
  go_enter Try.func95, Try.ntmps95
  go_upto_region 1 with fail
  have HX0 := Aside0.mk (show ((w.alloc (Obj.cells #[.slice A0 l0.length c0, .slice A1 l1.length c1] 54)).alloc (Obj.cells #[.slice A2 l2.length c2, .slice A3 l3.length c3] 54)).heap[w.heap.size]? = some (.cells #[.slice A0 l0.length c0, .slice A1 l1.length c1] 54 (0, 0)) from blk_alloc (blk_new w _) _)
  have HX1 := Aside0.mk (show ((w.alloc (Obj.cells #[.slice A0 l0.length c0, .slice A1 l1.length c1] 54)).alloc (Obj.cells #[.slice A2 l2.length c2, .slice A3 l3.length c3] 54)).heap[w.heap.size + 1]? = some (.cells #[.slice A2 l2.length c2, .slice A3 l3.length c3] 54 (0, 0)) from by have := blk_new (w.alloc (Obj.cells #[.slice A0 l0.length c0, .slice A1 l1.length c1] 54)) (Obj.cells #[.slice A2 l2.length c2, .slice A3 l3.length c3] 54); rwa [World.size_alloc] at this)
  have nx0_ := Aside0.mk (blk_alloc HX0.out (Obj.cells #[Value.slice none 0 0, Value.slice none 0 0] 54))
  have nx1_ := Aside0.mk (blk_alloc HX1.out (Obj.cells #[Value.slice none 0 0, Value.slice none 0 0] 54))
  clear HX0 HX1
  have HX0 := nx0_
  have HX1 := nx1_
  clear nx0_ nx1_
  have HX2 := Aside0.mk (show (((w.alloc (Obj.cells #[.slice A0 l0.length c0, .slice A1 l1.length c1] 54)).alloc (Obj.cells #[.slice A2 l2.length c2, .slice A3 l3.length c3] 54)).alloc (Obj.cells #[Value.slice none 0 0, Value.slice none 0 0] 54)).heap[w.heap.size + 1 + 1]? = some (.cells #[Value.slice none 0 0, Value.slice none 0 0] 54 (0, 0)) from by have := blk_new ((w.alloc (Obj.cells #[.slice A0 l0.length c0, .slice A1 l1.length c1] 54)).alloc (Obj.cells #[.slice A2 l2.length c2, .slice A3 l3.length c3] 54)) (Obj.cells #[Value.slice none 0 0, Value.slice none 0 0] 54); rwa [World.size_alloc, World.size_alloc] at this)
  have nl_ := Aside0.mk (live_alloc (live_alloc (live_alloc HL.out (Obj.cells #[.slice A0 l0.length c0, .slice A1 l1.length c1] 54)) (Obj.cells #[.slice A2 l2.length c2, .slice A3 l3.length c3] 54)) (Obj.cells #[Value.slice none 0 0, Value.slice none 0 0] 54))
  have nb_ := Aside0.mk (below_alloc (below_alloc (below_alloc HB.out (Obj.cells #[.slice A0 l0.length c0, .slice A1 l1.length c1] 54)) (Obj.cells #[.slice A2 l2.length c2, .slice A3 l3.length c3] 54)) (Obj.cells #[Value.slice none 0 0, Value.slice none 0 0] 54))
  clear HL HB
  have HL := nl_
  have HB := nb_
  clear nl_ nb_
  generalize hW0 : (((w.alloc (Obj.cells #[.slice A0 l0.length c0, .slice A1 l1.length c1] 54)).alloc (Obj.cells #[.slice A2 l2.length c2, .slice A3 l3.length c3] 54)).alloc (Obj.cells #[Value.slice none 0 0, Value.slice none 0 0] 54)) = W0 at *
  clear hW0
  have q00 : W0.cell? ⟨w.heap.size, 0, none⟩ = some (.slice A0 l0.length c0) := (blk_cell HX0.out 0).trans rfl
  have q01 : W0.cell? ⟨w.heap.size, 1, none⟩ = some (.slice A1 l1.length c1) := (blk_cell HX0.out 1).trans rfl
  have q10 : W0.cell? ⟨w.heap.size + 1, 0, none⟩ = some (.slice A2 l2.length c2) := (blk_cell HX1.out 0).trans rfl
  have q11 : W0.cell? ⟨w.heap.size + 1, 1, none⟩ = some (.slice A3 l3.length c3) := (blk_cell HX1.out 1).trans rfl
  go_wp2_with (first | (go_at_call 38; (with_reducible refine (number_CheckFraction.calls k (fun _ => True) _ _ _ (fun _ => True) _ _ _ _ _ ?s0 ?s1 E1.out).mono ?_); (case s0 => exact live_get LL_ LM_ _); (case s1 => exact live_get LL_ LM_ _); rintro e wn ⟨rfl, hb⟩; replace q00 := (hb.cell (World.block_lt_of_cell? _ _ q00)).trans q00; replace q01 := (hb.cell (World.block_lt_of_cell? _ _ q01)).trans q01; replace q10 := (hb.cell (World.block_lt_of_cell? _ _ q10)).trans q10; replace q11 := (hb.cell (World.block_lt_of_cell? _ _ q11)).trans q11; replace HX0 := Aside0.mk ((hb.block _ (blk_lt HX0.out)).trans HX0.out); replace HX1 := Aside0.mk ((hb.block _ (blk_lt HX1.out)).trans HX1.out); replace HX2 := Aside0.mk ((hb.block _ (blk_lt HX2.out)).trans HX2.out); have nl_ := Aside0.mk (live_below LL_ hb); have nb_ := Aside0.mk (below_step BC_ hb); clear HL HB; have HL := nl_; have HB := nb_; clear nl_ nb_ hb; have q20 : wn.cell? ⟨w.heap.size + 1 + 1, 0, none⟩ = some (.slice none 0 0) := (blk_cell HX2.out 0).trans rfl; have q21 : wn.cell? ⟨w.heap.size + 1 + 1, 1, none⟩ = some (.slice none 0 0) := (blk_cell HX2.out 1).trans rfl; have f20 := blk_frozen HX2.out 0; have f21 := blk_frozen HX2.out 1))
  refine bodyPost_ret (results_ct rfl _ _ (w.heap.size + 1 + 1) 54 #[.slice none 0 0, .slice none 0 0] (0, 0) _ rfl (blk_put (cs := #[.slice none 0 0, .slice none 0 0]) (blk_put (cs := #[.slice none 0 0, .slice none 0 0]) HX2.out 0 _ rfl) 1 _ rfl) Try.underlying54 rfl (by kernel_rfl)) rfl ?_
  exact ⟨_, _, rfl, Kd.R_nil _ _ _ _ _, Kd.R_nil _ _ _ _ _, (HB.out.setCell (p := ⟨w.heap.size + 1 + 1, 0, none⟩) (by dsimp only; omega) _).setCell (p := ⟨w.heap.size + 1 + 1, 1, none⟩) (by dsimp only; omega) _⟩
set_option maxRecDepth 1000000 in
set_option maxHeartbeats 8000000 in
theorem cross_frac98_bad2 (k : Nat) (A0 : Option Addr) (c0 : Nat) (l0 : List Int) (A1 : Option Addr) (c1 : Nat) (l1 : List Int) (A2 : Option Addr) (c2 : Nat) (l2 : List Int) (A3 : Option Addr) (c3 : Nat) (l3 : List Int) (bF bG : Nat) (w : World) (hL : Live w [(.slice A0 l0.length c0, l0), (.slice A1 l1.length c1, l1), (.slice A2 l2.length c2, l2), (.slice A3 l3.length c3, l3)])
    (hE1 : number_CheckFraction.f k l0 l1 = some 0)
    (hE2 : number_CheckFraction.f k l2 l3 = some 8)
    :
    Calls Try.prog 95 #[.agg #[.slice A0 l0.length c0, .slice A1 l1.length c1], .agg #[.slice A2 l2.length c2, .slice A3 l3.length c3], Value.func (Fn.func 98) #[] #[.pointer (some ⟨bF, 0, none⟩), .pointer (some ⟨bG, 0, none⟩)]] w fun e w' => ∃ v0 v1 : Value, e = .returned (.tuple #[.agg #[v0, v1], .int .i64 8]) ∧ Kd.R (Kd.int .u32) 84 w' w.heap.size (fun k => some k ≠ v1.ownBlock) v0 [] ∧ Kd.R (Kd.int .u32) 84 w' w.heap.size (fun k => some k ≠ v0.ownBlock) v1 [] ∧ Below w.heap.size w w' := by
  have HL := Aside0.mk hL
  clear hL
  have E1 := Aside0.mk hE1
  have E2 := Aside0.mk hE2
  clear hE1 hE2
  have HB := Aside0.mk (Below.refl w.heap.size w)
  go_enter Try.func95, Try.ntmps95
  go_upto_region 1 with fail
  have HX0 := Aside0.mk (show ((w.alloc (Obj.cells #[.slice A0 l0.length c0, .slice A1 l1.length c1] 54)).alloc (Obj.cells #[.slice A2 l2.length c2, .slice A3 l3.length c3] 54)).heap[w.heap.size]? = some (.cells #[.slice A0 l0.length c0, .slice A1 l1.length c1] 54 (0, 0)) from blk_alloc (blk_new w _) _)
  have HX1 := Aside0.mk (show ((w.alloc (Obj.cells #[.slice A0 l0.length c0, .slice A1 l1.length c1] 54)).alloc (Obj.cells #[.slice A2 l2.length c2, .slice A3 l3.length c3] 54)).heap[w.heap.size + 1]? = some (.cells #[.slice A2 l2.length c2, .slice A3 l3.length c3] 54 (0, 0)) from by have := blk_new (w.alloc (Obj.cells #[.slice A0 l0.length c0, .slice A1 l1.length c1] 54)) (Obj.cells #[.slice A2 l2.length c2, .slice A3 l3.length c3] 54); rwa [World.size_alloc] at this)
  have nx0_ := Aside0.mk (blk_alloc HX0.out (Obj.cells #[Value.slice none 0 0, Value.slice none 0 0] 54))
  have nx1_ := Aside0.mk (blk_alloc HX1.out (Obj.cells #[Value.slice none 0 0, Value.slice none 0 0] 54))
  clear HX0 HX1
  have HX0 := nx0_
  have HX1 := nx1_
  clear nx0_ nx1_
  have HX2 := Aside0.mk (show (((w.alloc (Obj.cells #[.slice A0 l0.length c0, .slice A1 l1.length c1] 54)).alloc (Obj.cells #[.slice A2 l2.length c2, .slice A3 l3.length c3] 54)).alloc (Obj.cells #[Value.slice none 0 0, Value.slice none 0 0] 54)).heap[w.heap.size + 1 + 1]? = some (.cells #[Value.slice none 0 0, Value.slice none 0 0] 54 (0, 0)) from by have := blk_new ((w.alloc (Obj.cells #[.slice A0 l0.length c0, .slice A1 l1.length c1] 54)).alloc (Obj.cells #[.slice A2 l2.length c2, .slice A3 l3.length c3] 54)) (Obj.cells #[Value.slice none 0 0, Value.slice none 0 0] 54); rwa [World.size_alloc, World.size_alloc] at this)
  have nl_ := Aside0.mk (live_alloc (live_alloc (live_alloc HL.out (Obj.cells #[.slice A0 l0.length c0, .slice A1 l1.length c1] 54)) (Obj.cells #[.slice A2 l2.length c2, .slice A3 l3.length c3] 54)) (Obj.cells #[Value.slice none 0 0, Value.slice none 0 0] 54))
  have nb_ := Aside0.mk (below_alloc (below_alloc (below_alloc HB.out (Obj.cells #[.slice A0 l0.length c0, .slice A1 l1.length c1] 54)) (Obj.cells #[.slice A2 l2.length c2, .slice A3 l3.length c3] 54)) (Obj.cells #[Value.slice none 0 0, Value.slice none 0 0] 54))
  clear HL HB
  have HL := nl_
  have HB := nb_
  clear nl_ nb_
  generalize hW0 : (((w.alloc (Obj.cells #[.slice A0 l0.length c0, .slice A1 l1.length c1] 54)).alloc (Obj.cells #[.slice A2 l2.length c2, .slice A3 l3.length c3] 54)).alloc (Obj.cells #[Value.slice none 0 0, Value.slice none 0 0] 54)) = W0 at *
  clear hW0
  have q00 : W0.cell? ⟨w.heap.size, 0, none⟩ = some (.slice A0 l0.length c0) := (blk_cell HX0.out 0).trans rfl
  have q01 : W0.cell? ⟨w.heap.size, 1, none⟩ = some (.slice A1 l1.length c1) := (blk_cell HX0.out 1).trans rfl
  have q10 : W0.cell? ⟨w.heap.size + 1, 0, none⟩ = some (.slice A2 l2.length c2) := (blk_cell HX1.out 0).trans rfl
  have q11 : W0.cell? ⟨w.heap.size + 1, 1, none⟩ = some (.slice A3 l3.length c3) := (blk_cell HX1.out 1).trans rfl
  go_wp2_with (first | (go_at_call 38; (with_reducible refine (number_CheckFraction.calls k (fun _ => True) _ _ _ (fun _ => True) _ _ _ _ _ ?s0 ?s1 E1.out).mono ?_); (case s0 => exact live_get LL_ LM_ _); (case s1 => exact live_get LL_ LM_ _); rintro e wn ⟨rfl, hb⟩; replace q00 := (hb.cell (World.block_lt_of_cell? _ _ q00)).trans q00; replace q01 := (hb.cell (World.block_lt_of_cell? _ _ q01)).trans q01; replace q10 := (hb.cell (World.block_lt_of_cell? _ _ q10)).trans q10; replace q11 := (hb.cell (World.block_lt_of_cell? _ _ q11)).trans q11; replace HX0 := Aside0.mk ((hb.block _ (blk_lt HX0.out)).trans HX0.out); replace HX1 := Aside0.mk ((hb.block _ (blk_lt HX1.out)).trans HX1.out); replace HX2 := Aside0.mk ((hb.block _ (blk_lt HX2.out)).trans HX2.out); have nl_ := Aside0.mk (live_below LL_ hb); have nb_ := Aside0.mk (below_step BC_ hb); clear HL HB; have HL := nl_; have HB := nb_; clear nl_ nb_ hb) | (go_at_call 38; (with_reducible refine (number_CheckFraction.calls k (fun _ => True) _ _ _ (fun _ => True) _ _ _ _ _ ?s0 ?s1 E2.out).mono ?_); (case s0 => exact live_get LL_ LM_ _); (case s1 => exact live_get LL_ LM_ _); rintro e wn ⟨rfl, hb⟩; replace q00 := (hb.cell (World.block_lt_of_cell? _ _ q00)).trans q00; replace q01 := (hb.cell (World.block_lt_of_cell? _ _ q01)).trans q01; replace q10 := (hb.cell (World.block_lt_of_cell? _ _ q10)).trans q10; replace q11 := (hb.cell (World.block_lt_of_cell? _ _ q11)).trans q11; replace HX0 := Aside0.mk ((hb.block _ (blk_lt HX0.out)).trans HX0.out); replace HX1 := Aside0.mk ((hb.block _ (blk_lt HX1.out)).trans HX1.out); replace HX2 := Aside0.mk ((hb.block _ (blk_lt HX2.out)).trans HX2.out); have nl_ := Aside0.mk (live_below LL_ hb); have nb_ := Aside0.mk (below_step BC_ hb); clear HL HB; have HL := nl_; have HB := nb_; clear nl_ nb_ hb; have q20 : wn.cell? ⟨w.heap.size + 1 + 1, 0, none⟩ = some (.slice none 0 0) := (blk_cell HX2.out 0).trans rfl; have q21 : wn.cell? ⟨w.heap.size + 1 + 1, 1, none⟩ = some (.slice none 0 0) := (blk_cell HX2.out 1).trans rfl; have f20 := blk_frozen HX2.out 0; have f21 := blk_frozen HX2.out 1))
  refine bodyPost_ret (results_ct rfl _ _ (w.heap.size + 1 + 1) 54 #[.slice none 0 0, .slice none 0 0] (0, 0) _ rfl (blk_put (cs := #[.slice none 0 0, .slice none 0 0]) (blk_put (cs := #[.slice none 0 0, .slice none 0 0]) HX2.out 0 _ rfl) 1 _ rfl) Try.underlying54 rfl (by kernel_rfl)) rfl ?_
  exact ⟨_, _, rfl, Kd.R_nil _ _ _ _ _, Kd.R_nil _ _ _ _ _, (HB.out.setCell (p := ⟨w.heap.size + 1 + 1, 0, none⟩) (by dsimp only; omega) _).setCell (p := ⟨w.heap.size + 1 + 1, 1, none⟩) (by dsimp only; omega) _⟩
end Go.Proofs.Ythhgfogdeaaidaa.R
