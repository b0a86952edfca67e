/- The functions of fractions: the walks, from what the functions they call answer. -/
import Derived.Test.YthhgfogdeaaidaaR0
import Derived.Test.YthhgfogdeaaidaaR14
import Derived.Test.YthhgfogdeaaidaaR9
import Derived.Test.YthhgfogdeaaidaaGorder
import Derived.Test.YthhgfogdeaaidaaR13
import Derived.Test.YthhgfogdeaaidaaR15
import Derived.Test.YthhgfogdeaaidaaGcross1
import Derived.Deep.RegionHeld3
import Derived.WalkMore
namespace Go.Proofs.Ythhgfogdeaaidaa.R
open Go.RowKit Go.Proofs.YthhgfogdeaaidaaW.PrintWords Go.Proofs.YthhgfogdeaaidaaW.PrintLast Go.Proofs.YthhgfogdeaaidaaW.PrintMore
set_option linter.unusedVariables false
set_option linter.unusedSimpArgs false
attribute [local go_sem] Oper.semAt_some
set_option maxRecDepth 1000000 in
set_option maxHeartbeats 8000000 in
theorem closure96 (k : Nat) (A0 : Option Addr) (c0 : Nat) (l0 : List Int) (A1 : Option Addr) (c1 : Nat) (l1 : List Int) (A2 : Option Addr) (c2 : Nat) (l2 : List Int) (A3 : Option Addr) (c3 : Nat) (l3 : List Int) (Ap : Option Addr) (cp : Nat) (p : List Int) (Aq : Option Addr) (cq : Nat) (q : List Int) (s d r1 r2 : List Int) (bF bG : Nat) (w : World) (hL : Live w [(.slice Aq q.length cq, q), (.slice Ap p.length cp, p), (.slice A0 l0.length c0, l0), (.slice A1 l1.length c1, l1), (.slice A2 l2.length c2, l2), (.slice A3 l3.length c3, l3)])
    (hF : w.heap[bF]? = some (.cells #[.slice A0 l0.length c0, .slice A1 l1.length c1] 54 (0, 0))) (hG : w.heap[bG]? = some (.cells #[.slice A2 l2.length c2, .slice A3 l3.length c3] 54 (0, 0)))
    (hPL : number_plus.f k p q = some s)
    (hTD : number_times.f k l1 l3 = some d)
    (hLO : number_lowest.f k s d = some (r1, r2))
    :
    Calls Try.prog 96 #[.slice Ap p.length cp, .slice Aq q.length cq, .pointer (some ⟨bF, 0, none⟩), .pointer (some ⟨bG, 0, none⟩)] w fun e w' => ∃ v0 v1 : Value, e = .returned (.agg #[v0, v1]) ∧ Kd.R (Kd.int .u32) 84 w' w.heap.size (fun k => some k ≠ v1.ownBlock) v0 r1 ∧ Kd.R (Kd.int .u32) 84 w' w.heap.size (fun k => some k ≠ v0.ownBlock) v1 r2 ∧ Below w.heap.size w w' := by
  have HL := Aside0.mk hL
  have HF := Aside0.mk hF
  have HG := Aside0.mk hG
  clear hL hF hG
  have PL := Aside0.mk hPL
  have TD := Aside0.mk hTD
  have LO := Aside0.mk hLO
  clear hPL hTD hLO
  have HB := Aside0.mk (Below.refl w.heap.size w)
  go_enter Try.func96, Try.ntmps96
  go_upto_region 1 with fail
  have HX2 := Aside0.mk (show (w.alloc (Obj.cells #[Value.slice none 0 0, Value.slice none 0 0] 54)).drew.heap[w.heap.size]? = some (.cells #[Value.slice none 0 0, Value.slice none 0 0] 54 (0, 0)) from blk_new w _)
  have hlF := blk_lt HF.out
  have hlG := blk_lt HG.out
  have nf_ := Aside0.mk (blk_alloc HF.out (Obj.cells #[Value.slice none 0 0, Value.slice none 0 0] 54))
  have ng_ := Aside0.mk (blk_alloc HG.out (Obj.cells #[Value.slice none 0 0, Value.slice none 0 0] 54))
  clear HF HG
  have HF := nf_
  have HG := ng_
  clear nf_ ng_
  have nl_ := Aside0.mk (live_drew (live_alloc HL.out (Obj.cells #[Value.slice none 0 0, Value.slice none 0 0] 54)))
  have nb_ := Aside0.mk (below_drew1 (below_alloc HB.out (Obj.cells #[Value.slice none 0 0, Value.slice none 0 0] 54)))
  clear HL HB
  have HL := nl_
  have HB := nb_
  clear nl_ nb_
  have hmx : Try.prog.follows .mixedOrders = true := by kernel_rfl
  have hS : (w.alloc (Obj.cells #[Value.slice none 0 0, Value.slice none 0 0] 54)).drew.cell? ⟨bF, 0, none⟩ = some (.slice A0 l0.length c0) ∧ (w.alloc (Obj.cells #[Value.slice none 0 0, Value.slice none 0 0] 54)).drew.cell? ⟨bF, 1, none⟩ = some (.slice A1 l1.length c1) ∧ (w.alloc (Obj.cells #[Value.slice none 0 0, Value.slice none 0 0] 54)).drew.cell? ⟨bG, 0, none⟩ = some (.slice A2 l2.length c2) ∧ (w.alloc (Obj.cells #[Value.slice none 0 0, Value.slice none 0 0] 54)).drew.cell? ⟨bG, 1, none⟩ = some (.slice A3 l3.length c3) := ⟨(blk_cell HF.out 0).trans rfl, (blk_cell HF.out 1).trans rfl, (blk_cell HG.out 0).trans rfl, (blk_cell HG.out 1).trans rfl⟩
  clear HF HG
  refine wp_region_any hmx ?_
  refine wpAny_of_held (S := fun W' => W'.cell? ⟨bF, 0, none⟩ = some (.slice A0 l0.length c0) ∧ W'.cell? ⟨bF, 1, none⟩ = some (.slice A1 l1.length c1) ∧ W'.cell? ⟨bG, 0, none⟩ = some (.slice A2 l2.length c2) ∧ W'.cell? ⟨bG, 1, none⟩ = some (.slice A3 l3.length c3)) _ _ _ _ ?_
  change wpAnyH _ _ _ _ _ 10 #[false, false, false, false, false, false, false, false, false, false] _ (w.alloc (Obj.cells #[Value.slice none 0 0, Value.slice none 0 0] 54)).drew
  generalize (w.alloc (Obj.cells #[Value.slice none 0 0, Value.slice none 0 0] 54)).drew = W1 at *
  refine take_at (i := 0) (v := .slice Ap p.length cp) rfl rfl (by kernel_rfl) (by kernel_rfl) (by kernel_rfl) (fun _ _ _ h => h) (Or.inl ⟨by rfl, ?_⟩) hS ?_
  · intro w hSw
    (try dsimp only at hSw)
    go_simp
  simp only [Act.put, List.setIfInBounds_toArray, List.set_cons_zero, List.set_cons_succ]
  refine take_at (i := 1) (v := .slice Aq q.length cq) rfl rfl (by kernel_rfl) (by kernel_rfl) (by kernel_rfl) (fun _ _ _ h => h) (Or.inl ⟨by rfl, ?_⟩) hS ?_
  · intro w hSw
    (try dsimp only at hSw)
    go_simp
  simp only [Act.put, List.setIfInBounds_toArray, List.set_cons_zero, List.set_cons_succ]
  refine take_at (i := 3) (v := .pointer (some ⟨bF, 1, none⟩)) rfl rfl (by kernel_rfl) (by kernel_rfl) (by kernel_rfl) (fun _ _ _ h => h) (Or.inl ⟨by rfl, ?_⟩) hS ?_
  · intro w hSw
    (try dsimp only at hSw)
    go_simp
  simp only [Act.put, List.setIfInBounds_toArray, List.set_cons_zero, List.set_cons_succ]
  refine take_at (i := 4) (v := .slice A1 l1.length c1) rfl rfl (by kernel_rfl) (by kernel_rfl) (by kernel_rfl) (fun _ _ _ h => h) (Or.inl ⟨by rfl, ?_⟩) hS ?_
  · intro w hSw
    (try dsimp only at hSw)
    go_simp
  simp only [Act.put, List.setIfInBounds_toArray, List.set_cons_zero, List.set_cons_succ]
  refine take_at (i := 5) (v := .pointer (some ⟨bG, 1, none⟩)) rfl rfl (by kernel_rfl) (by kernel_rfl) (by kernel_rfl) (fun _ _ _ h => h) (Or.inl ⟨by rfl, ?_⟩) hS ?_
  · intro w hSw
    (try dsimp only at hSw)
    go_simp
  simp only [Act.put, List.setIfInBounds_toArray, List.set_cons_zero, List.set_cons_succ]
  refine take_at (i := 6) (v := .slice A3 l3.length c3) rfl rfl (by kernel_rfl) (by kernel_rfl) (by kernel_rfl) (fun _ _ _ h => h) (Or.inl ⟨by rfl, ?_⟩) hS ?_
  · intro w hSw
    (try dsimp only at hSw)
    go_simp
  simp only [Act.put, List.setIfInBounds_toArray, List.set_cons_zero, List.set_cons_succ]
  refine wpAnyH_ready (rs := [2]) (by kernel_rfl) (by simp) ?_
  refine AllReadyH.cons (i := 2) rfl (fun K hK => ?_) AllReadyH.nil
  go_simp
  refine (number_plus.calls k _ _ _ _ _ _ _ _ ?s0 ?s1 ?s2 ?s3 PL.out).mono ?_
  case s0 => exact (live_C LL_ LM_).2.2
  case s1 => exact (live_C LL_ LM_).2.1
  case s2 => exact (live_C LL_ LM_).2.2
  case s3 => exact (live_C LL_ LM_).2.1
  rintro e w2 ⟨v, rfl, ho, hb⟩
  obtain ⟨As, cs, rfl, _, _⟩ := Kd.R_reads ho
  dsimp only
  have hS9 : _ ∧ _ ∧ _ ∧ _ := ⟨(hb.cell (World.block_lt_of_cell? _ _ hS.1)).trans hS.1, (hb.cell (World.block_lt_of_cell? _ _ hS.2.1)).trans hS.2.1, (hb.cell (World.block_lt_of_cell? _ _ hS.2.2.1)).trans hS.2.2.1, (hb.cell (World.block_lt_of_cell? _ _ hS.2.2.2)).trans hS.2.2.2⟩
  have nl_ := Aside0.mk (live_add HL.out hb ho)
  have nb_ := Aside0.mk (below_step HB.out hb)
  have nx2_ := Aside0.mk ((hb.block _ (blk_lt HX2.out)).trans HX2.out)
  refine hK.out _ _ hS9 (fun _ => ?_)
  clear hK K hb HL HB hS
  have HL := nl_
  have HB := nb_
  have hS := hS9
  clear HX2
  have HX2 := nx2_
  clear nl_ nb_ nx2_ hS9
  simp only [Act.put, List.setIfInBounds_toArray, List.set_cons_zero, List.set_cons_succ]
  refine wpAnyH_ready (rs := [7]) (by kernel_rfl) (by simp) ?_
  refine AllReadyH.cons (i := 7) rfl (fun K hK => ?_) AllReadyH.nil
  go_simp
  refine (number_times.calls k _ _ _ _ _ _ _ _ ?s0 ?s1 ?s2 ?s3 TD.out).mono ?_
  case s0 => exact (live_C LL_ LM_).2.2
  case s1 => exact (live_C LL_ LM_).2.1
  case s2 => exact (live_C LL_ LM_).2.2
  case s3 => exact (live_C LL_ LM_).2.1
  rintro e w7 ⟨v, rfl, ho, hb⟩
  obtain ⟨Ad, cd, rfl, _, _⟩ := Kd.R_reads ho
  dsimp only
  have hS9 : _ ∧ _ ∧ _ ∧ _ := ⟨(hb.cell (World.block_lt_of_cell? _ _ hS.1)).trans hS.1, (hb.cell (World.block_lt_of_cell? _ _ hS.2.1)).trans hS.2.1, (hb.cell (World.block_lt_of_cell? _ _ hS.2.2.1)).trans hS.2.2.1, (hb.cell (World.block_lt_of_cell? _ _ hS.2.2.2)).trans hS.2.2.2⟩
  have nl_ := Aside0.mk (live_add HL.out hb ho)
  have nb_ := Aside0.mk (below_step HB.out hb)
  have nx2_ := Aside0.mk ((hb.block _ (blk_lt HX2.out)).trans HX2.out)
  refine hK.out _ _ hS9 (fun _ => ?_)
  clear hK K hb HL HB hS
  have HL := nl_
  have HB := nb_
  have hS := hS9
  clear HX2
  have HX2 := nx2_
  clear nl_ nb_ nx2_ hS9
  simp only [Act.put, List.setIfInBounds_toArray, List.set_cons_zero, List.set_cons_succ]
  refine wpAnyH_ready (rs := [8]) (by kernel_rfl) (by simp) ?_
  refine AllReadyH.cons (i := 8) rfl (fun K hK => ?_) AllReadyH.nil
  go_simp
  have HSZ := Aside0.mk (And.intro HB.out.size (blk_lt HX2.out))
  refine (number_lowest.calls k _ _ _ _ _ _ _ _ _ ?s0 ?s1 ?s2 ?s3 LO.out).mono ?_
  case s0 => exact (live_C LL_ LM_).2.2
  case s1 => exact (live_C LL_ LM_).2.1
  case s2 => exact (live_C LL_ LM_).2.2
  case s3 => exact (live_C LL_ LM_).2.1
  rintro e w11 ⟨v0, v1, rfl, ho, hu, hb⟩
  obtain ⟨Av, cv, rfl, _, _⟩ := Kd.R_reads ho
  obtain ⟨Au, cu, rfl, _, _⟩ := Kd.R_reads hu
  have HO := Aside0.mk (Kd.R_below ho (Below.refl _ _))
  have HU := Aside0.mk (Kd.R_below hu (Below.refl _ _))
  clear ho hu
  dsimp only
  have hS9 : _ ∧ _ ∧ _ ∧ _ := ⟨(hb.cell (World.block_lt_of_cell? _ _ hS.1)).trans hS.1, (hb.cell (World.block_lt_of_cell? _ _ hS.2.1)).trans hS.2.1, (hb.cell (World.block_lt_of_cell? _ _ hS.2.2.1)).trans hS.2.2.1, (hb.cell (World.block_lt_of_cell? _ _ hS.2.2.2)).trans hS.2.2.2⟩
  have nl_ := Aside0.mk (live_below HL.out hb)
  have nb_ := Aside0.mk (below_step HB.out hb)
  have nx2_ := Aside0.mk ((hb.block _ (blk_lt HX2.out)).trans HX2.out)
  refine hK.out _ _ hS9 (fun _ => ?_)
  clear hK K hb HL HB hS
  have HL := nl_
  have HB := nb_
  have hS := hS9
  clear HX2
  have HX2 := nx2_
  clear nl_ nb_ nx2_ hS9
  simp only [Act.put, List.setIfInBounds_toArray, List.set_cons_zero, List.set_cons_succ]
  have q20 : w11.cell? ⟨w.heap.size, 0, none⟩ = some (.slice none 0 0) := (blk_cell HX2.out 0).trans rfl
  have q21 : w11.cell? ⟨w.heap.size, 1, none⟩ = some (.slice none 0 0) := (blk_cell HX2.out 1).trans rfl
  have f20 := blk_frozen HX2.out 0
  have f21 := blk_frozen HX2.out 1
  refine wpAnyH_ready (rs := [9]) (by kernel_rfl) (by simp) ?_
  refine AllReadyH.cons (i := 9) rfl (fun K hK => ?_) AllReadyH.nil
  go_simp
  have hSz := And.intro (pt_cell_far (p := ⟨w.heap.size, 1, none⟩) (u := .slice Au r2.length cu) (pt_cell_far (p := ⟨w.heap.size, 0, none⟩) (u := .slice Av r1.length cv) hS.1 (by dsimp only; omega)) (by dsimp only; omega)) (And.intro (pt_cell_far (p := ⟨w.heap.size, 1, none⟩) (u := .slice Au r2.length cu) (pt_cell_far (p := ⟨w.heap.size, 0, none⟩) (u := .slice Av r1.length cv) hS.2.1 (by dsimp only; omega)) (by dsimp only; omega)) (And.intro (pt_cell_far (p := ⟨w.heap.size, 1, none⟩) (u := .slice Au r2.length cu) (pt_cell_far (p := ⟨w.heap.size, 0, none⟩) (u := .slice Av r1.length cv) hS.2.2.1 (by dsimp only; omega)) (by dsimp only; omega)) (pt_cell_far (p := ⟨w.heap.size, 1, none⟩) (u := .slice Au r2.length cu) (pt_cell_far (p := ⟨w.heap.size, 0, none⟩) (u := .slice Av r1.length cv) hS.2.2.2 (by dsimp only; omega)) (by dsimp only; omega))))
  refine hK.out _ _ hSz (fun _ => ?_)
  clear hK K hS q20 q21 f20 f21 hSz
  (try simp only [Act.put, List.setIfInBounds_toArray, List.set_cons_zero, List.set_cons_succ])
  refine wpAnyH_done (by kernel_rfl) ?_ _
  go_wp2
  refine bodyPost_ret (results_cell_row rfl _ _ (w.heap.size) 54 #[.slice Av r1.length cv, .slice Au r2.length cu] (0, 0) _ rfl (blk_put (cs := #[.slice Av r1.length cv, .slice none 0 0]) (blk_put (cs := #[.slice none 0 0, .slice none 0 0]) HX2.out 0 _ rfl) 1 _ rfl) Try.underlying54 rfl (by kernel_rfl)) rfl ?_
  have hsz := HSZ.out
  refine ⟨_, _, rfl, Kd.R_mono (Kd.R_far (p := ⟨w.heap.size, 1, none⟩) (Kd.R_far (p := ⟨w.heap.size, 0, none⟩) (Kd.R_lower (Kd.R_bound HO.out) hsz.1) (fun k hk => by have := hk.2.1; dsimp only; omega) _) (fun k hk => by have := hk.2.1; dsimp only; omega) _) (fun k hk => hk.1), Kd.R_mono (Kd.R_far (p := ⟨w.heap.size, 1, none⟩) (Kd.R_far (p := ⟨w.heap.size, 0, none⟩) (Kd.R_lower (Kd.R_bound HU.out) hsz.1) (fun k hk => by have := hk.2.1; dsimp only; omega) _) (fun k hk => by have := hk.2.1; dsimp only; omega) _) (fun k hk => hk.1), (HB.out.setCell (p := ⟨w.heap.size, 0, none⟩) (by dsimp only; omega) _).setCell (p := ⟨w.heap.size, 1, none⟩) (by dsimp only; omega) _⟩
set_option maxRecDepth 1000000 in
set_option maxHeartbeats 8000000 in
theorem closure98 (k : Nat) (A0 : Option Addr) (c0 : Nat) (l0 : List Int) (A1 : Option Addr) (c1 : Nat) (l1 : List Int) (A2 : Option Addr) (c2 : Nat) (l2 : List Int) (A3 : Option Addr) (c3 : Nat) (l3 : List Int) (Ap : Option Addr) (cp : Nat) (p : List Int) (Aq : Option Addr) (cq : Nat) (q : List Int) (s d r1 r2 : List Int) (bF bG : Nat) (w : World) (hL : Live w [(.slice Aq q.length cq, q), (.slice Ap p.length cp, p), (.slice A0 l0.length c0, l0), (.slice A1 l1.length c1, l1), (.slice A2 l2.length c2, l2), (.slice A3 l3.length c3, l3)])
    (hF : w.heap[bF]? = some (.cells #[.slice A0 l0.length c0, .slice A1 l1.length c1] 54 (0, 0))) (hG : w.heap[bG]? = some (.cells #[.slice A2 l2.length c2, .slice A3 l3.length c3] 54 (0, 0)))
    (hPL : number_times.f k l0 l2 = some s)
    (hTD : number_times.f k l1 l3 = some d)
    (hLO : number_lowest.f k s d = some (r1, r2))
    :
    Calls Try.prog 98 #[.slice Ap p.length cp, .slice Aq q.length cq, .pointer (some ⟨bF, 0, none⟩), .pointer (some ⟨bG, 0, none⟩)] w fun e w' => ∃ v0 v1 : Value, e = .returned (.agg #[v0, v1]) ∧ Kd.R (Kd.int .u32) 84 w' w.heap.size (fun k => some k ≠ v1.ownBlock) v0 r1 ∧ Kd.R (Kd.int .u32) 84 w' w.heap.size (fun k => some k ≠ v0.ownBlock) v1 r2 ∧ Below w.heap.size w w' := by
  have HL := Aside0.mk hL
  have HF := Aside0.mk hF
  have HG := Aside0.mk hG
  clear hL hF hG
  have PL := Aside0.mk hPL
  have TD := Aside0.mk hTD
  have LO := Aside0.mk hLO
  clear hPL hTD hLO
  have HB := Aside0.mk (Below.refl w.heap.size w)
  go_enter Try.func98, Try.ntmps98
  go_upto_region 1 with fail
  have HX2 := Aside0.mk (show (w.alloc (Obj.cells #[Value.slice none 0 0, Value.slice none 0 0] 54)).drew.heap[w.heap.size]? = some (.cells #[Value.slice none 0 0, Value.slice none 0 0] 54 (0, 0)) from blk_new w _)
  have hlF := blk_lt HF.out
  have hlG := blk_lt HG.out
  have nf_ := Aside0.mk (blk_alloc HF.out (Obj.cells #[Value.slice none 0 0, Value.slice none 0 0] 54))
  have ng_ := Aside0.mk (blk_alloc HG.out (Obj.cells #[Value.slice none 0 0, Value.slice none 0 0] 54))
  clear HF HG
  have HF := nf_
  have HG := ng_
  clear nf_ ng_
  have nl_ := Aside0.mk (live_drew (live_alloc HL.out (Obj.cells #[Value.slice none 0 0, Value.slice none 0 0] 54)))
  have nb_ := Aside0.mk (below_drew1 (below_alloc HB.out (Obj.cells #[Value.slice none 0 0, Value.slice none 0 0] 54)))
  clear HL HB
  have HL := nl_
  have HB := nb_
  clear nl_ nb_
  have hmx : Try.prog.follows .mixedOrders = true := by kernel_rfl
  have hS : (w.alloc (Obj.cells #[Value.slice none 0 0, Value.slice none 0 0] 54)).drew.cell? ⟨bF, 0, none⟩ = some (.slice A0 l0.length c0) ∧ (w.alloc (Obj.cells #[Value.slice none 0 0, Value.slice none 0 0] 54)).drew.cell? ⟨bF, 1, none⟩ = some (.slice A1 l1.length c1) ∧ (w.alloc (Obj.cells #[Value.slice none 0 0, Value.slice none 0 0] 54)).drew.cell? ⟨bG, 0, none⟩ = some (.slice A2 l2.length c2) ∧ (w.alloc (Obj.cells #[Value.slice none 0 0, Value.slice none 0 0] 54)).drew.cell? ⟨bG, 1, none⟩ = some (.slice A3 l3.length c3) := ⟨(blk_cell HF.out 0).trans rfl, (blk_cell HF.out 1).trans rfl, (blk_cell HG.out 0).trans rfl, (blk_cell HG.out 1).trans rfl⟩
  clear HF HG
  refine wp_region_any hmx ?_
  refine wpAny_of_held (S := fun W' => W'.cell? ⟨bF, 0, none⟩ = some (.slice A0 l0.length c0) ∧ W'.cell? ⟨bF, 1, none⟩ = some (.slice A1 l1.length c1) ∧ W'.cell? ⟨bG, 0, none⟩ = some (.slice A2 l2.length c2) ∧ W'.cell? ⟨bG, 1, none⟩ = some (.slice A3 l3.length c3)) _ _ _ _ ?_
  change wpAnyH _ _ _ _ _ 12 #[false, false, false, false, false, false, false, false, false, false, false, false] _ (w.alloc (Obj.cells #[Value.slice none 0 0, Value.slice none 0 0] 54)).drew
  generalize (w.alloc (Obj.cells #[Value.slice none 0 0, Value.slice none 0 0] 54)).drew = W1 at *
  refine take_at (i := 0) (v := .pointer (some ⟨bF, 0, none⟩)) rfl rfl (by kernel_rfl) (by kernel_rfl) (by kernel_rfl) (fun _ _ _ h => h) (Or.inl ⟨by rfl, ?_⟩) hS ?_
  · intro w hSw
    (try dsimp only at hSw)
    go_simp
  simp only [Act.put, List.setIfInBounds_toArray, List.set_cons_zero, List.set_cons_succ]
  refine take_at (i := 1) (v := .slice A0 l0.length c0) rfl rfl (by kernel_rfl) (by kernel_rfl) (by kernel_rfl) (fun _ _ _ h => h) (Or.inl ⟨by rfl, ?_⟩) hS ?_
  · intro w hSw
    (try dsimp only at hSw)
    go_simp
  simp only [Act.put, List.setIfInBounds_toArray, List.set_cons_zero, List.set_cons_succ]
  refine take_at (i := 2) (v := .pointer (some ⟨bG, 0, none⟩)) rfl rfl (by kernel_rfl) (by kernel_rfl) (by kernel_rfl) (fun _ _ _ h => h) (Or.inl ⟨by rfl, ?_⟩) hS ?_
  · intro w hSw
    (try dsimp only at hSw)
    go_simp
  simp only [Act.put, List.setIfInBounds_toArray, List.set_cons_zero, List.set_cons_succ]
  refine take_at (i := 3) (v := .slice A2 l2.length c2) rfl rfl (by kernel_rfl) (by kernel_rfl) (by kernel_rfl) (fun _ _ _ h => h) (Or.inl ⟨by rfl, ?_⟩) hS ?_
  · intro w hSw
    (try dsimp only at hSw)
    go_simp
  simp only [Act.put, List.setIfInBounds_toArray, List.set_cons_zero, List.set_cons_succ]
  refine take_at (i := 5) (v := .pointer (some ⟨bF, 1, none⟩)) rfl rfl (by kernel_rfl) (by kernel_rfl) (by kernel_rfl) (fun _ _ _ h => h) (Or.inl ⟨by rfl, ?_⟩) hS ?_
  · intro w hSw
    (try dsimp only at hSw)
    go_simp
  simp only [Act.put, List.setIfInBounds_toArray, List.set_cons_zero, List.set_cons_succ]
  refine take_at (i := 6) (v := .slice A1 l1.length c1) rfl rfl (by kernel_rfl) (by kernel_rfl) (by kernel_rfl) (fun _ _ _ h => h) (Or.inl ⟨by rfl, ?_⟩) hS ?_
  · intro w hSw
    (try dsimp only at hSw)
    go_simp
  simp only [Act.put, List.setIfInBounds_toArray, List.set_cons_zero, List.set_cons_succ]
  refine take_at (i := 7) (v := .pointer (some ⟨bG, 1, none⟩)) rfl rfl (by kernel_rfl) (by kernel_rfl) (by kernel_rfl) (fun _ _ _ h => h) (Or.inl ⟨by rfl, ?_⟩) hS ?_
  · intro w hSw
    (try dsimp only at hSw)
    go_simp
  simp only [Act.put, List.setIfInBounds_toArray, List.set_cons_zero, List.set_cons_succ]
  refine take_at (i := 8) (v := .slice A3 l3.length c3) rfl rfl (by kernel_rfl) (by kernel_rfl) (by kernel_rfl) (fun _ _ _ h => h) (Or.inl ⟨by rfl, ?_⟩) hS ?_
  · intro w hSw
    (try dsimp only at hSw)
    go_simp
  simp only [Act.put, List.setIfInBounds_toArray, List.set_cons_zero, List.set_cons_succ]
  refine wpAnyH_ready (rs := [4]) (by kernel_rfl) (by simp) ?_
  refine AllReadyH.cons (i := 4) rfl (fun K hK => ?_) AllReadyH.nil
  go_simp
  refine (number_times.calls k _ _ _ _ _ _ _ _ ?s0 ?s1 ?s2 ?s3 PL.out).mono ?_
  case s0 => exact (live_C LL_ LM_).2.2
  case s1 => exact (live_C LL_ LM_).2.1
  case s2 => exact (live_C LL_ LM_).2.2
  case s3 => exact (live_C LL_ LM_).2.1
  rintro e w4 ⟨v, rfl, ho, hb⟩
  obtain ⟨As, cs, rfl, _, _⟩ := Kd.R_reads ho
  dsimp only
  have hS9 : _ ∧ _ ∧ _ ∧ _ := ⟨(hb.cell (World.block_lt_of_cell? _ _ hS.1)).trans hS.1, (hb.cell (World.block_lt_of_cell? _ _ hS.2.1)).trans hS.2.1, (hb.cell (World.block_lt_of_cell? _ _ hS.2.2.1)).trans hS.2.2.1, (hb.cell (World.block_lt_of_cell? _ _ hS.2.2.2)).trans hS.2.2.2⟩
  have nl_ := Aside0.mk (live_add HL.out hb ho)
  have nb_ := Aside0.mk (below_step HB.out hb)
  have nx2_ := Aside0.mk ((hb.block _ (blk_lt HX2.out)).trans HX2.out)
  refine hK.out _ _ hS9 (fun _ => ?_)
  clear hK K hb HL HB hS
  have HL := nl_
  have HB := nb_
  have hS := hS9
  clear HX2
  have HX2 := nx2_
  clear nl_ nb_ nx2_ hS9
  simp only [Act.put, List.setIfInBounds_toArray, List.set_cons_zero, List.set_cons_succ]
  refine wpAnyH_ready (rs := [9]) (by kernel_rfl) (by simp) ?_
  refine AllReadyH.cons (i := 9) rfl (fun K hK => ?_) AllReadyH.nil
  go_simp
  refine (number_times.calls k _ _ _ _ _ _ _ _ ?s0 ?s1 ?s2 ?s3 TD.out).mono ?_
  case s0 => exact (live_C LL_ LM_).2.2
  case s1 => exact (live_C LL_ LM_).2.1
  case s2 => exact (live_C LL_ LM_).2.2
  case s3 => exact (live_C LL_ LM_).2.1
  rintro e w9 ⟨v, rfl, ho, hb⟩
  obtain ⟨Ad, cd, rfl, _, _⟩ := Kd.R_reads ho
  dsimp only
  have hS9 : _ ∧ _ ∧ _ ∧ _ := ⟨(hb.cell (World.block_lt_of_cell? _ _ hS.1)).trans hS.1, (hb.cell (World.block_lt_of_cell? _ _ hS.2.1)).trans hS.2.1, (hb.cell (World.block_lt_of_cell? _ _ hS.2.2.1)).trans hS.2.2.1, (hb.cell (World.block_lt_of_cell? _ _ hS.2.2.2)).trans hS.2.2.2⟩
  have nl_ := Aside0.mk (live_add HL.out hb ho)
  have nb_ := Aside0.mk (below_step HB.out hb)
  have nx2_ := Aside0.mk ((hb.block _ (blk_lt HX2.out)).trans HX2.out)
  refine hK.out _ _ hS9 (fun _ => ?_)
  clear hK K hb HL HB hS
  have HL := nl_
  have HB := nb_
  have hS := hS9
  clear HX2
  have HX2 := nx2_
  clear nl_ nb_ nx2_ hS9
  simp only [Act.put, List.setIfInBounds_toArray, List.set_cons_zero, List.set_cons_succ]
  refine wpAnyH_ready (rs := [10]) (by kernel_rfl) (by simp) ?_
  refine AllReadyH.cons (i := 10) rfl (fun K hK => ?_) AllReadyH.nil
  go_simp
  have HSZ := Aside0.mk (And.intro HB.out.size (blk_lt HX2.out))
  refine (number_lowest.calls k _ _ _ _ _ _ _ _ _ ?s0 ?s1 ?s2 ?s3 LO.out).mono ?_
  case s0 => exact (live_C LL_ LM_).2.2
  case s1 => exact (live_C LL_ LM_).2.1
  case s2 => exact (live_C LL_ LM_).2.2
  case s3 => exact (live_C LL_ LM_).2.1
  rintro e w11 ⟨v0, v1, rfl, ho, hu, hb⟩
  obtain ⟨Av, cv, rfl, _, _⟩ := Kd.R_reads ho
  obtain ⟨Au, cu, rfl, _, _⟩ := Kd.R_reads hu
  have HO := Aside0.mk (Kd.R_below ho (Below.refl _ _))
  have HU := Aside0.mk (Kd.R_below hu (Below.refl _ _))
  clear ho hu
  dsimp only
  have hS9 : _ ∧ _ ∧ _ ∧ _ := ⟨(hb.cell (World.block_lt_of_cell? _ _ hS.1)).trans hS.1, (hb.cell (World.block_lt_of_cell? _ _ hS.2.1)).trans hS.2.1, (hb.cell (World.block_lt_of_cell? _ _ hS.2.2.1)).trans hS.2.2.1, (hb.cell (World.block_lt_of_cell? _ _ hS.2.2.2)).trans hS.2.2.2⟩
  have nl_ := Aside0.mk (live_below HL.out hb)
  have nb_ := Aside0.mk (below_step HB.out hb)
  have nx2_ := Aside0.mk ((hb.block _ (blk_lt HX2.out)).trans HX2.out)
  refine hK.out _ _ hS9 (fun _ => ?_)
  clear hK K hb HL HB hS
  have HL := nl_
  have HB := nb_
  have hS := hS9
  clear HX2
  have HX2 := nx2_
  clear nl_ nb_ nx2_ hS9
  simp only [Act.put, List.setIfInBounds_toArray, List.set_cons_zero, List.set_cons_succ]
  have q20 : w11.cell? ⟨w.heap.size, 0, none⟩ = some (.slice none 0 0) := (blk_cell HX2.out 0).trans rfl
  have q21 : w11.cell? ⟨w.heap.size, 1, none⟩ = some (.slice none 0 0) := (blk_cell HX2.out 1).trans rfl
  have f20 := blk_frozen HX2.out 0
  have f21 := blk_frozen HX2.out 1
  refine wpAnyH_ready (rs := [11]) (by kernel_rfl) (by simp) ?_
  refine AllReadyH.cons (i := 11) rfl (fun K hK => ?_) AllReadyH.nil
  go_simp
  have hSz := And.intro (pt_cell_far (p := ⟨w.heap.size, 1, none⟩) (u := .slice Au r2.length cu) (pt_cell_far (p := ⟨w.heap.size, 0, none⟩) (u := .slice Av r1.length cv) hS.1 (by dsimp only; omega)) (by dsimp only; omega)) (And.intro (pt_cell_far (p := ⟨w.heap.size, 1, none⟩) (u := .slice Au r2.length cu) (pt_cell_far (p := ⟨w.heap.size, 0, none⟩) (u := .slice Av r1.length cv) hS.2.1 (by dsimp only; omega)) (by dsimp only; omega)) (And.intro (pt_cell_far (p := ⟨w.heap.size, 1, none⟩) (u := .slice Au r2.length cu) (pt_cell_far (p := ⟨w.heap.size, 0, none⟩) (u := .slice Av r1.length cv) hS.2.2.1 (by dsimp only; omega)) (by dsimp only; omega)) (pt_cell_far (p := ⟨w.heap.size, 1, none⟩) (u := .slice Au r2.length cu) (pt_cell_far (p := ⟨w.heap.size, 0, none⟩) (u := .slice Av r1.length cv) hS.2.2.2 (by dsimp only; omega)) (by dsimp only; omega))))
  refine hK.out _ _ hSz (fun _ => ?_)
  clear hK K hS q20 q21 f20 f21 hSz
  (try simp only [Act.put, List.setIfInBounds_toArray, List.set_cons_zero, List.set_cons_succ])
  refine wpAnyH_done (by kernel_rfl) ?_ _
  go_wp2
  refine bodyPost_ret (results_cell_row rfl _ _ (w.heap.size) 54 #[.slice Av r1.length cv, .slice Au r2.length cu] (0, 0) _ rfl (blk_put (cs := #[.slice Av r1.length cv, .slice none 0 0]) (blk_put (cs := #[.slice none 0 0, .slice none 0 0]) HX2.out 0 _ rfl) 1 _ rfl) Try.underlying54 rfl (by kernel_rfl)) rfl ?_
  have hsz := HSZ.out
  refine ⟨_, _, rfl, Kd.R_mono (Kd.R_far (p := ⟨w.heap.size, 1, none⟩) (Kd.R_far (p := ⟨w.heap.size, 0, none⟩) (Kd.R_lower (Kd.R_bound HO.out) hsz.1) (fun k hk => by have := hk.2.1; dsimp only; omega) _) (fun k hk => by have := hk.2.1; dsimp only; omega) _) (fun k hk => hk.1), Kd.R_mono (Kd.R_far (p := ⟨w.heap.size, 1, none⟩) (Kd.R_far (p := ⟨w.heap.size, 0, none⟩) (Kd.R_lower (Kd.R_bound HU.out) hsz.1) (fun k hk => by have := hk.2.1; dsimp only; omega) _) (fun k hk => by have := hk.2.1; dsimp only; omega) _) (fun k hk => hk.1), (HB.out.setCell (p := ⟨w.heap.size, 0, none⟩) (by dsimp only; omega) _).setCell (p := ⟨w.heap.size, 1, none⟩) (by dsimp only; omega) _⟩
end Go.Proofs.Ythhgfogdeaaidaa.R
