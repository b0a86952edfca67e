/- CompareFractions, AddFractions and MulFractions: what they answer. -/
import Derived.Test.YthhgfogdeaaidaaR0
import Derived.Test.YthhgfogdeaaidaaR14
import Derived.Test.YthhgfogdeaaidaaR9
import Derived.Test.YthhgfogdeaaidaaGorder
import Derived.Test.YthhgfogdeaaidaaR13
import Derived.Test.YthhgfogdeaaidaaR15
import Derived.Test.YthhgfogdeaaidaaGcross2
import Derived.Deep.RegionHeld3
import Derived.WalkMore
namespace Go.Proofs.Ythhgfogdeaaidaa.R
open Go.RowKit Go.Proofs.YthhgfogdeaaidaaW.PrintWords Go.Proofs.YthhgfogdeaaidaaW.PrintLast Go.Proofs.YthhgfogdeaaidaaW.PrintMore
set_option linter.unusedVariables false
set_option linter.unusedSimpArgs false
attribute [local go_sem] Oper.semAt_some
theorem live_join {W : World} {a b : Value × List Int} {L : List (Value × List Int)} (h1 : Live W [a, b]) (h2 : Live W L) : Live W (a :: b :: L) := fun p hp => by
  rcases List.mem_cons.1 hp with rfl | hp
  · exact h1 _ (List.mem_cons_self ..)
  · rcases List.mem_cons.1 hp with rfl | hp
    · exact h1 _ (List.mem_cons_of_mem _ (List.mem_cons_self ..))
    · exact h2 p hp
theorem check_j0 (k : Nat) (t : Bool) (a b : List Int) (e : Int) (h : number_CheckFraction.j0 k t a b = some e) : e = 0 ∨ e = 8 := by
  cases k with
  | zero => exact absurd h (by simp [number_CheckFraction.j0])
  | succ k =>
    simp only [number_CheckFraction.j0] at h
    by_cases ht : t = true
    · rw [if_pos ht] at h
      exact .inr (Option.some.inj h).symm
    · rw [if_neg ht] at h
      obtain ⟨g, _, h⟩ := Option.bind_eq_some_iff.mp h
      by_cases c1 : (g.length : Int) = 1
      · rw [if_pos c1] at h
        by_cases c2 : 0 < (g.length : Int)
        · rw [if_pos c2] at h
          by_cases c3 : rd g 0 = 1
          · rw [if_pos c3] at h
            exact .inl (Option.some.inj h).symm
          · rw [if_neg c3] at h
            exact .inr (Option.some.inj h).symm
        · rw [if_neg c2] at h
          exact absurd h (by simp)
      · rw [if_neg c1] at h
        exact .inr (Option.some.inj h).symm
theorem check_two (k : Nat) (a b : List Int) (e : Int) (h : number_CheckFraction.f k a b = some e) (h0 : e ≠ 0) : e = 8 := by
  unfold number_CheckFraction.f at h
  obtain ⟨_, _, h⟩ := Option.bind_eq_some_iff.mp h
  split at h
  · exact (check_j0 _ _ _ _ _ h).resolve_left h0
  · exact (check_j0 _ _ _ _ _ h).resolve_left h0
def number_CompareFractions.f (k : Nat) (l0 l1 l2 l3 : List Int) : Option (Int × Int) := (number_CheckFraction.f k l0 l1).bind fun e1 => if e1 = 0 then (number_CheckFraction.f k l2 l3).bind fun e2 => if e2 = 0 then ((number_times.f k l0 l3).bind fun p => (number_times.f k l2 l1).bind fun q => (number_order.f p q).bind fun r => some (r, 0)) else some (0, 8) else some (0, 8)
set_option maxRecDepth 1000000 in
set_option maxHeartbeats 8000000 in
theorem cmp_good (k : Nat) (A0 : Option Addr) (c0 : Nat) (l0 : List Int) (A1 : Option Addr) (c1 : Nat) (l1 : List Int) (A2 : Option Addr) (c2 : Nat) (l2 : List Int) (A3 : Option Addr) (c3 : Nat) (l3 : List Int) (p q : List Int) (r : Int) (w : World) (hL : Live w [(.slice A0 l0.length c0, l0), (.slice A1 l1.length c1, l1), (.slice A2 l2.length c2, l2), (.slice A3 l3.length c3, l3)])
    (hE1 : number_CheckFraction.f k l0 l1 = some 0)
    (hE2 : number_CheckFraction.f k l2 l3 = some 0)
    (hT1 : number_times.f k l0 l3 = some p)
    (hT2 : number_times.f k l2 l1 = some q)
    (hO : number_order.f p q = some r)
    :
    Calls Try.prog 40 #[.agg #[.slice A0 l0.length c0, .slice A1 l1.length c1], .agg #[.slice A2 l2.length c2, .slice A3 l3.length c3]] w fun e w' => e = .returned (.tuple #[.int .i64 r, .int .i64 0]) ∧ Below w.heap.size w w' := by
  have HL := Aside0.mk hL
  clear hL
  have E1 := Aside0.mk hE1
  have E2 := Aside0.mk hE2
  have T1 := Aside0.mk hT1
  have T2 := Aside0.mk hT2
  have O := Aside0.mk hO
  clear hE1 hE2 hT1 hT2 hO
  have HB := Aside0.mk (Below.refl w.heap.size w)
  go_enter Try.func40, Try.ntmps40
  go_wp2_with (first | (go_at_call 91; go_loud ((refine (cross_int k _ _ _ _ _ _ _ _ _ _ _ _ p q r _ ?hl E1.out E2.out T1.out T2.out O.out).mono ?_); (case hl => exact live_alloc (live_alloc HL.out _) _); rintro e wn ⟨rfl, hb⟩; have nb_ := Aside0.mk (below_step (below_alloc (below_alloc HB.out _) _) hb); clear HB hb; have HB := nb_; clear nb_)))
  go_ret2
  exact ⟨rfl, HB.out⟩
set_option maxRecDepth 1000000 in
set_option maxHeartbeats 8000000 in
theorem cmp_bad1 (k : Nat) (A0 : Option Addr) (c0 : Nat) (l0 : List Int) (A1 : Option Addr) (c1 : Nat) (l1 : List Int) (A2 : Option Addr) (c2 : Nat) (l2 : List Int) (A3 : Option Addr) (c3 : Nat) (l3 : List Int) (w : World) (hL : Live w [(.slice A0 l0.length c0, l0), (.slice A1 l1.length c1, l1), (.slice A2 l2.length c2, l2), (.slice A3 l3.length c3, l3)])
    (hE1 : number_CheckFraction.f k l0 l1 = some 8)
    :
    Calls Try.prog 40 #[.agg #[.slice A0 l0.length c0, .slice A1 l1.length c1], .agg #[.slice A2 l2.length c2, .slice A3 l3.length c3]] w fun e w' => e = .returned (.tuple #[.int .i64 0, .int .i64 8]) ∧ Below w.heap.size w w' := by
  have HL := Aside0.mk hL
  clear hL
  have E1 := Aside0.mk hE1
  clear hE1
  have HB := Aside0.mk (Below.refl w.heap.size w)
  go_enter Try.func40, Try.ntmps40
  go_wp2_with (first | (go_at_call 91; go_loud ((refine (cross_int_bad1 k _ _ _ _ _ _ _ _ _ _ _ _ _ ?hl E1.out).mono ?_); (case hl => exact live_alloc (live_alloc HL.out _) _); rintro e wn ⟨rfl, hb⟩; have nb_ := Aside0.mk (below_step (below_alloc (below_alloc HB.out _) _) hb); clear HB hb; have HB := nb_; clear nb_)))
  go_ret2
  exact ⟨rfl, HB.out⟩
set_option maxRecDepth 1000000 in
set_option maxHeartbeats 8000000 in
theorem cmp_bad2 (k : Nat) (A0 : Option Addr) (c0 : Nat) (l0 : List Int) (A1 : Option Addr) (c1 : Nat) (l1 : List Int) (A2 : Option Addr) (c2 : Nat) (l2 : List Int) (A3 : Option Addr) (c3 : Nat) (l3 : List Int) (w : World) (hL : Live w [(.slice A0 l0.length c0, l0), (.slice A1 l1.length c1, l1), (.slice A2 l2.length c2, l2), (.slice A3 l3.length c3, l3)])
    (hE1 : number_CheckFraction.f k l0 l1 = some 0)
    (hE2 : number_CheckFraction.f k l2 l3 = some 8)
    :
    Calls Try.prog 40 #[.agg #[.slice A0 l0.length c0, .slice A1 l1.length c1], .agg #[.slice A2 l2.length c2, .slice A3 l3.length c3]] w fun e w' => e = .returned (.tuple #[.int .i64 0, .int .i64 8]) ∧ Below w.heap.size w w' := by
  have HL := Aside0.mk hL
  clear hL
  have E1 := Aside0.mk hE1
  have E2 := Aside0.mk hE2
  clear hE1 hE2
  have HB := Aside0.mk (Below.refl w.heap.size w)
  go_enter Try.func40, Try.ntmps40
  go_wp2_with (first | (go_at_call 91; go_loud ((refine (cross_int_bad2 k _ _ _ _ _ _ _ _ _ _ _ _ _ ?hl E1.out E2.out).mono ?_); (case hl => exact live_alloc (live_alloc HL.out _) _); rintro e wn ⟨rfl, hb⟩; have nb_ := Aside0.mk (below_step (below_alloc (below_alloc HB.out _) _) hb); clear HB hb; have HB := nb_; clear nb_)))
  go_ret2
  exact ⟨rfl, HB.out⟩
theorem number_CompareFractions.calls (k : Nat) (A0 : Option Addr) (c0 : Nat) (l0 : List Int) (A1 : Option Addr) (c1 : Nat) (l1 : List Int) (A2 : Option Addr) (c2 : Nat) (l2 : List Int) (A3 : Option Addr) (c3 : Nat) (l3 : List Int) (r1 r2 : Int) (w : World) (hL : Live w [(.slice A0 l0.length c0, l0), (.slice A1 l1.length c1, l1), (.slice A2 l2.length c2, l2), (.slice A3 l3.length c3, l3)]) (h : number_CompareFractions.f k l0 l1 l2 l3 = some (r1, r2)) :
    Calls Try.prog 40 #[.agg #[.slice A0 l0.length c0, .slice A1 l1.length c1], .agg #[.slice A2 l2.length c2, .slice A3 l3.length c3]] w fun e w' => e = .returned (.tuple #[.int .i64 r1, .int .i64 r2]) ∧ Below w.heap.size w w' := by
  unfold number_CompareFractions.f at h
  obtain ⟨e1, h1, h⟩ := Option.bind_eq_some_iff.mp h
  by_cases z1 : e1 = 0
  case neg =>
    rw [if_neg z1] at h
    obtain rfl := check_two k _ _ _ h1 z1
    obtain ⟨rfl, rfl⟩ := Prod.mk.inj (Option.some.inj h)
    exact cmp_bad1 k A0 c0 l0 A1 c1 l1 A2 c2 l2 A3 c3 l3 w hL h1
  rw [if_pos z1] at h
  subst z1
  obtain ⟨e2, h2, h⟩ := Option.bind_eq_some_iff.mp h
  by_cases z2 : e2 = 0
  case neg =>
    rw [if_neg z2] at h
    obtain rfl := check_two k _ _ _ h2 z2
    obtain ⟨rfl, rfl⟩ := Prod.mk.inj (Option.some.inj h)
    exact cmp_bad2 k A0 c0 l0 A1 c1 l1 A2 c2 l2 A3 c3 l3 w hL h1 h2
  rw [if_pos z2] at h
  subst z2
  obtain ⟨p, g0, h⟩ := Option.bind_eq_some_iff.mp h
  obtain ⟨q, g1, h⟩ := Option.bind_eq_some_iff.mp h
  obtain ⟨r, g2, h⟩ := Option.bind_eq_some_iff.mp h
  obtain ⟨rfl, rfl⟩ := Prod.mk.inj (Option.some.inj h)
  exact cmp_good k A0 c0 l0 A1 c1 l1 A2 c2 l2 A3 c3 l3 p q r w hL h1 h2 g0 g1 g2
def number_AddFractions.f (k : Nat) (l0 l1 l2 l3 : List Int) : Option (List Int × List Int × Int) := (number_CheckFraction.f k l0 l1).bind fun e1 => if e1 = 0 then (number_CheckFraction.f k l2 l3).bind fun e2 => if e2 = 0 then ((number_times.f k l0 l3).bind fun p => (number_times.f k l2 l1).bind fun q => (number_plus.f k p q).bind fun s => (number_times.f k l1 l3).bind fun d => (number_lowest.f k s d).bind fun r => number_bounded.f r.1 r.2 0) else number_bounded.f [] [] 8 else number_bounded.f [] [] 8
set_option maxRecDepth 1000000 in
set_option maxHeartbeats 8000000 in
theorem add_good (k : Nat) (A0 : Option Addr) (c0 : Nat) (l0 : List Int) (A1 : Option Addr) (c1 : Nat) (l1 : List Int) (A2 : Option Addr) (c2 : Nat) (l2 : List Int) (A3 : Option Addr) (c3 : Nat) (l3 : List Int) (p q s d r1 r2 : List Int) (x1 x2 : List Int) (x3 : Int) (w : World) (hL : Live w [(.slice A0 l0.length c0, l0), (.slice A1 l1.length c1, l1), (.slice A2 l2.length c2, l2), (.slice A3 l3.length c3, l3)])
    (hE1 : number_CheckFraction.f k l0 l1 = some 0)
    (hE2 : number_CheckFraction.f k l2 l3 = some 0)
    (hT1 : number_times.f k l0 l3 = some p)
    (hT2 : number_times.f k l2 l1 = some q)
    (hPL : number_plus.f k p q = some s)
    (hTD : number_times.f k l1 l3 = some d)
    (hLO : number_lowest.f k s d = some (r1, r2))
    (hBD : number_bounded.f r1 r2 0 = some (x1, x2, x3))
    :
    Calls Try.prog 42 #[.agg #[.slice A0 l0.length c0, .slice A1 l1.length c1], .agg #[.slice A2 l2.length c2, .slice A3 l3.length c3]] w fun e w' => ∃ v0 v1 : Value, e = .returned (.tuple #[.agg #[v0, v1], .int .i64 x3]) ∧ Kd.R (Kd.int .u32) 84 w' w.heap.size (fun k => some k ≠ v1.ownBlock) v0 x1 ∧ Kd.R (Kd.int .u32) 84 w' w.heap.size (fun k => some k ≠ v0.ownBlock) v1 x2 ∧ Below w.heap.size w w' := by
  have HL := Aside0.mk hL
  clear hL
  have E1 := Aside0.mk hE1
  have E2 := Aside0.mk hE2
  have T1 := Aside0.mk hT1
  have T2 := Aside0.mk hT2
  have PL := Aside0.mk hPL
  have TD := Aside0.mk hTD
  have LO := Aside0.mk hLO
  have BD := Aside0.mk hBD
  clear hE1 hE2 hT1 hT2 hPL hTD hLO hBD
  have HB := Aside0.mk (Below.refl w.heap.size w)
  go_enter Try.func42, Try.ntmps42
  go_upto_region 1 with fail
  have HX0 := Aside0.mk (show ((w.alloc (Obj.cells #[.slice A0 l0.length c0, .slice A1 l1.length c1] 54)).alloc (Obj.cells #[.slice A2 l2.length c2, .slice A3 l3.length c3] 54)).heap[w.heap.size]? = some (.cells #[.slice A0 l0.length c0, .slice A1 l1.length c1] 54 (0, 0)) from blk_alloc (blk_new w _) _)
  have HX1 := Aside0.mk (show ((w.alloc (Obj.cells #[.slice A0 l0.length c0, .slice A1 l1.length c1] 54)).alloc (Obj.cells #[.slice A2 l2.length c2, .slice A3 l3.length c3] 54)).heap[w.heap.size + 1]? = some (.cells #[.slice A2 l2.length c2, .slice A3 l3.length c3] 54 (0, 0)) from by have := blk_new (w.alloc (Obj.cells #[.slice A0 l0.length c0, .slice A1 l1.length c1] 54)) (Obj.cells #[.slice A2 l2.length c2, .slice A3 l3.length c3] 54); rwa [World.size_alloc] at this)
  have nx0_ := Aside0.mk (blk_alloc HX0.out (Obj.cells #[Value.slice none 0 0, Value.slice none 0 0] 54))
  have nx1_ := Aside0.mk (blk_alloc HX1.out (Obj.cells #[Value.slice none 0 0, Value.slice none 0 0] 54))
  clear HX0 HX1
  have HX0 := nx0_
  have HX1 := nx1_
  clear nx0_ nx1_
  have HX2 := Aside0.mk (show (((w.alloc (Obj.cells #[.slice A0 l0.length c0, .slice A1 l1.length c1] 54)).alloc (Obj.cells #[.slice A2 l2.length c2, .slice A3 l3.length c3] 54)).alloc (Obj.cells #[Value.slice none 0 0, Value.slice none 0 0] 54)).heap[w.heap.size + 1 + 1]? = some (.cells #[Value.slice none 0 0, Value.slice none 0 0] 54 (0, 0)) from by have := blk_new ((w.alloc (Obj.cells #[.slice A0 l0.length c0, .slice A1 l1.length c1] 54)).alloc (Obj.cells #[.slice A2 l2.length c2, .slice A3 l3.length c3] 54)) (Obj.cells #[Value.slice none 0 0, Value.slice none 0 0] 54); rwa [World.size_alloc, World.size_alloc] at this)
  have nl_ := Aside0.mk (live_alloc (live_alloc (live_alloc HL.out (Obj.cells #[.slice A0 l0.length c0, .slice A1 l1.length c1] 54)) (Obj.cells #[.slice A2 l2.length c2, .slice A3 l3.length c3] 54)) (Obj.cells #[Value.slice none 0 0, Value.slice none 0 0] 54))
  have nb_ := Aside0.mk (below_alloc (below_alloc (below_alloc HB.out (Obj.cells #[.slice A0 l0.length c0, .slice A1 l1.length c1] 54)) (Obj.cells #[.slice A2 l2.length c2, .slice A3 l3.length c3] 54)) (Obj.cells #[Value.slice none 0 0, Value.slice none 0 0] 54))
  clear HL HB
  have HL := nl_
  have HB := nb_
  clear nl_ nb_
  generalize hW0 : (((w.alloc (Obj.cells #[.slice A0 l0.length c0, .slice A1 l1.length c1] 54)).alloc (Obj.cells #[.slice A2 l2.length c2, .slice A3 l3.length c3] 54)).alloc (Obj.cells #[Value.slice none 0 0, Value.slice none 0 0] 54)) = W0 at *
  clear hW0
  have q00 : W0.cell? ⟨w.heap.size, 0, none⟩ = some (.slice A0 l0.length c0) := (blk_cell HX0.out 0).trans rfl
  have q01 : W0.cell? ⟨w.heap.size, 1, none⟩ = some (.slice A1 l1.length c1) := (blk_cell HX0.out 1).trans rfl
  have q10 : W0.cell? ⟨w.heap.size + 1, 0, none⟩ = some (.slice A2 l2.length c2) := (blk_cell HX1.out 0).trans rfl
  have q11 : W0.cell? ⟨w.heap.size + 1, 1, none⟩ = some (.slice A3 l3.length c3) := (blk_cell HX1.out 1).trans rfl
  go_wp2_with (first | (go_at_call 95; go_loud ((refine (cross_frac96 k _ _ _ _ _ _ _ _ _ _ _ _ p q r1 r2 (w.heap.size) (w.heap.size + 1) _ ?hl E1.out E2.out T1.out T2.out ?hdo).mono ?_); (case hl => exact HL.out); (case hdo => exact fun W' Ap cp Aq cq hb hl => closure96 k A0 c0 l0 A1 c1 l1 A2 c2 l2 A3 c3 l3 Ap cp p Aq cq q s d r1 r2 _ _ W' (live_join hl (live_below HL.out hb)) ((hb.block _ (blk_lt HX0.out)).trans HX0.out) ((hb.block _ (blk_lt HX1.out)).trans HX1.out) PL.out TD.out LO.out); rintro e wn ⟨v0, v1, rfl, ho, hu, hb⟩; obtain ⟨Av, cv, rfl, _, _⟩ := Kd.R_reads ho; obtain ⟨Au, cu, rfl, _, _⟩ := Kd.R_reads hu; have HSZ := Aside0.mk (And.intro HB.out.size (blk_lt HX2.out)); have nx2_ := Aside0.mk ((hb.block _ (blk_lt HX2.out)).trans HX2.out); have nb_ := Aside0.mk (below_step HB.out hb); have HO := Aside0.mk (Kd.R_lower (Kd.R_bound ho) HSZ.out.1); have HU := Aside0.mk (Kd.R_lower (Kd.R_bound hu) HSZ.out.1); clear HB HX2 hb ho hu; have HB := nb_; have HX2 := nx2_; clear nb_ nx2_)) | (go_at_call 94; go_loud ((have hs_ := HSZ.out); (have s0_ := Kd.R_mono HO.out (ok' := (fun k => w.heap.size + 1 + 1 < k ∧ some k ≠ (Value.slice Au r2.length cu).ownBlock)) (fun k hk => ⟨by have := hk.2.1; omega, hk.1⟩)); (have s1_ := Kd.R_mono (Kd.R_tight rfl HU.out) (ok' := (fun k => w.heap.size + 1 + 1 < k ∧ some k = (Value.slice Au r2.length cu).ownBlock)) (fun k hk => ⟨by have := (HU.out.1 k hk.symm).2.1; omega, hk⟩)); (refine (number_bounded.calls _ _ _ _ _ _ _ x1 x2 x3 w _ HB.out s0_ (fun _ h1 h2 => h1.2 h2.2) s1_ (fun _ h1 h2 => h2.2 h1.2) BD.out).mono ?_); rintro e wm ⟨z0, z1, rfl, hz0, hz1, hbb, hkk⟩; obtain ⟨Az, cz, rfl, _, _⟩ := Kd.R_reads hz0; obtain ⟨Ay, cy, rfl, _, _⟩ := Kd.R_reads hz1; have nx2_ := Aside0.mk ((hkk.2 _ (blk_lt HX2.out) (by rintro (h | h) <;> exact Nat.lt_irrefl _ h.1)).trans HX2.out); have HLT := Aside0.mk (blk_lt HX2.out); have HZ := Aside0.mk hz0; have HY := Aside0.mk hz1; clear HB HX2 s0_ s1_ hs_ HO HU hkk hz0 hz1; have HB := Aside0.mk hbb; have HX2 := nx2_; clear nx2_ hbb; have q20 : wm.cell? ⟨w.heap.size + 1 + 1, 0, none⟩ = some (.slice none 0 0) := (blk_cell HX2.out 0).trans rfl; have q21 : wm.cell? ⟨w.heap.size + 1 + 1, 1, none⟩ = some (.slice none 0 0) := (blk_cell HX2.out 1).trans rfl; have f20 := blk_frozen HX2.out 0; have f21 := blk_frozen HX2.out 1)))
  refine bodyPost_ret (results_ct rfl _ _ (w.heap.size + 1 + 1) 54 #[.slice Az x1.length cz, .slice Ay x2.length cy] (0, 0) _ rfl (blk_put (cs := #[.slice Az x1.length cz, .slice none 0 0]) (blk_put (cs := #[.slice none 0 0, .slice none 0 0]) HX2.out 0 _ rfl) 1 _ rfl) Try.underlying54 rfl (by kernel_rfl)) rfl ?_
  have hlt := HLT.out
  have far : ∀ k, (((w.heap.size + 1 + 1 < k ∧ some k ≠ (Value.slice Au r2.length cu).ownBlock) ∨ (w.heap.size + 1 + 1 < k ∧ some k = (Value.slice Au r2.length cu).ownBlock)) ∨ wn.heap.size ≤ k) → k ≠ w.heap.size + 1 + 1 := fun k hk => by
    rcases hk with (h | h) | h
    · omega
    · omega
    · omega
  exact ⟨_, _, rfl, Kd.R_mono (Kd.R_far (p := ⟨w.heap.size + 1 + 1, 1, none⟩) (Kd.R_far (p := ⟨w.heap.size + 1 + 1, 0, none⟩) HZ.out (fun k hk => far k hk.1) _) (fun k hk => far k hk.1) _) (fun k hk => hk.2), Kd.R_mono (Kd.R_far (p := ⟨w.heap.size + 1 + 1, 1, none⟩) (Kd.R_far (p := ⟨w.heap.size + 1 + 1, 0, none⟩) HY.out (fun k hk => far k hk.1) _) (fun k hk => far k hk.1) _) (fun k hk => hk.2), (HB.out.setCell (p := ⟨w.heap.size + 1 + 1, 0, none⟩) (by dsimp only; omega) _).setCell (p := ⟨w.heap.size + 1 + 1, 1, none⟩) (by dsimp only; omega) _⟩
set_option maxRecDepth 1000000 in
set_option maxHeartbeats 8000000 in
theorem add_bad1 (k : Nat) (A0 : Option Addr) (c0 : Nat) (l0 : List Int) (A1 : Option Addr) (c1 : Nat) (l1 : List Int) (A2 : Option Addr) (c2 : Nat) (l2 : List Int) (A3 : Option Addr) (c3 : Nat) (l3 : List Int) (x1 x2 : List Int) (x3 : Int) (w : World) (hL : Live w [(.slice A0 l0.length c0, l0), (.slice A1 l1.length c1, l1), (.slice A2 l2.length c2, l2), (.slice A3 l3.length c3, l3)])
    (hE1 : number_CheckFraction.f k l0 l1 = some 8)
    (hBD : number_bounded.f [] [] 8 = some (x1, x2, x3))
    :
    Calls Try.prog 42 #[.agg #[.slice A0 l0.length c0, .slice A1 l1.length c1], .agg #[.slice A2 l2.length c2, .slice A3 l3.length c3]] w fun e w' => ∃ v0 v1 : Value, e = .returned (.tuple #[.agg #[v0, v1], .int .i64 x3]) ∧ Kd.R (Kd.int .u32) 84 w' w.heap.size (fun k => some k ≠ v1.ownBlock) v0 x1 ∧ Kd.R (Kd.int .u32) 84 w' w.heap.size (fun k => some k ≠ v0.ownBlock) v1 x2 ∧ Below w.heap.size w w' := by
  have HL := Aside0.mk hL
  clear hL
  have E1 := Aside0.mk hE1
  have BD := Aside0.mk hBD
  clear hE1 hBD
  have HB := Aside0.mk (Below.refl w.heap.size w)
  go_enter Try.func42, Try.ntmps42
  go_upto_region 1 with fail
  have HX0 := Aside0.mk (show ((w.alloc (Obj.cells #[.slice A0 l0.length c0, .slice A1 l1.length c1] 54)).alloc (Obj.cells #[.slice A2 l2.length c2, .slice A3 l3.length c3] 54)).heap[w.heap.size]? = some (.cells #[.slice A0 l0.length c0, .slice A1 l1.length c1] 54 (0, 0)) from blk_alloc (blk_new w _) _)
  have HX1 := Aside0.mk (show ((w.alloc (Obj.cells #[.slice A0 l0.length c0, .slice A1 l1.length c1] 54)).alloc (Obj.cells #[.slice A2 l2.length c2, .slice A3 l3.length c3] 54)).heap[w.heap.size + 1]? = some (.cells #[.slice A2 l2.length c2, .slice A3 l3.length c3] 54 (0, 0)) from by have := blk_new (w.alloc (Obj.cells #[.slice A0 l0.length c0, .slice A1 l1.length c1] 54)) (Obj.cells #[.slice A2 l2.length c2, .slice A3 l3.length c3] 54); rwa [World.size_alloc] at this)
  have nx0_ := Aside0.mk (blk_alloc HX0.out (Obj.cells #[Value.slice none 0 0, Value.slice none 0 0] 54))
  have nx1_ := Aside0.mk (blk_alloc HX1.out (Obj.cells #[Value.slice none 0 0, Value.slice none 0 0] 54))
  clear HX0 HX1
  have HX0 := nx0_
  have HX1 := nx1_
  clear nx0_ nx1_
  have HX2 := Aside0.mk (show (((w.alloc (Obj.cells #[.slice A0 l0.length c0, .slice A1 l1.length c1] 54)).alloc (Obj.cells #[.slice A2 l2.length c2, .slice A3 l3.length c3] 54)).alloc (Obj.cells #[Value.slice none 0 0, Value.slice none 0 0] 54)).heap[w.heap.size + 1 + 1]? = some (.cells #[Value.slice none 0 0, Value.slice none 0 0] 54 (0, 0)) from by have := blk_new ((w.alloc (Obj.cells #[.slice A0 l0.length c0, .slice A1 l1.length c1] 54)).alloc (Obj.cells #[.slice A2 l2.length c2, .slice A3 l3.length c3] 54)) (Obj.cells #[Value.slice none 0 0, Value.slice none 0 0] 54); rwa [World.size_alloc, World.size_alloc] at this)
  have nl_ := Aside0.mk (live_alloc (live_alloc (live_alloc HL.out (Obj.cells #[.slice A0 l0.length c0, .slice A1 l1.length c1] 54)) (Obj.cells #[.slice A2 l2.length c2, .slice A3 l3.length c3] 54)) (Obj.cells #[Value.slice none 0 0, Value.slice none 0 0] 54))
  have nb_ := Aside0.mk (below_alloc (below_alloc (below_alloc HB.out (Obj.cells #[.slice A0 l0.length c0, .slice A1 l1.length c1] 54)) (Obj.cells #[.slice A2 l2.length c2, .slice A3 l3.length c3] 54)) (Obj.cells #[Value.slice none 0 0, Value.slice none 0 0] 54))
  clear HL HB
  have HL := nl_
  have HB := nb_
  clear nl_ nb_
  generalize hW0 : (((w.alloc (Obj.cells #[.slice A0 l0.length c0, .slice A1 l1.length c1] 54)).alloc (Obj.cells #[.slice A2 l2.length c2, .slice A3 l3.length c3] 54)).alloc (Obj.cells #[Value.slice none 0 0, Value.slice none 0 0] 54)) = W0 at *
  clear hW0
  have q00 : W0.cell? ⟨w.heap.size, 0, none⟩ = some (.slice A0 l0.length c0) := (blk_cell HX0.out 0).trans rfl
  have q01 : W0.cell? ⟨w.heap.size, 1, none⟩ = some (.slice A1 l1.length c1) := (blk_cell HX0.out 1).trans rfl
  have q10 : W0.cell? ⟨w.heap.size + 1, 0, none⟩ = some (.slice A2 l2.length c2) := (blk_cell HX1.out 0).trans rfl
  have q11 : W0.cell? ⟨w.heap.size + 1, 1, none⟩ = some (.slice A3 l3.length c3) := (blk_cell HX1.out 1).trans rfl
  go_wp2_with (first | (go_at_call 95; go_loud ((refine (cross_frac96_bad1 k _ _ _ _ _ _ _ _ _ _ _ _ (w.heap.size) (w.heap.size + 1) _ ?hl E1.out).mono ?_); (case hl => exact HL.out); rintro e wn ⟨v0, v1, rfl, ho, hu, hb⟩; obtain ⟨Av, cv, rfl, _, _⟩ := Kd.R_reads ho; obtain ⟨Au, cu, rfl, _, _⟩ := Kd.R_reads hu; have HSZ := Aside0.mk (And.intro HB.out.size (blk_lt HX2.out)); have nx2_ := Aside0.mk ((hb.block _ (blk_lt HX2.out)).trans HX2.out); have nb_ := Aside0.mk (below_step HB.out hb); have HO := Aside0.mk (Kd.R_lower (Kd.R_bound ho) HSZ.out.1); have HU := Aside0.mk (Kd.R_lower (Kd.R_bound hu) HSZ.out.1); clear HB HX2 hb ho hu; have HB := nb_; have HX2 := nx2_; clear nb_ nx2_)) | (go_at_call 94; go_loud ((have hs_ := HSZ.out); (have s0_ := Kd.R_mono HO.out (ok' := (fun k => w.heap.size + 1 + 1 < k ∧ some k ≠ (Value.slice Au ([] : List Int).length cu).ownBlock)) (fun k hk => ⟨by have := hk.2.1; omega, hk.1⟩)); (have s1_ := Kd.R_mono (Kd.R_tight rfl HU.out) (ok' := (fun k => w.heap.size + 1 + 1 < k ∧ some k = (Value.slice Au ([] : List Int).length cu).ownBlock)) (fun k hk => ⟨by have := (HU.out.1 k hk.symm).2.1; omega, hk⟩)); (refine (number_bounded.calls _ _ _ _ _ _ _ x1 x2 x3 w _ HB.out s0_ (fun _ h1 h2 => h1.2 h2.2) s1_ (fun _ h1 h2 => h2.2 h1.2) BD.out).mono ?_); rintro e wm ⟨z0, z1, rfl, hz0, hz1, hbb, hkk⟩; obtain ⟨Az, cz, rfl, _, _⟩ := Kd.R_reads hz0; obtain ⟨Ay, cy, rfl, _, _⟩ := Kd.R_reads hz1; have nx2_ := Aside0.mk ((hkk.2 _ (blk_lt HX2.out) (by rintro (h | h) <;> exact Nat.lt_irrefl _ h.1)).trans HX2.out); have HLT := Aside0.mk (blk_lt HX2.out); have HZ := Aside0.mk hz0; have HY := Aside0.mk hz1; clear HB HX2 s0_ s1_ hs_ HO HU hkk hz0 hz1; have HB := Aside0.mk hbb; have HX2 := nx2_; clear nx2_ hbb; have q20 : wm.cell? ⟨w.heap.size + 1 + 1, 0, none⟩ = some (.slice none 0 0) := (blk_cell HX2.out 0).trans rfl; have q21 : wm.cell? ⟨w.heap.size + 1 + 1, 1, none⟩ = some (.slice none 0 0) := (blk_cell HX2.out 1).trans rfl; have f20 := blk_frozen HX2.out 0; have f21 := blk_frozen HX2.out 1)))
  refine bodyPost_ret (results_ct rfl _ _ (w.heap.size + 1 + 1) 54 #[.slice Az x1.length cz, .slice Ay x2.length cy] (0, 0) _ rfl (blk_put (cs := #[.slice Az x1.length cz, .slice none 0 0]) (blk_put (cs := #[.slice none 0 0, .slice none 0 0]) HX2.out 0 _ rfl) 1 _ rfl) Try.underlying54 rfl (by kernel_rfl)) rfl ?_
  have hlt := HLT.out
  have far : ∀ k, (((w.heap.size + 1 + 1 < k ∧ some k ≠ (Value.slice Au ([] : List Int).length cu).ownBlock) ∨ (w.heap.size + 1 + 1 < k ∧ some k = (Value.slice Au ([] : List Int).length cu).ownBlock)) ∨ wn.heap.size ≤ k) → k ≠ w.heap.size + 1 + 1 := fun k hk => by
    rcases hk with (h | h) | h
    · omega
    · omega
    · omega
  exact ⟨_, _, rfl, Kd.R_mono (Kd.R_far (p := ⟨w.heap.size + 1 + 1, 1, none⟩) (Kd.R_far (p := ⟨w.heap.size + 1 + 1, 0, none⟩) HZ.out (fun k hk => far k hk.1) _) (fun k hk => far k hk.1) _) (fun k hk => hk.2), Kd.R_mono (Kd.R_far (p := ⟨w.heap.size + 1 + 1, 1, none⟩) (Kd.R_far (p := ⟨w.heap.size + 1 + 1, 0, none⟩) HY.out (fun k hk => far k hk.1) _) (fun k hk => far k hk.1) _) (fun k hk => hk.2), (HB.out.setCell (p := ⟨w.heap.size + 1 + 1, 0, none⟩) (by dsimp only; omega) _).setCell (p := ⟨w.heap.size + 1 + 1, 1, none⟩) (by dsimp only; omega) _⟩
set_option maxRecDepth 1000000 in
set_option maxHeartbeats 8000000 in
theorem add_bad2 (k : Nat) (A0 : Option Addr) (c0 : Nat) (l0 : List Int) (A1 : Option Addr) (c1 : Nat) (l1 : List Int) (A2 : Option Addr) (c2 : Nat) (l2 : List Int) (A3 : Option Addr) (c3 : Nat) (l3 : List Int) (x1 x2 : List Int) (x3 : Int) (w : World) (hL : Live w [(.slice A0 l0.length c0, l0), (.slice A1 l1.length c1, l1), (.slice A2 l2.length c2, l2), (.slice A3 l3.length c3, l3)])
    (hE1 : number_CheckFraction.f k l0 l1 = some 0)
    (hE2 : number_CheckFraction.f k l2 l3 = some 8)
    (hBD : number_bounded.f [] [] 8 = some (x1, x2, x3))
    :
    Calls Try.prog 42 #[.agg #[.slice A0 l0.length c0, .slice A1 l1.length c1], .agg #[.slice A2 l2.length c2, .slice A3 l3.length c3]] w fun e w' => ∃ v0 v1 : Value, e = .returned (.tuple #[.agg #[v0, v1], .int .i64 x3]) ∧ Kd.R (Kd.int .u32) 84 w' w.heap.size (fun k => some k ≠ v1.ownBlock) v0 x1 ∧ Kd.R (Kd.int .u32) 84 w' w.heap.size (fun k => some k ≠ v0.ownBlock) v1 x2 ∧ Below w.heap.size w w' := by
  have HL := Aside0.mk hL
  clear hL
  have E1 := Aside0.mk hE1
  have E2 := Aside0.mk hE2
  have BD := Aside0.mk hBD
  clear hE1 hE2 hBD
  have HB := Aside0.mk (Below.refl w.heap.size w)
  go_enter Try.func42, Try.ntmps42
  go_upto_region 1 with fail
  have HX0 := Aside0.mk (show ((w.alloc (Obj.cells #[.slice A0 l0.length c0, .slice A1 l1.length c1] 54)).alloc (Obj.cells #[.slice A2 l2.length c2, .slice A3 l3.length c3] 54)).heap[w.heap.size]? = some (.cells #[.slice A0 l0.length c0, .slice A1 l1.length c1] 54 (0, 0)) from blk_alloc (blk_new w _) _)
  have HX1 := Aside0.mk (show ((w.alloc (Obj.cells #[.slice A0 l0.length c0, .slice A1 l1.length c1] 54)).alloc (Obj.cells #[.slice A2 l2.length c2, .slice A3 l3.length c3] 54)).heap[w.heap.size + 1]? = some (.cells #[.slice A2 l2.length c2, .slice A3 l3.length c3] 54 (0, 0)) from by have := blk_new (w.alloc (Obj.cells #[.slice A0 l0.length c0, .slice A1 l1.length c1] 54)) (Obj.cells #[.slice A2 l2.length c2, .slice A3 l3.length c3] 54); rwa [World.size_alloc] at this)
  have nx0_ := Aside0.mk (blk_alloc HX0.out (Obj.cells #[Value.slice none 0 0, Value.slice none 0 0] 54))
  have nx1_ := Aside0.mk (blk_alloc HX1.out (Obj.cells #[Value.slice none 0 0, Value.slice none 0 0] 54))
  clear HX0 HX1
  have HX0 := nx0_
  have HX1 := nx1_
  clear nx0_ nx1_
  have HX2 := Aside0.mk (show (((w.alloc (Obj.cells #[.slice A0 l0.length c0, .slice A1 l1.length c1] 54)).alloc (Obj.cells #[.slice A2 l2.length c2, .slice A3 l3.length c3] 54)).alloc (Obj.cells #[Value.slice none 0 0, Value.slice none 0 0] 54)).heap[w.heap.size + 1 + 1]? = some (.cells #[Value.slice none 0 0, Value.slice none 0 0] 54 (0, 0)) from by have := blk_new ((w.alloc (Obj.cells #[.slice A0 l0.length c0, .slice A1 l1.length c1] 54)).alloc (Obj.cells #[.slice A2 l2.length c2, .slice A3 l3.length c3] 54)) (Obj.cells #[Value.slice none 0 0, Value.slice none 0 0] 54); rwa [World.size_alloc, World.size_alloc] at this)
  have nl_ := Aside0.mk (live_alloc (live_alloc (live_alloc HL.out (Obj.cells #[.slice A0 l0.length c0, .slice A1 l1.length c1] 54)) (Obj.cells #[.slice A2 l2.length c2, .slice A3 l3.length c3] 54)) (Obj.cells #[Value.slice none 0 0, Value.slice none 0 0] 54))
  have nb_ := Aside0.mk (below_alloc (below_alloc (below_alloc HB.out (Obj.cells #[.slice A0 l0.length c0, .slice A1 l1.length c1] 54)) (Obj.cells #[.slice A2 l2.length c2, .slice A3 l3.length c3] 54)) (Obj.cells #[Value.slice none 0 0, Value.slice none 0 0] 54))
  clear HL HB
  have HL := nl_
  have HB := nb_
  clear nl_ nb_
  generalize hW0 : (((w.alloc (Obj.cells #[.slice A0 l0.length c0, .slice A1 l1.length c1] 54)).alloc (Obj.cells #[.slice A2 l2.length c2, .slice A3 l3.length c3] 54)).alloc (Obj.cells #[Value.slice none 0 0, Value.slice none 0 0] 54)) = W0 at *
  clear hW0
  have q00 : W0.cell? ⟨w.heap.size, 0, none⟩ = some (.slice A0 l0.length c0) := (blk_cell HX0.out 0).trans rfl
  have q01 : W0.cell? ⟨w.heap.size, 1, none⟩ = some (.slice A1 l1.length c1) := (blk_cell HX0.out 1).trans rfl
  have q10 : W0.cell? ⟨w.heap.size + 1, 0, none⟩ = some (.slice A2 l2.length c2) := (blk_cell HX1.out 0).trans rfl
  have q11 : W0.cell? ⟨w.heap.size + 1, 1, none⟩ = some (.slice A3 l3.length c3) := (blk_cell HX1.out 1).trans rfl
  go_wp2_with (first | (go_at_call 95; go_loud ((refine (cross_frac96_bad2 k _ _ _ _ _ _ _ _ _ _ _ _ (w.heap.size) (w.heap.size + 1) _ ?hl E1.out E2.out).mono ?_); (case hl => exact HL.out); rintro e wn ⟨v0, v1, rfl, ho, hu, hb⟩; obtain ⟨Av, cv, rfl, _, _⟩ := Kd.R_reads ho; obtain ⟨Au, cu, rfl, _, _⟩ := Kd.R_reads hu; have HSZ := Aside0.mk (And.intro HB.out.size (blk_lt HX2.out)); have nx2_ := Aside0.mk ((hb.block _ (blk_lt HX2.out)).trans HX2.out); have nb_ := Aside0.mk (below_step HB.out hb); have HO := Aside0.mk (Kd.R_lower (Kd.R_bound ho) HSZ.out.1); have HU := Aside0.mk (Kd.R_lower (Kd.R_bound hu) HSZ.out.1); clear HB HX2 hb ho hu; have HB := nb_; have HX2 := nx2_; clear nb_ nx2_)) | (go_at_call 94; go_loud ((have hs_ := HSZ.out); (have s0_ := Kd.R_mono HO.out (ok' := (fun k => w.heap.size + 1 + 1 < k ∧ some k ≠ (Value.slice Au ([] : List Int).length cu).ownBlock)) (fun k hk => ⟨by have := hk.2.1; omega, hk.1⟩)); (have s1_ := Kd.R_mono (Kd.R_tight rfl HU.out) (ok' := (fun k => w.heap.size + 1 + 1 < k ∧ some k = (Value.slice Au ([] : List Int).length cu).ownBlock)) (fun k hk => ⟨by have := (HU.out.1 k hk.symm).2.1; omega, hk⟩)); (refine (number_bounded.calls _ _ _ _ _ _ _ x1 x2 x3 w _ HB.out s0_ (fun _ h1 h2 => h1.2 h2.2) s1_ (fun _ h1 h2 => h2.2 h1.2) BD.out).mono ?_); rintro e wm ⟨z0, z1, rfl, hz0, hz1, hbb, hkk⟩; obtain ⟨Az, cz, rfl, _, _⟩ := Kd.R_reads hz0; obtain ⟨Ay, cy, rfl, _, _⟩ := Kd.R_reads hz1; have nx2_ := Aside0.mk ((hkk.2 _ (blk_lt HX2.out) (by rintro (h | h) <;> exact Nat.lt_irrefl _ h.1)).trans HX2.out); have HLT := Aside0.mk (blk_lt HX2.out); have HZ := Aside0.mk hz0; have HY := Aside0.mk hz1; clear HB HX2 s0_ s1_ hs_ HO HU hkk hz0 hz1; have HB := Aside0.mk hbb; have HX2 := nx2_; clear nx2_ hbb; have q20 : wm.cell? ⟨w.heap.size + 1 + 1, 0, none⟩ = some (.slice none 0 0) := (blk_cell HX2.out 0).trans rfl; have q21 : wm.cell? ⟨w.heap.size + 1 + 1, 1, none⟩ = some (.slice none 0 0) := (blk_cell HX2.out 1).trans rfl; have f20 := blk_frozen HX2.out 0; have f21 := blk_frozen HX2.out 1)))
  refine bodyPost_ret (results_ct rfl _ _ (w.heap.size + 1 + 1) 54 #[.slice Az x1.length cz, .slice Ay x2.length cy] (0, 0) _ rfl (blk_put (cs := #[.slice Az x1.length cz, .slice none 0 0]) (blk_put (cs := #[.slice none 0 0, .slice none 0 0]) HX2.out 0 _ rfl) 1 _ rfl) Try.underlying54 rfl (by kernel_rfl)) rfl ?_
  have hlt := HLT.out
  have far : ∀ k, (((w.heap.size + 1 + 1 < k ∧ some k ≠ (Value.slice Au ([] : List Int).length cu).ownBlock) ∨ (w.heap.size + 1 + 1 < k ∧ some k = (Value.slice Au ([] : List Int).length cu).ownBlock)) ∨ wn.heap.size ≤ k) → k ≠ w.heap.size + 1 + 1 := fun k hk => by
    rcases hk with (h | h) | h
    · omega
    · omega
    · omega
  exact ⟨_, _, rfl, Kd.R_mono (Kd.R_far (p := ⟨w.heap.size + 1 + 1, 1, none⟩) (Kd.R_far (p := ⟨w.heap.size + 1 + 1, 0, none⟩) HZ.out (fun k hk => far k hk.1) _) (fun k hk => far k hk.1) _) (fun k hk => hk.2), Kd.R_mono (Kd.R_far (p := ⟨w.heap.size + 1 + 1, 1, none⟩) (Kd.R_far (p := ⟨w.heap.size + 1 + 1, 0, none⟩) HY.out (fun k hk => far k hk.1) _) (fun k hk => far k hk.1) _) (fun k hk => hk.2), (HB.out.setCell (p := ⟨w.heap.size + 1 + 1, 0, none⟩) (by dsimp only; omega) _).setCell (p := ⟨w.heap.size + 1 + 1, 1, none⟩) (by dsimp only; omega) _⟩
theorem number_AddFractions.calls (k : Nat) (A0 : Option Addr) (c0 : Nat) (l0 : List Int) (A1 : Option Addr) (c1 : Nat) (l1 : List Int) (A2 : Option Addr) (c2 : Nat) (l2 : List Int) (A3 : Option Addr) (c3 : Nat) (l3 : List Int) (x1 x2 : List Int) (x3 : Int) (w : World) (hL : Live w [(.slice A0 l0.length c0, l0), (.slice A1 l1.length c1, l1), (.slice A2 l2.length c2, l2), (.slice A3 l3.length c3, l3)]) (h : number_AddFractions.f k l0 l1 l2 l3 = some (x1, x2, x3)) :
    Calls Try.prog 42 #[.agg #[.slice A0 l0.length c0, .slice A1 l1.length c1], .agg #[.slice A2 l2.length c2, .slice A3 l3.length c3]] w fun e w' => ∃ v0 v1 : Value, e = .returned (.tuple #[.agg #[v0, v1], .int .i64 x3]) ∧ Kd.R (Kd.int .u32) 84 w' w.heap.size (fun k => some k ≠ v1.ownBlock) v0 x1 ∧ Kd.R (Kd.int .u32) 84 w' w.heap.size (fun k => some k ≠ v0.ownBlock) v1 x2 ∧ Below w.heap.size w w' := by
  unfold number_AddFractions.f at h
  obtain ⟨e1, h1, h⟩ := Option.bind_eq_some_iff.mp h
  by_cases z1 : e1 = 0
  case neg =>
    rw [if_neg z1] at h
    obtain rfl := check_two k _ _ _ h1 z1
    exact add_bad1 k A0 c0 l0 A1 c1 l1 A2 c2 l2 A3 c3 l3 x1 x2 x3 w hL h1 h
  rw [if_pos z1] at h
  subst z1
  obtain ⟨e2, h2, h⟩ := Option.bind_eq_some_iff.mp h
  by_cases z2 : e2 = 0
  case neg =>
    rw [if_neg z2] at h
    obtain rfl := check_two k _ _ _ h2 z2
    exact add_bad2 k A0 c0 l0 A1 c1 l1 A2 c2 l2 A3 c3 l3 x1 x2 x3 w hL h1 h2 h
  rw [if_pos z2] at h
  subst z2
  obtain ⟨p, g0, h⟩ := Option.bind_eq_some_iff.mp h
  obtain ⟨q, g1, h⟩ := Option.bind_eq_some_iff.mp h
  obtain ⟨s, g2, h⟩ := Option.bind_eq_some_iff.mp h
  obtain ⟨d, g3, h⟩ := Option.bind_eq_some_iff.mp h
  obtain ⟨r, g4, h⟩ := Option.bind_eq_some_iff.mp h
  exact add_good k A0 c0 l0 A1 c1 l1 A2 c2 l2 A3 c3 l3 p q s d r.1 r.2 x1 x2 x3 w hL h1 h2 g0 g1 g2 g3 g4 h
def number_MulFractions.f (k : Nat) (l0 l1 l2 l3 : List Int) : Option (List Int × List Int × Int) := (number_CheckFraction.f k l0 l1).bind fun e1 => if e1 = 0 then (number_CheckFraction.f k l2 l3).bind fun e2 => if e2 = 0 then ((number_times.f k l0 l3).bind fun p => (number_times.f k l2 l1).bind fun q => (number_times.f k l0 l2).bind fun s => (number_times.f k l1 l3).bind fun d => (number_lowest.f k s d).bind fun r => number_bounded.f r.1 r.2 0) else number_bounded.f [] [] 8 else number_bounded.f [] [] 8
set_option maxRecDepth 1000000 in
set_option maxHeartbeats 8000000 in
theorem mul_good (k : Nat) (A0 : Option Addr) (c0 : Nat) (l0 : List Int) (A1 : Option Addr) (c1 : Nat) (l1 : List Int) (A2 : Option Addr) (c2 : Nat) (l2 : List Int) (A3 : Option Addr) (c3 : Nat) (l3 : List Int) (p q s d r1 r2 : List Int) (x1 x2 : List Int) (x3 : Int) (w : World) (hL : Live w [(.slice A0 l0.length c0, l0), (.slice A1 l1.length c1, l1), (.slice A2 l2.length c2, l2), (.slice A3 l3.length c3, l3)])
    (hE1 : number_CheckFraction.f k l0 l1 = some 0)
    (hE2 : number_CheckFraction.f k l2 l3 = some 0)
    (hT1 : number_times.f k l0 l3 = some p)
    (hT2 : number_times.f k l2 l1 = some q)
    (hPL : number_times.f k l0 l2 = some s)
    (hTD : number_times.f k l1 l3 = some d)
    (hLO : number_lowest.f k s d = some (r1, r2))
    (hBD : number_bounded.f r1 r2 0 = some (x1, x2, x3))
    :
    Calls Try.prog 45 #[.agg #[.slice A0 l0.length c0, .slice A1 l1.length c1], .agg #[.slice A2 l2.length c2, .slice A3 l3.length c3]] w fun e w' => ∃ v0 v1 : Value, e = .returned (.tuple #[.agg #[v0, v1], .int .i64 x3]) ∧ Kd.R (Kd.int .u32) 84 w' w.heap.size (fun k => some k ≠ v1.ownBlock) v0 x1 ∧ Kd.R (Kd.int .u32) 84 w' w.heap.size (fun k => some k ≠ v0.ownBlock) v1 x2 ∧ Below w.heap.size w w' := by
  have HL := Aside0.mk hL
  clear hL
  have E1 := Aside0.mk hE1
  have E2 := Aside0.mk hE2
  have T1 := Aside0.mk hT1
  have T2 := Aside0.mk hT2
  have PL := Aside0.mk hPL
  have TD := Aside0.mk hTD
  have LO := Aside0.mk hLO
  have BD := Aside0.mk hBD
  clear hE1 hE2 hT1 hT2 hPL hTD hLO hBD
  have HB := Aside0.mk (Below.refl w.heap.size w)
  go_enter Try.func45, Try.ntmps45
  go_upto_region 1 with fail
  have HX0 := Aside0.mk (show ((w.alloc (Obj.cells #[.slice A0 l0.length c0, .slice A1 l1.length c1] 54)).alloc (Obj.cells #[.slice A2 l2.length c2, .slice A3 l3.length c3] 54)).heap[w.heap.size]? = some (.cells #[.slice A0 l0.length c0, .slice A1 l1.length c1] 54 (0, 0)) from blk_alloc (blk_new w _) _)
  have HX1 := Aside0.mk (show ((w.alloc (Obj.cells #[.slice A0 l0.length c0, .slice A1 l1.length c1] 54)).alloc (Obj.cells #[.slice A2 l2.length c2, .slice A3 l3.length c3] 54)).heap[w.heap.size + 1]? = some (.cells #[.slice A2 l2.length c2, .slice A3 l3.length c3] 54 (0, 0)) from by have := blk_new (w.alloc (Obj.cells #[.slice A0 l0.length c0, .slice A1 l1.length c1] 54)) (Obj.cells #[.slice A2 l2.length c2, .slice A3 l3.length c3] 54); rwa [World.size_alloc] at this)
  have nx0_ := Aside0.mk (blk_alloc HX0.out (Obj.cells #[Value.slice none 0 0, Value.slice none 0 0] 54))
  have nx1_ := Aside0.mk (blk_alloc HX1.out (Obj.cells #[Value.slice none 0 0, Value.slice none 0 0] 54))
  clear HX0 HX1
  have HX0 := nx0_
  have HX1 := nx1_
  clear nx0_ nx1_
  have HX2 := Aside0.mk (show (((w.alloc (Obj.cells #[.slice A0 l0.length c0, .slice A1 l1.length c1] 54)).alloc (Obj.cells #[.slice A2 l2.length c2, .slice A3 l3.length c3] 54)).alloc (Obj.cells #[Value.slice none 0 0, Value.slice none 0 0] 54)).heap[w.heap.size + 1 + 1]? = some (.cells #[Value.slice none 0 0, Value.slice none 0 0] 54 (0, 0)) from by have := blk_new ((w.alloc (Obj.cells #[.slice A0 l0.length c0, .slice A1 l1.length c1] 54)).alloc (Obj.cells #[.slice A2 l2.length c2, .slice A3 l3.length c3] 54)) (Obj.cells #[Value.slice none 0 0, Value.slice none 0 0] 54); rwa [World.size_alloc, World.size_alloc] at this)
  have nl_ := Aside0.mk (live_alloc (live_alloc (live_alloc HL.out (Obj.cells #[.slice A0 l0.length c0, .slice A1 l1.length c1] 54)) (Obj.cells #[.slice A2 l2.length c2, .slice A3 l3.length c3] 54)) (Obj.cells #[Value.slice none 0 0, Value.slice none 0 0] 54))
  have nb_ := Aside0.mk (below_alloc (below_alloc (below_alloc HB.out (Obj.cells #[.slice A0 l0.length c0, .slice A1 l1.length c1] 54)) (Obj.cells #[.slice A2 l2.length c2, .slice A3 l3.length c3] 54)) (Obj.cells #[Value.slice none 0 0, Value.slice none 0 0] 54))
  clear HL HB
  have HL := nl_
  have HB := nb_
  clear nl_ nb_
  generalize hW0 : (((w.alloc (Obj.cells #[.slice A0 l0.length c0, .slice A1 l1.length c1] 54)).alloc (Obj.cells #[.slice A2 l2.length c2, .slice A3 l3.length c3] 54)).alloc (Obj.cells #[Value.slice none 0 0, Value.slice none 0 0] 54)) = W0 at *
  clear hW0
  have q00 : W0.cell? ⟨w.heap.size, 0, none⟩ = some (.slice A0 l0.length c0) := (blk_cell HX0.out 0).trans rfl
  have q01 : W0.cell? ⟨w.heap.size, 1, none⟩ = some (.slice A1 l1.length c1) := (blk_cell HX0.out 1).trans rfl
  have q10 : W0.cell? ⟨w.heap.size + 1, 0, none⟩ = some (.slice A2 l2.length c2) := (blk_cell HX1.out 0).trans rfl
  have q11 : W0.cell? ⟨w.heap.size + 1, 1, none⟩ = some (.slice A3 l3.length c3) := (blk_cell HX1.out 1).trans rfl
  go_wp2_with (first | (go_at_call 95; go_loud ((refine (cross_frac98 k _ _ _ _ _ _ _ _ _ _ _ _ p q r1 r2 (w.heap.size) (w.heap.size + 1) _ ?hl E1.out E2.out T1.out T2.out ?hdo).mono ?_); (case hl => exact HL.out); (case hdo => exact fun W' Ap cp Aq cq hb hl => closure98 k A0 c0 l0 A1 c1 l1 A2 c2 l2 A3 c3 l3 Ap cp p Aq cq q s d r1 r2 _ _ W' (live_join hl (live_below HL.out hb)) ((hb.block _ (blk_lt HX0.out)).trans HX0.out) ((hb.block _ (blk_lt HX1.out)).trans HX1.out) PL.out TD.out LO.out); rintro e wn ⟨v0, v1, rfl, ho, hu, hb⟩; obtain ⟨Av, cv, rfl, _, _⟩ := Kd.R_reads ho; obtain ⟨Au, cu, rfl, _, _⟩ := Kd.R_reads hu; have HSZ := Aside0.mk (And.intro HB.out.size (blk_lt HX2.out)); have nx2_ := Aside0.mk ((hb.block _ (blk_lt HX2.out)).trans HX2.out); have nb_ := Aside0.mk (below_step HB.out hb); have HO := Aside0.mk (Kd.R_lower (Kd.R_bound ho) HSZ.out.1); have HU := Aside0.mk (Kd.R_lower (Kd.R_bound hu) HSZ.out.1); clear HB HX2 hb ho hu; have HB := nb_; have HX2 := nx2_; clear nb_ nx2_)) | (go_at_call 94; go_loud ((have hs_ := HSZ.out); (have s0_ := Kd.R_mono HO.out (ok' := (fun k => w.heap.size + 1 + 1 < k ∧ some k ≠ (Value.slice Au r2.length cu).ownBlock)) (fun k hk => ⟨by have := hk.2.1; omega, hk.1⟩)); (have s1_ := Kd.R_mono (Kd.R_tight rfl HU.out) (ok' := (fun k => w.heap.size + 1 + 1 < k ∧ some k = (Value.slice Au r2.length cu).ownBlock)) (fun k hk => ⟨by have := (HU.out.1 k hk.symm).2.1; omega, hk⟩)); (refine (number_bounded.calls _ _ _ _ _ _ _ x1 x2 x3 w _ HB.out s0_ (fun _ h1 h2 => h1.2 h2.2) s1_ (fun _ h1 h2 => h2.2 h1.2) BD.out).mono ?_); rintro e wm ⟨z0, z1, rfl, hz0, hz1, hbb, hkk⟩; obtain ⟨Az, cz, rfl, _, _⟩ := Kd.R_reads hz0; obtain ⟨Ay, cy, rfl, _, _⟩ := Kd.R_reads hz1; have nx2_ := Aside0.mk ((hkk.2 _ (blk_lt HX2.out) (by rintro (h | h) <;> exact Nat.lt_irrefl _ h.1)).trans HX2.out); have HLT := Aside0.mk (blk_lt HX2.out); have HZ := Aside0.mk hz0; have HY := Aside0.mk hz1; clear HB HX2 s0_ s1_ hs_ HO HU hkk hz0 hz1; have HB := Aside0.mk hbb; have HX2 := nx2_; clear nx2_ hbb; have q20 : wm.cell? ⟨w.heap.size + 1 + 1, 0, none⟩ = some (.slice none 0 0) := (blk_cell HX2.out 0).trans rfl; have q21 : wm.cell? ⟨w.heap.size + 1 + 1, 1, none⟩ = some (.slice none 0 0) := (blk_cell HX2.out 1).trans rfl; have f20 := blk_frozen HX2.out 0; have f21 := blk_frozen HX2.out 1)))
  refine bodyPost_ret (results_ct rfl _ _ (w.heap.size + 1 + 1) 54 #[.slice Az x1.length cz, .slice Ay x2.length cy] (0, 0) _ rfl (blk_put (cs := #[.slice Az x1.length cz, .slice none 0 0]) (blk_put (cs := #[.slice none 0 0, .slice none 0 0]) HX2.out 0 _ rfl) 1 _ rfl) Try.underlying54 rfl (by kernel_rfl)) rfl ?_
  have hlt := HLT.out
  have far : ∀ k, (((w.heap.size + 1 + 1 < k ∧ some k ≠ (Value.slice Au r2.length cu).ownBlock) ∨ (w.heap.size + 1 + 1 < k ∧ some k = (Value.slice Au r2.length cu).ownBlock)) ∨ wn.heap.size ≤ k) → k ≠ w.heap.size + 1 + 1 := fun k hk => by
    rcases hk with (h | h) | h
    · omega
    · omega
    · omega
  exact ⟨_, _, rfl, Kd.R_mono (Kd.R_far (p := ⟨w.heap.size + 1 + 1, 1, none⟩) (Kd.R_far (p := ⟨w.heap.size + 1 + 1, 0, none⟩) HZ.out (fun k hk => far k hk.1) _) (fun k hk => far k hk.1) _) (fun k hk => hk.2), Kd.R_mono (Kd.R_far (p := ⟨w.heap.size + 1 + 1, 1, none⟩) (Kd.R_far (p := ⟨w.heap.size + 1 + 1, 0, none⟩) HY.out (fun k hk => far k hk.1) _) (fun k hk => far k hk.1) _) (fun k hk => hk.2), (HB.out.setCell (p := ⟨w.heap.size + 1 + 1, 0, none⟩) (by dsimp only; omega) _).setCell (p := ⟨w.heap.size + 1 + 1, 1, none⟩) (by dsimp only; omega) _⟩
set_option maxRecDepth 1000000 in
set_option maxHeartbeats 8000000 in
theorem mul_bad1 (k : Nat) (A0 : Option Addr) (c0 : Nat) (l0 : List Int) (A1 : Option Addr) (c1 : Nat) (l1 : List Int) (A2 : Option Addr) (c2 : Nat) (l2 : List Int) (A3 : Option Addr) (c3 : Nat) (l3 : List Int) (x1 x2 : List Int) (x3 : Int) (w : World) (hL : Live w [(.slice A0 l0.length c0, l0), (.slice A1 l1.length c1, l1), (.slice A2 l2.length c2, l2), (.slice A3 l3.length c3, l3)])
    (hE1 : number_CheckFraction.f k l0 l1 = some 8)
    (hBD : number_bounded.f [] [] 8 = some (x1, x2, x3))
    :
    Calls Try.prog 45 #[.agg #[.slice A0 l0.length c0, .slice A1 l1.length c1], .agg #[.slice A2 l2.length c2, .slice A3 l3.length c3]] w fun e w' => ∃ v0 v1 : Value, e = .returned (.tuple #[.agg #[v0, v1], .int .i64 x3]) ∧ Kd.R (Kd.int .u32) 84 w' w.heap.size (fun k => some k ≠ v1.ownBlock) v0 x1 ∧ Kd.R (Kd.int .u32) 84 w' w.heap.size (fun k => some k ≠ v0.ownBlock) v1 x2 ∧ Below w.heap.size w w' := by
  have HL := Aside0.mk hL
  clear hL
  have E1 := Aside0.mk hE1
  have BD := Aside0.mk hBD
  clear hE1 hBD
  have HB := Aside0.mk (Below.refl w.heap.size w)
  go_enter Try.func45, Try.ntmps45
  go_upto_region 1 with fail
  have HX0 := Aside0.mk (show ((w.alloc (Obj.cells #[.slice A0 l0.length c0, .slice A1 l1.length c1] 54)).alloc (Obj.cells #[.slice A2 l2.length c2, .slice A3 l3.length c3] 54)).heap[w.heap.size]? = some (.cells #[.slice A0 l0.length c0, .slice A1 l1.length c1] 54 (0, 0)) from blk_alloc (blk_new w _) _)
  have HX1 := Aside0.mk (show ((w.alloc (Obj.cells #[.slice A0 l0.length c0, .slice A1 l1.length c1] 54)).alloc (Obj.cells #[.slice A2 l2.length c2, .slice A3 l3.length c3] 54)).heap[w.heap.size + 1]? = some (.cells #[.slice A2 l2.length c2, .slice A3 l3.length c3] 54 (0, 0)) from by have := blk_new (w.alloc (Obj.cells #[.slice A0 l0.length c0, .slice A1 l1.length c1] 54)) (Obj.cells #[.slice A2 l2.length c2, .slice A3 l3.length c3] 54); rwa [World.size_alloc] at this)
  have nx0_ := Aside0.mk (blk_alloc HX0.out (Obj.cells #[Value.slice none 0 0, Value.slice none 0 0] 54))
  have nx1_ := Aside0.mk (blk_alloc HX1.out (Obj.cells #[Value.slice none 0 0, Value.slice none 0 0] 54))
  clear HX0 HX1
  have HX0 := nx0_
  have HX1 := nx1_
  clear nx0_ nx1_
  have HX2 := Aside0.mk (show (((w.alloc (Obj.cells #[.slice A0 l0.length c0, .slice A1 l1.length c1] 54)).alloc (Obj.cells #[.slice A2 l2.length c2, .slice A3 l3.length c3] 54)).alloc (Obj.cells #[Value.slice none 0 0, Value.slice none 0 0] 54)).heap[w.heap.size + 1 + 1]? = some (.cells #[Value.slice none 0 0, Value.slice none 0 0] 54 (0, 0)) from by have := blk_new ((w.alloc (Obj.cells #[.slice A0 l0.length c0, .slice A1 l1.length c1] 54)).alloc (Obj.cells #[.slice A2 l2.length c2, .slice A3 l3.length c3] 54)) (Obj.cells #[Value.slice none 0 0, Value.slice none 0 0] 54); rwa [World.size_alloc, World.size_alloc] at this)
  have nl_ := Aside0.mk (live_alloc (live_alloc (live_alloc HL.out (Obj.cells #[.slice A0 l0.length c0, .slice A1 l1.length c1] 54)) (Obj.cells #[.slice A2 l2.length c2, .slice A3 l3.length c3] 54)) (Obj.cells #[Value.slice none 0 0, Value.slice none 0 0] 54))
  have nb_ := Aside0.mk (below_alloc (below_alloc (below_alloc HB.out (Obj.cells #[.slice A0 l0.length c0, .slice A1 l1.length c1] 54)) (Obj.cells #[.slice A2 l2.length c2, .slice A3 l3.length c3] 54)) (Obj.cells #[Value.slice none 0 0, Value.slice none 0 0] 54))
  clear HL HB
  have HL := nl_
  have HB := nb_
  clear nl_ nb_
  generalize hW0 : (((w.alloc (Obj.cells #[.slice A0 l0.length c0, .slice A1 l1.length c1] 54)).alloc (Obj.cells #[.slice A2 l2.length c2, .slice A3 l3.length c3] 54)).alloc (Obj.cells #[Value.slice none 0 0, Value.slice none 0 0] 54)) = W0 at *
  clear hW0
  have q00 : W0.cell? ⟨w.heap.size, 0, none⟩ = some (.slice A0 l0.length c0) := (blk_cell HX0.out 0).trans rfl
  have q01 : W0.cell? ⟨w.heap.size, 1, none⟩ = some (.slice A1 l1.length c1) := (blk_cell HX0.out 1).trans rfl
  have q10 : W0.cell? ⟨w.heap.size + 1, 0, none⟩ = some (.slice A2 l2.length c2) := (blk_cell HX1.out 0).trans rfl
  have q11 : W0.cell? ⟨w.heap.size + 1, 1, none⟩ = some (.slice A3 l3.length c3) := (blk_cell HX1.out 1).trans rfl
  go_wp2_with (first | (go_at_call 95; go_loud ((refine (cross_frac98_bad1 k _ _ _ _ _ _ _ _ _ _ _ _ (w.heap.size) (w.heap.size + 1) _ ?hl E1.out).mono ?_); (case hl => exact HL.out); rintro e wn ⟨v0, v1, rfl, ho, hu, hb⟩; obtain ⟨Av, cv, rfl, _, _⟩ := Kd.R_reads ho; obtain ⟨Au, cu, rfl, _, _⟩ := Kd.R_reads hu; have HSZ := Aside0.mk (And.intro HB.out.size (blk_lt HX2.out)); have nx2_ := Aside0.mk ((hb.block _ (blk_lt HX2.out)).trans HX2.out); have nb_ := Aside0.mk (below_step HB.out hb); have HO := Aside0.mk (Kd.R_lower (Kd.R_bound ho) HSZ.out.1); have HU := Aside0.mk (Kd.R_lower (Kd.R_bound hu) HSZ.out.1); clear HB HX2 hb ho hu; have HB := nb_; have HX2 := nx2_; clear nb_ nx2_)) | (go_at_call 94; go_loud ((have hs_ := HSZ.out); (have s0_ := Kd.R_mono HO.out (ok' := (fun k => w.heap.size + 1 + 1 < k ∧ some k ≠ (Value.slice Au ([] : List Int).length cu).ownBlock)) (fun k hk => ⟨by have := hk.2.1; omega, hk.1⟩)); (have s1_ := Kd.R_mono (Kd.R_tight rfl HU.out) (ok' := (fun k => w.heap.size + 1 + 1 < k ∧ some k = (Value.slice Au ([] : List Int).length cu).ownBlock)) (fun k hk => ⟨by have := (HU.out.1 k hk.symm).2.1; omega, hk⟩)); (refine (number_bounded.calls _ _ _ _ _ _ _ x1 x2 x3 w _ HB.out s0_ (fun _ h1 h2 => h1.2 h2.2) s1_ (fun _ h1 h2 => h2.2 h1.2) BD.out).mono ?_); rintro e wm ⟨z0, z1, rfl, hz0, hz1, hbb, hkk⟩; obtain ⟨Az, cz, rfl, _, _⟩ := Kd.R_reads hz0; obtain ⟨Ay, cy, rfl, _, _⟩ := Kd.R_reads hz1; have nx2_ := Aside0.mk ((hkk.2 _ (blk_lt HX2.out) (by rintro (h | h) <;> exact Nat.lt_irrefl _ h.1)).trans HX2.out); have HLT := Aside0.mk (blk_lt HX2.out); have HZ := Aside0.mk hz0; have HY := Aside0.mk hz1; clear HB HX2 s0_ s1_ hs_ HO HU hkk hz0 hz1; have HB := Aside0.mk hbb; have HX2 := nx2_; clear nx2_ hbb; have q20 : wm.cell? ⟨w.heap.size + 1 + 1, 0, none⟩ = some (.slice none 0 0) := (blk_cell HX2.out 0).trans rfl; have q21 : wm.cell? ⟨w.heap.size + 1 + 1, 1, none⟩ = some (.slice none 0 0) := (blk_cell HX2.out 1).trans rfl; have f20 := blk_frozen HX2.out 0; have f21 := blk_frozen HX2.out 1)))
  refine bodyPost_ret (results_ct rfl _ _ (w.heap.size + 1 + 1) 54 #[.slice Az x1.length cz, .slice Ay x2.length cy] (0, 0) _ rfl (blk_put (cs := #[.slice Az x1.length cz, .slice none 0 0]) (blk_put (cs := #[.slice none 0 0, .slice none 0 0]) HX2.out 0 _ rfl) 1 _ rfl) Try.underlying54 rfl (by kernel_rfl)) rfl ?_
  have hlt := HLT.out
  have far : ∀ k, (((w.heap.size + 1 + 1 < k ∧ some k ≠ (Value.slice Au ([] : List Int).length cu).ownBlock) ∨ (w.heap.size + 1 + 1 < k ∧ some k = (Value.slice Au ([] : List Int).length cu).ownBlock)) ∨ wn.heap.size ≤ k) → k ≠ w.heap.size + 1 + 1 := fun k hk => by
    rcases hk with (h | h) | h
    · omega
    · omega
    · omega
  exact ⟨_, _, rfl, Kd.R_mono (Kd.R_far (p := ⟨w.heap.size + 1 + 1, 1, none⟩) (Kd.R_far (p := ⟨w.heap.size + 1 + 1, 0, none⟩) HZ.out (fun k hk => far k hk.1) _) (fun k hk => far k hk.1) _) (fun k hk => hk.2), Kd.R_mono (Kd.R_far (p := ⟨w.heap.size + 1 + 1, 1, none⟩) (Kd.R_far (p := ⟨w.heap.size + 1 + 1, 0, none⟩) HY.out (fun k hk => far k hk.1) _) (fun k hk => far k hk.1) _) (fun k hk => hk.2), (HB.out.setCell (p := ⟨w.heap.size + 1 + 1, 0, none⟩) (by dsimp only; omega) _).setCell (p := ⟨w.heap.size + 1 + 1, 1, none⟩) (by dsimp only; omega) _⟩
set_option maxRecDepth 1000000 in
set_option maxHeartbeats 8000000 in
theorem mul_bad2 (k : Nat) (A0 : Option Addr) (c0 : Nat) (l0 : List Int) (A1 : Option Addr) (c1 : Nat) (l1 : List Int) (A2 : Option Addr) (c2 : Nat) (l2 : List Int) (A3 : Option Addr) (c3 : Nat) (l3 : List Int) (x1 x2 : List Int) (x3 : Int) (w : World) (hL : Live w [(.slice A0 l0.length c0, l0), (.slice A1 l1.length c1, l1), (.slice A2 l2.length c2, l2), (.slice A3 l3.length c3, l3)])
    (hE1 : number_CheckFraction.f k l0 l1 = some 0)
    (hE2 : number_CheckFraction.f k l2 l3 = some 8)
    (hBD : number_bounded.f [] [] 8 = some (x1, x2, x3))
    :
    Calls Try.prog 45 #[.agg #[.slice A0 l0.length c0, .slice A1 l1.length c1], .agg #[.slice A2 l2.length c2, .slice A3 l3.length c3]] w fun e w' => ∃ v0 v1 : Value, e = .returned (.tuple #[.agg #[v0, v1], .int .i64 x3]) ∧ Kd.R (Kd.int .u32) 84 w' w.heap.size (fun k => some k ≠ v1.ownBlock) v0 x1 ∧ Kd.R (Kd.int .u32) 84 w' w.heap.size (fun k => some k ≠ v0.ownBlock) v1 x2 ∧ Below w.heap.size w w' := by
  have HL := Aside0.mk hL
  clear hL
  have E1 := Aside0.mk hE1
  have E2 := Aside0.mk hE2
  have BD := Aside0.mk hBD
  clear hE1 hE2 hBD
  have HB := Aside0.mk (Below.refl w.heap.size w)
  go_enter Try.func45, Try.ntmps45
  go_upto_region 1 with fail
  have HX0 := Aside0.mk (show ((w.alloc (Obj.cells #[.slice A0 l0.length c0, .slice A1 l1.length c1] 54)).alloc (Obj.cells #[.slice A2 l2.length c2, .slice A3 l3.length c3] 54)).heap[w.heap.size]? = some (.cells #[.slice A0 l0.length c0, .slice A1 l1.length c1] 54 (0, 0)) from blk_alloc (blk_new w _) _)
  have HX1 := Aside0.mk (show ((w.alloc (Obj.cells #[.slice A0 l0.length c0, .slice A1 l1.length c1] 54)).alloc (Obj.cells #[.slice A2 l2.length c2, .slice A3 l3.length c3] 54)).heap[w.heap.size + 1]? = some (.cells #[.slice A2 l2.length c2, .slice A3 l3.length c3] 54 (0, 0)) from by have := blk_new (w.alloc (Obj.cells #[.slice A0 l0.length c0, .slice A1 l1.length c1] 54)) (Obj.cells #[.slice A2 l2.length c2, .slice A3 l3.length c3] 54); rwa [World.size_alloc] at this)
  have nx0_ := Aside0.mk (blk_alloc HX0.out (Obj.cells #[Value.slice none 0 0, Value.slice none 0 0] 54))
  have nx1_ := Aside0.mk (blk_alloc HX1.out (Obj.cells #[Value.slice none 0 0, Value.slice none 0 0] 54))
  clear HX0 HX1
  have HX0 := nx0_
  have HX1 := nx1_
  clear nx0_ nx1_
  have HX2 := Aside0.mk (show (((w.alloc (Obj.cells #[.slice A0 l0.length c0, .slice A1 l1.length c1] 54)).alloc (Obj.cells #[.slice A2 l2.length c2, .slice A3 l3.length c3] 54)).alloc (Obj.cells #[Value.slice none 0 0, Value.slice none 0 0] 54)).heap[w.heap.size + 1 + 1]? = some (.cells #[Value.slice none 0 0, Value.slice none 0 0] 54 (0, 0)) from by have := blk_new ((w.alloc (Obj.cells #[.slice A0 l0.length c0, .slice A1 l1.length c1] 54)).alloc (Obj.cells #[.slice A2 l2.length c2, .slice A3 l3.length c3] 54)) (Obj.cells #[Value.slice none 0 0, Value.slice none 0 0] 54); rwa [World.size_alloc, World.size_alloc] at this)
  have nl_ := Aside0.mk (live_alloc (live_alloc (live_alloc HL.out (Obj.cells #[.slice A0 l0.length c0, .slice A1 l1.length c1] 54)) (Obj.cells #[.slice A2 l2.length c2, .slice A3 l3.length c3] 54)) (Obj.cells #[Value.slice none 0 0, Value.slice none 0 0] 54))
  have nb_ := Aside0.mk (below_alloc (below_alloc (below_alloc HB.out (Obj.cells #[.slice A0 l0.length c0, .slice A1 l1.length c1] 54)) (Obj.cells #[.slice A2 l2.length c2, .slice A3 l3.length c3] 54)) (Obj.cells #[Value.slice none 0 0, Value.slice none 0 0] 54))
  clear HL HB
  have HL := nl_
  have HB := nb_
  clear nl_ nb_
  generalize hW0 : (((w.alloc (Obj.cells #[.slice A0 l0.length c0, .slice A1 l1.length c1] 54)).alloc (Obj.cells #[.slice A2 l2.length c2, .slice A3 l3.length c3] 54)).alloc (Obj.cells #[Value.slice none 0 0, Value.slice none 0 0] 54)) = W0 at *
  clear hW0
  have q00 : W0.cell? ⟨w.heap.size, 0, none⟩ = some (.slice A0 l0.length c0) := (blk_cell HX0.out 0).trans rfl
  have q01 : W0.cell? ⟨w.heap.size, 1, none⟩ = some (.slice A1 l1.length c1) := (blk_cell HX0.out 1).trans rfl
  have q10 : W0.cell? ⟨w.heap.size + 1, 0, none⟩ = some (.slice A2 l2.length c2) := (blk_cell HX1.out 0).trans rfl
  have q11 : W0.cell? ⟨w.heap.size + 1, 1, none⟩ = some (.slice A3 l3.length c3) := (blk_cell HX1.out 1).trans rfl
  go_wp2_with (first | (go_at_call 95; go_loud ((refine (cross_frac98_bad2 k _ _ _ _ _ _ _ _ _ _ _ _ (w.heap.size) (w.heap.size + 1) _ ?hl E1.out E2.out).mono ?_); (case hl => exact HL.out); rintro e wn ⟨v0, v1, rfl, ho, hu, hb⟩; obtain ⟨Av, cv, rfl, _, _⟩ := Kd.R_reads ho; obtain ⟨Au, cu, rfl, _, _⟩ := Kd.R_reads hu; have HSZ := Aside0.mk (And.intro HB.out.size (blk_lt HX2.out)); have nx2_ := Aside0.mk ((hb.block _ (blk_lt HX2.out)).trans HX2.out); have nb_ := Aside0.mk (below_step HB.out hb); have HO := Aside0.mk (Kd.R_lower (Kd.R_bound ho) HSZ.out.1); have HU := Aside0.mk (Kd.R_lower (Kd.R_bound hu) HSZ.out.1); clear HB HX2 hb ho hu; have HB := nb_; have HX2 := nx2_; clear nb_ nx2_)) | (go_at_call 94; go_loud ((have hs_ := HSZ.out); (have s0_ := Kd.R_mono HO.out (ok' := (fun k => w.heap.size + 1 + 1 < k ∧ some k ≠ (Value.slice Au ([] : List Int).length cu).ownBlock)) (fun k hk => ⟨by have := hk.2.1; omega, hk.1⟩)); (have s1_ := Kd.R_mono (Kd.R_tight rfl HU.out) (ok' := (fun k => w.heap.size + 1 + 1 < k ∧ some k = (Value.slice Au ([] : List Int).length cu).ownBlock)) (fun k hk => ⟨by have := (HU.out.1 k hk.symm).2.1; omega, hk⟩)); (refine (number_bounded.calls _ _ _ _ _ _ _ x1 x2 x3 w _ HB.out s0_ (fun _ h1 h2 => h1.2 h2.2) s1_ (fun _ h1 h2 => h2.2 h1.2) BD.out).mono ?_); rintro e wm ⟨z0, z1, rfl, hz0, hz1, hbb, hkk⟩; obtain ⟨Az, cz, rfl, _, _⟩ := Kd.R_reads hz0; obtain ⟨Ay, cy, rfl, _, _⟩ := Kd.R_reads hz1; have nx2_ := Aside0.mk ((hkk.2 _ (blk_lt HX2.out) (by rintro (h | h) <;> exact Nat.lt_irrefl _ h.1)).trans HX2.out); have HLT := Aside0.mk (blk_lt HX2.out); have HZ := Aside0.mk hz0; have HY := Aside0.mk hz1; clear HB HX2 s0_ s1_ hs_ HO HU hkk hz0 hz1; have HB := Aside0.mk hbb; have HX2 := nx2_; clear nx2_ hbb; have q20 : wm.cell? ⟨w.heap.size + 1 + 1, 0, none⟩ = some (.slice none 0 0) := (blk_cell HX2.out 0).trans rfl; have q21 : wm.cell? ⟨w.heap.size + 1 + 1, 1, none⟩ = some (.slice none 0 0) := (blk_cell HX2.out 1).trans rfl; have f20 := blk_frozen HX2.out 0; have f21 := blk_frozen HX2.out 1)))
  refine bodyPost_ret (results_ct rfl _ _ (w.heap.size + 1 + 1) 54 #[.slice Az x1.length cz, .slice Ay x2.length cy] (0, 0) _ rfl (blk_put (cs := #[.slice Az x1.length cz, .slice none 0 0]) (blk_put (cs := #[.slice none 0 0, .slice none 0 0]) HX2.out 0 _ rfl) 1 _ rfl) Try.underlying54 rfl (by kernel_rfl)) rfl ?_
  have hlt := HLT.out
  have far : ∀ k, (((w.heap.size + 1 + 1 < k ∧ some k ≠ (Value.slice Au ([] : List Int).length cu).ownBlock) ∨ (w.heap.size + 1 + 1 < k ∧ some k = (Value.slice Au ([] : List Int).length cu).ownBlock)) ∨ wn.heap.size ≤ k) → k ≠ w.heap.size + 1 + 1 := fun k hk => by
    rcases hk with (h | h) | h
    · omega
    · omega
    · omega
  exact ⟨_, _, rfl, Kd.R_mono (Kd.R_far (p := ⟨w.heap.size + 1 + 1, 1, none⟩) (Kd.R_far (p := ⟨w.heap.size + 1 + 1, 0, none⟩) HZ.out (fun k hk => far k hk.1) _) (fun k hk => far k hk.1) _) (fun k hk => hk.2), Kd.R_mono (Kd.R_far (p := ⟨w.heap.size + 1 + 1, 1, none⟩) (Kd.R_far (p := ⟨w.heap.size + 1 + 1, 0, none⟩) HY.out (fun k hk => far k hk.1) _) (fun k hk => far k hk.1) _) (fun k hk => hk.2), (HB.out.setCell (p := ⟨w.heap.size + 1 + 1, 0, none⟩) (by dsimp only; omega) _).setCell (p := ⟨w.heap.size + 1 + 1, 1, none⟩) (by dsimp only; omega) _⟩
theorem number_MulFractions.calls (k : Nat) (A0 : Option Addr) (c0 : Nat) (l0 : List Int) (A1 : Option Addr) (c1 : Nat) (l1 : List Int) (A2 : Option Addr) (c2 : Nat) (l2 : List Int) (A3 : Option Addr) (c3 : Nat) (l3 : List Int) (x1 x2 : List Int) (x3 : Int) (w : World) (hL : Live w [(.slice A0 l0.length c0, l0), (.slice A1 l1.length c1, l1), (.slice A2 l2.length c2, l2), (.slice A3 l3.length c3, l3)]) (h : number_MulFractions.f k l0 l1 l2 l3 = some (x1, x2, x3)) :
    Calls Try.prog 45 #[.agg #[.slice A0 l0.length c0, .slice A1 l1.length c1], .agg #[.slice A2 l2.length c2, .slice A3 l3.length c3]] w fun e w' => ∃ v0 v1 : Value, e = .returned (.tuple #[.agg #[v0, v1], .int .i64 x3]) ∧ Kd.R (Kd.int .u32) 84 w' w.heap.size (fun k => some k ≠ v1.ownBlock) v0 x1 ∧ Kd.R (Kd.int .u32) 84 w' w.heap.size (fun k => some k ≠ v0.ownBlock) v1 x2 ∧ Below w.heap.size w w' := by
  unfold number_MulFractions.f at h
  obtain ⟨e1, h1, h⟩ := Option.bind_eq_some_iff.mp h
  by_cases z1 : e1 = 0
  case neg =>
    rw [if_neg z1] at h
    obtain rfl := check_two k _ _ _ h1 z1
    exact mul_bad1 k A0 c0 l0 A1 c1 l1 A2 c2 l2 A3 c3 l3 x1 x2 x3 w hL h1 h
  rw [if_pos z1] at h
  subst z1
  obtain ⟨e2, h2, h⟩ := Option.bind_eq_some_iff.mp h
  by_cases z2 : e2 = 0
  case neg =>
    rw [if_neg z2] at h
    obtain rfl := check_two k _ _ _ h2 z2
    exact mul_bad2 k A0 c0 l0 A1 c1 l1 A2 c2 l2 A3 c3 l3 x1 x2 x3 w hL h1 h2 h
  rw [if_pos z2] at h
  subst z2
  obtain ⟨p, g0, h⟩ := Option.bind_eq_some_iff.mp h
  obtain ⟨q, g1, h⟩ := Option.bind_eq_some_iff.mp h
  obtain ⟨s, g2, h⟩ := Option.bind_eq_some_iff.mp h
  obtain ⟨d, g3, h⟩ := Option.bind_eq_some_iff.mp h
  obtain ⟨r, g4, h⟩ := Option.bind_eq_some_iff.mp h
  exact mul_good k A0 c0 l0 A1 c1 l1 A2 c2 l2 A3 c3 l3 p q s d r.1 r.2 x1 x2 x3 w hL h1 h2 g0 g1 g2 g3 g4 h
end Go.Proofs.Ythhgfogdeaaidaa.R
