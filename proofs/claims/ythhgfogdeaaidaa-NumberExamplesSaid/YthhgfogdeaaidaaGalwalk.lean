/- headendlaw01.alive, first part: the walk through the examples, from what the functions answer. -/
import Derived.Test.YthhgfogdeaaidaaR0
import Derived.Test.YthhgfogdeaaidaaR17
import Derived.Test.YthhgfogdeaaidaaR9
import Derived.Test.YthhgfogdeaaidaaR7
import Derived.Test.YthhgfogdeaaidaaR10
import Derived.Test.YthhgfogdeaaidaaR13
import Derived.Test.YthhgfogdeaaidaaR1
import Derived.Test.YthhgfogdeaaidaaR14
import Derived.Test.YthhgfogdeaaidaaR2
import Derived.Test.YthhgfogdeaaidaaGplong
import Derived.Deep.RegionHeld3
import Derived.WalkMore
namespace Go.Proofs.Ythhgfogdeaaidaa.R
open Go.RowKit Go.Proofs.YthhgfogdeaaidaaW.PrintWords Go.Proofs.YthhgfogdeaaidaaW.PrintLast Go.Proofs.YthhgfogdeaaidaaW.PrintMore
set_option linter.unusedVariables false
set_option linter.unusedSimpArgs false
/-- a row that nothing behind here writes -/
def VV (W : World) (v : Value) (xs : List Int) : Prop := Kd.V (Kd.int .u32) 84 W 0 (fun _ => True) v xs
def Live (W : World) (L : List (Value × List Int)) : Prop := ∀ p ∈ L, VV W p.1 p.2
theorem live_nil (W : World) : Live W [] := fun p h => by cases h
theorem live_below {W W1 : World} {L : List (Value × List Int)} (h : Live W L) (hb : Below W.heap.size W W1) : Live W1 L := fun p hp => Kd.V_below (h p hp) hb
theorem live_alloc {W : World} {L : List (Value × List Int)} (h : Live W L) (o : Obj) : Live (W.alloc o) L := fun p hp => Kd.V_alloc (h p hp) o
theorem live_drew {W : World} {L : List (Value × List Int)} (h : Live W L) : Live W.drew L := fun p hp => Kd.V_drew (h p hp)
theorem live_drewN {W : World} {L : List (Value × List Int)} (h : Live W L) (m : Nat) : Live (W.drewN m) L := fun p hp => Kd.V_drewN (h p hp) m
theorem live_add {W W1 : World} {L : List (Value × List Int)} {base : Nat} {ok : Nat → Prop} {v : Value} {xs : List Int} (h : Live W L) (hb : Below W.heap.size W W1) (hv : Kd.R (Kd.int .u32) 84 W1 base ok v xs) : Live W1 ((v, xs) :: L) := fun p hp => by
  rcases List.mem_cons.1 hp with rfl | hp
  · exact Kd.V_mono (Kd.R_V hv) (fun _ _ => trivial)
  · exact live_below h hb p hp
theorem live_get {W : World} {L : List (Value × List Int)} {v : Value} {xs : List Int} (h : Live W L) (hm : (v, xs) ∈ L) (base : Nat) : Kd.V (Kd.int .u32) 84 W base (fun _ => True) v xs := h (v, xs) hm
theorem live_C {W : World} {L : List (Value × List Int)} {A : Option Addr} {n c : Nat} {xs : List Int} (h : Live W L) (hm : (.slice A n c, xs) ∈ L) : n = xs.length ∧ n ≤ c ∧ Kd.C (Kd.int .u32) W A xs.length xs := Kd.V_reads' (h (.slice A n c, xs) hm)
set_option maxRecDepth 1000000 in
set_option maxHeartbeats 16000000 in
theorem alive_walk (k : Nat) (y1 y2 y3 y4 y5 y6 n1 n2 a m b d1 d2 c rr g1 g2 gg o t q1 q2 xn xd f1 f2 : List Int) (w : World)
    (hY1 : y1 = [0, 1])
    (hY2 : y2 = [0, 0, 1])
    (hY3 : y3 = [14])
    (hY4 : y4 = [2])
    (hY5 : y5 = [6])
    (hY6 : y6 = [5, 1])
    (hN1 : headendlaw01_n.f 4294967295 = some n1)
    (hN2 : headendlaw01_n.f 1 = some n2)
    (hFA : number_Add.f k n1 n2 = some (a, 0))
    (hN3 : headendlaw01_n.f 4294967296 = some m)
    (hFM : number_Mul.f k m m = some (b, 0))
    (hN4 : headendlaw01_n.f 100 = some d1)
    (hN5 : headendlaw01_n.f 7 = some d2)
    (hFD : number_Div.f d1 d2 = some (c, rr, 0))
    (hN6 : headendlaw01_n.f 12 = some g1)
    (hN7 : headendlaw01_n.f 18 = some g2)
    (hFG : number_Gcd.f k g1 g2 = some (gg, 0))
    (hI1 : headendlaw01_is.f k a 0 y1 = some true)
    (hI2 : headendlaw01_is.f k b 0 y2 = some true)
    (hI3 : headendlaw01_is.f k c 0 y3 = some true)
    (hI4 : headendlaw01_is.f k rr 0 y4 = some true)
    (hI5 : headendlaw01_is.f k gg 0 y5 = some true)
    (hFO : number_Of.f k 4294967301 = some o)
    (hI6 : headendlaw01_is.f k o 0 y6 = some true)
    (hFT : number_Text.f k b = some (⟨#[49, 56, 52, 52, 54, 55, 52, 52, 48, 55, 51, 55, 48, 57, 53, 53, 49, 54, 49, 54]⟩, 0))
    (hFP : number_Parse.f k ⟨#[49, 56, 52, 52, 54, 55, 52, 52, 48, 55, 51, 55, 48, 57, 53, 53, 49, 54, 49, 54]⟩ = some (t, 0))
    (hI7 : headendlaw01_is.f k t 0 y2 = some true)
    (hN8 : headendlaw01_n.f 6 = some q1)
    (hN9 : headendlaw01_n.f 4 = some q2)
    (hFR : number_Ratio.f k q1 q2 = some (xn, xd, 0))
    (hFW : number_PowMod.f k 3 4 7 = some (4, 0))
    (hFI : number_InvMod.f k 3 7 = some (5, 0))
    (hFF : headendlaw01_fraction.f 3 2 = some (f1, f2))
    (hFS : headendref01_SameFraction.f k xn xd f1 f2 = some true)
    (hFQ : number_Prime.f k 2 = some (true, 0))
    (hFC : number_CheckGroup.f k 23 11 2 = some 0)
    (hFE : number_CheckGroup.f k 23 11 5 = some 13) :
    Calls Try.prog 47 #[] w fun e w' => e = .returned (.bool true) ∧ Below w.heap.size w w' := by
  have Y1 := Aside0.mk hY1
  have Y2 := Aside0.mk hY2
  have Y3 := Aside0.mk hY3
  have Y4 := Aside0.mk hY4
  have Y5 := Aside0.mk hY5
  have Y6 := Aside0.mk hY6
  have N1 := Aside0.mk hN1
  have N2 := Aside0.mk hN2
  have FA := Aside0.mk hFA
  have N3 := Aside0.mk hN3
  have FM := Aside0.mk hFM
  have N4 := Aside0.mk hN4
  have N5 := Aside0.mk hN5
  have FD := Aside0.mk hFD
  have N6 := Aside0.mk hN6
  have N7 := Aside0.mk hN7
  have FG := Aside0.mk hFG
  have I1 := Aside0.mk hI1
  have I2 := Aside0.mk hI2
  have I3 := Aside0.mk hI3
  have I4 := Aside0.mk hI4
  have I5 := Aside0.mk hI5
  have FO := Aside0.mk hFO
  have I6 := Aside0.mk hI6
  have FT := Aside0.mk hFT
  have FP := Aside0.mk hFP
  have I7 := Aside0.mk hI7
  have N8 := Aside0.mk hN8
  have N9 := Aside0.mk hN9
  have FR := Aside0.mk hFR
  have FW := Aside0.mk hFW
  have FI := Aside0.mk hFI
  have FF := Aside0.mk hFF
  have FS := Aside0.mk hFS
  have FQ := Aside0.mk hFQ
  have FC := Aside0.mk hFC
  have FE := Aside0.mk hFE
  clear hY1 hY2 hY3 hY4 hY5 hY6 hN1 hN2 hFA hN3 hFM hN4 hN5 hFD hN6 hN7 hFG hI1 hI2 hI3 hI4 hI5 hFO hI6 hFT hFP hI7 hN8 hN9 hFR hFW hFI hFF hFS hFQ hFC hFE
  have HB := Aside0.mk (Below.refl w.heap.size w)
  have HL := Aside0.mk (live_nil w)
  go_enter Try.func47, Try.ntmps47
  go_upto_region 5 with (first | (go_at_call 63; go_loud ((first | with_reducible refine (headendlaw01_n.calls _ _ _ N1.out).mono ?_ | with_reducible refine (headendlaw01_n.calls _ _ _ N2.out).mono ?_ | with_reducible refine (headendlaw01_n.calls _ _ _ N3.out).mono ?_ | with_reducible refine (headendlaw01_n.calls _ _ _ N4.out).mono ?_ | with_reducible refine (headendlaw01_n.calls _ _ _ N5.out).mono ?_ | with_reducible refine (headendlaw01_n.calls _ _ _ N6.out).mono ?_ | with_reducible refine (headendlaw01_n.calls _ _ _ N7.out).mono ?_ | with_reducible refine (headendlaw01_n.calls _ _ _ N8.out).mono ?_ | with_reducible refine (headendlaw01_n.calls _ _ _ N9.out).mono ?_); rintro e wn ⟨v, rfl, ho, hb⟩; obtain ⟨A, c, rfl, _, _⟩ := Kd.R_reads ho; have nl_ := Aside0.mk (live_add (by (repeat (first | exact HL.out | apply live_alloc | apply live_drewN | apply live_drew))) hb ho); have nb_ := Aside0.mk (below_step (by repeat (first | exact HB.out | apply below_alloc | apply pw_below_drewN | apply below_drew1)) hb); clear HL HB; have HL := nl_; have HB := nb_; clear nl_ nb_; (try clear hb))) | (go_at_call 50; go_loud ((refine (number_Add.calls k (fun _ => True) _ _ _ (fun _ => True) _ _ _ _ _ _ ?s0 ?s1 FA.out).mono ?_); (case s0 => exact live_get (by (repeat (first | exact HL.out | apply live_alloc | apply live_drewN | apply live_drew))) (by repeat (first | exact List.Mem.head _ | apply List.Mem.tail)) _); (case s1 => exact live_get (by (repeat (first | exact HL.out | apply live_alloc | apply live_drewN | apply live_drew))) (by repeat (first | exact List.Mem.head _ | apply List.Mem.tail)) _); rintro e wn ⟨v, rfl, ho, hb⟩; obtain ⟨A, c, rfl, _, _⟩ := Kd.R_reads ho; have nl_ := Aside0.mk (live_add (by (repeat (first | exact HL.out | apply live_alloc | apply live_drewN | apply live_drew))) hb ho); have nb_ := Aside0.mk (below_step (by repeat (first | exact HB.out | apply below_alloc | apply pw_below_drewN | apply below_drew1)) hb); clear HL HB; have HL := nl_; have HB := nb_; clear nl_ nb_; (try clear hb))) | (go_at_call 49; go_loud ((refine (number_Mul.calls k (fun _ => True) _ _ _ (fun _ => True) _ _ _ _ _ _ ?s0 ?s1 FM.out).mono ?_); (case s0 => exact live_get (by (repeat (first | exact HL.out | apply live_alloc | apply live_drewN | apply live_drew))) (by repeat (first | exact List.Mem.head _ | apply List.Mem.tail)) _); (case s1 => exact live_get (by (repeat (first | exact HL.out | apply live_alloc | apply live_drewN | apply live_drew))) (by repeat (first | exact List.Mem.head _ | apply List.Mem.tail)) _); rintro e wn ⟨v, rfl, ho, hb⟩; obtain ⟨A, c, rfl, _, _⟩ := Kd.R_reads ho; have nl_ := Aside0.mk (live_add (by (repeat (first | exact HL.out | apply live_alloc | apply live_drewN | apply live_drew))) hb ho); have nb_ := Aside0.mk (below_step (by repeat (first | exact HB.out | apply below_alloc | apply pw_below_drewN | apply below_drew1)) hb); clear HL HB; have HL := nl_; have HB := nb_; clear nl_ nb_; (try clear hb))) | (go_at_call 59; go_loud ((refine (number_Div.calls (fun _ => True) _ _ _ (fun _ => True) _ _ _ _ _ _ _ ?s0 ?s1 FD.out).mono ?_); (case s0 => exact live_get (by (repeat (first | exact HL.out | apply live_alloc | apply live_drewN | apply live_drew))) (by repeat (first | exact List.Mem.head _ | apply List.Mem.tail)) _); (case s1 => exact live_get (by (repeat (first | exact HL.out | apply live_alloc | apply live_drewN | apply live_drew))) (by repeat (first | exact List.Mem.head _ | apply List.Mem.tail)) _); rintro e wn ⟨v, u, rfl, ho, hu, hb⟩; obtain ⟨A, c, rfl, _, _⟩ := Kd.R_reads ho; obtain ⟨A2, c2, rfl, _, _⟩ := Kd.R_reads hu; have nl_ := Aside0.mk (live_add (live_add (by (repeat (first | exact HL.out | apply live_alloc | apply live_drewN | apply live_drew))) hb ho) (Below.refl _ _) hu); have nb_ := Aside0.mk (below_step (by repeat (first | exact HB.out | apply below_alloc | apply pw_below_drewN | apply below_drew1)) hb); clear HL HB; have HL := nl_; have HB := nb_; clear nl_ nb_; (try clear hb))) | (go_at_call 61; go_loud ((refine (number_Gcd.calls k (fun _ => True) _ _ _ (fun _ => True) _ _ _ _ _ _ ?s0 ?s1 FG.out).mono ?_); (case s0 => exact live_get (by (repeat (first | exact HL.out | apply live_alloc | apply live_drewN | apply live_drew))) (by repeat (first | exact List.Mem.head _ | apply List.Mem.tail)) _); (case s1 => exact live_get (by (repeat (first | exact HL.out | apply live_alloc | apply live_drewN | apply live_drew))) (by repeat (first | exact List.Mem.head _ | apply List.Mem.tail)) _); rintro e wn ⟨v, rfl, ho, hb⟩; obtain ⟨A, c, rfl, _, _⟩ := Kd.R_reads ho; have nl_ := Aside0.mk (live_add (by (repeat (first | exact HL.out | apply live_alloc | apply live_drewN | apply live_drew))) hb ho); have nb_ := Aside0.mk (below_step (by repeat (first | exact HB.out | apply below_alloc | apply pw_below_drewN | apply below_drew1)) hb); clear HL HB; have HL := nl_; have HB := nb_; clear nl_ nb_; (try clear hb))))
  go_upto_region 10 with (first | (go_at_call 63; go_loud ((first | with_reducible refine (headendlaw01_n.calls _ _ _ N1.out).mono ?_ | with_reducible refine (headendlaw01_n.calls _ _ _ N2.out).mono ?_ | with_reducible refine (headendlaw01_n.calls _ _ _ N3.out).mono ?_ | with_reducible refine (headendlaw01_n.calls _ _ _ N4.out).mono ?_ | with_reducible refine (headendlaw01_n.calls _ _ _ N5.out).mono ?_ | with_reducible refine (headendlaw01_n.calls _ _ _ N6.out).mono ?_ | with_reducible refine (headendlaw01_n.calls _ _ _ N7.out).mono ?_ | with_reducible refine (headendlaw01_n.calls _ _ _ N8.out).mono ?_ | with_reducible refine (headendlaw01_n.calls _ _ _ N9.out).mono ?_); rintro e wn ⟨v, rfl, ho, hb⟩; obtain ⟨A, c, rfl, _, _⟩ := Kd.R_reads ho; have nl_ := Aside0.mk (live_add (by (repeat (first | exact HL.out | apply live_alloc | apply live_drewN | apply live_drew))) hb ho); have nb_ := Aside0.mk (below_step (by repeat (first | exact HB.out | apply below_alloc | apply pw_below_drewN | apply below_drew1)) hb); clear HL HB; have HL := nl_; have HB := nb_; clear nl_ nb_; (try clear hb))) | ((with_reducible refine gate_dst (N := 44) rfl ?_); (try (refine gate_guard (by rfl) ?_; dsimp only)); refine Kd.R_lit (Kd.int .u32) _ 84 ?hg (N := 44) ?hd (xs := ([0, 1] : List Int)) (inner := [.int .u32 0, .int .u32 1]) (ok := fun _ => True) (okp := fun _ => True) ?hr ?hp (fun _ hk => hk) trivial (Below.refl _ _) (Nat.le_refl _) (by simp) ?_; (case hd => rfl); (case hg => rfl); (case hr => first | (go_simp; done) | (go_simp; rfl)); (case hp => exact Reps.one (show Kd.M (Kd.int .u32) _ _ _ 0 [.int .u32 0] from rfl) (Reps.one (show Kd.M (Kd.int .u32) _ _ _ 1 [.int .u32 1] from rfl) (Reps.none _ _))); intro v wl ho hb hg_ hnew_; clear hg_ hnew_; rw [← Y1.out] at ho; obtain ⟨A, c, rfl, _, _⟩ := Kd.R_reads ho; have nl_ := Aside0.mk (live_add (by (repeat (first | exact HL.out | apply live_alloc | apply live_drewN | apply live_drew))) hb ho); have nb_ := Aside0.mk (below_step (by repeat (first | exact HB.out | apply below_alloc | apply pw_below_drewN | apply below_drew1)) hb); clear HL HB; have HL := nl_; have HB := nb_; clear nl_ nb_; (try clear hb)) | ((with_reducible refine gate_dst (N := 50) rfl ?_); (try (refine gate_guard (by rfl) ?_; dsimp only)); refine Kd.R_lit (Kd.int .u32) _ 84 ?hg (N := 50) ?hd (xs := ([0, 0, 1] : List Int)) (inner := [.int .u32 0, .int .u32 0, .int .u32 1]) (ok := fun _ => True) (okp := fun _ => True) ?hr ?hp (fun _ hk => hk) trivial (Below.refl _ _) (Nat.le_refl _) (by simp) ?_; (case hd => rfl); (case hg => rfl); (case hr => first | (go_simp; done) | (go_simp; rfl)); (case hp => exact Reps.one (show Kd.M (Kd.int .u32) _ _ _ 0 [.int .u32 0] from rfl) (Reps.one (show Kd.M (Kd.int .u32) _ _ _ 0 [.int .u32 0] from rfl) (Reps.one (show Kd.M (Kd.int .u32) _ _ _ 1 [.int .u32 1] from rfl) (Reps.none _ _)))); intro v wl ho hb hg_ hnew_; clear hg_ hnew_; rw [← Y2.out] at ho; obtain ⟨A, c, rfl, _, _⟩ := Kd.R_reads ho; have nl_ := Aside0.mk (live_add (by (repeat (first | exact HL.out | apply live_alloc | apply live_drewN | apply live_drew))) hb ho); have nb_ := Aside0.mk (below_step (by repeat (first | exact HB.out | apply below_alloc | apply pw_below_drewN | apply below_drew1)) hb); clear HL HB; have HL := nl_; have HB := nb_; clear nl_ nb_; (try clear hb)) | ((with_reducible refine gate_dst (N := 57) rfl ?_); (try (refine gate_guard (by rfl) ?_; dsimp only)); refine Kd.R_lit (Kd.int .u32) _ 84 ?hg (N := 57) ?hd (xs := ([14] : List Int)) (inner := [.int .u32 14]) (ok := fun _ => True) (okp := fun _ => True) ?hr ?hp (fun _ hk => hk) trivial (Below.refl _ _) (Nat.le_refl _) (by simp) ?_; (case hd => rfl); (case hg => rfl); (case hr => first | (go_simp; done) | (go_simp; rfl)); (case hp => exact Reps.one (show Kd.M (Kd.int .u32) _ _ _ 14 [.int .u32 14] from rfl) (Reps.none _ _)); intro v wl ho hb hg_ hnew_; clear hg_ hnew_; rw [← Y3.out] at ho; obtain ⟨A, c, rfl, _, _⟩ := Kd.R_reads ho; have nl_ := Aside0.mk (live_add (by (repeat (first | exact HL.out | apply live_alloc | apply live_drewN | apply live_drew))) hb ho); have nb_ := Aside0.mk (below_step (by repeat (first | exact HB.out | apply below_alloc | apply pw_below_drewN | apply below_drew1)) hb); clear HL HB; have HL := nl_; have HB := nb_; clear nl_ nb_; (try clear hb)) | ((with_reducible refine gate_dst (N := 64) rfl ?_); (try (refine gate_guard (by rfl) ?_; dsimp only)); refine Kd.R_lit (Kd.int .u32) _ 84 ?hg (N := 64) ?hd (xs := ([2] : List Int)) (inner := [.int .u32 2]) (ok := fun _ => True) (okp := fun _ => True) ?hr ?hp (fun _ hk => hk) trivial (Below.refl _ _) (Nat.le_refl _) (by simp) ?_; (case hd => rfl); (case hg => rfl); (case hr => first | (go_simp; done) | (go_simp; rfl)); (case hp => exact Reps.one (show Kd.M (Kd.int .u32) _ _ _ 2 [.int .u32 2] from rfl) (Reps.none _ _)); intro v wl ho hb hg_ hnew_; clear hg_ hnew_; rw [← Y4.out] at ho; obtain ⟨A, c, rfl, _, _⟩ := Kd.R_reads ho; have nl_ := Aside0.mk (live_add (by (repeat (first | exact HL.out | apply live_alloc | apply live_drewN | apply live_drew))) hb ho); have nb_ := Aside0.mk (below_step (by repeat (first | exact HB.out | apply below_alloc | apply pw_below_drewN | apply below_drew1)) hb); clear HL HB; have HL := nl_; have HB := nb_; clear nl_ nb_; (try clear hb)) | ((with_reducible refine gate_dst (N := 71) rfl ?_); (try (refine gate_guard (by rfl) ?_; dsimp only)); refine Kd.R_lit (Kd.int .u32) _ 84 ?hg (N := 71) ?hd (xs := ([6] : List Int)) (inner := [.int .u32 6]) (ok := fun _ => True) (okp := fun _ => True) ?hr ?hp (fun _ hk => hk) trivial (Below.refl _ _) (Nat.le_refl _) (by simp) ?_; (case hd => rfl); (case hg => rfl); (case hr => first | (go_simp; done) | (go_simp; rfl)); (case hp => exact Reps.one (show Kd.M (Kd.int .u32) _ _ _ 6 [.int .u32 6] from rfl) (Reps.none _ _)); intro v wl ho hb hg_ hnew_; clear hg_ hnew_; rw [← Y5.out] at ho; obtain ⟨A, c, rfl, _, _⟩ := Kd.R_reads ho; have nl_ := Aside0.mk (live_add (by (repeat (first | exact HL.out | apply live_alloc | apply live_drewN | apply live_drew))) hb ho); have nb_ := Aside0.mk (below_step (by repeat (first | exact HB.out | apply below_alloc | apply pw_below_drewN | apply below_drew1)) hb); clear HL HB; have HL := nl_; have HB := nb_; clear nl_ nb_; (try clear hb)) | ((with_reducible refine gate_dst (N := 77) rfl ?_); (try (refine gate_guard (by rfl) ?_; dsimp only)); refine Kd.R_lit (Kd.int .u32) _ 84 ?hg (N := 77) ?hd (xs := ([5, 1] : List Int)) (inner := [.int .u32 5, .int .u32 1]) (ok := fun _ => True) (okp := fun _ => True) ?hr ?hp (fun _ hk => hk) trivial (Below.refl _ _) (Nat.le_refl _) (by simp) ?_; (case hd => rfl); (case hg => rfl); (case hr => first | (go_simp; done) | (go_simp; rfl)); (case hp => exact Reps.one (show Kd.M (Kd.int .u32) _ _ _ 5 [.int .u32 5] from rfl) (Reps.one (show Kd.M (Kd.int .u32) _ _ _ 1 [.int .u32 1] from rfl) (Reps.none _ _))); intro v wl ho hb hg_ hnew_; clear hg_ hnew_; rw [← Y6.out] at ho; obtain ⟨A, c, rfl, _, _⟩ := Kd.R_reads ho; have nl_ := Aside0.mk (live_add (by (repeat (first | exact HL.out | apply live_alloc | apply live_drewN | apply live_drew))) hb ho); have nb_ := Aside0.mk (below_step (by repeat (first | exact HB.out | apply below_alloc | apply pw_below_drewN | apply below_drew1)) hb); clear HL HB; have HL := nl_; have HB := nb_; clear nl_ nb_; (try clear hb)) | (go_at_call 32; go_loud ((refine (number_Of.calls k _ _ _ FO.out).mono ?_); rintro e wn ⟨v, rfl, ho, hb⟩; obtain ⟨A, c, rfl, _, _⟩ := Kd.R_reads ho; have nl_ := Aside0.mk (live_add (by (repeat (first | exact HL.out | apply live_alloc | apply live_drewN | apply live_drew))) hb ho); have nb_ := Aside0.mk (below_step (by repeat (first | exact HB.out | apply below_alloc | apply pw_below_drewN | apply below_drew1)) hb); clear HL HB; have HL := nl_; have HB := nb_; clear nl_ nb_; (try clear hb))) | (go_at_call 65; (with_reducible refine (headendlaw01_is.calls k _ _ _ _ _ _ _ _ _ ?s0 ?s1 ?s2 ?s3 I1.out).mono ?_); (case s0 => exact (live_C (by (repeat (first | exact HL.out | apply live_alloc | apply live_drewN | apply live_drew))) (by repeat (first | exact List.Mem.head _ | apply List.Mem.tail))).2.2); (case s1 => exact (live_C (by (repeat (first | exact HL.out | apply live_alloc | apply live_drewN | apply live_drew))) (by repeat (first | exact List.Mem.head _ | apply List.Mem.tail))).2.1); (case s2 => exact (live_C (by (repeat (first | exact HL.out | apply live_alloc | apply live_drewN | apply live_drew))) (by repeat (first | exact List.Mem.head _ | apply List.Mem.tail))).2.2); (case s3 => exact (live_C (by (repeat (first | exact HL.out | apply live_alloc | apply live_drewN | apply live_drew))) (by repeat (first | exact List.Mem.head _ | apply List.Mem.tail))).2.1); rintro e wn ⟨rfl, hb⟩; replace hb := hb.below; have nl_ := Aside0.mk (live_below (by (repeat (first | exact HL.out | apply live_alloc | apply live_drewN | apply live_drew))) hb); have nb_ := Aside0.mk (below_step (by repeat (first | exact HB.out | apply below_alloc | apply pw_below_drewN | apply below_drew1)) hb); clear HL HB; have HL := nl_; have HB := nb_; clear nl_ nb_; (try clear hb)) | (go_at_call 65; (with_reducible refine (headendlaw01_is.calls k _ _ _ _ _ _ _ _ _ ?s0 ?s1 ?s2 ?s3 I2.out).mono ?_); (case s0 => exact (live_C (by (repeat (first | exact HL.out | apply live_alloc | apply live_drewN | apply live_drew))) (by repeat (first | exact List.Mem.head _ | apply List.Mem.tail))).2.2); (case s1 => exact (live_C (by (repeat (first | exact HL.out | apply live_alloc | apply live_drewN | apply live_drew))) (by repeat (first | exact List.Mem.head _ | apply List.Mem.tail))).2.1); (case s2 => exact (live_C (by (repeat (first | exact HL.out | apply live_alloc | apply live_drewN | apply live_drew))) (by repeat (first | exact List.Mem.head _ | apply List.Mem.tail))).2.2); (case s3 => exact (live_C (by (repeat (first | exact HL.out | apply live_alloc | apply live_drewN | apply live_drew))) (by repeat (first | exact List.Mem.head _ | apply List.Mem.tail))).2.1); rintro e wn ⟨rfl, hb⟩; replace hb := hb.below; have nl_ := Aside0.mk (live_below (by (repeat (first | exact HL.out | apply live_alloc | apply live_drewN | apply live_drew))) hb); have nb_ := Aside0.mk (below_step (by repeat (first | exact HB.out | apply below_alloc | apply pw_below_drewN | apply below_drew1)) hb); clear HL HB; have HL := nl_; have HB := nb_; clear nl_ nb_; (try clear hb)) | (go_at_call 65; (with_reducible refine (headendlaw01_is.calls k _ _ _ _ _ _ _ _ _ ?s0 ?s1 ?s2 ?s3 I3.out).mono ?_); (case s0 => exact (live_C (by (repeat (first | exact HL.out | apply live_alloc | apply live_drewN | apply live_drew))) (by repeat (first | exact List.Mem.head _ | apply List.Mem.tail))).2.2); (case s1 => exact (live_C (by (repeat (first | exact HL.out | apply live_alloc | apply live_drewN | apply live_drew))) (by repeat (first | exact List.Mem.head _ | apply List.Mem.tail))).2.1); (case s2 => exact (live_C (by (repeat (first | exact HL.out | apply live_alloc | apply live_drewN | apply live_drew))) (by repeat (first | exact List.Mem.head _ | apply List.Mem.tail))).2.2); (case s3 => exact (live_C (by (repeat (first | exact HL.out | apply live_alloc | apply live_drewN | apply live_drew))) (by repeat (first | exact List.Mem.head _ | apply List.Mem.tail))).2.1); rintro e wn ⟨rfl, hb⟩; replace hb := hb.below; have nl_ := Aside0.mk (live_below (by (repeat (first | exact HL.out | apply live_alloc | apply live_drewN | apply live_drew))) hb); have nb_ := Aside0.mk (below_step (by repeat (first | exact HB.out | apply below_alloc | apply pw_below_drewN | apply below_drew1)) hb); clear HL HB; have HL := nl_; have HB := nb_; clear nl_ nb_; (try clear hb)) | (go_at_call 65; (with_reducible refine (headendlaw01_is.calls k _ _ _ _ _ _ _ _ _ ?s0 ?s1 ?s2 ?s3 I4.out).mono ?_); (case s0 => exact (live_C (by (repeat (first | exact HL.out | apply live_alloc | apply live_drewN | apply live_drew))) (by repeat (first | exact List.Mem.head _ | apply List.Mem.tail))).2.2); (case s1 => exact (live_C (by (repeat (first | exact HL.out | apply live_alloc | apply live_drewN | apply live_drew))) (by repeat (first | exact List.Mem.head _ | apply List.Mem.tail))).2.1); (case s2 => exact (live_C (by (repeat (first | exact HL.out | apply live_alloc | apply live_drewN | apply live_drew))) (by repeat (first | exact List.Mem.head _ | apply List.Mem.tail))).2.2); (case s3 => exact (live_C (by (repeat (first | exact HL.out | apply live_alloc | apply live_drewN | apply live_drew))) (by repeat (first | exact List.Mem.head _ | apply List.Mem.tail))).2.1); rintro e wn ⟨rfl, hb⟩; replace hb := hb.below; have nl_ := Aside0.mk (live_below (by (repeat (first | exact HL.out | apply live_alloc | apply live_drewN | apply live_drew))) hb); have nb_ := Aside0.mk (below_step (by repeat (first | exact HB.out | apply below_alloc | apply pw_below_drewN | apply below_drew1)) hb); clear HL HB; have HL := nl_; have HB := nb_; clear nl_ nb_; (try clear hb)) | (go_at_call 65; (with_reducible refine (headendlaw01_is.calls k _ _ _ _ _ _ _ _ _ ?s0 ?s1 ?s2 ?s3 I5.out).mono ?_); (case s0 => exact (live_C (by (repeat (first | exact HL.out | apply live_alloc | apply live_drewN | apply live_drew))) (by repeat (first | exact List.Mem.head _ | apply List.Mem.tail))).2.2); (case s1 => exact (live_C (by (repeat (first | exact HL.out | apply live_alloc | apply live_drewN | apply live_drew))) (by repeat (first | exact List.Mem.head _ | apply List.Mem.tail))).2.1); (case s2 => exact (live_C (by (repeat (first | exact HL.out | apply live_alloc | apply live_drewN | apply live_drew))) (by repeat (first | exact List.Mem.head _ | apply List.Mem.tail))).2.2); (case s3 => exact (live_C (by (repeat (first | exact HL.out | apply live_alloc | apply live_drewN | apply live_drew))) (by repeat (first | exact List.Mem.head _ | apply List.Mem.tail))).2.1); rintro e wn ⟨rfl, hb⟩; replace hb := hb.below; have nl_ := Aside0.mk (live_below (by (repeat (first | exact HL.out | apply live_alloc | apply live_drewN | apply live_drew))) hb); have nb_ := Aside0.mk (below_step (by repeat (first | exact HB.out | apply below_alloc | apply pw_below_drewN | apply below_drew1)) hb); clear HL HB; have HL := nl_; have HB := nb_; clear nl_ nb_; (try clear hb)) | (go_at_call 65; (with_reducible refine (headendlaw01_is.calls k _ _ _ _ _ _ _ _ _ ?s0 ?s1 ?s2 ?s3 I6.out).mono ?_); (case s0 => exact (live_C (by (repeat (first | exact HL.out | apply live_alloc | apply live_drewN | apply live_drew))) (by repeat (first | exact List.Mem.head _ | apply List.Mem.tail))).2.2); (case s1 => exact (live_C (by (repeat (first | exact HL.out | apply live_alloc | apply live_drewN | apply live_drew))) (by repeat (first | exact List.Mem.head _ | apply List.Mem.tail))).2.1); (case s2 => exact (live_C (by (repeat (first | exact HL.out | apply live_alloc | apply live_drewN | apply live_drew))) (by repeat (first | exact List.Mem.head _ | apply List.Mem.tail))).2.2); (case s3 => exact (live_C (by (repeat (first | exact HL.out | apply live_alloc | apply live_drewN | apply live_drew))) (by repeat (first | exact List.Mem.head _ | apply List.Mem.tail))).2.1); rintro e wn ⟨rfl, hb⟩; replace hb := hb.below; have nl_ := Aside0.mk (live_below (by (repeat (first | exact HL.out | apply live_alloc | apply live_drewN | apply live_drew))) hb); have nb_ := Aside0.mk (below_step (by repeat (first | exact HB.out | apply below_alloc | apply pw_below_drewN | apply below_drew1)) hb); clear HL HB; have HL := nl_; have HB := nb_; clear nl_ nb_; (try clear hb)) | (go_at_call 27; go_loud ((refine (number_Text.calls k (fun _ => True) _ _ _ _ _ _ ?s0 FT.out).mono ?_); (case s0 => exact live_get (by (repeat (first | exact HL.out | apply live_alloc | apply live_drewN | apply live_drew))) (by repeat (first | exact List.Mem.head _ | apply List.Mem.tail)) _); rintro e wn ⟨rfl, hb⟩; have nl_ := Aside0.mk (live_below (by (repeat (first | exact HL.out | apply live_alloc | apply live_drewN | apply live_drew))) hb); have nb_ := Aside0.mk (below_step (by repeat (first | exact HB.out | apply below_alloc | apply pw_below_drewN | apply below_drew1)) hb); clear HL HB; have HL := nl_; have HB := nb_; clear nl_ nb_; (try clear hb))) | (go_at_call 29; go_loud ((refine (number_Parse.calls k _ _ _ _ FP.out).mono ?_); rintro e wn ⟨v, rfl, ho, hb⟩; obtain ⟨At, ct, rfl, _, _⟩ := Kd.R_reads ho; have nl_ := Aside0.mk (live_add (by (repeat (first | exact HL.out | apply live_alloc | apply live_drewN | apply live_drew))) hb ho); have nb_ := Aside0.mk (below_step (by repeat (first | exact HB.out | apply below_alloc | apply pw_below_drewN | apply below_drew1)) hb); clear HL HB; have HL := nl_; have HB := nb_; clear nl_ nb_; (try clear hb))) | (go_at_call 35; go_loud ((refine (number_Ratio.calls k (fun _ => True) _ _ _ (fun _ => True) _ _ _ _ _ _ _ ?s0 ?s1 FR.out).mono ?_); (case s0 => exact live_get (by (repeat (first | exact HL.out | apply live_alloc | apply live_drewN | apply live_drew))) (by repeat (first | exact List.Mem.head _ | apply List.Mem.tail)) _); (case s1 => exact live_get (by (repeat (first | exact HL.out | apply live_alloc | apply live_drewN | apply live_drew))) (by repeat (first | exact List.Mem.head _ | apply List.Mem.tail)) _); rintro e wn ⟨v, u, rfl, ho, hu, hb⟩; obtain ⟨An, cn, rfl, _, _⟩ := Kd.R_reads ho; obtain ⟨Ad, cd, rfl, _, _⟩ := Kd.R_reads hu; have nl_ := Aside0.mk (live_add (live_add (by (repeat (first | exact HL.out | apply live_alloc | apply live_drewN | apply live_drew))) hb ho) (Below.refl _ _) hu); have nb_ := Aside0.mk (below_step (by repeat (first | exact HB.out | apply below_alloc | apply pw_below_drewN | apply below_drew1)) hb); clear HL HB; have HL := nl_; have HB := nb_; clear nl_ nb_; (try clear hb))))
  have HX := Aside0.mk (show (wn.alloc (Obj.cells #[.slice An xn.length cn, .slice Ad xd.length cd] 54)).heap[wn.heap.size]? = some (.cells #[.slice An xn.length cn, .slice Ad xd.length cd] 54 (0, 0)) from blk_new wn _)
  have nl_ := Aside0.mk (live_alloc HL.out (Obj.cells #[.slice An xn.length cn, .slice Ad xd.length cd] 54))
  have nb_ := Aside0.mk (below_alloc HB.out (Obj.cells #[.slice An xn.length cn, .slice Ad xd.length cd] 54))
  clear HL HB ho hu
  have HL := nl_
  have HB := nb_
  clear nl_ nb_
  generalize hW0 : wn.alloc (Obj.cells #[.slice An xn.length cn, .slice Ad xd.length cd] 54) = W0 at *
  generalize hgB : wn.heap.size = gB at *
  clear hW0 hgB
  go_upto_region 12 with (first | (go_at_call 19; go_loud ((refine (number_PowMod.calls k _ _ _ _ _ _ FW.out).mono ?_); rintro e wn ⟨rfl, hb⟩; replace hb := hb.below; have nx_ := Aside0.mk ((hb.block _ (blk_lt HX.out)).trans HX.out); clear HX; have HX := nx_; clear nx_; have nl_ := Aside0.mk (live_below (by (repeat (first | exact HL.out | apply live_alloc | apply live_drewN | apply live_drew))) hb); have nb_ := Aside0.mk (below_step (by repeat (first | exact HB.out | apply below_alloc | apply pw_below_drewN | apply below_drew1)) hb); clear HL HB; have HL := nl_; have HB := nb_; clear nl_ nb_; (try clear hb))) | (go_at_call 21; go_loud ((refine (number_InvMod.calls k _ _ _ _ _ FI.out).mono ?_); rintro e wn ⟨rfl, hb⟩; replace hb := hb.below; have nx_ := Aside0.mk ((hb.block _ (blk_lt HX.out)).trans HX.out); clear HX; have HX := nx_; clear nx_; have nl_ := Aside0.mk (live_below (by (repeat (first | exact HL.out | apply live_alloc | apply live_drewN | apply live_drew))) hb); have nb_ := Aside0.mk (below_step (by repeat (first | exact HB.out | apply below_alloc | apply pw_below_drewN | apply below_drew1)) hb); clear HL HB; have HL := nl_; have HB := nb_; clear nl_ nb_; (try clear hb))))
  have hmx : Try.prog.follows .mixedOrders = true := by kernel_rfl
  have hS : wn.drew.cell? ⟨gB, 0, none⟩ = some (.slice An xn.length cn) ∧ wn.drew.cell? ⟨gB, 1, none⟩ = some (.slice Ad xd.length cd) := ⟨(blk_cell HX.out 0).trans rfl, (blk_cell HX.out 1).trans rfl⟩
  have nl_ := Aside0.mk (live_drew HL.out)
  have nb_ := Aside0.mk (below_drew1 HB.out)
  clear HL HB HX
  have HL := nl_
  have HB := nb_
  clear nl_ nb_
  refine wp_region_any hmx ?_
  refine wpAny_of_held (S := fun W' => W'.cell? ⟨gB, 0, none⟩ = some (.slice An xn.length cn) ∧ W'.cell? ⟨gB, 1, none⟩ = some (.slice Ad xd.length cd)) _ _ _ _ ?_
  change wpAnyH _ _ _ _ _ 39 #[false, false, false, false, false, false, false, false, false, false, false, false, false, false, false, false, false, false, false, false, false, false, false, false, false, false, false, false, false, false, false, false, false, false, false, false, false, false, false] _ wn.drew
  generalize wn.drew = W1 at *
  refine take_at (i := 0) (v := .int .i64 0) rfl rfl (by kernel_rfl) (by kernel_rfl) (by kernel_rfl) (fun _ _ _ h => h) (Or.inl ⟨by rfl, ?_⟩) hS ?_
  · intro w hSw
    (try dsimp only at hSw)
    go_simp
  simp only [Act.put, List.setIfInBounds_toArray, List.set_cons_zero, List.set_cons_succ]
  refine take_at (i := 1) (v := .bool false) rfl rfl (by kernel_rfl) (by kernel_rfl) (by kernel_rfl) (fun _ _ _ h => h) (Or.inl ⟨by rfl, ?_⟩) hS ?_
  · intro w hSw
    (try dsimp only at hSw)
    go_simp
  simp only [Act.put, List.setIfInBounds_toArray, List.set_cons_zero, List.set_cons_succ]
  refine take_at (i := 2) (v := .bool false) rfl rfl (by kernel_rfl) (by kernel_rfl) (by kernel_rfl) (fun _ _ _ h => h) (Or.inl ⟨by rfl, ?_⟩) hS ?_
  · intro w hSw
    (try dsimp only at hSw)
    go_simp
  simp only [Act.put, List.setIfInBounds_toArray, List.set_cons_zero, List.set_cons_succ]
  refine take_at (i := 3) (v := .string (⟨#[49, 56, 52, 52, 54, 55, 52, 52, 48, 55, 51, 55, 48, 57, 53, 53, 49, 54, 49, 54]⟩ : ByteArray)) rfl rfl (by kernel_rfl) (by kernel_rfl) (by kernel_rfl) (fun _ _ _ h => h) (Or.inl ⟨by rfl, ?_⟩) hS ?_
  · intro w hSw
    (try dsimp only at hSw)
    go_simp
  simp only [Act.put, List.setIfInBounds_toArray, List.set_cons_zero, List.set_cons_succ]
  refine take_at (i := 4) (v := .bool false) rfl rfl (by kernel_rfl) (by kernel_rfl) (by kernel_rfl) (fun _ _ _ h => h) (Or.inl ⟨by rfl, ?_⟩) hS ?_
  · intro w hSw
    (try dsimp only at hSw)
    go_simp
  simp only [Act.put, List.setIfInBounds_toArray, List.set_cons_zero, List.set_cons_succ]
  refine take_at (i := 5) (v := .bool false) rfl rfl (by kernel_rfl) (by kernel_rfl) (by kernel_rfl) (fun _ _ _ h => h) (Or.inl ⟨by rfl, ?_⟩) hS ?_
  · intro w hSw
    (try dsimp only at hSw)
    go_simp
  simp only [Act.put, List.setIfInBounds_toArray, List.set_cons_zero, List.set_cons_succ]
  refine take_at (i := 6) (v := .bool false) rfl rfl (by kernel_rfl) (by kernel_rfl) (by kernel_rfl) (fun _ _ _ h => h) (Or.inl ⟨by rfl, ?_⟩) hS ?_
  · intro w hSw
    (try dsimp only at hSw)
    go_simp
  simp only [Act.put, List.setIfInBounds_toArray, List.set_cons_zero, List.set_cons_succ]
  refine take_at (i := 7) (v := .slice At t.length ct) rfl rfl (by kernel_rfl) (by kernel_rfl) (by kernel_rfl) (fun _ _ _ h => h) (Or.inl ⟨by rfl, ?_⟩) hS ?_
  · intro w hSw
    (try dsimp only at hSw)
    go_simp
  simp only [Act.put, List.setIfInBounds_toArray, List.set_cons_zero, List.set_cons_succ]
  refine take_at (i := 8) (v := .int .i64 0) rfl rfl (by kernel_rfl) (by kernel_rfl) (by kernel_rfl) (fun _ _ _ h => h) (Or.inl ⟨by rfl, ?_⟩) hS ?_
  · intro w hSw
    (try dsimp only at hSw)
    go_simp
  simp only [Act.put, List.setIfInBounds_toArray, List.set_cons_zero, List.set_cons_succ]
  refine wpAnyH_ready (rs := [9]) (by kernel_rfl) (by simp) ?_
  refine AllReadyH.cons (i := 9) rfl (fun K hK => ?_) AllReadyH.nil
  go_simp
  have hS9 := And.intro (cell_new hS.1 (Obj.cells #[Value.int .u32 0, Value.int .u32 0, Value.int .u32 1] 84)) (cell_new hS.2 (Obj.cells #[Value.int .u32 0, Value.int .u32 0, Value.int .u32 1] 84))
  have hrow : Kd.R (Kd.int .u32) 84 (W1.alloc (Obj.cells #[Value.int .u32 0, Value.int .u32 0, Value.int .u32 1] 84)) W1.heap.size (fun k => k = W1.heap.size) (.slice (some ⟨W1.heap.size, 0, none⟩) ([0, 0, 1] : List Int).length ([0, 0, 1] : List Int).length) [0, 0, 1] :=
    R_of_row (xs := [0, 0, 1]) (blk_new W1 _) (Nat.le_refl _) (by simp) rfl
  have nl_ := Aside0.mk (live_add HL.out (below_alloc (Below.refl _ _) _) hrow)
  have nb_ := Aside0.mk (below_alloc HB.out (Obj.cells #[Value.int .u32 0, Value.int .u32 0, Value.int .u32 1] 84))
  have I7' := I7.out
  rw [Y2.out] at I7'
  refine hK.out _ _ hS9 (fun _ => ?_)
  clear hK K hrow HL HB
  have HL := nl_
  have HB := nb_
  have hS := hS9
  clear nl_ nb_ hS9
  simp only [Act.put, List.setIfInBounds_toArray, List.set_cons_zero, List.set_cons_succ]
  refine wpAnyH_ready (rs := [10]) (by kernel_rfl) (by simp) ?_
  refine AllReadyH.cons (i := 10) rfl (fun K hK => ?_) AllReadyH.nil
  go_simp
  refine (headendlaw01_is.calls k At ct t 0 _ _ [0, 0, 1] true _ ?s0 ?s1 ?s2 ?s3 I7').mono ?_
  case s0 => exact (live_C (by (repeat (first | exact HL.out | apply live_alloc | apply live_drewN | apply live_drew))) (by repeat (first | exact List.Mem.head _ | apply List.Mem.tail))).2.2
  case s1 => exact (live_C (by (repeat (first | exact HL.out | apply live_alloc | apply live_drewN | apply live_drew))) (by repeat (first | exact List.Mem.head _ | apply List.Mem.tail))).2.1
  case s2 => exact (live_C (by (repeat (first | exact HL.out | apply live_alloc | apply live_drewN | apply live_drew))) (by repeat (first | exact List.Mem.head _ | apply List.Mem.tail))).2.2
  case s3 => exact (live_C (by (repeat (first | exact HL.out | apply live_alloc | apply live_drewN | apply live_drew))) (by repeat (first | exact List.Mem.head _ | apply List.Mem.tail))).2.1
  rintro e w2 ⟨rfl, hb⟩
  replace hb := hb.below
  dsimp only
  have hS10 := And.intro ((hb.cell (p := ⟨gB, 0, none⟩) (World.block_lt_of_cell? _ _ hS.1)).trans hS.1) ((hb.cell (p := ⟨gB, 1, none⟩) (World.block_lt_of_cell? _ _ hS.2)).trans hS.2)
  have nl_ := Aside0.mk (live_below HL.out hb)
  have nb_ := Aside0.mk (below_step HB.out hb)
  refine hK.out _ _ hS10 (fun _ => ?_)
  clear hK K hb HL HB hS
  have HL := nl_
  have HB := nb_
  have hS := hS10
  clear nl_ nb_ hS10
  simp only [Act.put, List.setIfInBounds_toArray, List.set_cons_zero, List.set_cons_succ]
  refine take_at (i := 11) (v := .bool false) rfl rfl (by kernel_rfl) (by kernel_rfl) (by kernel_rfl) (fun _ _ _ h => h) (Or.inl ⟨by rfl, ?_⟩) hS ?_
  · intro w hSw
    (try dsimp only at hSw)
    go_simp
  simp only [Act.put, List.setIfInBounds_toArray, List.set_cons_zero, List.set_cons_succ]
  refine take_at (i := 12) (v := .bool false) rfl rfl (by kernel_rfl) (by kernel_rfl) (by kernel_rfl) (fun _ _ _ h => h) (Or.inl ⟨by rfl, ?_⟩) hS ?_
  · intro w hSw
    (try dsimp only at hSw)
    go_simp
  simp only [Act.put, List.setIfInBounds_toArray, List.set_cons_zero, List.set_cons_succ]
  refine take_at (i := 13) (v := .bool false) rfl rfl (by kernel_rfl) (by kernel_rfl) (by kernel_rfl) (fun _ _ _ h => h) (Or.inl ⟨by rfl, ?_⟩) hS ?_
  · intro w hSw
    (try dsimp only at hSw)
    go_simp
  simp only [Act.put, List.setIfInBounds_toArray, List.set_cons_zero, List.set_cons_succ]
  refine take_at (i := 14) (v := .int .i64 0) rfl rfl (by kernel_rfl) (by kernel_rfl) (by kernel_rfl) (fun _ _ _ h => h) (Or.inl ⟨by rfl, ?_⟩) hS ?_
  · intro w hSw
    (try dsimp only at hSw)
    go_simp
  simp only [Act.put, List.setIfInBounds_toArray, List.set_cons_zero, List.set_cons_succ]
  refine take_at (i := 15) (v := .bool false) rfl rfl (by kernel_rfl) (by kernel_rfl) (by kernel_rfl) (fun _ _ _ h => h) (Or.inl ⟨by rfl, ?_⟩) hS ?_
  · intro w hSw
    (try dsimp only at hSw)
    go_simp
  simp only [Act.put, List.setIfInBounds_toArray, List.set_cons_zero, List.set_cons_succ]
  refine take_at (i := 16) (v := .bool false) rfl rfl (by kernel_rfl) (by kernel_rfl) (by kernel_rfl) (fun _ _ _ h => h) (Or.inl ⟨by rfl, ?_⟩) hS ?_
  · intro w hSw
    (try dsimp only at hSw)
    go_simp
  simp only [Act.put, List.setIfInBounds_toArray, List.set_cons_zero, List.set_cons_succ]
  refine take_at (i := 17) (v := .bool false) rfl rfl (by kernel_rfl) (by kernel_rfl) (by kernel_rfl) (fun _ _ _ h => h) (Or.inl ⟨by rfl, ?_⟩) hS ?_
  · intro w hSw
    (try dsimp only at hSw)
    go_simp
  simp only [Act.put, List.setIfInBounds_toArray, List.set_cons_zero, List.set_cons_succ]
  refine take_at (i := 18) (v := .agg #[.slice An xn.length cn, .slice Ad xd.length cd]) rfl rfl (by kernel_rfl) (by kernel_rfl) (by kernel_rfl) (fun _ _ _ h => h) (Or.inl ⟨by rfl, ?_⟩) hS ?_
  · intro w hSw
    (try dsimp only at hSw)
    go_simp
  simp only [Act.put, List.setIfInBounds_toArray, List.set_cons_zero, List.set_cons_succ]
  refine wpAnyH_ready (rs := [19]) (by kernel_rfl) (by simp) ?_
  refine AllReadyH.cons (i := 19) rfl (fun K hK => ?_) AllReadyH.nil
  go_simp
  refine (headendlaw01_fraction.calls _ _ _ _ _ FF.out).mono ?_
  rintro e w3 ⟨v0, v1, rfl, ho, hu, hb⟩
  obtain ⟨Af, cf, rfl, _, _⟩ := Kd.R_reads ho
  obtain ⟨Ag, cg, rfl, _, _⟩ := Kd.R_reads hu
  dsimp only
  have hS19 := And.intro ((hb.cell (p := ⟨gB, 0, none⟩) (World.block_lt_of_cell? _ _ hS.1)).trans hS.1) ((hb.cell (p := ⟨gB, 1, none⟩) (World.block_lt_of_cell? _ _ hS.2)).trans hS.2)
  have nl_ := Aside0.mk (live_add (live_add HL.out hb ho) (Below.refl _ _) hu)
  have nb_ := Aside0.mk (below_step HB.out hb)
  refine hK.out _ _ hS19 (fun _ => ?_)
  clear hK K hb HL HB hS ho hu
  have HL := nl_
  have HB := nb_
  have hS := hS19
  clear nl_ nb_ hS19
  simp only [Act.put, List.setIfInBounds_toArray, List.set_cons_zero, List.set_cons_succ]
  refine wpAnyH_ready (rs := [20]) (by kernel_rfl) (by simp) ?_
  refine AllReadyH.cons (i := 20) rfl (fun K hK => ?_) AllReadyH.nil
  go_simp
  refine (headendref01_SameFraction.calls k An cn xn Ad cd xd Af cf f1 Ag cg f2 true _ ?s0 ?s1 ?s2 ?s3 ?s4 ?s5 ?s6 ?s7 FS.out).mono ?_
  case s0 => exact (live_C (by (repeat (first | exact HL.out | apply live_alloc | apply live_drewN | apply live_drew))) (by repeat (first | exact List.Mem.head _ | apply List.Mem.tail))).2.2
  case s1 => exact (live_C (by (repeat (first | exact HL.out | apply live_alloc | apply live_drewN | apply live_drew))) (by repeat (first | exact List.Mem.head _ | apply List.Mem.tail))).2.1
  case s2 => exact (live_C (by (repeat (first | exact HL.out | apply live_alloc | apply live_drewN | apply live_drew))) (by repeat (first | exact List.Mem.head _ | apply List.Mem.tail))).2.2
  case s3 => exact (live_C (by (repeat (first | exact HL.out | apply live_alloc | apply live_drewN | apply live_drew))) (by repeat (first | exact List.Mem.head _ | apply List.Mem.tail))).2.1
  case s4 => exact (live_C (by (repeat (first | exact HL.out | apply live_alloc | apply live_drewN | apply live_drew))) (by repeat (first | exact List.Mem.head _ | apply List.Mem.tail))).2.2
  case s5 => exact (live_C (by (repeat (first | exact HL.out | apply live_alloc | apply live_drewN | apply live_drew))) (by repeat (first | exact List.Mem.head _ | apply List.Mem.tail))).2.1
  case s6 => exact (live_C (by (repeat (first | exact HL.out | apply live_alloc | apply live_drewN | apply live_drew))) (by repeat (first | exact List.Mem.head _ | apply List.Mem.tail))).2.2
  case s7 => exact (live_C (by (repeat (first | exact HL.out | apply live_alloc | apply live_drewN | apply live_drew))) (by repeat (first | exact List.Mem.head _ | apply List.Mem.tail))).2.1
  rintro e w4 ⟨rfl, hb⟩
  dsimp only
  have hS20 := And.intro ((hb.cell (p := ⟨gB, 0, none⟩) (World.block_lt_of_cell? _ _ hS.1)).trans hS.1) ((hb.cell (p := ⟨gB, 1, none⟩) (World.block_lt_of_cell? _ _ hS.2)).trans hS.2)
  have nl_ := Aside0.mk (live_below HL.out hb)
  have nb_ := Aside0.mk (below_step HB.out hb)
  refine hK.out _ _ hS20 (fun _ => ?_)
  clear hK K hb HL HB hS
  have HL := nl_
  have HB := nb_
  have hS := hS20
  clear nl_ nb_ hS20
  simp only [Act.put, List.setIfInBounds_toArray, List.set_cons_zero, List.set_cons_succ]
  refine take_at (i := 21) (v := .bool false) rfl rfl (by kernel_rfl) (by kernel_rfl) (by kernel_rfl) (fun _ _ _ h => h) (Or.inl ⟨by rfl, ?_⟩) hS ?_
  · intro w hSw
    (try dsimp only at hSw)
    go_simp
  simp only [Act.put, List.setIfInBounds_toArray, List.set_cons_zero, List.set_cons_succ]
  refine take_at (i := 22) (v := .bool false) rfl rfl (by kernel_rfl) (by kernel_rfl) (by kernel_rfl) (fun _ _ _ h => h) (Or.inl ⟨by rfl, ?_⟩) hS ?_
  · intro w hSw
    (try dsimp only at hSw)
    go_simp
  simp only [Act.put, List.setIfInBounds_toArray, List.set_cons_zero, List.set_cons_succ]
  refine take_at (i := 23) (v := .bool false) rfl rfl (by kernel_rfl) (by kernel_rfl) (by kernel_rfl) (fun _ _ _ h => h) (Or.inl ⟨by rfl, ?_⟩) hS ?_
  · intro w hSw
    (try dsimp only at hSw)
    go_simp
  simp only [Act.put, List.setIfInBounds_toArray, List.set_cons_zero, List.set_cons_succ]
  refine take_at (i := 24) (v := .int .i64 0) rfl rfl (by kernel_rfl) (by kernel_rfl) (by kernel_rfl) (fun _ _ _ h => h) (Or.inl ⟨by rfl, ?_⟩) hS ?_
  · intro w hSw
    (try dsimp only at hSw)
    go_simp
  simp only [Act.put, List.setIfInBounds_toArray, List.set_cons_zero, List.set_cons_succ]
  refine take_at (i := 25) (v := .bool false) rfl rfl (by kernel_rfl) (by kernel_rfl) (by kernel_rfl) (fun _ _ _ h => h) (Or.inl ⟨by rfl, ?_⟩) hS ?_
  · intro w hSw
    (try dsimp only at hSw)
    go_simp
  simp only [Act.put, List.setIfInBounds_toArray, List.set_cons_zero, List.set_cons_succ]
  refine take_at (i := 26) (v := .bool false) rfl rfl (by kernel_rfl) (by kernel_rfl) (by kernel_rfl) (fun _ _ _ h => h) (Or.inl ⟨by rfl, ?_⟩) hS ?_
  · intro w hSw
    (try dsimp only at hSw)
    go_simp
  simp only [Act.put, List.setIfInBounds_toArray, List.set_cons_zero, List.set_cons_succ]
  refine take_at (i := 27) (v := .bool false) rfl rfl (by kernel_rfl) (by kernel_rfl) (by kernel_rfl) (fun _ _ _ h => h) (Or.inl ⟨by rfl, ?_⟩) hS ?_
  · intro w hSw
    (try dsimp only at hSw)
    go_simp
  simp only [Act.put, List.setIfInBounds_toArray, List.set_cons_zero, List.set_cons_succ]
  refine take_at (i := 28) (v := .int .u64 4) rfl rfl (by kernel_rfl) (by kernel_rfl) (by kernel_rfl) (fun _ _ _ h => h) (Or.inl ⟨by rfl, ?_⟩) hS ?_
  · intro w hSw
    (try dsimp only at hSw)
    go_simp
  simp only [Act.put, List.setIfInBounds_toArray, List.set_cons_zero, List.set_cons_succ]
  refine take_at (i := 29) (v := .bool false) rfl rfl (by kernel_rfl) (by kernel_rfl) (by kernel_rfl) (fun _ _ _ h => h) (Or.inl ⟨by rfl, ?_⟩) hS ?_
  · intro w hSw
    (try dsimp only at hSw)
    go_simp
  simp only [Act.put, List.setIfInBounds_toArray, List.set_cons_zero, List.set_cons_succ]
  refine take_at (i := 30) (v := .bool false) rfl rfl (by kernel_rfl) (by kernel_rfl) (by kernel_rfl) (fun _ _ _ h => h) (Or.inl ⟨by rfl, ?_⟩) hS ?_
  · intro w hSw
    (try dsimp only at hSw)
    go_simp
  simp only [Act.put, List.setIfInBounds_toArray, List.set_cons_zero, List.set_cons_succ]
  refine take_at (i := 31) (v := .bool false) rfl rfl (by kernel_rfl) (by kernel_rfl) (by kernel_rfl) (fun _ _ _ h => h) (Or.inl ⟨by rfl, ?_⟩) hS ?_
  · intro w hSw
    (try dsimp only at hSw)
    go_simp
  simp only [Act.put, List.setIfInBounds_toArray, List.set_cons_zero, List.set_cons_succ]
  refine take_at (i := 32) (v := .int .i64 0) rfl rfl (by kernel_rfl) (by kernel_rfl) (by kernel_rfl) (fun _ _ _ h => h) (Or.inl ⟨by rfl, ?_⟩) hS ?_
  · intro w hSw
    (try dsimp only at hSw)
    go_simp
  simp only [Act.put, List.setIfInBounds_toArray, List.set_cons_zero, List.set_cons_succ]
  refine take_at (i := 33) (v := .bool false) rfl rfl (by kernel_rfl) (by kernel_rfl) (by kernel_rfl) (fun _ _ _ h => h) (Or.inl ⟨by rfl, ?_⟩) hS ?_
  · intro w hSw
    (try dsimp only at hSw)
    go_simp
  simp only [Act.put, List.setIfInBounds_toArray, List.set_cons_zero, List.set_cons_succ]
  refine take_at (i := 34) (v := .bool false) rfl rfl (by kernel_rfl) (by kernel_rfl) (by kernel_rfl) (fun _ _ _ h => h) (Or.inl ⟨by rfl, ?_⟩) hS ?_
  · intro w hSw
    (try dsimp only at hSw)
    go_simp
  simp only [Act.put, List.setIfInBounds_toArray, List.set_cons_zero, List.set_cons_succ]
  refine take_at (i := 35) (v := .bool false) rfl rfl (by kernel_rfl) (by kernel_rfl) (by kernel_rfl) (fun _ _ _ h => h) (Or.inl ⟨by rfl, ?_⟩) hS ?_
  · intro w hSw
    (try dsimp only at hSw)
    go_simp
  simp only [Act.put, List.setIfInBounds_toArray, List.set_cons_zero, List.set_cons_succ]
  refine take_at (i := 36) (v := .int .u64 5) rfl rfl (by kernel_rfl) (by kernel_rfl) (by kernel_rfl) (fun _ _ _ h => h) (Or.inl ⟨by rfl, ?_⟩) hS ?_
  · intro w hSw
    (try dsimp only at hSw)
    go_simp
  simp only [Act.put, List.setIfInBounds_toArray, List.set_cons_zero, List.set_cons_succ]
  refine take_at (i := 37) (v := .bool false) rfl rfl (by kernel_rfl) (by kernel_rfl) (by kernel_rfl) (fun _ _ _ h => h) (Or.inl ⟨by rfl, ?_⟩) hS ?_
  · intro w hSw
    (try dsimp only at hSw)
    go_simp
  simp only [Act.put, List.setIfInBounds_toArray, List.set_cons_zero, List.set_cons_succ]
  refine take_at (i := 38) (v := .bool false) rfl rfl (by kernel_rfl) (by kernel_rfl) (by kernel_rfl) (fun _ _ _ h => h) (Or.inl ⟨by rfl, ?_⟩) hS ?_
  · intro w hSw
    (try dsimp only at hSw)
    go_simp
  simp only [Act.put, List.setIfInBounds_toArray, List.set_cons_zero, List.set_cons_succ]
  refine wpAnyH_done (by kernel_rfl) ?_ _
  clear hS
  go_wp2_with (first | (go_at_call 23; go_loud ((refine (number_Prime.calls k _ _ _ _ FQ.out).mono ?_); rintro e wn ⟨rfl, hb⟩; replace hb := hb.below; have nl_ := Aside0.mk (live_below (by (repeat (first | exact HL.out | apply live_alloc | apply live_drewN | apply live_drew))) hb); have nb_ := Aside0.mk (below_step (by repeat (first | exact HB.out | apply below_alloc | apply pw_below_drewN | apply below_drew1)) hb); clear HL HB; have HL := nl_; have HB := nb_; clear nl_ nb_; (try clear hb))) | (go_at_call 25; (with_reducible refine (number_CheckGroup.calls k _ _ _ _ _ FC.out).mono ?_); rintro e wn ⟨rfl, hb⟩; have nl_ := Aside0.mk (live_below (by (repeat (first | exact HL.out | apply live_alloc | apply live_drewN | apply live_drew))) hb); have nb_ := Aside0.mk (below_step (by repeat (first | exact HB.out | apply below_alloc | apply pw_below_drewN | apply below_drew1)) hb); clear HL HB; have HL := nl_; have HB := nb_; clear nl_ nb_; (try clear hb)) | (go_at_call 25; (with_reducible refine (number_CheckGroup.calls k _ _ _ _ _ FE.out).mono ?_); rintro e wn ⟨rfl, hb⟩; have nl_ := Aside0.mk (live_below (by (repeat (first | exact HL.out | apply live_alloc | apply live_drewN | apply live_drew))) hb); have nb_ := Aside0.mk (below_step (by repeat (first | exact HB.out | apply below_alloc | apply pw_below_drewN | apply below_drew1)) hb); clear HL HB; have HL := nl_; have HB := nb_; clear nl_ nb_; (try clear hb)))
  go_ret
  exact ⟨rfl, HB.out⟩
end Go.Proofs.Ythhgfogdeaaidaa.R

