/- headendlaw01.NumberExamples: the walk, from what the functions it calls answer. -/
import Derived.Test.YthhgfogdeaaidaaR0
import Derived.Test.YthhgfogdeaaidaaR21
import Derived.Test.YthhgfogdeaaidaaR18
import Derived.Test.YthhgfogdeaaidaaR17
import Derived.Test.YthhgfogdeaaidaaR9
import Derived.Test.YthhgfogdeaaidaaR10
import Derived.Test.YthhgfogdeaaidaaR1
import Derived.Test.YthhgfogdeaaidaaR2
import Derived.Test.YthhgfogdeaaidaaR7
import Derived.Test.YthhgfogdeaaidaaR13
import Derived.Test.YthhgfogdeaaidaaR14
import Derived.Test.YthhgfogdeaaidaaGcross
import Derived.Test.YthhgfogdeaaidaaGalive
import Derived.Deep.RegionHeld3
import Derived.WalkMore
namespace Go.Proofs.Ythhgfogdeaaidaa.R
open Go.RowKit Go.Proofs.YthhgfogdeaaidaaW.PrintWords Go.Proofs.YthhgfogdeaaidaaW.PrintLast Go.Proofs.YthhgfogdeaaidaaW.PrintMore
set_option linter.unusedVariables false
set_option linter.unusedSimpArgs false
attribute [local go_sem] Oper.semAt_some
theorem ex_four {W : World} {a b c d : Value × List Int} {L : List (Value × List Int)} (h : Live W L) (ha : a ∈ L) (hb : b ∈ L) (hc : c ∈ L) (hd : d ∈ L) : Live W [a, b, c, d] := fun p hp => h p (by
  rcases List.mem_cons.1 hp with rfl | hp
  · exact ha
  · rcases List.mem_cons.1 hp with rfl | hp
    · exact hb
    · rcases List.mem_cons.1 hp with rfl | hp
      · exact hc
      · rcases List.mem_cons.1 hp with rfl | hp
        · exact hd
        · cases hp)
set_option maxRecDepth 1000000 in
set_option maxHeartbeats 16000000 in
theorem examples_walk (k : Nat) (s17 h9 m one two sa fl y1 y2 sv fv gc y5 ni rn rd an ad un ud f12n f12d f13n f13d f23n f23d f34n f34d f25n f25d f01n f01d f56n f56d : List Int) (w : World)
    (hY1 : y1 = [4294967295])
    (hY2 : y2 = [1, 0])
    (hY5 : y5 = [5])
    (hYS : s17 = (List.replicate 17 0).set 16 1)
    (hYH : h9 = (List.replicate 9 0).set 8 1)
    (hN1 : headendlaw01_n.f 4294967296 = some m)
    (hN2 : headendlaw01_n.f 1 = some one)
    (hN3 : headendlaw01_n.f 2 = some two)
    (hS1 : number_Sub.f k m one = some (sa, 0))
    (hS2 : number_Sub.f k one two = some ([], 11))
    (hFU : headendlaw01_full.f k = some fl)
    (hA1 : number_Add.f k fl one = some ([], 4))
    (hM1 : number_Mul.f k h9 h9 = some ([], 4))
    (hI1 : headendlaw01_is.f k sa 0 y1 = some true)
    (hC1_ : number_Check.f y2 = some 8)
    (hC2_ : number_Check.f s17 = some 8)
    (hC3_ : number_Check.f fl = some 0)
    (hOF : number_Of.f k 0 = some [])
    (hN4 : headendlaw01_n.f 7 = some sv)
    (hD1 : number_Div.f sv [] = some ([], [], 10))
    (hN5 : headendlaw01_n.f 5 = some fv)
    (hG1 : number_Gcd.f k [] fv = some (gc, 0))
    (hP1 : number_Parse.f k (⟨#[]⟩ : ByteArray) = some ([], 12))
    (hP2 : number_Parse.f k (⟨#[48, 49]⟩ : ByteArray) = some ([], 12))
    (hP3 : number_Parse.f k (⟨#[45, 49]⟩ : ByteArray) = some ([], 12))
    (hI2 : headendlaw01_is.f k gc 0 y5 = some true)
    (hN6 : headendlaw01_n.f 9 = some ni)
    (hR1 : number_Ratio.f k [] ni = some (rn, rd, 0))
    (hR2 : number_Ratio.f k one [] = some ([], [], 10))
    (hQ12 : headendlaw01_fraction.f 1 2 = some (f12n, f12d))
    (hQ13 : headendlaw01_fraction.f 1 3 = some (f13n, f13d))
    (hQ23 : headendlaw01_fraction.f 2 3 = some (f23n, f23d))
    (hQ34 : headendlaw01_fraction.f 3 4 = some (f34n, f34d))
    (hQ25 : headendlaw01_fraction.f 2 5 = some (f25n, f25d))
    (hQ01 : headendlaw01_fraction.f 0 1 = some (f01n, f01d))
    (hQ56 : headendlaw01_fraction.f 5 6 = some (f56n, f56d))
    (hAF : number_AddFractions.f k f12n f12d f13n f13d = some (an, ad, 0))
    (hMF : number_MulFractions.f k f23n f23d f34n f34d = some (un, ud, 0))
    (hCF : number_CompareFractions.f k f13n f13d f25n f25d = some (-1, 0))
    (hS3 : headendref01_SameFraction.f k rn rd f01n f01d = some true)
    (hS4 : headendref01_SameFraction.f k an ad f56n f56d = some true)
    (hS5 : headendref01_SameFraction.f k un ud f12n f12d = some true)
    (hPW1 : number_PowMod.f k 2 0 1 = some (0, 0))
    (hPW2 : number_PowMod.f k 2 3 0 = some (0, 2))
    (hIV1 : number_InvMod.f k 2 4 = some (0, 10))
    (hIV2 : number_InvMod.f k 0 1 = some (0, 0))
    (hE1 : number_Prime.f k 1 = some (false, 0))
    (hE2 : number_Prime.f k 1048573 = some (true, 0))
    (hE3 : number_Prime.f k 1048576 = some (false, 4))
    (hH1 : number_CheckGroup.f k 23 11 1 = some 13)
    (hH2 : number_CheckGroup.f k 23 22 5 = some 13)
    :
    Calls Try.prog 9 #[] w fun e w' => e = .returned (.bool true) ∧ Below w.heap.size w w' := by
  have Y1 := Aside0.mk hY1
  have Y2 := Aside0.mk hY2
  have Y5 := Aside0.mk hY5
  have YS := Aside0.mk hYS
  have YH := Aside0.mk hYH
  have N1 := Aside0.mk hN1
  have N2 := Aside0.mk hN2
  have N3 := Aside0.mk hN3
  have S1 := Aside0.mk hS1
  have S2 := Aside0.mk hS2
  have FU := Aside0.mk hFU
  have A1 := Aside0.mk hA1
  have M1 := Aside0.mk hM1
  have I1 := Aside0.mk hI1
  have C1_ := Aside0.mk hC1_
  have C2_ := Aside0.mk hC2_
  have C3_ := Aside0.mk hC3_
  have OF := Aside0.mk hOF
  have N4 := Aside0.mk hN4
  have D1 := Aside0.mk hD1
  have N5 := Aside0.mk hN5
  have G1 := Aside0.mk hG1
  have P1 := Aside0.mk hP1
  have P2 := Aside0.mk hP2
  have P3 := Aside0.mk hP3
  have I2 := Aside0.mk hI2
  have N6 := Aside0.mk hN6
  have R1 := Aside0.mk hR1
  have R2 := Aside0.mk hR2
  have Q12 := Aside0.mk hQ12
  have Q13 := Aside0.mk hQ13
  have Q23 := Aside0.mk hQ23
  have Q34 := Aside0.mk hQ34
  have Q25 := Aside0.mk hQ25
  have Q01 := Aside0.mk hQ01
  have Q56 := Aside0.mk hQ56
  have AF := Aside0.mk hAF
  have MF := Aside0.mk hMF
  have CF := Aside0.mk hCF
  have S3 := Aside0.mk hS3
  have S4 := Aside0.mk hS4
  have S5 := Aside0.mk hS5
  have PW1 := Aside0.mk hPW1
  have PW2 := Aside0.mk hPW2
  have IV1 := Aside0.mk hIV1
  have IV2 := Aside0.mk hIV2
  have E1 := Aside0.mk hE1
  have E2 := Aside0.mk hE2
  have E3 := Aside0.mk hE3
  have H1 := Aside0.mk hH1
  have H2 := Aside0.mk hH2
  clear hY1 hY2 hY5 hYS hYH hN1 hN2 hN3 hS1 hS2 hFU hA1 hM1 hI1 hC1_ hC2_ hC3_ hOF hN4 hD1 hN5 hG1 hP1 hP2 hP3 hI2 hN6 hR1 hR2 hQ12 hQ13 hQ23 hQ34 hQ25 hQ01 hQ56 hAF hMF hCF hS3 hS4 hS5 hPW1 hPW2 hIV1 hIV2 hE1 hE2 hE3 hH1 hH2
  have HB := Aside0.mk (Below.refl w.heap.size w)
  have HL := Aside0.mk (live_nil w)
  have hmks17 : ∀ W : World, (Instr.makeSlice 41 (.int .i64 17) (.int .i64 17)).run Try.prog W = .ok (.slice (some ⟨W.heap.size, 0, none⟩) 17 17) (W.alloc (.cells (madeCells #[Value.int .u32 0] 17) 84)) := print_make (P := Try.prog) 41 84 .u32 4 Try.underlying41 info84 (by decide) 17 (by omega)
  have hmkh9 : ∀ W : World, (Instr.makeSlice 41 (.int .i64 9) (.int .i64 9)).run Try.prog W = .ok (.slice (some ⟨W.heap.size, 0, none⟩) 9 9) (W.alloc (.cells (madeCells #[Value.int .u32 0] 9) 84)) := print_make (P := Try.prog) 41 84 .u32 4 Try.underlying41 info84 (by decide) 9 (by omega)
  go_enter Try.func9, Try.ntmps9
  go_upto_region 2 with fail
  have HX := Aside0.mk (show (w.alloc (Obj.cells (madeCells #[Value.int IntKind.u32 0] 17) 84)).heap[w.heap.size]? = some (.cells (u32s (List.replicate 17 0)) 84 (0, 0)) from by rw [← u32s_made]; exact blk_new w _)
  have nl_ := Aside0.mk (live_alloc HL.out (Obj.cells (madeCells #[Value.int IntKind.u32 0] 17) 84))
  have nb_ := Aside0.mk (below_alloc HB.out (Obj.cells (madeCells #[Value.int IntKind.u32 0] 17) 84))
  have HG := Aside0.mk (HB.out.size)
  clear HL HB
  have HL := nl_
  have HB := nb_
  clear nl_ nb_
  generalize hW_ : w.alloc (Obj.cells (madeCells #[Value.int IntKind.u32 0] 17) 84) = W_s17 at *
  clear hW_
  have cs17 : W_s17.cell? ⟨w.heap.size, 16, none⟩ = some (.int .u32 0) := (blk_cell HX.out 16).trans rfl
  have fs17 := blk_frozen HX.out 16
  go_upto_region 3 with fail
  clear cs17 fs17
  have hx_ : (W_s17.setCell ⟨w.heap.size, 16, none⟩ (.int .u32 1)).heap[w.heap.size]? = some (.cells (u32s s17) 84 (0, 0)) := blk_put HX.out 16 _ (by rw [u32s_set, ← YS.out])
  have hln : s17.length = 17 := by rw [YS.out]; rfl
  have hr_ : Kd.R (Kd.int .u32) 84 (W_s17.setCell ⟨w.heap.size, 16, none⟩ (.int .u32 1)) 0 (fun k => k = w.heap.size) (.slice (some ⟨w.heap.size, 0, none⟩) s17.length s17.length) s17 := R_of_row hx_ (Nat.zero_le _) (by omega) rfl
  have nl_ := Aside0.mk (show Live (W_s17.setCell ⟨w.heap.size, 16, none⟩ (.int .u32 1)) [(.slice (some ⟨w.heap.size, 0, none⟩) s17.length s17.length, s17)] from (fun p hp => by rcases List.mem_singleton.1 hp with rfl; exact Kd.V_mono (Kd.R_V hr_) (fun _ _ => trivial)))
  have nb_ := Aside0.mk (HB.out.setCell (p := ⟨w.heap.size, 16, none⟩) (Nat.le_refl _) (.int .u32 1))
  clear HL HB HX hx_ hr_
  have HL := nl_
  have HB := nb_
  clear nl_ nb_ HG
  generalize hS_ : (W_s17.setCell ⟨w.heap.size, 16, none⟩ (.int .u32 1)) = S_s17 at *
  clear hS_
  have hl17 := hln
  clear hln
  go_upto_region 4 with fail
  have hv17 : Kd.V (Kd.int .u32) 84 (S_s17.alloc (Obj.cells (madeCells #[Value.int IntKind.u32 0] 9) 84)) 0 (fun k => k < S_s17.heap.size) (.slice (some ⟨w.heap.size, 0, none⟩) s17.length s17.length) s17 := Kd.V_alloc (Kd.V_mono (Kd.V_bound (HL.out _ (List.mem_singleton.2 rfl))) (fun k hk => hk.2)) _
  have HX := Aside0.mk (show (S_s17.alloc (Obj.cells (madeCells #[Value.int IntKind.u32 0] 9) 84)).heap[S_s17.heap.size]? = some (.cells (u32s (List.replicate 9 0)) 84 (0, 0)) from by rw [← u32s_made]; exact blk_new S_s17 _)
  have nl_ := Aside0.mk (live_alloc HL.out (Obj.cells (madeCells #[Value.int IntKind.u32 0] 9) 84))
  have nb_ := Aside0.mk (below_alloc HB.out (Obj.cells (madeCells #[Value.int IntKind.u32 0] 9) 84))
  have HG := Aside0.mk (HB.out.size)
  clear HL HB
  have HL := nl_
  have HB := nb_
  clear nl_ nb_
  generalize hW_ : S_s17.alloc (Obj.cells (madeCells #[Value.int IntKind.u32 0] 9) 84) = W_h9 at *
  clear hW_
  generalize hg_ : S_s17.heap.size = gh9 at *
  clear hg_
  have ch9 : W_h9.cell? ⟨gh9, 8, none⟩ = some (.int .u32 0) := (blk_cell HX.out 8).trans rfl
  have fh9 := blk_frozen HX.out 8
  go_upto_region 5 with fail
  clear ch9 fh9
  have hx_ : (W_h9.setCell ⟨gh9, 8, none⟩ (.int .u32 1)).heap[gh9]? = some (.cells (u32s h9) 84 (0, 0)) := blk_put HX.out 8 _ (by rw [u32s_set, ← YH.out])
  have hln : h9.length = 9 := by rw [YH.out]; rfl
  have hr_ : Kd.R (Kd.int .u32) 84 (W_h9.setCell ⟨gh9, 8, none⟩ (.int .u32 1)) 0 (fun k => k = gh9) (.slice (some ⟨gh9, 0, none⟩) h9.length h9.length) h9 := R_of_row hx_ (Nat.zero_le _) (by omega) rfl
  have nl_ := Aside0.mk (show Live (W_h9.setCell ⟨gh9, 8, none⟩ (.int .u32 1)) [(.slice (some ⟨gh9, 0, none⟩) h9.length h9.length, h9), (.slice (some ⟨w.heap.size, 0, none⟩) s17.length s17.length, s17)] from (fun p hp => by rcases List.mem_cons.1 hp with rfl | hp; exact Kd.V_mono (Kd.R_V hr_) (fun _ _ => trivial); rcases List.mem_singleton.1 hp with rfl; exact Kd.V_mono (Kd.V_far (p := ⟨gh9, 8, none⟩) hv17 (fun k hk => by dsimp only; omega) _) (fun _ _ => trivial)))
  have nb_ := Aside0.mk (HB.out.setCell (p := ⟨gh9, 8, none⟩) HG.out (.int .u32 1))
  clear HL HB HX hx_ hr_
  have HL := nl_
  have HB := nb_
  clear nl_ nb_ HG
  generalize hS_ : (W_h9.setCell ⟨gh9, 8, none⟩ (.int .u32 1)) = S_h9 at *
  clear hS_
  clear hv17
  rw [show (Value.slice (some ⟨gh9, 0, none⟩) 9 9) = .slice (some ⟨gh9, 0, none⟩) h9.length h9.length by rw [hln], show (Value.slice (some ⟨w.heap.size, 0, none⟩) 17 17) = .slice (some ⟨w.heap.size, 0, none⟩) s17.length s17.length by rw [hl17]]
  clear hln hl17 hmks17 hmkh9
  go_upto_region 9 with (first | (go_at_call 63; (first | with_reducible refine (headendlaw01_n.calls _ _ _ N1.out).mono ?_ | with_reducible refine (headendlaw01_n.calls _ _ _ N2.out).mono ?_ | with_reducible refine (headendlaw01_n.calls _ _ _ N3.out).mono ?_ | with_reducible refine (headendlaw01_n.calls _ _ _ N4.out).mono ?_ | with_reducible refine (headendlaw01_n.calls _ _ _ N5.out).mono ?_ | with_reducible refine (headendlaw01_n.calls _ _ _ N6.out).mono ?_); rintro e wn ⟨v, rfl, ho, hb⟩; obtain ⟨Az1, cz1, rfl, _, _⟩ := Kd.R_reads ho;   have nl_ := Aside0.mk (live_add (by (repeat (first | exact HL.out | apply live_alloc | apply live_drewN | apply live_drew))) hb ho); have nb_ := Aside0.mk (below_step (by repeat (first | exact HB.out | apply below_alloc | apply pw_below_drewN | apply below_drew1)) hb); clear HL HB; have HL := nl_; have HB := nb_; clear nl_ nb_ hb ho) | (go_at_call 56; (with_reducible refine (number_Sub.calls k (fun _ => True) _ _ _ (fun _ => True) _ _ _ _ _ _ ?s0 ?s1 S1.out).mono ?_); (case s0 => exact live_get (by (repeat (first | exact HL.out | apply live_alloc | apply live_drewN | apply live_drew))) (by repeat (first | exact List.Mem.head _ | apply List.Mem.tail)) _); (case s1 => exact live_get (by (repeat (first | exact HL.out | apply live_alloc | apply live_drewN | apply live_drew))) (by repeat (first | exact List.Mem.head _ | apply List.Mem.tail)) _); rintro e wn ⟨v, rfl, ho, hb⟩; obtain ⟨Asa, csa, rfl, _, _⟩ := Kd.R_reads ho;   have nl_ := Aside0.mk (live_add (by (repeat (first | exact HL.out | apply live_alloc | apply live_drewN | apply live_drew))) hb ho); have nb_ := Aside0.mk (below_step (by repeat (first | exact HB.out | apply below_alloc | apply pw_below_drewN | apply below_drew1)) hb); clear HL HB; have HL := nl_; have HB := nb_; clear nl_ nb_ hb ho) | (go_at_call 56; (with_reducible refine (number_Sub.calls k (fun _ => True) _ _ _ (fun _ => True) _ _ _ _ _ _ ?s0 ?s1 S2.out).mono ?_); (case s0 => exact live_get (by (repeat (first | exact HL.out | apply live_alloc | apply live_drewN | apply live_drew))) (by repeat (first | exact List.Mem.head _ | apply List.Mem.tail)) _); (case s1 => exact live_get (by (repeat (first | exact HL.out | apply live_alloc | apply live_drewN | apply live_drew))) (by repeat (first | exact List.Mem.head _ | apply List.Mem.tail)) _); rintro e wn ⟨v, rfl, ho, hb⟩; obtain ⟨Az2, cz2, rfl, _, _⟩ := Kd.R_reads ho;   have nl_ := Aside0.mk (live_add (by (repeat (first | exact HL.out | apply live_alloc | apply live_drewN | apply live_drew))) hb ho); have nb_ := Aside0.mk (below_step (by repeat (first | exact HB.out | apply below_alloc | apply pw_below_drewN | apply below_drew1)) hb); clear HL HB; have HL := nl_; have HB := nb_; clear nl_ nb_ hb ho) | (go_at_call 64; (with_reducible refine (headendlaw01_full.calls k _ _ FU.out).mono ?_); rintro e wn ⟨v, rfl, ho, hb⟩; obtain ⟨Az3, cz3, rfl, _, _⟩ := Kd.R_reads ho;   have nl_ := Aside0.mk (live_add (by (repeat (first | exact HL.out | apply live_alloc | apply live_drewN | apply live_drew))) hb ho); have nb_ := Aside0.mk (below_step (by repeat (first | exact HB.out | apply below_alloc | apply pw_below_drewN | apply below_drew1)) hb); clear HL HB; have HL := nl_; have HB := nb_; clear nl_ nb_ hb ho) | (go_at_call 50; (with_reducible refine (number_Add.calls k (fun _ => True) _ _ _ (fun _ => True) _ _ _ _ _ _ ?s0 ?s1 A1.out).mono ?_); (case s0 => exact live_get (by (repeat (first | exact HL.out | apply live_alloc | apply live_drewN | apply live_drew))) (by repeat (first | exact List.Mem.head _ | apply List.Mem.tail)) _); (case s1 => exact live_get (by (repeat (first | exact HL.out | apply live_alloc | apply live_drewN | apply live_drew))) (by repeat (first | exact List.Mem.head _ | apply List.Mem.tail)) _); rintro e wn ⟨v, rfl, ho, hb⟩; obtain ⟨Az4, cz4, rfl, _, _⟩ := Kd.R_reads ho;   have nl_ := Aside0.mk (live_add (by (repeat (first | exact HL.out | apply live_alloc | apply live_drewN | apply live_drew))) hb ho); have nb_ := Aside0.mk (below_step (by repeat (first | exact HB.out | apply below_alloc | apply pw_below_drewN | apply below_drew1)) hb); clear HL HB; have HL := nl_; have HB := nb_; clear nl_ nb_ hb ho) | (go_at_call 49; (with_reducible refine (number_Mul.calls k (fun _ => True) _ _ _ (fun _ => True) _ _ _ _ _ _ ?s0 ?s1 M1.out).mono ?_); (case s0 => exact live_get (by (repeat (first | exact HL.out | apply live_alloc | apply live_drewN | apply live_drew))) (by repeat (first | exact List.Mem.head _ | apply List.Mem.tail)) _); (case s1 => exact live_get (by (repeat (first | exact HL.out | apply live_alloc | apply live_drewN | apply live_drew))) (by repeat (first | exact List.Mem.head _ | apply List.Mem.tail)) _); rintro e wn ⟨v, rfl, ho, hb⟩; obtain ⟨Az5, cz5, rfl, _, _⟩ := Kd.R_reads ho;   have nl_ := Aside0.mk (live_add (by (repeat (first | exact HL.out | apply live_alloc | apply live_drewN | apply live_drew))) hb ho); have nb_ := Aside0.mk (below_step (by repeat (first | exact HB.out | apply below_alloc | apply pw_below_drewN | apply below_drew1)) hb); clear HL HB; have HL := nl_; have HB := nb_; clear nl_ nb_ hb ho))
  go_upto_region 11 with (first | (go_at_call 47; (with_reducible refine (headendlaw01_alive.calls true _ rfl).mono ?_); rintro e wn ⟨rfl, hb⟩;   have nl_ := Aside0.mk (live_below (by (repeat (first | exact HL.out | apply live_alloc | apply live_drewN | apply live_drew))) hb); have nb_ := Aside0.mk (below_step (by repeat (first | exact HB.out | apply below_alloc | apply pw_below_drewN | apply below_drew1)) hb); clear HL HB; have HL := nl_; have HB := nb_; clear nl_ nb_ hb) | ((with_reducible refine gate_dst (N := 59) rfl ?_); (try (refine gate_guard (by rfl) ?_; dsimp only)); refine Kd.R_lit (Kd.int .u32) _ 84 ?hg (N := 59) ?hd (xs := ([4294967295] : List Int)) (inner := [.int .u32 4294967295]) (ok := fun _ => True) (okp := fun _ => True) ?hr ?hp (fun _ hk => hk) trivial (Below.refl _ _) (Nat.le_refl _) (by simp) ?_; (case hd => rfl); (case hg => rfl); (case hr => first | (go_simp; done) | (go_simp; rfl)); (case hp => exact Reps.one (show Kd.M (Kd.int .u32) _ _ _ 4294967295 [.int .u32 4294967295] from rfl) (Reps.none _ _)); intro v wn ho hb hg_ hnew_; clear hg_ hnew_; rw [← Y1.out] at ho; obtain ⟨Az6, cz6, rfl, _, _⟩ := Kd.R_reads ho;   have nl_ := Aside0.mk (live_add (by (repeat (first | exact HL.out | apply live_alloc | apply live_drewN | apply live_drew))) hb ho); have nb_ := Aside0.mk (below_step (by repeat (first | exact HB.out | apply below_alloc | apply pw_below_drewN | apply below_drew1)) hb); clear HL HB; have HL := nl_; have HB := nb_; clear nl_ nb_ hb ho) | (go_at_call 65; (with_reducible refine (headendlaw01_is.calls k _ _ _ _ _ _ _ _ _ ?s0 ?s1 ?s2 ?s3 I1.out).mono ?_); (case s0 => exact (live_C (by (repeat (first | exact HL.out | apply live_alloc | apply live_drewN | apply live_drew))) (by repeat (first | exact List.Mem.head _ | apply List.Mem.tail))).2.2); (case s1 => exact (live_C (by (repeat (first | exact HL.out | apply live_alloc | apply live_drewN | apply live_drew))) (by repeat (first | exact List.Mem.head _ | apply List.Mem.tail))).2.1); (case s2 => exact (live_C (by (repeat (first | exact HL.out | apply live_alloc | apply live_drewN | apply live_drew))) (by repeat (first | exact List.Mem.head _ | apply List.Mem.tail))).2.2); (case s3 => exact (live_C (by (repeat (first | exact HL.out | apply live_alloc | apply live_drewN | apply live_drew))) (by repeat (first | exact List.Mem.head _ | apply List.Mem.tail))).2.1); rintro e wn ⟨rfl, hb⟩; replace hb := hb.below;   have nl_ := Aside0.mk (live_below (by (repeat (first | exact HL.out | apply live_alloc | apply live_drewN | apply live_drew))) hb); have nb_ := Aside0.mk (below_step (by repeat (first | exact HB.out | apply below_alloc | apply pw_below_drewN | apply below_drew1)) hb); clear HL HB; have HL := nl_; have HB := nb_; clear nl_ nb_ hb) | ((with_reducible refine gate_dst (N := 76) rfl ?_); (try (refine gate_guard (by rfl) ?_; dsimp only)); refine Kd.R_lit (Kd.int .u32) _ 84 ?hg (N := 76) ?hd (xs := ([1, 0] : List Int)) (inner := [.int .u32 1, .int .u32 0]) (ok := fun _ => True) (okp := fun _ => True) ?hr ?hp (fun _ hk => hk) trivial (Below.refl _ _) (Nat.le_refl _) (by simp) ?_; (case hd => rfl); (case hg => rfl); (case hr => first | (go_simp; done) | (go_simp; rfl)); (case hp => exact Reps.one (show Kd.M (Kd.int .u32) _ _ _ 1 [.int .u32 1] from rfl) (Reps.one (show Kd.M (Kd.int .u32) _ _ _ 0 [.int .u32 0] from rfl) (Reps.none _ _))); intro v wn ho hb hg_ hnew_; clear hg_ hnew_; rw [← Y2.out] at ho; obtain ⟨Az7, cz7, rfl, _, _⟩ := Kd.R_reads ho;   have nl_ := Aside0.mk (live_add (by (repeat (first | exact HL.out | apply live_alloc | apply live_drewN | apply live_drew))) hb ho); have nb_ := Aside0.mk (below_step (by repeat (first | exact HB.out | apply below_alloc | apply pw_below_drewN | apply below_drew1)) hb); clear HL HB; have HL := nl_; have HB := nb_; clear nl_ nb_ hb ho) | (go_at_call 53; (with_reducible refine (number_Check.calls (fun _ => True) _ _ _ _ _ ?s0 C1_.out).mono ?_); (case s0 => exact live_get (by (repeat (first | exact HL.out | apply live_alloc | apply live_drewN | apply live_drew))) (by repeat (first | exact List.Mem.head _ | apply List.Mem.tail)) _); rintro e wn ⟨rfl, hb⟩;   have nl_ := Aside0.mk (live_below (by (repeat (first | exact HL.out | apply live_alloc | apply live_drewN | apply live_drew))) hb); have nb_ := Aside0.mk (below_step (by repeat (first | exact HB.out | apply below_alloc | apply pw_below_drewN | apply below_drew1)) hb); clear HL HB; have HL := nl_; have HB := nb_; clear nl_ nb_ hb) | (go_at_call 53; (with_reducible refine (number_Check.calls (fun _ => True) _ _ _ _ _ ?s0 C2_.out).mono ?_); (case s0 => exact live_get (by (repeat (first | exact HL.out | apply live_alloc | apply live_drewN | apply live_drew))) (by repeat (first | exact List.Mem.head _ | apply List.Mem.tail)) _); rintro e wn ⟨rfl, hb⟩;   have nl_ := Aside0.mk (live_below (by (repeat (first | exact HL.out | apply live_alloc | apply live_drewN | apply live_drew))) hb); have nb_ := Aside0.mk (below_step (by repeat (first | exact HB.out | apply below_alloc | apply pw_below_drewN | apply below_drew1)) hb); clear HL HB; have HL := nl_; have HB := nb_; clear nl_ nb_ hb) | (go_at_call 64; (with_reducible refine (headendlaw01_full.calls k _ _ FU.out).mono ?_); rintro e wn ⟨v, rfl, ho, hb⟩; obtain ⟨Az8, cz8, rfl, _, _⟩ := Kd.R_reads ho;   have nl_ := Aside0.mk (live_add (by (repeat (first | exact HL.out | apply live_alloc | apply live_drewN | apply live_drew))) hb ho); have nb_ := Aside0.mk (below_step (by repeat (first | exact HB.out | apply below_alloc | apply pw_below_drewN | apply below_drew1)) hb); clear HL HB; have HL := nl_; have HB := nb_; clear nl_ nb_ hb ho) | (go_at_call 53; (with_reducible refine (number_Check.calls (fun _ => True) _ _ _ _ _ ?s0 C3_.out).mono ?_); (case s0 => exact live_get (by (repeat (first | exact HL.out | apply live_alloc | apply live_drewN | apply live_drew))) (by repeat (first | exact List.Mem.head _ | apply List.Mem.tail)) _); rintro e wn ⟨rfl, hb⟩;   have nl_ := Aside0.mk (live_below (by (repeat (first | exact HL.out | apply live_alloc | apply live_drewN | apply live_drew))) hb); have nb_ := Aside0.mk (below_step (by repeat (first | exact HB.out | apply below_alloc | apply pw_below_drewN | apply below_drew1)) hb); clear HL HB; have HL := nl_; have HB := nb_; clear nl_ nb_ hb) | (go_at_call 32; (with_reducible refine (number_Of.calls k _ _ _ OF.out).mono ?_); rintro e wn ⟨v, rfl, ho, hb⟩; obtain ⟨Az9, cz9, rfl, _, _⟩ := Kd.R_reads ho;   have nl_ := Aside0.mk (live_add (by (repeat (first | exact HL.out | apply live_alloc | apply live_drewN | apply live_drew))) hb ho); have nb_ := Aside0.mk (below_step (by repeat (first | exact HB.out | apply below_alloc | apply pw_below_drewN | apply below_drew1)) hb); clear HL HB; have HL := nl_; have HB := nb_; clear nl_ nb_ hb ho))
  go_upto_region 12 with (first | (go_at_call 63; (first | with_reducible refine (headendlaw01_n.calls _ _ _ N1.out).mono ?_ | with_reducible refine (headendlaw01_n.calls _ _ _ N2.out).mono ?_ | with_reducible refine (headendlaw01_n.calls _ _ _ N3.out).mono ?_ | with_reducible refine (headendlaw01_n.calls _ _ _ N4.out).mono ?_ | with_reducible refine (headendlaw01_n.calls _ _ _ N5.out).mono ?_ | with_reducible refine (headendlaw01_n.calls _ _ _ N6.out).mono ?_); rintro e wn ⟨v, rfl, ho, hb⟩; obtain ⟨Az10, cz10, rfl, _, _⟩ := Kd.R_reads ho;   have nl_ := Aside0.mk (live_add (by (repeat (first | exact HL.out | apply live_alloc | apply live_drewN | apply live_drew))) hb ho); have nb_ := Aside0.mk (below_step (by repeat (first | exact HB.out | apply below_alloc | apply pw_below_drewN | apply below_drew1)) hb); clear HL HB; have HL := nl_; have HB := nb_; clear nl_ nb_ hb ho) | (go_at_call 59; (refine (number_Div.calls (fun _ => True) _ _ _ (fun _ => True) none 0 [] _ _ _ _ ?s0 (Kd.V_nil _ _ _ _ _) D1.out).mono ?_); (case s0 => exact live_get (by (repeat (first | exact HL.out | apply live_alloc | apply live_drewN | apply live_drew))) (by repeat (first | exact List.Mem.head _ | apply List.Mem.tail)) _); rintro e wn ⟨v, u, rfl, ho, hu, hb⟩; obtain ⟨Az11, cz11, rfl, _, _⟩ := Kd.R_reads ho; obtain ⟨Az12, cz12, rfl, _, _⟩ := Kd.R_reads hu;   have nl_ := Aside0.mk (live_add (live_add (by (repeat (first | exact HL.out | apply live_alloc | apply live_drewN | apply live_drew))) hb ho) (Below.refl _ _) hu); have nb_ := Aside0.mk (below_step (by repeat (first | exact HB.out | apply below_alloc | apply pw_below_drewN | apply below_drew1)) hb); clear HL HB; have HL := nl_; have HB := nb_; clear nl_ nb_ hb ho hu))
  go_upto_region 13 with (first | (go_at_call 63; (first | with_reducible refine (headendlaw01_n.calls _ _ _ N1.out).mono ?_ | with_reducible refine (headendlaw01_n.calls _ _ _ N2.out).mono ?_ | with_reducible refine (headendlaw01_n.calls _ _ _ N3.out).mono ?_ | with_reducible refine (headendlaw01_n.calls _ _ _ N4.out).mono ?_ | with_reducible refine (headendlaw01_n.calls _ _ _ N5.out).mono ?_ | with_reducible refine (headendlaw01_n.calls _ _ _ N6.out).mono ?_); rintro e wn ⟨v, rfl, ho, hb⟩; obtain ⟨Az14, cz14, rfl, _, _⟩ := Kd.R_reads ho;   have nl_ := Aside0.mk (live_add (by (repeat (first | exact HL.out | apply live_alloc | apply live_drewN | apply live_drew))) hb ho); have nb_ := Aside0.mk (below_step (by repeat (first | exact HB.out | apply below_alloc | apply pw_below_drewN | apply below_drew1)) hb); clear HL HB; have HL := nl_; have HB := nb_; clear nl_ nb_ hb ho) | (go_at_call 61; (refine (number_Gcd.calls k (fun _ => True) none 0 [] (fun _ => True) _ _ _ _ _ _ (Kd.V_nil _ _ _ _ _) ?s1 G1.out).mono ?_); (case s1 => exact live_get (by (repeat (first | exact HL.out | apply live_alloc | apply live_drewN | apply live_drew))) (by repeat (first | exact List.Mem.head _ | apply List.Mem.tail)) _); rintro e wn ⟨v, rfl, ho, hb⟩; obtain ⟨Agc, cgc, rfl, _, _⟩ := Kd.R_reads ho;   have nl_ := Aside0.mk (live_add (by (repeat (first | exact HL.out | apply live_alloc | apply live_drewN | apply live_drew))) hb ho); have nb_ := Aside0.mk (below_step (by repeat (first | exact HB.out | apply below_alloc | apply pw_below_drewN | apply below_drew1)) hb); clear HL HB; have HL := nl_; have HB := nb_; clear nl_ nb_ hb ho))
  go_upto_region 18 with (first | (go_at_call 29; (with_reducible refine (number_Parse.calls k _ _ _ _ P1.out).mono ?_); rintro e wn ⟨v, rfl, ho, hb⟩; obtain ⟨Az15, cz15, rfl, _, _⟩ := Kd.R_reads ho;   have nl_ := Aside0.mk (live_add (by (repeat (first | exact HL.out | apply live_alloc | apply live_drewN | apply live_drew))) hb ho); have nb_ := Aside0.mk (below_step (by repeat (first | exact HB.out | apply below_alloc | apply pw_below_drewN | apply below_drew1)) hb); clear HL HB; have HL := nl_; have HB := nb_; clear nl_ nb_ hb ho) | (go_at_call 29; (with_reducible refine (number_Parse.calls k _ _ _ _ P2.out).mono ?_); rintro e wn ⟨v, rfl, ho, hb⟩; obtain ⟨Az16, cz16, rfl, _, _⟩ := Kd.R_reads ho;   have nl_ := Aside0.mk (live_add (by (repeat (first | exact HL.out | apply live_alloc | apply live_drewN | apply live_drew))) hb ho); have nb_ := Aside0.mk (below_step (by repeat (first | exact HB.out | apply below_alloc | apply pw_below_drewN | apply below_drew1)) hb); clear HL HB; have HL := nl_; have HB := nb_; clear nl_ nb_ hb ho) | (go_at_call 29; (with_reducible refine (number_Parse.calls k _ _ _ _ P3.out).mono ?_); rintro e wn ⟨v, rfl, ho, hb⟩; obtain ⟨Az17, cz17, rfl, _, _⟩ := Kd.R_reads ho;   have nl_ := Aside0.mk (live_add (by (repeat (first | exact HL.out | apply live_alloc | apply live_drewN | apply live_drew))) hb ho); have nb_ := Aside0.mk (below_step (by repeat (first | exact HB.out | apply below_alloc | apply pw_below_drewN | apply below_drew1)) hb); clear HL HB; have HL := nl_; have HB := nb_; clear nl_ nb_ hb ho) | ((with_reducible refine gate_dst (N := 123) rfl ?_); (try (refine gate_guard (by rfl) ?_; dsimp only)); refine Kd.R_lit (Kd.int .u32) _ 84 ?hg (N := 123) ?hd (xs := ([5] : List Int)) (inner := [.int .u32 5]) (ok := fun _ => True) (okp := fun _ => True) ?hr ?hp (fun _ hk => hk) trivial (Below.refl _ _) (Nat.le_refl _) (by simp) ?_; (case hd => rfl); (case hg => rfl); (case hr => first | (go_simp; done) | (go_simp; rfl)); (case hp => exact Reps.one (show Kd.M (Kd.int .u32) _ _ _ 5 [.int .u32 5] from rfl) (Reps.none _ _)); intro v wn ho hb hg_ hnew_; clear hg_ hnew_; rw [← Y5.out] at ho; obtain ⟨Az18, cz18, rfl, _, _⟩ := Kd.R_reads ho;   have nl_ := Aside0.mk (live_add (by (repeat (first | exact HL.out | apply live_alloc | apply live_drewN | apply live_drew))) hb ho); have nb_ := Aside0.mk (below_step (by repeat (first | exact HB.out | apply below_alloc | apply pw_below_drewN | apply below_drew1)) hb); clear HL HB; have HL := nl_; have HB := nb_; clear nl_ nb_ hb ho) | (go_at_call 65; (with_reducible refine (headendlaw01_is.calls k _ _ _ _ _ _ _ _ _ ?s0 ?s1 ?s2 ?s3 I2.out).mono ?_); (case s0 => exact (live_C (by (repeat (first | exact HL.out | apply live_alloc | apply live_drewN | apply live_drew))) (by repeat (first | exact List.Mem.head _ | apply List.Mem.tail))).2.2); (case s1 => exact (live_C (by (repeat (first | exact HL.out | apply live_alloc | apply live_drewN | apply live_drew))) (by repeat (first | exact List.Mem.head _ | apply List.Mem.tail))).2.1); (case s2 => exact (live_C (by (repeat (first | exact HL.out | apply live_alloc | apply live_drewN | apply live_drew))) (by repeat (first | exact List.Mem.head _ | apply List.Mem.tail))).2.2); (case s3 => exact (live_C (by (repeat (first | exact HL.out | apply live_alloc | apply live_drewN | apply live_drew))) (by repeat (first | exact List.Mem.head _ | apply List.Mem.tail))).2.1); rintro e wn ⟨rfl, hb⟩; replace hb := hb.below;   have nl_ := Aside0.mk (live_below (by (repeat (first | exact HL.out | apply live_alloc | apply live_drewN | apply live_drew))) hb); have nb_ := Aside0.mk (below_step (by repeat (first | exact HB.out | apply below_alloc | apply pw_below_drewN | apply below_drew1)) hb); clear HL HB; have HL := nl_; have HB := nb_; clear nl_ nb_ hb))
  go_upto_region 19 with (first | (go_at_call 63; (first | with_reducible refine (headendlaw01_n.calls _ _ _ N1.out).mono ?_ | with_reducible refine (headendlaw01_n.calls _ _ _ N2.out).mono ?_ | with_reducible refine (headendlaw01_n.calls _ _ _ N3.out).mono ?_ | with_reducible refine (headendlaw01_n.calls _ _ _ N4.out).mono ?_ | with_reducible refine (headendlaw01_n.calls _ _ _ N5.out).mono ?_ | with_reducible refine (headendlaw01_n.calls _ _ _ N6.out).mono ?_); rintro e wn ⟨v, rfl, ho, hb⟩; obtain ⟨Az19, cz19, rfl, _, _⟩ := Kd.R_reads ho;   have nl_ := Aside0.mk (live_add (by (repeat (first | exact HL.out | apply live_alloc | apply live_drewN | apply live_drew))) hb ho); have nb_ := Aside0.mk (below_step (by repeat (first | exact HB.out | apply below_alloc | apply pw_below_drewN | apply below_drew1)) hb); clear HL HB; have HL := nl_; have HB := nb_; clear nl_ nb_ hb ho) | (go_at_call 35; (refine (number_Ratio.calls k (fun _ => True) none 0 [] (fun _ => True) _ _ _ _ _ _ _ (Kd.V_nil _ _ _ _ _) ?s1 R1.out).mono ?_); (case s1 => exact live_get (by (repeat (first | exact HL.out | apply live_alloc | apply live_drewN | apply live_drew))) (by repeat (first | exact List.Mem.head _ | apply List.Mem.tail)) _); rintro e wn ⟨v, u, rfl, ho, hu, hb⟩; obtain ⟨Arn, crn, rfl, _, _⟩ := Kd.R_reads ho; obtain ⟨Ard, crd, rfl, _, _⟩ := Kd.R_reads hu;   have nl_ := Aside0.mk (live_add (live_add (by (repeat (first | exact HL.out | apply live_alloc | apply live_drewN | apply live_drew))) hb ho) (Below.refl _ _) hu); have nb_ := Aside0.mk (below_step (by repeat (first | exact HB.out | apply below_alloc | apply pw_below_drewN | apply below_drew1)) hb); clear HL HB; have HL := nl_; have HB := nb_; clear nl_ nb_ hb ho hu))
  have HX := Aside0.mk (show (wn.alloc (Obj.cells #[.slice Arn rn.length crn, .slice Ard rd.length crd] 54)).heap[wn.heap.size]? = some (.cells #[.slice Arn rn.length crn, .slice Ard rd.length crd] 54 (0, 0)) from blk_new wn _)
  have nl_ := Aside0.mk (live_alloc HL.out (Obj.cells #[.slice Arn rn.length crn, .slice Ard rd.length crd] 54))
  have nb_ := Aside0.mk (below_alloc HB.out (Obj.cells #[.slice Arn rn.length crn, .slice Ard rd.length crd] 54))
  clear HL HB
  have HL := nl_
  have HB := nb_
  clear nl_ nb_
  generalize hW_ : wn.alloc (Obj.cells #[.slice Arn rn.length crn, .slice Ard rd.length crd] 54) = W_gX at *
  generalize hg_ : wn.heap.size = gX at *
  clear hW_ hg_
  go_upto_region 20 with (first | (go_at_call 63; (first | with_reducible refine (headendlaw01_n.calls _ _ _ N1.out).mono ?_ | with_reducible refine (headendlaw01_n.calls _ _ _ N2.out).mono ?_ | with_reducible refine (headendlaw01_n.calls _ _ _ N3.out).mono ?_ | with_reducible refine (headendlaw01_n.calls _ _ _ N4.out).mono ?_ | with_reducible refine (headendlaw01_n.calls _ _ _ N5.out).mono ?_ | with_reducible refine (headendlaw01_n.calls _ _ _ N6.out).mono ?_); rintro e wn ⟨v, rfl, ho, hb⟩; obtain ⟨Az21, cz21, rfl, _, _⟩ := Kd.R_reads ho;  have nHX_ := Aside0.mk ((hb.block _ (blk_lt HX.out)).trans HX.out); clear HX; have HX := nHX_; clear nHX_; have nl_ := Aside0.mk (live_add (by (repeat (first | exact HL.out | apply live_alloc | apply live_drewN | apply live_drew))) hb ho); have nb_ := Aside0.mk (below_step (by repeat (first | exact HB.out | apply below_alloc | apply pw_below_drewN | apply below_drew1)) hb); clear HL HB; have HL := nl_; have HB := nb_; clear nl_ nb_ hb ho) | (go_at_call 35; (refine (number_Ratio.calls k (fun _ => True) _ _ _ (fun _ => True) none 0 [] _ _ _ _ ?s0 (Kd.V_nil _ _ _ _ _) R2.out).mono ?_); (case s0 => exact live_get (by (repeat (first | exact HL.out | apply live_alloc | apply live_drewN | apply live_drew))) (by repeat (first | exact List.Mem.head _ | apply List.Mem.tail)) _); rintro e wn ⟨v, u, rfl, ho, hu, hb⟩; obtain ⟨Az22, cz22, rfl, _, _⟩ := Kd.R_reads ho; obtain ⟨Az23, cz23, rfl, _, _⟩ := Kd.R_reads hu;  have nHX_ := Aside0.mk ((hb.block _ (blk_lt HX.out)).trans HX.out); clear HX; have HX := nHX_; clear nHX_; have nl_ := Aside0.mk (live_add (live_add (by (repeat (first | exact HL.out | apply live_alloc | apply live_drewN | apply live_drew))) hb ho) (Below.refl _ _) hu); have nb_ := Aside0.mk (below_step (by repeat (first | exact HB.out | apply below_alloc | apply pw_below_drewN | apply below_drew1)) hb); clear HL HB; have HL := nl_; have HB := nb_; clear nl_ nb_ hb ho hu))
  go_upto_region 21 with (first | (go_at_call 66; (with_reducible refine (headendlaw01_fraction.calls _ _ _ _ _ Q12.out).mono ?_); rintro e wn ⟨v, u, rfl, ho, hu, hb⟩; obtain ⟨Af12n, cf12n, rfl, _, _⟩ := Kd.R_reads ho; obtain ⟨Af12d, cf12d, rfl, _, _⟩ := Kd.R_reads hu;  have nHX_ := Aside0.mk ((hb.block _ (blk_lt HX.out)).trans HX.out); clear HX; have HX := nHX_; clear nHX_; have nl_ := Aside0.mk (live_add (live_add (by (repeat (first | exact HL.out | apply live_alloc | apply live_drewN | apply live_drew))) hb ho) (Below.refl _ _) hu); have nb_ := Aside0.mk (below_step (by repeat (first | exact HB.out | apply below_alloc | apply pw_below_drewN | apply below_drew1)) hb); clear HL HB; have HL := nl_; have HB := nb_; clear nl_ nb_ hb ho hu) | (go_at_call 66; (with_reducible refine (headendlaw01_fraction.calls _ _ _ _ _ Q13.out).mono ?_); rintro e wn ⟨v, u, rfl, ho, hu, hb⟩; obtain ⟨Af13n, cf13n, rfl, _, _⟩ := Kd.R_reads ho; obtain ⟨Af13d, cf13d, rfl, _, _⟩ := Kd.R_reads hu;  have nHX_ := Aside0.mk ((hb.block _ (blk_lt HX.out)).trans HX.out); clear HX; have HX := nHX_; clear nHX_; have nl_ := Aside0.mk (live_add (live_add (by (repeat (first | exact HL.out | apply live_alloc | apply live_drewN | apply live_drew))) hb ho) (Below.refl _ _) hu); have nb_ := Aside0.mk (below_step (by repeat (first | exact HB.out | apply below_alloc | apply pw_below_drewN | apply below_drew1)) hb); clear HL HB; have HL := nl_; have HB := nb_; clear nl_ nb_ hb ho hu) | (go_at_call 42; (with_reducible refine (number_AddFractions.calls k _ _ _ _ _ _ _ _ _ _ _ _ _ _ _ _ ?s0 AF.out).mono ?_); (case s0 => exact ex_four (by (repeat (first | exact HL.out | apply live_alloc | apply live_drewN | apply live_drew))) (by repeat (first | exact List.Mem.head _ | apply List.Mem.tail)) (by repeat (first | exact List.Mem.head _ | apply List.Mem.tail)) (by repeat (first | exact List.Mem.head _ | apply List.Mem.tail)) (by repeat (first | exact List.Mem.head _ | apply List.Mem.tail))); rintro e wn ⟨v, u, rfl, ho, hu, hb⟩; obtain ⟨Aan, can, rfl, _, _⟩ := Kd.R_reads ho; obtain ⟨Aad, cad, rfl, _, _⟩ := Kd.R_reads hu;  have nHX_ := Aside0.mk ((hb.block _ (blk_lt HX.out)).trans HX.out); clear HX; have HX := nHX_; clear nHX_; have nl_ := Aside0.mk (live_add (live_add (by (repeat (first | exact HL.out | apply live_alloc | apply live_drewN | apply live_drew))) hb ho) (Below.refl _ _) hu); have nb_ := Aside0.mk (below_step (by repeat (first | exact HB.out | apply below_alloc | apply pw_below_drewN | apply below_drew1)) hb); clear HL HB; have HL := nl_; have HB := nb_; clear nl_ nb_ hb ho hu))
  have HY := Aside0.mk (show (wn.alloc (Obj.cells #[.slice Aan an.length can, .slice Aad ad.length cad] 54)).heap[wn.heap.size]? = some (.cells #[.slice Aan an.length can, .slice Aad ad.length cad] 54 (0, 0)) from blk_new wn _)
  have nHX_ := Aside0.mk (blk_alloc HX.out (Obj.cells #[.slice Aan an.length can, .slice Aad ad.length cad] 54))
  clear HX
  have HX := nHX_
  clear nHX_
  have nl_ := Aside0.mk (live_alloc HL.out (Obj.cells #[.slice Aan an.length can, .slice Aad ad.length cad] 54))
  have nb_ := Aside0.mk (below_alloc HB.out (Obj.cells #[.slice Aan an.length can, .slice Aad ad.length cad] 54))
  clear HL HB
  have HL := nl_
  have HB := nb_
  clear nl_ nb_
  generalize hW_ : wn.alloc (Obj.cells #[.slice Aan an.length can, .slice Aad ad.length cad] 54) = W_gY at *
  generalize hg_ : wn.heap.size = gY at *
  clear hW_ hg_
  go_upto_region 22 with (first | (go_at_call 66; (with_reducible refine (headendlaw01_fraction.calls _ _ _ _ _ Q23.out).mono ?_); rintro e wn ⟨v, u, rfl, ho, hu, hb⟩; obtain ⟨Af23n, cf23n, rfl, _, _⟩ := Kd.R_reads ho; obtain ⟨Af23d, cf23d, rfl, _, _⟩ := Kd.R_reads hu;  have nHX_ := Aside0.mk ((hb.block _ (blk_lt HX.out)).trans HX.out); clear HX; have HX := nHX_; clear nHX_; have nHY_ := Aside0.mk ((hb.block _ (blk_lt HY.out)).trans HY.out); clear HY; have HY := nHY_; clear nHY_; have nl_ := Aside0.mk (live_add (live_add (by (repeat (first | exact HL.out | apply live_alloc | apply live_drewN | apply live_drew))) hb ho) (Below.refl _ _) hu); have nb_ := Aside0.mk (below_step (by repeat (first | exact HB.out | apply below_alloc | apply pw_below_drewN | apply below_drew1)) hb); clear HL HB; have HL := nl_; have HB := nb_; clear nl_ nb_ hb ho hu) | (go_at_call 66; (with_reducible refine (headendlaw01_fraction.calls _ _ _ _ _ Q34.out).mono ?_); rintro e wn ⟨v, u, rfl, ho, hu, hb⟩; obtain ⟨Af34n, cf34n, rfl, _, _⟩ := Kd.R_reads ho; obtain ⟨Af34d, cf34d, rfl, _, _⟩ := Kd.R_reads hu;  have nHX_ := Aside0.mk ((hb.block _ (blk_lt HX.out)).trans HX.out); clear HX; have HX := nHX_; clear nHX_; have nHY_ := Aside0.mk ((hb.block _ (blk_lt HY.out)).trans HY.out); clear HY; have HY := nHY_; clear nHY_; have nl_ := Aside0.mk (live_add (live_add (by (repeat (first | exact HL.out | apply live_alloc | apply live_drewN | apply live_drew))) hb ho) (Below.refl _ _) hu); have nb_ := Aside0.mk (below_step (by repeat (first | exact HB.out | apply below_alloc | apply pw_below_drewN | apply below_drew1)) hb); clear HL HB; have HL := nl_; have HB := nb_; clear nl_ nb_ hb ho hu) | (go_at_call 45; (with_reducible refine (number_MulFractions.calls k _ _ _ _ _ _ _ _ _ _ _ _ _ _ _ _ ?s0 MF.out).mono ?_); (case s0 => exact ex_four (by (repeat (first | exact HL.out | apply live_alloc | apply live_drewN | apply live_drew))) (by repeat (first | exact List.Mem.head _ | apply List.Mem.tail)) (by repeat (first | exact List.Mem.head _ | apply List.Mem.tail)) (by repeat (first | exact List.Mem.head _ | apply List.Mem.tail)) (by repeat (first | exact List.Mem.head _ | apply List.Mem.tail))); rintro e wn ⟨v, u, rfl, ho, hu, hb⟩; obtain ⟨Aun, cun, rfl, _, _⟩ := Kd.R_reads ho; obtain ⟨Aud, cud, rfl, _, _⟩ := Kd.R_reads hu;  have nHX_ := Aside0.mk ((hb.block _ (blk_lt HX.out)).trans HX.out); clear HX; have HX := nHX_; clear nHX_; have nHY_ := Aside0.mk ((hb.block _ (blk_lt HY.out)).trans HY.out); clear HY; have HY := nHY_; clear nHY_; have nl_ := Aside0.mk (live_add (live_add (by (repeat (first | exact HL.out | apply live_alloc | apply live_drewN | apply live_drew))) hb ho) (Below.refl _ _) hu); have nb_ := Aside0.mk (below_step (by repeat (first | exact HB.out | apply below_alloc | apply pw_below_drewN | apply below_drew1)) hb); clear HL HB; have HL := nl_; have HB := nb_; clear nl_ nb_ hb ho hu))
  have HZ := Aside0.mk (show (wn.alloc (Obj.cells #[.slice Aun un.length cun, .slice Aud ud.length cud] 54)).heap[wn.heap.size]? = some (.cells #[.slice Aun un.length cun, .slice Aud ud.length cud] 54 (0, 0)) from blk_new wn _)
  have nHX_ := Aside0.mk (blk_alloc HX.out (Obj.cells #[.slice Aun un.length cun, .slice Aud ud.length cud] 54))
  clear HX
  have HX := nHX_
  clear nHX_
  have nHY_ := Aside0.mk (blk_alloc HY.out (Obj.cells #[.slice Aun un.length cun, .slice Aud ud.length cud] 54))
  clear HY
  have HY := nHY_
  clear nHY_
  have nl_ := Aside0.mk (live_alloc HL.out (Obj.cells #[.slice Aun un.length cun, .slice Aud ud.length cud] 54))
  have nb_ := Aside0.mk (below_alloc HB.out (Obj.cells #[.slice Aun un.length cun, .slice Aud ud.length cud] 54))
  clear HL HB
  have HL := nl_
  have HB := nb_
  clear nl_ nb_
  generalize hW_ : wn.alloc (Obj.cells #[.slice Aun un.length cun, .slice Aud ud.length cud] 54) = W_gZ at *
  generalize hg_ : wn.heap.size = gZ at *
  clear hW_ hg_
  go_upto_region 23 with (first | (go_at_call 66; (with_reducible refine (headendlaw01_fraction.calls _ _ _ _ _ Q13.out).mono ?_); rintro e wn ⟨v, u, rfl, ho, hu, hb⟩; obtain ⟨Af13n, cf13n, rfl, _, _⟩ := Kd.R_reads ho; obtain ⟨Af13d, cf13d, rfl, _, _⟩ := Kd.R_reads hu;  have nHX_ := Aside0.mk ((hb.block _ (blk_lt HX.out)).trans HX.out); clear HX; have HX := nHX_; clear nHX_; have nHY_ := Aside0.mk ((hb.block _ (blk_lt HY.out)).trans HY.out); clear HY; have HY := nHY_; clear nHY_; have nHZ_ := Aside0.mk ((hb.block _ (blk_lt HZ.out)).trans HZ.out); clear HZ; have HZ := nHZ_; clear nHZ_; have nl_ := Aside0.mk (live_add (live_add (by (repeat (first | exact HL.out | apply live_alloc | apply live_drewN | apply live_drew))) hb ho) (Below.refl _ _) hu); have nb_ := Aside0.mk (below_step (by repeat (first | exact HB.out | apply below_alloc | apply pw_below_drewN | apply below_drew1)) hb); clear HL HB; have HL := nl_; have HB := nb_; clear nl_ nb_ hb ho hu) | (go_at_call 66; (with_reducible refine (headendlaw01_fraction.calls _ _ _ _ _ Q25.out).mono ?_); rintro e wn ⟨v, u, rfl, ho, hu, hb⟩; obtain ⟨Af25n, cf25n, rfl, _, _⟩ := Kd.R_reads ho; obtain ⟨Af25d, cf25d, rfl, _, _⟩ := Kd.R_reads hu;  have nHX_ := Aside0.mk ((hb.block _ (blk_lt HX.out)).trans HX.out); clear HX; have HX := nHX_; clear nHX_; have nHY_ := Aside0.mk ((hb.block _ (blk_lt HY.out)).trans HY.out); clear HY; have HY := nHY_; clear nHY_; have nHZ_ := Aside0.mk ((hb.block _ (blk_lt HZ.out)).trans HZ.out); clear HZ; have HZ := nHZ_; clear nHZ_; have nl_ := Aside0.mk (live_add (live_add (by (repeat (first | exact HL.out | apply live_alloc | apply live_drewN | apply live_drew))) hb ho) (Below.refl _ _) hu); have nb_ := Aside0.mk (below_step (by repeat (first | exact HB.out | apply below_alloc | apply pw_below_drewN | apply below_drew1)) hb); clear HL HB; have HL := nl_; have HB := nb_; clear nl_ nb_ hb ho hu) | (go_at_call 40; (with_reducible refine (number_CompareFractions.calls k _ _ _ _ _ _ _ _ _ _ _ _ _ _ _ ?s0 CF.out).mono ?_); (case s0 => exact ex_four (by (repeat (first | exact HL.out | apply live_alloc | apply live_drewN | apply live_drew))) (by repeat (first | exact List.Mem.head _ | apply List.Mem.tail)) (by repeat (first | exact List.Mem.head _ | apply List.Mem.tail)) (by repeat (first | exact List.Mem.head _ | apply List.Mem.tail)) (by repeat (first | exact List.Mem.head _ | apply List.Mem.tail))); rintro e wn ⟨rfl, hb⟩;  have nHX_ := Aside0.mk ((hb.block _ (blk_lt HX.out)).trans HX.out); clear HX; have HX := nHX_; clear nHX_; have nHY_ := Aside0.mk ((hb.block _ (blk_lt HY.out)).trans HY.out); clear HY; have HY := nHY_; clear nHY_; have nHZ_ := Aside0.mk ((hb.block _ (blk_lt HZ.out)).trans HZ.out); clear HZ; have HZ := nHZ_; clear nHZ_; have nl_ := Aside0.mk (live_below (by (repeat (first | exact HL.out | apply live_alloc | apply live_drewN | apply live_drew))) hb); have nb_ := Aside0.mk (below_step (by repeat (first | exact HB.out | apply below_alloc | apply pw_below_drewN | apply below_drew1)) hb); clear HL HB; have HL := nl_; have HB := nb_; clear nl_ nb_ hb))
  have hmx : Try.prog.follows .mixedOrders = true := by kernel_rfl
  have hS : wn.drew.cell? ⟨gX, 0, none⟩ = some (.slice Arn rn.length crn) ∧ wn.drew.cell? ⟨gX, 1, none⟩ = some (.slice Ard rd.length crd) ∧ wn.drew.cell? ⟨gY, 0, none⟩ = some (.slice Aan an.length can) ∧ wn.drew.cell? ⟨gY, 1, none⟩ = some (.slice Aad ad.length cad) ∧ wn.drew.cell? ⟨gZ, 0, none⟩ = some (.slice Aun un.length cun) ∧ wn.drew.cell? ⟨gZ, 1, none⟩ = some (.slice Aud ud.length cud) := ⟨(blk_cell HX.out 0).trans rfl, (blk_cell HX.out 1).trans rfl, (blk_cell HY.out 0).trans rfl, (blk_cell HY.out 1).trans rfl, (blk_cell HZ.out 0).trans rfl, (blk_cell HZ.out 1).trans rfl⟩
  have nl_ := Aside0.mk (live_drew HL.out)
  have nb_ := Aside0.mk (below_drew1 HB.out)
  clear HL HB HX HY HZ
  have HL := nl_
  have HB := nb_
  clear nl_ nb_
  refine wp_region_any hmx ?_
  refine wpAny_of_held (S := fun W' => W'.cell? ⟨gX, 0, none⟩ = some (.slice Arn rn.length crn) ∧ W'.cell? ⟨gX, 1, none⟩ = some (.slice Ard rd.length crd) ∧ W'.cell? ⟨gY, 0, none⟩ = some (.slice Aan an.length can) ∧ W'.cell? ⟨gY, 1, none⟩ = some (.slice Aad ad.length cad) ∧ W'.cell? ⟨gZ, 0, none⟩ = some (.slice Aun un.length cun) ∧ W'.cell? ⟨gZ, 1, none⟩ = some (.slice Aud ud.length cud)) _ _ _ _ ?_
  change wpAnyH _ _ _ _ _ 40 #[false, false, false, false, false, false, false, false, false, false, false, false, false, false, false, false, false, false, false, false, false, false, false, false, false, false, false, false, false, false, false, false, false, false, false, false, false, false, false, false] _ wn.drew
  generalize wn.drew = W1 at *
  refine take_at (i := 0) (v := .int .i64 0) rfl rfl (by kernel_rfl) (by kernel_rfl) (by kernel_rfl) (fun _ _ _ h => h) (Or.inl ⟨by rfl, ?_⟩) hS ?_
  · intro w hSw
    (try dsimp only at hSw)
    go_simp
  simp only [Act.put, List.setIfInBounds_toArray, List.set_cons_zero, List.set_cons_succ]
  refine take_at (i := 1) (v := .bool false) rfl rfl (by kernel_rfl) (by kernel_rfl) (by kernel_rfl) (fun _ _ _ h => h) (Or.inl ⟨by rfl, ?_⟩) hS ?_
  · intro w hSw
    (try dsimp only at hSw)
    go_simp
  simp only [Act.put, List.setIfInBounds_toArray, List.set_cons_zero, List.set_cons_succ]
  refine take_at (i := 2) (v := .bool false) rfl rfl (by kernel_rfl) (by kernel_rfl) (by kernel_rfl) (fun _ _ _ h => h) (Or.inl ⟨by rfl, ?_⟩) hS ?_
  · intro w hSw
    (try dsimp only at hSw)
    go_simp
  simp only [Act.put, List.setIfInBounds_toArray, List.set_cons_zero, List.set_cons_succ]
  refine take_at (i := 3) (v := .agg #[.slice Arn rn.length crn, .slice Ard rd.length crd]) rfl rfl (by kernel_rfl) (by kernel_rfl) (by kernel_rfl) (fun _ _ _ h => h) (Or.inl ⟨by rfl, ?_⟩) hS ?_
  · intro w hSw
    (try dsimp only at hSw)
    go_simp
  simp only [Act.put, List.setIfInBounds_toArray, List.set_cons_zero, List.set_cons_succ]
  refine wpAnyH_ready (rs := [4]) (by kernel_rfl) (by simp) ?_
  refine AllReadyH.cons (i := 4) rfl (fun K hK => ?_) AllReadyH.nil
  go_simp
  refine (headendlaw01_fraction.calls _ _ _ _ _ Q01.out).mono ?_
  rintro e w4 ⟨v, u, rfl, ho, hu, hb⟩
  obtain ⟨Af01n, cf01n, rfl, _, _⟩ := Kd.R_reads ho
  obtain ⟨Af01d, cf01d, rfl, _, _⟩ := Kd.R_reads hu
  dsimp only
  have hS9 : _ ∧ _ ∧ _ ∧ _ ∧ _ ∧ _ := ⟨(hb.cell (World.block_lt_of_cell? _ _ hS.1)).trans hS.1, (hb.cell (World.block_lt_of_cell? _ _ hS.2.1)).trans hS.2.1, (hb.cell (World.block_lt_of_cell? _ _ hS.2.2.1)).trans hS.2.2.1, (hb.cell (World.block_lt_of_cell? _ _ hS.2.2.2.1)).trans hS.2.2.2.1, (hb.cell (World.block_lt_of_cell? _ _ hS.2.2.2.2.1)).trans hS.2.2.2.2.1, (hb.cell (World.block_lt_of_cell? _ _ hS.2.2.2.2.2)).trans hS.2.2.2.2.2⟩
  have nl_ := Aside0.mk (live_add (live_add HL.out hb ho) (Below.refl _ _) hu)
  have nb_ := Aside0.mk (below_step HB.out hb)
  refine hK.out _ _ hS9 (fun _ => ?_)
  clear hK K hb HL HB hS ho hu
  have HL := nl_
  have HB := nb_
  have hS := hS9
  clear nl_ nb_ hS9
  simp only [Act.put, List.setIfInBounds_toArray, List.set_cons_zero, List.set_cons_succ]
  refine wpAnyH_ready (rs := [5]) (by kernel_rfl) (by simp) ?_
  refine AllReadyH.cons (i := 5) rfl (fun K hK => ?_) AllReadyH.nil
  go_simp
  refine (headendref01_SameFraction.calls k _ _ _ _ _ _ _ _ _ _ _ _ _ _ ?s0 ?s1 ?s2 ?s3 ?s4 ?s5 ?s6 ?s7 S3.out).mono ?_
  case s0 => exact (live_C (by (repeat (first | exact HL.out | apply live_alloc | apply live_drewN | apply live_drew))) (by repeat (first | exact List.Mem.head _ | apply List.Mem.tail))).2.2
  case s1 => exact (live_C (by (repeat (first | exact HL.out | apply live_alloc | apply live_drewN | apply live_drew))) (by repeat (first | exact List.Mem.head _ | apply List.Mem.tail))).2.1
  case s2 => exact (live_C (by (repeat (first | exact HL.out | apply live_alloc | apply live_drewN | apply live_drew))) (by repeat (first | exact List.Mem.head _ | apply List.Mem.tail))).2.2
  case s3 => exact (live_C (by (repeat (first | exact HL.out | apply live_alloc | apply live_drewN | apply live_drew))) (by repeat (first | exact List.Mem.head _ | apply List.Mem.tail))).2.1
  case s4 => exact (live_C (by (repeat (first | exact HL.out | apply live_alloc | apply live_drewN | apply live_drew))) (by repeat (first | exact List.Mem.head _ | apply List.Mem.tail))).2.2
  case s5 => exact (live_C (by (repeat (first | exact HL.out | apply live_alloc | apply live_drewN | apply live_drew))) (by repeat (first | exact List.Mem.head _ | apply List.Mem.tail))).2.1
  case s6 => exact (live_C (by (repeat (first | exact HL.out | apply live_alloc | apply live_drewN | apply live_drew))) (by repeat (first | exact List.Mem.head _ | apply List.Mem.tail))).2.2
  case s7 => exact (live_C (by (repeat (first | exact HL.out | apply live_alloc | apply live_drewN | apply live_drew))) (by repeat (first | exact List.Mem.head _ | apply List.Mem.tail))).2.1
  rintro e w5 ⟨rfl, hb⟩
  dsimp only
  have hS9 : _ ∧ _ ∧ _ ∧ _ ∧ _ ∧ _ := ⟨(hb.cell (World.block_lt_of_cell? _ _ hS.1)).trans hS.1, (hb.cell (World.block_lt_of_cell? _ _ hS.2.1)).trans hS.2.1, (hb.cell (World.block_lt_of_cell? _ _ hS.2.2.1)).trans hS.2.2.1, (hb.cell (World.block_lt_of_cell? _ _ hS.2.2.2.1)).trans hS.2.2.2.1, (hb.cell (World.block_lt_of_cell? _ _ hS.2.2.2.2.1)).trans hS.2.2.2.2.1, (hb.cell (World.block_lt_of_cell? _ _ hS.2.2.2.2.2)).trans hS.2.2.2.2.2⟩
  have nl_ := Aside0.mk (live_below HL.out hb)
  have nb_ := Aside0.mk (below_step HB.out hb)
  refine hK.out _ _ hS9 (fun _ => ?_)
  clear hK K hb HL HB hS 
  have HL := nl_
  have HB := nb_
  have hS := hS9
  clear nl_ nb_ hS9
  simp only [Act.put, List.setIfInBounds_toArray, List.set_cons_zero, List.set_cons_succ]
  refine take_at (i := 6) (v := .bool false) rfl rfl (by kernel_rfl) (by kernel_rfl) (by kernel_rfl) (fun _ _ _ h => h) (Or.inl ⟨by rfl, ?_⟩) hS ?_
  · intro w hSw
    (try dsimp only at hSw)
    go_simp
  simp only [Act.put, List.setIfInBounds_toArray, List.set_cons_zero, List.set_cons_succ]
  refine take_at (i := 7) (v := .bool false) rfl rfl (by kernel_rfl) (by kernel_rfl) (by kernel_rfl) (fun _ _ _ h => h) (Or.inl ⟨by rfl, ?_⟩) hS ?_
  · intro w hSw
    (try dsimp only at hSw)
    go_simp
  simp only [Act.put, List.setIfInBounds_toArray, List.set_cons_zero, List.set_cons_succ]
  refine take_at (i := 8) (v := .bool false) rfl rfl (by kernel_rfl) (by kernel_rfl) (by kernel_rfl) (fun _ _ _ h => h) (Or.inl ⟨by rfl, ?_⟩) hS ?_
  · intro w hSw
    (try dsimp only at hSw)
    go_simp
  simp only [Act.put, List.setIfInBounds_toArray, List.set_cons_zero, List.set_cons_succ]
  refine take_at (i := 9) (v := .int .i64 10) rfl rfl (by kernel_rfl) (by kernel_rfl) (by kernel_rfl) (fun _ _ _ h => h) (Or.inl ⟨by rfl, ?_⟩) hS ?_
  · intro w hSw
    (try dsimp only at hSw)
    go_simp
  simp only [Act.put, List.setIfInBounds_toArray, List.set_cons_zero, List.set_cons_succ]
  refine take_at (i := 10) (v := .bool false) rfl rfl (by kernel_rfl) (by kernel_rfl) (by kernel_rfl) (fun _ _ _ h => h) (Or.inl ⟨by rfl, ?_⟩) hS ?_
  · intro w hSw
    (try dsimp only at hSw)
    go_simp
  simp only [Act.put, List.setIfInBounds_toArray, List.set_cons_zero, List.set_cons_succ]
  refine take_at (i := 11) (v := .bool false) rfl rfl (by kernel_rfl) (by kernel_rfl) (by kernel_rfl) (fun _ _ _ h => h) (Or.inl ⟨by rfl, ?_⟩) hS ?_
  · intro w hSw
    (try dsimp only at hSw)
    go_simp
  simp only [Act.put, List.setIfInBounds_toArray, List.set_cons_zero, List.set_cons_succ]
  refine take_at (i := 12) (v := .bool false) rfl rfl (by kernel_rfl) (by kernel_rfl) (by kernel_rfl) (fun _ _ _ h => h) (Or.inl ⟨by rfl, ?_⟩) hS ?_
  · intro w hSw
    (try dsimp only at hSw)
    go_simp
  simp only [Act.put, List.setIfInBounds_toArray, List.set_cons_zero, List.set_cons_succ]
  refine take_at (i := 13) (v := .int .i64 0) rfl rfl (by kernel_rfl) (by kernel_rfl) (by kernel_rfl) (fun _ _ _ h => h) (Or.inl ⟨by rfl, ?_⟩) hS ?_
  · intro w hSw
    (try dsimp only at hSw)
    go_simp
  simp only [Act.put, List.setIfInBounds_toArray, List.set_cons_zero, List.set_cons_succ]
  refine take_at (i := 14) (v := .bool false) rfl rfl (by kernel_rfl) (by kernel_rfl) (by kernel_rfl) (fun _ _ _ h => h) (Or.inl ⟨by rfl, ?_⟩) hS ?_
  · intro w hSw
    (try dsimp only at hSw)
    go_simp
  simp only [Act.put, List.setIfInBounds_toArray, List.set_cons_zero, List.set_cons_succ]
  refine take_at (i := 15) (v := .bool false) rfl rfl (by kernel_rfl) (by kernel_rfl) (by kernel_rfl) (fun _ _ _ h => h) (Or.inl ⟨by rfl, ?_⟩) hS ?_
  · intro w hSw
    (try dsimp only at hSw)
    go_simp
  simp only [Act.put, List.setIfInBounds_toArray, List.set_cons_zero, List.set_cons_succ]
  refine take_at (i := 16) (v := .bool false) rfl rfl (by kernel_rfl) (by kernel_rfl) (by kernel_rfl) (fun _ _ _ h => h) (Or.inl ⟨by rfl, ?_⟩) hS ?_
  · intro w hSw
    (try dsimp only at hSw)
    go_simp
  simp only [Act.put, List.setIfInBounds_toArray, List.set_cons_zero, List.set_cons_succ]
  refine take_at (i := 17) (v := .agg #[.slice Aan an.length can, .slice Aad ad.length cad]) rfl rfl (by kernel_rfl) (by kernel_rfl) (by kernel_rfl) (fun _ _ _ h => h) (Or.inl ⟨by rfl, ?_⟩) hS ?_
  · intro w hSw
    (try dsimp only at hSw)
    go_simp
  simp only [Act.put, List.setIfInBounds_toArray, List.set_cons_zero, List.set_cons_succ]
  refine wpAnyH_ready (rs := [18]) (by kernel_rfl) (by simp) ?_
  refine AllReadyH.cons (i := 18) rfl (fun K hK => ?_) AllReadyH.nil
  go_simp
  refine (headendlaw01_fraction.calls _ _ _ _ _ Q56.out).mono ?_
  rintro e w18 ⟨v, u, rfl, ho, hu, hb⟩
  obtain ⟨Af56n, cf56n, rfl, _, _⟩ := Kd.R_reads ho
  obtain ⟨Af56d, cf56d, rfl, _, _⟩ := Kd.R_reads hu
  dsimp only
  have hS9 : _ ∧ _ ∧ _ ∧ _ ∧ _ ∧ _ := ⟨(hb.cell (World.block_lt_of_cell? _ _ hS.1)).trans hS.1, (hb.cell (World.block_lt_of_cell? _ _ hS.2.1)).trans hS.2.1, (hb.cell (World.block_lt_of_cell? _ _ hS.2.2.1)).trans hS.2.2.1, (hb.cell (World.block_lt_of_cell? _ _ hS.2.2.2.1)).trans hS.2.2.2.1, (hb.cell (World.block_lt_of_cell? _ _ hS.2.2.2.2.1)).trans hS.2.2.2.2.1, (hb.cell (World.block_lt_of_cell? _ _ hS.2.2.2.2.2)).trans hS.2.2.2.2.2⟩
  have nl_ := Aside0.mk (live_add (live_add HL.out hb ho) (Below.refl _ _) hu)
  have nb_ := Aside0.mk (below_step HB.out hb)
  refine hK.out _ _ hS9 (fun _ => ?_)
  clear hK K hb HL HB hS ho hu
  have HL := nl_
  have HB := nb_
  have hS := hS9
  clear nl_ nb_ hS9
  simp only [Act.put, List.setIfInBounds_toArray, List.set_cons_zero, List.set_cons_succ]
  refine wpAnyH_ready (rs := [19]) (by kernel_rfl) (by simp) ?_
  refine AllReadyH.cons (i := 19) rfl (fun K hK => ?_) AllReadyH.nil
  go_simp
  refine (headendref01_SameFraction.calls k _ _ _ _ _ _ _ _ _ _ _ _ _ _ ?s0 ?s1 ?s2 ?s3 ?s4 ?s5 ?s6 ?s7 S4.out).mono ?_
  case s0 => exact (live_C (by (repeat (first | exact HL.out | apply live_alloc | apply live_drewN | apply live_drew))) (by repeat (first | exact List.Mem.head _ | apply List.Mem.tail))).2.2
  case s1 => exact (live_C (by (repeat (first | exact HL.out | apply live_alloc | apply live_drewN | apply live_drew))) (by repeat (first | exact List.Mem.head _ | apply List.Mem.tail))).2.1
  case s2 => exact (live_C (by (repeat (first | exact HL.out | apply live_alloc | apply live_drewN | apply live_drew))) (by repeat (first | exact List.Mem.head _ | apply List.Mem.tail))).2.2
  case s3 => exact (live_C (by (repeat (first | exact HL.out | apply live_alloc | apply live_drewN | apply live_drew))) (by repeat (first | exact List.Mem.head _ | apply List.Mem.tail))).2.1
  case s4 => exact (live_C (by (repeat (first | exact HL.out | apply live_alloc | apply live_drewN | apply live_drew))) (by repeat (first | exact List.Mem.head _ | apply List.Mem.tail))).2.2
  case s5 => exact (live_C (by (repeat (first | exact HL.out | apply live_alloc | apply live_drewN | apply live_drew))) (by repeat (first | exact List.Mem.head _ | apply List.Mem.tail))).2.1
  case s6 => exact (live_C (by (repeat (first | exact HL.out | apply live_alloc | apply live_drewN | apply live_drew))) (by repeat (first | exact List.Mem.head _ | apply List.Mem.tail))).2.2
  case s7 => exact (live_C (by (repeat (first | exact HL.out | apply live_alloc | apply live_drewN | apply live_drew))) (by repeat (first | exact List.Mem.head _ | apply List.Mem.tail))).2.1
  rintro e w19 ⟨rfl, hb⟩
  dsimp only
  have hS9 : _ ∧ _ ∧ _ ∧ _ ∧ _ ∧ _ := ⟨(hb.cell (World.block_lt_of_cell? _ _ hS.1)).trans hS.1, (hb.cell (World.block_lt_of_cell? _ _ hS.2.1)).trans hS.2.1, (hb.cell (World.block_lt_of_cell? _ _ hS.2.2.1)).trans hS.2.2.1, (hb.cell (World.block_lt_of_cell? _ _ hS.2.2.2.1)).trans hS.2.2.2.1, (hb.cell (World.block_lt_of_cell? _ _ hS.2.2.2.2.1)).trans hS.2.2.2.2.1, (hb.cell (World.block_lt_of_cell? _ _ hS.2.2.2.2.2)).trans hS.2.2.2.2.2⟩
  have nl_ := Aside0.mk (live_below HL.out hb)
  have nb_ := Aside0.mk (below_step HB.out hb)
  refine hK.out _ _ hS9 (fun _ => ?_)
  clear hK K hb HL HB hS 
  have HL := nl_
  have HB := nb_
  have hS := hS9
  clear nl_ nb_ hS9
  simp only [Act.put, List.setIfInBounds_toArray, List.set_cons_zero, List.set_cons_succ]
  refine take_at (i := 20) (v := .bool false) rfl rfl (by kernel_rfl) (by kernel_rfl) (by kernel_rfl) (fun _ _ _ h => h) (Or.inl ⟨by rfl, ?_⟩) hS ?_
  · intro w hSw
    (try dsimp only at hSw)
    go_simp
  simp only [Act.put, List.setIfInBounds_toArray, List.set_cons_zero, List.set_cons_succ]
  refine take_at (i := 21) (v := .bool false) rfl rfl (by kernel_rfl) (by kernel_rfl) (by kernel_rfl) (fun _ _ _ h => h) (Or.inl ⟨by rfl, ?_⟩) hS ?_
  · intro w hSw
    (try dsimp only at hSw)
    go_simp
  simp only [Act.put, List.setIfInBounds_toArray, List.set_cons_zero, List.set_cons_succ]
  refine take_at (i := 22) (v := .bool false) rfl rfl (by kernel_rfl) (by kernel_rfl) (by kernel_rfl) (fun _ _ _ h => h) (Or.inl ⟨by rfl, ?_⟩) hS ?_
  · intro w hSw
    (try dsimp only at hSw)
    go_simp
  simp only [Act.put, List.setIfInBounds_toArray, List.set_cons_zero, List.set_cons_succ]
  refine take_at (i := 23) (v := .int .i64 0) rfl rfl (by kernel_rfl) (by kernel_rfl) (by kernel_rfl) (fun _ _ _ h => h) (Or.inl ⟨by rfl, ?_⟩) hS ?_
  · intro w hSw
    (try dsimp only at hSw)
    go_simp
  simp only [Act.put, List.setIfInBounds_toArray, List.set_cons_zero, List.set_cons_succ]
  refine take_at (i := 24) (v := .bool false) rfl rfl (by kernel_rfl) (by kernel_rfl) (by kernel_rfl) (fun _ _ _ h => h) (Or.inl ⟨by rfl, ?_⟩) hS ?_
  · intro w hSw
    (try dsimp only at hSw)
    go_simp
  simp only [Act.put, List.setIfInBounds_toArray, List.set_cons_zero, List.set_cons_succ]
  refine take_at (i := 25) (v := .bool false) rfl rfl (by kernel_rfl) (by kernel_rfl) (by kernel_rfl) (fun _ _ _ h => h) (Or.inl ⟨by rfl, ?_⟩) hS ?_
  · intro w hSw
    (try dsimp only at hSw)
    go_simp
  simp only [Act.put, List.setIfInBounds_toArray, List.set_cons_zero, List.set_cons_succ]
  refine take_at (i := 26) (v := .bool false) rfl rfl (by kernel_rfl) (by kernel_rfl) (by kernel_rfl) (fun _ _ _ h => h) (Or.inl ⟨by rfl, ?_⟩) hS ?_
  · intro w hSw
    (try dsimp only at hSw)
    go_simp
  simp only [Act.put, List.setIfInBounds_toArray, List.set_cons_zero, List.set_cons_succ]
  refine take_at (i := 27) (v := .agg #[.slice Aun un.length cun, .slice Aud ud.length cud]) rfl rfl (by kernel_rfl) (by kernel_rfl) (by kernel_rfl) (fun _ _ _ h => h) (Or.inl ⟨by rfl, ?_⟩) hS ?_
  · intro w hSw
    (try dsimp only at hSw)
    go_simp
  simp only [Act.put, List.setIfInBounds_toArray, List.set_cons_zero, List.set_cons_succ]
  refine wpAnyH_ready (rs := [28]) (by kernel_rfl) (by simp) ?_
  refine AllReadyH.cons (i := 28) rfl (fun K hK => ?_) AllReadyH.nil
  go_simp
  refine (headendlaw01_fraction.calls _ _ _ _ _ Q12.out).mono ?_
  rintro e w28 ⟨v, u, rfl, ho, hu, hb⟩
  obtain ⟨Af12n, cf12n, rfl, _, _⟩ := Kd.R_reads ho
  obtain ⟨Af12d, cf12d, rfl, _, _⟩ := Kd.R_reads hu
  dsimp only
  have hS9 : _ ∧ _ ∧ _ ∧ _ ∧ _ ∧ _ := ⟨(hb.cell (World.block_lt_of_cell? _ _ hS.1)).trans hS.1, (hb.cell (World.block_lt_of_cell? _ _ hS.2.1)).trans hS.2.1, (hb.cell (World.block_lt_of_cell? _ _ hS.2.2.1)).trans hS.2.2.1, (hb.cell (World.block_lt_of_cell? _ _ hS.2.2.2.1)).trans hS.2.2.2.1, (hb.cell (World.block_lt_of_cell? _ _ hS.2.2.2.2.1)).trans hS.2.2.2.2.1, (hb.cell (World.block_lt_of_cell? _ _ hS.2.2.2.2.2)).trans hS.2.2.2.2.2⟩
  have nl_ := Aside0.mk (live_add (live_add HL.out hb ho) (Below.refl _ _) hu)
  have nb_ := Aside0.mk (below_step HB.out hb)
  refine hK.out _ _ hS9 (fun _ => ?_)
  clear hK K hb HL HB hS ho hu
  have HL := nl_
  have HB := nb_
  have hS := hS9
  clear nl_ nb_ hS9
  simp only [Act.put, List.setIfInBounds_toArray, List.set_cons_zero, List.set_cons_succ]
  refine wpAnyH_ready (rs := [29]) (by kernel_rfl) (by simp) ?_
  refine AllReadyH.cons (i := 29) rfl (fun K hK => ?_) AllReadyH.nil
  go_simp
  refine (headendref01_SameFraction.calls k _ _ _ _ _ _ _ _ _ _ _ _ _ _ ?s0 ?s1 ?s2 ?s3 ?s4 ?s5 ?s6 ?s7 S5.out).mono ?_
  case s0 => exact (live_C (by (repeat (first | exact HL.out | apply live_alloc | apply live_drewN | apply live_drew))) (by repeat (first | exact List.Mem.head _ | apply List.Mem.tail))).2.2
  case s1 => exact (live_C (by (repeat (first | exact HL.out | apply live_alloc | apply live_drewN | apply live_drew))) (by repeat (first | exact List.Mem.head _ | apply List.Mem.tail))).2.1
  case s2 => exact (live_C (by (repeat (first | exact HL.out | apply live_alloc | apply live_drewN | apply live_drew))) (by repeat (first | exact List.Mem.head _ | apply List.Mem.tail))).2.2
  case s3 => exact (live_C (by (repeat (first | exact HL.out | apply live_alloc | apply live_drewN | apply live_drew))) (by repeat (first | exact List.Mem.head _ | apply List.Mem.tail))).2.1
  case s4 => exact (live_C (by (repeat (first | exact HL.out | apply live_alloc | apply live_drewN | apply live_drew))) (by repeat (first | exact List.Mem.head _ | apply List.Mem.tail))).2.2
  case s5 => exact (live_C (by (repeat (first | exact HL.out | apply live_alloc | apply live_drewN | apply live_drew))) (by repeat (first | exact List.Mem.head _ | apply List.Mem.tail))).2.1
  case s6 => exact (live_C (by (repeat (first | exact HL.out | apply live_alloc | apply live_drewN | apply live_drew))) (by repeat (first | exact List.Mem.head _ | apply List.Mem.tail))).2.2
  case s7 => exact (live_C (by (repeat (first | exact HL.out | apply live_alloc | apply live_drewN | apply live_drew))) (by repeat (first | exact List.Mem.head _ | apply List.Mem.tail))).2.1
  rintro e w29 ⟨rfl, hb⟩
  dsimp only
  have hS9 : _ ∧ _ ∧ _ ∧ _ ∧ _ ∧ _ := ⟨(hb.cell (World.block_lt_of_cell? _ _ hS.1)).trans hS.1, (hb.cell (World.block_lt_of_cell? _ _ hS.2.1)).trans hS.2.1, (hb.cell (World.block_lt_of_cell? _ _ hS.2.2.1)).trans hS.2.2.1, (hb.cell (World.block_lt_of_cell? _ _ hS.2.2.2.1)).trans hS.2.2.2.1, (hb.cell (World.block_lt_of_cell? _ _ hS.2.2.2.2.1)).trans hS.2.2.2.2.1, (hb.cell (World.block_lt_of_cell? _ _ hS.2.2.2.2.2)).trans hS.2.2.2.2.2⟩
  have nl_ := Aside0.mk (live_below HL.out hb)
  have nb_ := Aside0.mk (below_step HB.out hb)
  refine hK.out _ _ hS9 (fun _ => ?_)
  clear hK K hb HL HB hS 
  have HL := nl_
  have HB := nb_
  have hS := hS9
  clear nl_ nb_ hS9
  simp only [Act.put, List.setIfInBounds_toArray, List.set_cons_zero, List.set_cons_succ]
  refine take_at (i := 30) (v := .bool false) rfl rfl (by kernel_rfl) (by kernel_rfl) (by kernel_rfl) (fun _ _ _ h => h) (Or.inl ⟨by rfl, ?_⟩) hS ?_
  · intro w hSw
    (try dsimp only at hSw)
    go_simp
  simp only [Act.put, List.setIfInBounds_toArray, List.set_cons_zero, List.set_cons_succ]
  refine take_at (i := 31) (v := .bool false) rfl rfl (by kernel_rfl) (by kernel_rfl) (by kernel_rfl) (fun _ _ _ h => h) (Or.inl ⟨by rfl, ?_⟩) hS ?_
  · intro w hSw
    (try dsimp only at hSw)
    go_simp
  simp only [Act.put, List.setIfInBounds_toArray, List.set_cons_zero, List.set_cons_succ]
  refine take_at (i := 32) (v := .bool false) rfl rfl (by kernel_rfl) (by kernel_rfl) (by kernel_rfl) (fun _ _ _ h => h) (Or.inl ⟨by rfl, ?_⟩) hS ?_
  · intro w hSw
    (try dsimp only at hSw)
    go_simp
  simp only [Act.put, List.setIfInBounds_toArray, List.set_cons_zero, List.set_cons_succ]
  refine take_at (i := 33) (v := .int .i64 0) rfl rfl (by kernel_rfl) (by kernel_rfl) (by kernel_rfl) (fun _ _ _ h => h) (Or.inl ⟨by rfl, ?_⟩) hS ?_
  · intro w hSw
    (try dsimp only at hSw)
    go_simp
  simp only [Act.put, List.setIfInBounds_toArray, List.set_cons_zero, List.set_cons_succ]
  refine take_at (i := 34) (v := .bool false) rfl rfl (by kernel_rfl) (by kernel_rfl) (by kernel_rfl) (fun _ _ _ h => h) (Or.inl ⟨by rfl, ?_⟩) hS ?_
  · intro w hSw
    (try dsimp only at hSw)
    go_simp
  simp only [Act.put, List.setIfInBounds_toArray, List.set_cons_zero, List.set_cons_succ]
  refine take_at (i := 35) (v := .bool false) rfl rfl (by kernel_rfl) (by kernel_rfl) (by kernel_rfl) (fun _ _ _ h => h) (Or.inl ⟨by rfl, ?_⟩) hS ?_
  · intro w hSw
    (try dsimp only at hSw)
    go_simp
  simp only [Act.put, List.setIfInBounds_toArray, List.set_cons_zero, List.set_cons_succ]
  refine take_at (i := 36) (v := .bool false) rfl rfl (by kernel_rfl) (by kernel_rfl) (by kernel_rfl) (fun _ _ _ h => h) (Or.inl ⟨by rfl, ?_⟩) hS ?_
  · intro w hSw
    (try dsimp only at hSw)
    go_simp
  simp only [Act.put, List.setIfInBounds_toArray, List.set_cons_zero, List.set_cons_succ]
  refine take_at (i := 37) (v := .int .i64 (-1)) rfl rfl (by kernel_rfl) (by kernel_rfl) (by kernel_rfl) (fun _ _ _ h => h) (Or.inl ⟨by rfl, ?_⟩) hS ?_
  · intro w hSw
    (try dsimp only at hSw)
    go_simp
  simp only [Act.put, List.setIfInBounds_toArray, List.set_cons_zero, List.set_cons_succ]
  refine take_at (i := 38) (v := .bool false) rfl rfl (by kernel_rfl) (by kernel_rfl) (by kernel_rfl) (fun _ _ _ h => h) (Or.inl ⟨by rfl, ?_⟩) hS ?_
  · intro w hSw
    (try dsimp only at hSw)
    go_simp
  simp only [Act.put, List.setIfInBounds_toArray, List.set_cons_zero, List.set_cons_succ]
  refine take_at (i := 39) (v := .bool false) rfl rfl (by kernel_rfl) (by kernel_rfl) (by kernel_rfl) (fun _ _ _ h => h) (Or.inl ⟨by rfl, ?_⟩) hS ?_
  · intro w hSw
    (try dsimp only at hSw)
    go_simp
  simp only [Act.put, List.setIfInBounds_toArray, List.set_cons_zero, List.set_cons_succ]
  refine wpAnyH_done (by kernel_rfl) ?_ _
  clear hS
  go_wp2_with (first | (go_at_call 19; (with_reducible refine (number_PowMod.calls k _ _ _ _ _ _ PW1.out).mono ?_); rintro e wn ⟨rfl, hb⟩; replace hb := hb.below;   have nl_ := Aside0.mk (live_below (by (repeat (first | exact HL.out | apply live_alloc | apply live_drewN | apply live_drew))) hb); have nb_ := Aside0.mk (below_step (by repeat (first | exact HB.out | apply below_alloc | apply pw_below_drewN | apply below_drew1)) hb); clear HL HB; have HL := nl_; have HB := nb_; clear nl_ nb_ hb) | (go_at_call 19; (with_reducible refine (number_PowMod.calls k _ _ _ _ _ _ PW2.out).mono ?_); rintro e wn ⟨rfl, hb⟩; replace hb := hb.below;   have nl_ := Aside0.mk (live_below (by (repeat (first | exact HL.out | apply live_alloc | apply live_drewN | apply live_drew))) hb); have nb_ := Aside0.mk (below_step (by repeat (first | exact HB.out | apply below_alloc | apply pw_below_drewN | apply below_drew1)) hb); clear HL HB; have HL := nl_; have HB := nb_; clear nl_ nb_ hb) | (go_at_call 21; (with_reducible refine (number_InvMod.calls k _ _ _ _ _ IV1.out).mono ?_); rintro e wn ⟨rfl, hb⟩; replace hb := hb.below;   have nl_ := Aside0.mk (live_below (by (repeat (first | exact HL.out | apply live_alloc | apply live_drewN | apply live_drew))) hb); have nb_ := Aside0.mk (below_step (by repeat (first | exact HB.out | apply below_alloc | apply pw_below_drewN | apply below_drew1)) hb); clear HL HB; have HL := nl_; have HB := nb_; clear nl_ nb_ hb) | (go_at_call 21; (with_reducible refine (number_InvMod.calls k _ _ _ _ _ IV2.out).mono ?_); rintro e wn ⟨rfl, hb⟩; replace hb := hb.below;   have nl_ := Aside0.mk (live_below (by (repeat (first | exact HL.out | apply live_alloc | apply live_drewN | apply live_drew))) hb); have nb_ := Aside0.mk (below_step (by repeat (first | exact HB.out | apply below_alloc | apply pw_below_drewN | apply below_drew1)) hb); clear HL HB; have HL := nl_; have HB := nb_; clear nl_ nb_ hb) | (go_at_call 23; (with_reducible refine (number_Prime.calls k _ _ _ _ E1.out).mono ?_); rintro e wn ⟨rfl, hb⟩; replace hb := hb.below;   have nl_ := Aside0.mk (live_below (by (repeat (first | exact HL.out | apply live_alloc | apply live_drewN | apply live_drew))) hb); have nb_ := Aside0.mk (below_step (by repeat (first | exact HB.out | apply below_alloc | apply pw_below_drewN | apply below_drew1)) hb); clear HL HB; have HL := nl_; have HB := nb_; clear nl_ nb_ hb) | (go_at_call 23; (with_reducible refine (number_Prime.calls k _ _ _ _ E2.out).mono ?_); rintro e wn ⟨rfl, hb⟩; replace hb := hb.below;   have nl_ := Aside0.mk (live_below (by (repeat (first | exact HL.out | apply live_alloc | apply live_drewN | apply live_drew))) hb); have nb_ := Aside0.mk (below_step (by repeat (first | exact HB.out | apply below_alloc | apply pw_below_drewN | apply below_drew1)) hb); clear HL HB; have HL := nl_; have HB := nb_; clear nl_ nb_ hb) | (go_at_call 23; (with_reducible refine (number_Prime.calls k _ _ _ _ E3.out).mono ?_); rintro e wn ⟨rfl, hb⟩; replace hb := hb.below;   have nl_ := Aside0.mk (live_below (by (repeat (first | exact HL.out | apply live_alloc | apply live_drewN | apply live_drew))) hb); have nb_ := Aside0.mk (below_step (by repeat (first | exact HB.out | apply below_alloc | apply pw_below_drewN | apply below_drew1)) hb); clear HL HB; have HL := nl_; have HB := nb_; clear nl_ nb_ hb) | (go_at_call 25; (with_reducible refine (number_CheckGroup.calls k _ _ _ _ _ H1.out).mono ?_); rintro e wn ⟨rfl, hb⟩;   have nl_ := Aside0.mk (live_below (by (repeat (first | exact HL.out | apply live_alloc | apply live_drewN | apply live_drew))) hb); have nb_ := Aside0.mk (below_step (by repeat (first | exact HB.out | apply below_alloc | apply pw_below_drewN | apply below_drew1)) hb); clear HL HB; have HL := nl_; have HB := nb_; clear nl_ nb_ hb) | (go_at_call 25; (with_reducible refine (number_CheckGroup.calls k _ _ _ _ _ H2.out).mono ?_); rintro e wn ⟨rfl, hb⟩;   have nl_ := Aside0.mk (live_below (by (repeat (first | exact HL.out | apply live_alloc | apply live_drewN | apply live_drew))) hb); have nb_ := Aside0.mk (below_step (by repeat (first | exact HB.out | apply below_alloc | apply pw_below_drewN | apply below_drew1)) hb); clear HL HB; have HL := nl_; have HB := nb_; clear nl_ nb_ hb))
  go_ret
  exact ⟨rfl, HB.out⟩
end Go.Proofs.Ythhgfogdeaaidaa.R

