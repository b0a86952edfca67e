/- number.parted, second part: where the divisor has two digits or more. -/
import Derived.Test.YthhgfogdeaaidaaR0
import Derived.Test.YthhgfogdeaaidaaGpbase
import Derived.Test.YthhgfogdeaaidaaGnorm
import Derived.WalkMore
namespace Go.Proofs.Ythhgfogdeaaidaa.R
open Go.RowKit Go.Proofs.YthhgfogdeaaidaaW.PrintWords Go.Proofs.YthhgfogdeaaidaaW.PrintLast Go.Proofs.YthhgfogdeaaidaaW.PrintMore
set_option linter.unusedVariables false
set_option linter.unusedSimpArgs false
attribute [local go_sem] Oper.semAt_some
theorem R_at {w : World} {base g n cap : Nat} {ok : Nat → Prop} {xs : List Int} (h : Kd.R (Kd.int .u32) 84 w base ok (.slice (some ⟨g, 0, none⟩) n cap) xs) : Kd.R (Kd.int .u32) 84 w base (fun k => k = g) (.slice (some ⟨g, 0, none⟩) n cap) xs :=
  Kd.R_mono (Kd.R_tight rfl h) (fun k hk => Option.some.inj hk)
theorem cut_mid {P : Program} (t e : TypeId) {i : TypeInfo} (ht : P.underlying t = some (.slice e)) (hi : P.info? e = some i) (hsz : i.size = 1) (g n c lo h ln : Nat) (h1 : lo < h) (h2 : h ≤ c) (hln : h - lo = ln) (W : World) :
    (Instr.slice t (.slice (some ⟨g, 0, none⟩) n c) (some (.int .i64 (lo : Int))) (some (.int .i64 (h : Int))) none).run P W = .ok (.slice (some ⟨g, lo, none⟩) ln (c - lo)) W := by
  have hel : P.elem t = e := by simp [Program.elem, ht]
  have hu : P.underlying t = some (.slice (P.elem t)) := by rw [hel]; exact ht
  rw [run_slice_lh W t (some ⟨g, 0, none⟩) n c hu .i64 .i64 (lo : Int) (h : Int) (Int.natCast_nonneg _) (by omega) (by omega), hel]
  have hne : ¬ c = lo := by omega
  simp [sizeOf, typeInfo, hi, hsz, sliced, Result.andThen, hne, hln, add_plain]
set_option maxRecDepth 1000000 in
set_option maxHeartbeats 16000000 in
theorem parted_long (A0 : Option Addr) (c0 : Nat) (l0 : List Int) (A1 : Option Addr) (c1 : Nat) (l1 : List Int) (w : World) (hr0 : Kd.C (Kd.int .u32) w A0 l0.length l0) (hc0 : l0.length ≤ c0) (hr1 : Kd.C (Kd.int .u32) w A1 l1.length l1) (hc1 : l1.length ≤ c1)
    (r : Int) (ho : number_order.f l0 l1 = some r) (hge : 0 ≤ r) (hl : l0.length < 1048576) (k : Nat) (hl1 : l1.length = k + 2) (hlk : k < 1048576) (hle : l1.length ≤ l0.length) (hd0 : Dig l0) (hd1 : Dig l1) (hb : 0 < rd l1 ((k + 1 : Nat) : Int)) :
    Calls Try.prog 75 #[.slice A0 l0.length c0, .slice A1 l1.length c1] w fun e w' => ∃ v0 v1 : Value, e = .returned (.tuple #[v0, v1]) ∧ Kd.R (Kd.int .u32) 84 w' w.heap.size (fun k => some k ≠ v1.ownBlock) v0 (digs (val l0 / val l1)) ∧ Kd.R (Kd.int .u32) 84 w' w.heap.size (fun k => some k ≠ v0.ownBlock) v1 (digs (val l0 % val l1)) ∧ Below w.heap.size w w' := by
  have HR0 := Aside0.mk hr0
  have HO := Aside0.mk ho
  have k1 : decide (r < 0) = false := decide_eq_false (by omega)
  have k2 : ((l1.length : Int) == 1) = false := by rw [beq_eq_false_iff_ne]; omega
  have k2' : (l1.length == 1) = false := by rw [beq_eq_false_iff_ne]; omega
  obtain ⟨m, hm⟩ : ∃ m : Nat, m = k + 1 := ⟨_, rfl⟩
  rw [← hm] at hb
  obtain ⟨s, hs, hlz, hsl, hsh⟩ := lz_f (rd l1 (m : Int)) hb (hd1.rdok _).2
  have HLZ := Aside0.mk hlz
  have HSL := Aside0.mk hsl
  have HSH := Aside0.mk hsh
  have HGE := Aside0.mk hle
  clear ho hlz hsl hsh hle
  obtain ⟨ad1, e, hx1⟩ := Kd.at_int hr1 (m : Int) (by omega) (by omega)
  subst e
  rw [Int.toNat_natCast] at hx1
  have HR1 := Aside0.mk hr1
  have hx1b := World.block_lt_of_cell? w _ hx1
  have wl1 : IntKind.i64.wrap ((l1.length : Int) - 1) = (m : Int) := (i64_w _).trans (by unfold wrap64; omega)
  have HL1 := Aside0.mk hl1
  have il1 : (m : Int) < (l1.length : Int) := by omega
  have il1' : m < l1.length := by omega
  have ik0 : (0 : Int) ≤ (m : Int) := Int.natCast_nonneg _
  have us : IntKind.u64.wrap (s : Int) = (s : Int) := by show (s : Int) % 18446744073709551616 = s; omega
  have HM := Aside0.mk hm
  clear hr0 hr1 hl1 hm
  have B0 := Aside0.mk (boxes_two w 41 (.slice A0 l0.length c0) (.slice (some ad1) l1.length c1))
  go_enter Try.func75, Try.ntmps75
  go_wp2_with (first | (go_at_call 92; go_loud ((refine (number_order.calls _ _ l0 _ _ l1 r _ ?s1 hc0 ?s2 hc1 HO.out).mono ?_); (case s1 => exact Kd.C_alloc (Kd.C_alloc HR0.out _) _); (case s2 => exact Kd.C_alloc (Kd.C_alloc HR1.out _) _); rintro e w1 ⟨rfl, hb⟩; have q0 := (hb.cell (p := ⟨w.heap.size, 0, none⟩) (by simp; omega)).trans B0.out.1; have q1 := (hb.cell (p := ⟨w.heap.size + 1, 0, none⟩) (by simp)).trans B0.out.2; have HW := Aside0.mk ((((Below.refl _ w).alloc (Nat.le_refl _) _).alloc (by simp) _).trans (hb.mono (by simp; omega))); have HS := Aside0.mk (show w.heap.size + 1 < w1.heap.size by have := hb.size; simp at this; omega); have hy1 := (HW.out.cell (p := ad1.add m) hx1b).trans hx1; clear hb)) | (go_at_call 108; go_loud (refine (bits_LeadingZeros32.calls _ _ _ HLZ.out).mono ?_; rintro e w2 ⟨rfl, n2, rfl⟩)))
  have hmx : Try.prog.follows .mixedOrders = true := by kernel_rfl
  have hbw : Below w.heap.size w (w1.drewN n2).drew := (pw_below_drewN HW.out n2).drew
  have hS : (w1.drewN n2).drew.cell? ⟨w.heap.size, 0, none⟩ = some (.slice A0 l0.length c0) ∧ (w1.drewN n2).drew.cell? ⟨w.heap.size + 1, 0, none⟩ = some (.slice (some ad1) l1.length c1) := ⟨q0, q1⟩
  have hS0 := HS.out
  have hsz : w1.heap.size = (w1.drewN n2).drew.heap.size := rfl
  have hbl : l1.length = k + 2 := HL1.out
  obtain ⟨U, hfU, hdU, hlU, hvU, htU⟩ := shifted_f l0 s (l0.length + 1) hs hd0 (by omega) (by omega)
  obtain ⟨B, hfB, hdB, hlB, hvB, htB⟩ := shifted_f l1 s (l1.length + 1) hs hd1 (by omega) (by omega)
  obtain ⟨hDv, hvV⟩ := norm_divisor hs hd1 hbl (by rw [← HM.out]; exact HSL.out) (by rw [← HM.out]; exact HSH.out) hdB hvB
  have hfV := trim_f B (B.length + 1) (by omega) (by omega)
  obtain ⟨V, hVV⟩ : ∃ V, trimL B = V := ⟨_, rfl⟩
  rw [hVV] at hDv hvV hfV
  have PU := Aside0.mk (And.intro hdU (And.intro hlU (And.intro hvU htU)))
  have PV := Aside0.mk (And.intro hDv hvV)
  have PB := Aside0.mk hlB
  have FU := Aside0.mk hfU
  have FB := Aside0.mk hfB
  have FV := Aside0.mk hfV
  have HSZ := Aside0.mk hsz
  have HS0 := Aside0.mk hS0
  clear hdU hlU hvU htU hDv hvV hlB hfU hfB hfV hsz hS0 hbl hdB hvB htB hVV
  refine wp_region_any hmx ?_
  refine wpAny_of_held (S := fun W' => W'.cell? ⟨w.heap.size, 0, none⟩ = some (.slice A0 l0.length c0) ∧ W'.cell? ⟨w.heap.size + 1, 0, none⟩ = some (.slice (some ad1) l1.length c1)) _ _ _ _ ?_
  change wpAnyH _ _ _ _ _ 9 #[false, false, false, false, false, false, false, false, false] _ (w1.drewN n2).drew
  generalize (w1.drewN n2).drew = W at *
  have hA : w.heap.size < W.heap.size := by have := HS0.out; have := HSZ.out; omega
  have hA1 : w.heap.size + 1 < W.heap.size := by have := HS0.out; have := HSZ.out; omega
  refine take_at (i := 0) (v := .slice A0 l0.length c0) rfl rfl (by kernel_rfl) (by kernel_rfl) (by kernel_rfl) (fun _ _ _ h => h) (Or.inl ⟨by rfl, ?_⟩) hS ?_
  · intro w hSw
    (try dsimp only at hSw)
    go_simp
  simp only [Act.put, List.setIfInBounds_toArray, List.set_cons_zero, List.set_cons_succ]
  refine take_at (i := 1) (v := .int .u64 (s : Int)) rfl rfl (by kernel_rfl) (by kernel_rfl) (by kernel_rfl) (fun _ _ _ h => h) (Or.inl ⟨by rfl, ?_⟩) hS ?_
  · intro w hSw
    (try dsimp only at hSw)
    go_simp
  simp only [Act.put, List.setIfInBounds_toArray, List.set_cons_zero, List.set_cons_succ]
  refine take_at (i := 3) (v := .slice (some ad1) l1.length c1) rfl rfl (by kernel_rfl) (by kernel_rfl) (by kernel_rfl) (fun _ _ _ h => h) (Or.inl ⟨by rfl, ?_⟩) hS ?_
  · intro w hSw
    (try dsimp only at hSw)
    go_simp
  simp only [Act.put, List.setIfInBounds_toArray, List.set_cons_zero, List.set_cons_succ]
  refine take_at (i := 4) (v := .int .u64 (s : Int)) rfl rfl (by kernel_rfl) (by kernel_rfl) (by kernel_rfl) (fun _ _ _ h => h) (Or.inl ⟨by rfl, ?_⟩) hS ?_
  · intro w hSw
    (try dsimp only at hSw)
    go_simp
  simp only [Act.put, List.setIfInBounds_toArray, List.set_cons_zero, List.set_cons_succ]
  refine wpAnyH_ready (rs := [2]) (by kernel_rfl) (by simp) ?_
  refine AllReadyH.cons (i := 2) rfl (fun K hK => ?_) AllReadyH.nil
  go_simp
  refine (number_shifted.calls (l0.length + 1) _ _ l0 _ _ W (Kd.C_below HR0.out hbw) hc0 FU.out).mono ?_
  rintro e w3 ⟨vU, rfl, hoU, hb3⟩
  dsimp only
  have hS3 : w3.cell? ⟨w.heap.size, 0, none⟩ = some (.slice A0 l0.length c0) ∧ w3.cell? ⟨w.heap.size + 1, 0, none⟩ = some (.slice (some ad1) l1.length c1) := ⟨(hb3.cell (p := ⟨w.heap.size, 0, none⟩) hA).trans hS.1, (hb3.cell (p := ⟨w.heap.size + 1, 0, none⟩) hA1).trans hS.2⟩
  have hbw3 : Below w.heap.size w w3 := hbw.trans (hb3.mono hbw.size)
  refine hK.out _ _ hS3 (fun _ => ?_)
  clear hK K
  simp only [Act.put, List.setIfInBounds_toArray, List.set_cons_zero, List.set_cons_succ]
  refine wpAnyH_ready (rs := [5]) (by kernel_rfl) (by simp) ?_
  refine AllReadyH.cons (i := 5) rfl (fun K hK => ?_) AllReadyH.nil
  go_simp
  refine (number_shifted.calls (l1.length + 1) _ _ l1 _ _ w3 (Kd.C_below HR1.out hbw3) hc1 FB.out).mono ?_
  rintro e w4 ⟨vB, rfl, hoB, hb4⟩
  dsimp only
  have hS4 : w4.cell? ⟨w.heap.size, 0, none⟩ = some (.slice A0 l0.length c0) ∧ w4.cell? ⟨w.heap.size + 1, 0, none⟩ = some (.slice (some ad1) l1.length c1) := ⟨(hb4.cell (p := ⟨w.heap.size, 0, none⟩) (Nat.lt_of_lt_of_le hA hb3.size)).trans hS3.1, (hb4.cell (p := ⟨w.heap.size + 1, 0, none⟩) (Nat.lt_of_lt_of_le hA1 hb3.size)).trans hS3.2⟩
  refine hK.out _ _ hS4 (fun _ => ?_)
  clear hK K
  simp only [Act.put, List.setIfInBounds_toArray, List.set_cons_zero, List.set_cons_succ]
  refine wpAnyH_ready (rs := [6]) (by kernel_rfl) (by simp) ?_
  refine AllReadyH.cons (i := 6) rfl (fun K hK => ?_) AllReadyH.nil
  go_simp
  refine (number_trim.calls (B.length + 1) (fun k => w3.heap.size ≤ k) _ B _ w3 _ hb4 (Kd.R_mono (Kd.R_bound hoB) (fun k hk => hk.2.1)) FV.out).mono ?_
  rintro e w5 ⟨vV, rfl, hoV, hb5, hk5⟩
  dsimp only
  have hS5 : w5.cell? ⟨w.heap.size, 0, none⟩ = some (.slice A0 l0.length c0) ∧ w5.cell? ⟨w.heap.size + 1, 0, none⟩ = some (.slice (some ad1) l1.length c1) := ⟨(hb5.cell (p := ⟨w.heap.size, 0, none⟩) (Nat.lt_of_lt_of_le hA hb3.size)).trans hS3.1, (hb5.cell (p := ⟨w.heap.size + 1, 0, none⟩) (Nat.lt_of_lt_of_le hA1 hb3.size)).trans hS3.2⟩
  refine hK.out _ _ hS5 (fun _ => ?_)
  clear hK K
  simp only [Act.put, List.setIfInBounds_toArray, List.set_cons_zero, List.set_cons_succ]
  refine take_at (i := 7) (v := vU) rfl rfl (by kernel_rfl) (by kernel_rfl) (by kernel_rfl) (fun _ _ _ h => h) (Or.inl ⟨by rfl, ?_⟩) hS5 ?_
  · intro w hSw
    (try dsimp only at hSw)
    go_simp
  simp only [Act.put, List.setIfInBounds_toArray, List.set_cons_zero, List.set_cons_succ]
  refine take_at (i := 8) (v := vV) rfl rfl (by kernel_rfl) (by kernel_rfl) (by kernel_rfl) (fun _ _ _ h => h) (Or.inl ⟨by rfl, ?_⟩) hS5 ?_
  · intro w hSw
    (try dsimp only at hSw)
    go_simp
  simp only [Act.put, List.setIfInBounds_toArray, List.set_cons_zero, List.set_cons_succ]
  refine wpAnyH_done (by kernel_rfl) ?_ _
  have hbw5 : Below w.heap.size w w5 := hbw3.trans (hb5.mono hbw3.size)
  have HU : Kd.R (Kd.int .u32) 84 w5 w.heap.size (fun k => k < w3.heap.size) vU U :=
    Kd.R_lower (Kd.R_step (Kd.R_mono (Kd.R_bound hoU) (fun k hk => hk.2.2.1)) (fun k hk _ => hb5.block k hk)) hbw.size
  have HV : Kd.R (Kd.int .u32) 84 w5 w.heap.size (fun k => w3.heap.size ≤ k) vV V :=
    Kd.R_lower (Kd.R_mono (Kd.R_bound hoV) (fun k hk => hk.2.1)) hbw3.size
  clear hoU hoB hoV hb5 hk5 hb4 hb3 hS hS3 hS4 hbw hbw3
  have hVl : V.length = k + 2 := PV.out.1.l
  have hlU := PU.out.2.1
  have hl1 := HL1.out
  have hm := HM.out
  have hle := HGE.out
  obtain ⟨gV, cV, rfl, gVb, gVl, clV, hgV⟩ := Kd.R_form HV (by omega)
  obtain ⟨gU, cU, rfl, gUb, gUl, clU, hgU⟩ := Kd.R_form HU (by omega)
  have oV : w3.heap.size ≤ gV := HV.1 gV rfl
  have oU : gU < w3.heap.size := HU.1 gU rfl
  have x1 : w5.cell? ⟨gV, m, none⟩ = some (.int .u32 (rd V (m : Int))) := by
    have := (Kd.R_cell (0 : Int) HV (m : Int) (by omega) (by omega)).1
    rwa [Int.toNat_natCast] at this
  have x0 : w5.cell? ⟨gV, k, none⟩ = some (.int .u32 (rd V (k : Int))) := by
    have := (Kd.R_cell (0 : Int) HV (k : Int) (by omega) (by omega)).1
    rwa [Int.toNat_natCast] at this
  have hdV : Dig V := PV.out.1.d
  have d1 := hdV.rdok (m : Int)
  have d0 := hdV.rdok (k : Int)
  have wV1 : IntKind.i64.wrap ((V.length : Int) - 1) = (m : Int) := (i64_w _).trans (by unfold wrap64; omega)
  have wV0 : IntKind.i64.wrap ((V.length : Int) - 2) = (k : Int) := (i64_w _).trans (by unfold wrap64; omega)
  have uV1 : IntKind.u64.wrap (rd V (m : Int)) = rd V (m : Int) := u64_in _ d1.1 (by omega)
  have uV0 : IntKind.u64.wrap (rd V (k : Int)) = rd V (k : Int) := u64_in _ d0.1 (by omega)
  have iV1 : (m : Int) < (V.length : Int) := by omega
  have iV0 : (k : Int) < (V.length : Int) := by omega
  have jV1 : m < V.length := by omega
  have jV0 : k < V.length := by omega
  obtain ⟨n, hn⟩ : ∃ n : Nat, U.length = n + (k + 2) := ⟨l0.length + 1 - (k + 2), by omega⟩
  have wN : IntKind.i64.wrap ((U.length : Int) - (V.length : Int)) = (n : Int) := (i64_w _).trans (by unfold wrap64; omega)
  have hmk := print_make (P := Try.prog) 41 84 .u32 4 Try.underlying41 info84 (by decide) n (by omega)
  have wJ : IntKind.i64.wrap ((n : Int) - 1) = (n : Int) - 1 := (i64_w _).trans (by unfold wrap64; omega)
  have HVL := Aside0.mk hVl
  have HLU := Aside0.mk hlU
  have HN := Aside0.mk hn
  have D1 := Aside0.mk d1
  have D0 := Aside0.mk d0
  have HU' := Aside0.mk HU
  have HV' := Aside0.mk HV
  have OV := Aside0.mk oV
  have OU := Aside0.mk oU
  clear hVl hlU hl1 hm hle hn d1 d0 HU HV hdV oV oU gVb gUb gVl gUl hgV hgU
  go_wp2
  go_quiet (fail)
  go_wp2
  have HB6 : Below w.heap.size w ((w5.drewN nq).alloc (.cells (madeCells #[Value.int .u32 0] n) 84)) := (pw_below_drewN hbw5 nq).alloc hbw5.size _
  have HU6 : Kd.R (Kd.int .u32) 84 ((w5.drewN nq).alloc (.cells (madeCells #[Value.int .u32 0] n) 84)) w.heap.size (fun k => k = gU) (.slice (some ⟨gU, 0, none⟩) U.length cU) U :=
    R_at (Kd.R_alloc (Kd.R_drewN HU'.out nq) _)
  have HV6 : Kd.R (Kd.int .u32) 84 ((w5.drewN nq).alloc (.cells (madeCells #[Value.int .u32 0] n) 84)) w.heap.size (fun k => k = gV) (.slice (some ⟨gV, 0, none⟩) V.length cV) V :=
    R_at (Kd.R_alloc (Kd.R_drewN HV'.out nq) _)
  have HQ6 : Kd.R (Kd.int .u32) 84 ((w5.drewN nq).alloc (.cells (madeCells #[Value.int .u32 0] n) 84)) w.heap.size (fun k => k = w5.heap.size) (.slice (some ⟨w5.heap.size, 0, none⟩) n n) (List.replicate n 0) := by
    have := R_of_row (W := (w5.drewN nq).alloc (.cells (madeCells #[Value.int .u32 0] n) 84)) (g := w5.heap.size) (base := w.heap.size) (xs := List.replicate n 0) (ok := fun k => k = w5.heap.size) (by rw [← u32s_made]; exact blk_new (w5.drewN nq) _) hbw5.size (by simp; have := HN.out; have := HLU.out; omega) rfl
    simpa using this
  have hgq : gU < gV ∧ gV < w5.heap.size := ⟨Nat.lt_of_lt_of_le OU.out OV.out, (by obtain ⟨_, _, _, h, _⟩ := Kd.R_form HV'.out (by have := HVL.out; omega); rename_i e1 _; simp only [Value.slice.injEq, Option.some.injEq, Addr.mk.injEq] at e1; omega)⟩
  have HGQ := Aside0.mk hgq
  have HGW := Aside0.mk (show w.heap.size ≤ w5.heap.size from hbw5.size)
  have HU60 := Aside0.mk HU6
  have HV60 := Aside0.mk HV6
  have HQ60 := Aside0.mk HQ6
  have HB60 := Aside0.mk HB6
  generalize hgQ : w5.heap.size = gQ at *
  have HLD := Aside0.mk (show LD (val l0 * 2 ^ s) n k V n U (List.replicate n 0) from LD.start (b := l1) (s := s) hs PV.out.1 PU.out.1 HN.out PU.out.2.2.1 (by
    have h1 := PU.out.2.2.2
    have h2 := HN.out
    have h3 := HLU.out
    rwa [show n + (k + 1) = l0.length by omega]))
  clear HU6 HV6 HQ6 HB6 hgq hgQ
  go_loopw [15] (fun v15 wr => ∃ (j : Nat) (Uj Qj : List Int), v15 = .int .i64 ((j : Int) - 1) ∧ Aside0 (LD (val l0 * 2 ^ s) n k V j Uj Qj) ∧ Aside0 (Kd.R (Kd.int .u32) 84 wr w.heap.size (fun k => k = gU) (.slice (some ⟨gU, 0, none⟩) U.length cU) Uj) ∧ Aside0 (Kd.R (Kd.int .u32) 84 wr w.heap.size (fun k => k = gV) (.slice (some ⟨gV, 0, none⟩) V.length cV) V) ∧ Aside0 (Kd.R (Kd.int .u32) 84 wr w.heap.size (fun k => k = gQ) (.slice (some ⟨gQ, 0, none⟩) n n) Qj) ∧ Aside0 (Below w.heap.size w wr)) (fun v15 _ => (intOf v15 + 1).toNat)
  case atStart => exact ⟨n, U, List.replicate n 0, rfl, HLD, HU60, HV60, HQ60, HB60⟩
  case round =>
    obtain ⟨j, Uj, Qj, rfl, HL, HU7, HV7, HQ7, HB7⟩ := hrel
    cases j with
    | zero =>
      have e0 : ((0 : Nat) : Int) - 1 = -1 := rfl
      rw [e0]
      have hL := HL.out
      have hfin := hL.final
      have hUl : Uj.length = U.length := by rw [hL.lU, HN.out]
      have hQl : Qj.length = n := hL.lQ
      have hlU := HLU.out
      have hlb : Uj.length < 2097152 := by omega
      have hld : (trimL Uj).length ≤ Uj.length := trimL_length Uj
      have FQ := Aside0.mk (trim_f Qj (n + 1) (by have := HN.out; omega) (by omega))
      have FU2 := Aside0.mk (trim_f Uj (Uj.length + 1) (by omega) (by omega))
      have hdt : Dig (trimL Uj) := Dig.trimL hL.dU
      have FS := Aside0.mk (unshifted_f (trimL Uj) s (2 * Uj.length + 2) hs hdt (by omega) (by omega))
      have DU := Aside0.mk hL.dU
      have DQ := Aside0.mk hL.dQ
      have HF := Aside0.mk hfin
      have HGU := Aside0.mk (show gU < wr.heap.size by
        obtain ⟨_, _, _, h, _⟩ := Kd.R_form HU7.out (by omega)
        rename_i e1 _
        simp only [Value.slice.injEq, Option.some.injEq, Addr.mk.injEq] at e1
        omega)
      have HS7 := Aside0.mk HB7.out.size
      clear hL hfin hUl hQl hlU hlb hld hdt
      go_wp2_with (first | (go_at_call 85; (refine (number_trim.calls (n + 1) (fun k => k = gQ) _ Qj _ w _ HB7.out HQ7.out FQ.out).mono ?_); (rintro e wa ⟨v0, rfl, hv0, hba, hka⟩); clear HB7 HQ7) | (go_at_call 85; go_loud ((refine (number_trim.calls (Uj.length + 1) (fun k => k = gU) _ Uj _ w _ hba (Kd.R_step HU7.out (fun q hq hlt => hka.2 q hlt (by have := HGQ.out; omega))) FU2.out).mono ?_); (rintro e wb ⟨vt, rfl, hvt, hbb, hkb⟩); (obtain ⟨At, ct, rfl, hct, hCt⟩ := Kd.R_reads hvt))) | (go_at_call 112; go_loud ((refine (number_unshifted.calls (2 * Uj.length + 2) _ _ (trimL Uj) _ _ _ hCt hct FS.out).mono ?_); (rintro e wc ⟨v1, rfl, hv1, hbc⟩))))
      go_ret2
      have hv : val V = val l1 * 2 ^ s := PV.out.2
      have hp : 0 < val l1 := by
        rcases Nat.eq_zero_or_pos (val l1) with h | h
        · have h0 : val V = 0 := by rw [hv, h, Nat.zero_mul]
          have h1 := HL.out.lt
          rw [h0] at h1
          exact absurd h1 (Nat.not_lt_zero _)
        · exact h
      have hud := unshift_div (val l0) (val l1) s hp
      have eQ : trimL Qj = digs (val l0 / val l1) := by
        rw [← digs_val DQ.out, HF.out.1, hv, hud.1]
      have eR : digs (val (trimL Uj) / 2 ^ s) = digs (val l0 % val l1) := by
        rw [val_trimL, HF.out.2, hv, hud.2]
      rw [eQ] at hv0
      rw [eR] at hv1
      clear eQ eR hud hp hv
      have h0 : Kd.R (Kd.int .u32) 84 wc w.heap.size (fun q => q < wb.heap.size) v0 (digs (val l0 / val l1)) := by
        refine Kd.R_step (w := wb) (Kd.R_mono (Kd.R_bound (Kd.R_step (w := wa) (Kd.R_mono (Kd.R_bound hv0) (ok' := fun q => q < wa.heap.size ∧ q ≠ gU) ?_) (fun q hq _ => hkb.2 q hq.1 hq.2))) (fun q hq => hq.2.2.1)) (fun q hq _ => hbc.block q hq)
        intro q hq
        have := HGQ.out
        have := HGU.out
        refine ⟨hq.2.2.1, ?_⟩
        rcases hq.1 with h | h
        · omega
        · omega
      have h1 : Kd.R (Kd.int .u32) 84 wc w.heap.size (fun q => wb.heap.size ≤ q) v1 (digs (val l0 % val l1)) :=
        Kd.R_lower (Kd.R_mono (Kd.R_bound hv1) (fun q hq => hq.2.1)) hbb.size
      have hap := R_apart h0 h1 (fun i j hi hj => by omega)
      exact ⟨v0, v1, rfl, hap.1, hap.2, hbb.trans (hbc.mono hbb.size)⟩
    | succ j =>
      have ej : ((j + 1 : Nat) : Int) - 1 = (j : Int) := by omega
      rw [ej]
      have hL := HL.out
      have hjm : j + 1 ≤ n := hL.jm
      have hlUj : Uj.length = n + (k + 2) := hL.lU
      have hUj : Uj.length = U.length := by rw [hlUj, HN.out]
      have hcU : U.length ≤ cU := by
        obtain ⟨A, c, e, h1, _⟩ := Kd.R_reads HU7.out
        simp only [Value.slice.injEq] at e
        omega
      have hVl := HVL.out
      have hm := HM.out
      have hn := HN.out
      have hn2 := HLU.out
      have wj1 : IntKind.i64.wrap ((j : Int) + (V.length : Int)) = ((j + (k + 2) : Nat) : Int) := (i64_w _).trans (by unfold wrap64; omega)
      obtain ⟨h3, hh3⟩ : ∃ h3 : Nat, j + (k + 2) = h3 := ⟨_, rfl⟩
      rw [hh3] at wj1
      obtain ⟨h4, hh4⟩ : ∃ h4 : Nat, j + (k + 3) = h4 := ⟨_, rfl⟩
      have wj2 : IntKind.i64.wrap ((h3 : Int) + 1) = (h4 : Int) := (i64_w _).trans (by unfold wrap64; omega)
      obtain ⟨ln, hln⟩ : ∃ ln : Nat, k + 3 = ln := ⟨_, rfl⟩
      have HLN := Aside0.mk hln.symm
      obtain ⟨i84, hi84⟩ : ∃ i, Try.prog.info? 84 = some i := ⟨_, rfl⟩
      have hcut := cut_mid (P := Try.prog) 41 84 Try.underlying41 hi84 (by have := info84; rw [hi84] at this; simp at this; exact this.2.1) gU U.length cU j h4 ln (by omega) (by omega) (by omega)
      have cell : ∀ i : Nat, i ≤ k + 2 → wr.cell? ⟨gU, j + i, none⟩ = some (.int .u32 (rd Uj ((j + i : Nat) : Int))) := fun i hi => by
        have := (Kd.R_celln (0 : Int) HU7.out ((j + i : Nat) : Int) (by omega) (by omega)).1
        rwa [Int.toNat_natCast] at this
      have y2 := cell V.length (by omega)
      have y1 := cell m (by omega)
      have y0 := cell k (by omega)
      have b2 := hL.dU.rdok ((j + V.length : Nat) : Int)
      have b1 := hL.dU.rdok ((j + m : Nat) : Int)
      have b0 := hL.dU.rdok ((j + k : Nat) : Int)
      obtain ⟨p2, hp2⟩ : ∃ p2 : Int, rd Uj ((j + V.length : Nat) : Int) = p2 := ⟨_, rfl⟩
      obtain ⟨p1, hp1⟩ : ∃ p1 : Int, rd Uj ((j + m : Nat) : Int) = p1 := ⟨_, rfl⟩
      obtain ⟨p0, hp0⟩ : ∃ p0 : Int, rd Uj ((j + k : Nat) : Int) = p0 := ⟨_, rfl⟩
      rw [hp2] at y2 b2
      rw [hp1] at y1 b1
      rw [hp0] at y0 b0
      obtain ⟨a2, rfl⟩ := Int.eq_ofNat_of_zero_le b2.1
      obtain ⟨a1, rfl⟩ := Int.eq_ofNat_of_zero_le b1.1
      obtain ⟨a0, rfl⟩ := Int.eq_ofNat_of_zero_le b0.1
      have P2 := Aside0.mk hp2
      have P1 := Aside0.mk hp1
      have P0 := Aside0.mk hp0
      have B0' := Aside0.mk b0
      have up2 : IntKind.u64.wrap (a2 : Int) = (a2 : Int) := u64_in _ b2.1 (by omega)
      have up1 : IntKind.u64.wrap (a1 : Int) = (a1 : Int) := u64_in _ b1.1 (by omega)
      have up0 : IntKind.u64.wrap (a0 : Int) = (a0 : Int) := u64_in _ b0.1 (by omega)
      have us2 : IntKind.u64.wrap ((a2 : Int) * 4294967296) = (a2 : Int) * 4294967296 := u64_in _ (by omega) (by omega)
      have hor := or_words (a2 : Int) (a1 : Int) b2.1 b2.2 b1.1 b1.2
      have iln : (V.length : Int) < (ln : Int) := by omega
      have iln1 : (m : Int) < (ln : Int) := by omega
      have iln0 : (k : Int) < (ln : Int) := by omega
      have jln : V.length < ln := by omega
      have jln1 : m < ln := by omega
      have jln0 : k < ln := by omega
      have D1' := D1.out
      obtain ⟨t1, ht1⟩ : ∃ t1 : Int, rd V (m : Int) = t1 := ⟨_, rfl⟩
      obtain ⟨t0, ht0⟩ : ∃ t0 : Int, rd V (k : Int) = t0 := ⟨_, rfl⟩
      have B2 := Aside0.mk b2
      have B1 := Aside0.mk b1
      have hT := hL.top PV.out.1
      have ht31 := PV.out.1.t
      rw [← hm, ht1] at ht31
      rw [ht1] at D1'
      obtain ⟨T1, rfl⟩ := Int.eq_ofNat_of_zero_le D1'.1
      have d0' := D0.out
      rw [ht0] at d0'
      obtain ⟨T0, rfl⟩ := Int.eq_ofNat_of_zero_le d0'.1
      rw [← hm, ht1, ht0, show j + (k + 2) = j + V.length by omega, hp2, hp1, hp0] at hT
      simp only [Int.toNat_natCast] at hT
      have HT := Aside0.mk hT
      have HT1 := Aside0.mk ht1
      have HT0 := Aside0.mk ht0
      have k5 : ¬ (T1 : Int) = 0 := by omega
      have k6 : ((T1 : Int) != 0) = true := by rw [bne_iff_ne]; exact k5
      have k7 : ((T1 : Int) == 0) = false := by rw [beq_eq_false_iff_ne]; exact k5
      have DT := Aside0.mk D1'
      have T31 := Aside0.mk ht31
      simp only [ht1, ht0]
      clear cell hL hlUj hUj hVl hm hn hn2 ej hp2 hp1 hp0 b0 D1' ht31 hT d0'
      clear ht1 ht0
      go_wp2
      go_step3
      go_wp2
      go_quiet (fail)
      go_wp2
      go_quiet (fail)
      go_wp2
      go_step3
      have hquot : ((a2 : Int) * 4294967296 + (a1 : Int)) / (T1 : Int) = (((a2 * 4294967296 + a1) / T1 : Nat) : Int) := by
        have e1 : (a2 : Int) * 4294967296 + (a1 : Int) = ((a2 * 4294967296 + a1 : Nat) : Int) := by rw [Int.natCast_add, Int.natCast_mul]; rfl
        rw [e1, ← Int.natCast_ediv]
      have hrem : ((a2 : Int) * 4294967296 + (a1 : Int)) % (T1 : Int) = (((a2 * 4294967296 + a1) % T1 : Nat) : Int) := by
        have e1 : (a2 : Int) * 4294967296 + (a1 : Int) = ((a2 * 4294967296 + a1 : Nat) : Int) := by rw [Int.natCast_add, Int.natCast_mul]; rfl
        rw [e1, ← Int.natCast_emod]
      rw [hquot, hrem]
      generalize hwx : World.drewN _ nq = wX
      have z0 : wX.cell? ⟨gU, j + k, none⟩ = some (.int .u32 (a0 : Int)) := by rw [← hwx]; exact y0
      have HU8 := Aside0.mk (show Kd.R (Kd.int .u32) 84 wX w.heap.size (fun k => k = gU) (.slice (some ⟨gU, 0, none⟩) U.length cU) Uj by rw [← hwx]; exact Kd.R_drewN (Kd.R_drewN HU7.out _) _)
      have HV8 := Aside0.mk (show Kd.R (Kd.int .u32) 84 wX w.heap.size (fun k => k = gV) (.slice (some ⟨gV, 0, none⟩) V.length cV) V by rw [← hwx]; exact Kd.R_drewN (Kd.R_drewN HV7.out _) _)
      have HQ8 := Aside0.mk (show Kd.R (Kd.int .u32) 84 wX w.heap.size (fun k => k = gQ) (.slice (some ⟨gQ, 0, none⟩) n n) Qj by rw [← hwx]; exact Kd.R_drewN (Kd.R_drewN HQ7.out _) _)
      have HB8 := Aside0.mk (show Below w.heap.size w wX by rw [← hwx]; exact pw_below_drewN (pw_below_drewN HB7.out _) _)
      clear hwx hquot hrem y0 y1 y2
      go_upto_block 4 with fail
      go_cut [18, 19] from 127 to 153 (fun v18 v19 wx => ∃ x y : Nat, v18 = .int .u64 (x : Int) ∧ v19 = .int .u64 (y : Int) ∧ Aside0 (x < 4294967296 ∧ (x = val (partOf k j Uj) / val V ∨ x = val (partOf k j Uj) / val V + 1)) ∧ wx = wX)
      case first =>
        go_wp2_with fail
        go_loopw [18, 19] (fun v18 v19 wr2 => ∃ x y : Nat, v18 = .int .u64 (x : Int) ∧ v19 = .int .u64 (y : Int) ∧ Aside0 (Est (val (partOf k j Uj)) (val V) (a2 * 4294967296 + a1) T1 x y ∧ y < 4294967296) ∧ wr2 = wX) (fun v18 _ _ => (intOf v18).toNat)
        case atStart => exact ⟨_, _, rfl, rfl, ⟨HT.out.start, Nat.lt_of_lt_of_le (Nat.mod_lt _ (by have := HT.out.t0; omega)) (by have := HT.out.t1; omega)⟩, rfl⟩
        case round =>
          obtain ⟨x, y, rfl, rfl, HE, hw⟩ := hrel
          subst hw
          have hy := HE.out.2
          have he := HE.out.1.1
          have ha2 := B2.out
          have ha1 := B1.out
          have ht1 := HT.out.t1
          have ht0 := HT.out.t0
          have htn := HT.out.n1
          have ha0 := HT.out.p1
          have hxb : x < 18446744073709551616 := by
            have : x * 1 ≤ x * T1 := Nat.mul_le_mul_left _ (by omega)
            omega
          by_cases c1 : x < 4294967296
          · have g1 : ((x : Int) / 4294967296 == 0) = true := by rw [beq_iff_eq]; omega
            have hm1 : x * T0 ≤ 4294967295 * 4294967295 := Nat.mul_le_mul (by omega) (by omega)
            have hm2 : (x : Int) * (T0 : Int) = ((x * T0 : Nat) : Int) := (Int.natCast_mul x T0).symm
            have ux : IntKind.u64.wrap ((x : Int) * (T0 : Int)) = ((x * T0 : Nat) : Int) := by rw [hm2]; exact u64_in _ (Int.natCast_nonneg _) (by omega)
            have uy : IntKind.u64.wrap ((y : Int) * 4294967296) = (y : Int) * 4294967296 := u64_in _ (by omega) (by omega)
            have hor2 := or_words (y : Int) (a0 : Int) (by omega) (by omega) (by omega) (by omega)
            obtain ⟨z, hz⟩ : ∃ z : Nat, x * T0 = z := ⟨_, rfl⟩
            rw [hz] at ux
            have HZ := Aside0.mk hz
            clear hm1 hm2
            by_cases c2 : z ≤ y * 4294967296 + a0
            · have g2 : decide ((z : Int) ≤ (y : Int) * 4294967296 + (a0 : Int)) = true := decide_eq_true (by omega)
              clear he hz
              go_wp2
              go_meet
              case rel => exact ⟨x, y, rfl, rfl, ⟨HE.out.1.done HT.out ⟨c1, by rw [HZ.out]; exact c2⟩⟩, rfl⟩
            · have g2 : decide ((z : Int) ≤ (y : Int) * 4294967296 + (a0 : Int)) = false := decide_eq_false (by omega)
              have hdn := HE.out.1.down HT.out (fun h => c2 (by rw [← hz]; exact h.2))
              have hx1 := hdn.1
              have HE2 := Aside0.mk hdn.2
              clear hdn
              obtain ⟨x', hx'⟩ : ∃ x' : Nat, x - 1 = x' := ⟨_, rfl⟩
              obtain ⟨y', hy'⟩ : ∃ y' : Nat, y + T1 = y' := ⟨_, rfl⟩
              have wx : IntKind.u64.wrap ((x : Int) - 1) = (x' : Int) := by rw [u64_in _ (by omega) (by omega)]; omega
              have wy : IntKind.u64.wrap ((y : Int) + (T1 : Int)) = (y' : Int) := by rw [u64_in _ (by omega) (by omega)]; omega
              by_cases c3 : y' < 4294967296
              · have g3 : ((y' : Int) / 4294967296 != 0) = false := by rw [bne_eq_false_iff_eq]; omega
                have HX := Aside0.mk hx'
                have HY := Aside0.mk hy'
                have HX1 := Aside0.mk hx1
                clear he hz hx' hy' hx1
                go_wp2
                go_roundw
                case rel => exact ⟨x', y', rfl, rfl, ⟨by have := HE2.out; rwa [HX.out, HY.out] at this, c3⟩, trivial⟩
                case measure => have := HX.out; have := HX1.out; simp [intOf]; omega
              · have g3 : ((y' : Int) / 4294967296 != 0) = true := by rw [bne_iff_ne]; omega
                have HX := Aside0.mk hx'
                have HY := Aside0.mk hy'
                clear he hz hx' hy' hx1
                go_wp2
                go_meet
                case rel => exact ⟨x', y', rfl, rfl, ⟨by have := HE2.out; rw [HX.out, HY.out] at this; exact this.done HT.out (this.over HT.out (by omega))⟩, rfl⟩
          · have g1 : ((x : Int) / 4294967296 == 0) = false := by rw [beq_eq_false_iff_ne]; omega
            have hdn := HE.out.1.down HT.out (fun h => c1 h.1)
            have hx1 := hdn.1
            have HE2 := Aside0.mk hdn.2
            clear hdn
            obtain ⟨x', hx'⟩ : ∃ x' : Nat, x - 1 = x' := ⟨_, rfl⟩
            obtain ⟨y', hy'⟩ : ∃ y' : Nat, y + T1 = y' := ⟨_, rfl⟩
            have wx : IntKind.u64.wrap ((x : Int) - 1) = (x' : Int) := by rw [u64_in _ (by omega) (by omega)]; omega
            have wy : IntKind.u64.wrap ((y : Int) + (T1 : Int)) = (y' : Int) := by rw [u64_in _ (by omega) (by omega)]; omega
            by_cases c3 : y' < 4294967296
            · have g3 : ((y' : Int) / 4294967296 != 0) = false := by rw [bne_eq_false_iff_eq]; omega
              have HX := Aside0.mk hx'
              have HY := Aside0.mk hy'
              have HX1 := Aside0.mk hx1
              clear he hx' hy' hx1
              go_wp2
              go_roundw
              case rel => exact ⟨x', y', rfl, rfl, ⟨by have := HE2.out; rwa [HX.out, HY.out] at this, c3⟩, trivial⟩
              case measure => have := HX.out; have := HX1.out; simp [intOf]; omega
            · have g3 : ((y' : Int) / 4294967296 != 0) = true := by rw [bne_iff_ne]; omega
              have HX := Aside0.mk hx'
              have HY := Aside0.mk hy'
              clear he hx' hy' hx1
              go_wp2
              go_meet
              case rel => exact ⟨x', y', rfl, rfl, ⟨by have := HE2.out; rw [HX.out, HY.out] at this; exact this.done HT.out (this.over HT.out (by omega))⟩, rfl⟩
      case rest =>
        obtain ⟨x, y, rfl, rfl, HX, hwc⟩ := hcut
        subst hwc
        have hL := HL.out
        have hjm : j + 1 ≤ n := hL.jm
        have hlUj : Uj.length = n + (k + 2) := hL.lU
        have hpl : (partOf k j Uj).length = k + 3 := hL.part_length
        have hlnk : ln = k + 3 := HLN.out
        have hpre : (Uj.take j).length = j := by rw [List.length_take]; omega
        have hsplit : Uj.take j ++ partOf k j Uj ++ Uj.drop (j + ln) = Uj := by
          rw [hlnk, partOf, List.append_assoc, ← List.drop_drop, List.take_append_drop, List.take_append_drop]
        have hMid : MidR (gU, cU) (Uj.take j) (Uj.drop (j + ln)) wc w.heap.size (fun k => k = gU) (.slice (some ⟨gU, j, none⟩) ln (cU - j)) (partOf k j Uj) := by
          refine ⟨fun k hk => (Option.some.inj hk).symm, 0, cU - j, ?_, by rw [hpre, hpl, hlnk], ?_⟩
          · have hUl : Uj.length = U.length := by rw [hlUj, HN.out]
            rw [hsplit, hUl]
            exact HU8.out
          · have := HN.out
            rw [hpl]; omega
        obtain ⟨p', b, hfS, hdp, hlp, hb1, hval⟩ := subtract_f (partOf k j Uj) V x (ln + 1) HX.out.1 ((hL.dU.drop _).take _) PV.out.1.d (by rw [hpl, HVL.out]) (by rw [hpl]; omega) (by rw [hpl]; omega)
        have hgg : gU < gV ∧ gV < gQ := HGQ.out
        have hrV : ∀ W_, Kept wc W_ (fun k => k = gU) → Kd.C (Kd.int .u32) W_ (some ⟨gV, 0, none⟩) V.length V := fun W_ hk => (Kd.R_reads' (Kd.R_step HV8.out (fun q hq hlt => hk.2 q hlt (by omega)))).2.2
        have hcV : V.length ≤ cV := (Kd.R_reads' HV8.out).2.1
        have HMID := Aside0.mk hMid
        have HFS := Aside0.mk hfS
        have hVV := val_lt PV.out.1.d
        have hPP := val_lt hdp
        have hde := digit_exact HT.out.v0 HX.out.2 (P' := val p') (Z := 4294967296 ^ (k + 3)) (by rw [hlp, hpl] at hPP; exact hPP) (by rw [HVL.out] at hVV; exact Nat.lt_of_lt_of_le hVV (Nat.pow_le_pow_right (by decide) (by omega))) hb1 (by rw [hpl] at hval; exact hval)
        have HDE := Aside0.mk hde
        have ux : IntKind.u32.wrap (x : Int) = (x : Int) := by show (x : Int) % 4294967296 = x; have := HX.out.1; omega
        have wj : IntKind.i64.wrap ((j : Int) - 1) = (j : Int) - 1 := (i64_w _).trans (by have := HN.out; have := HLU.out; unfold wrap64; omega)
        have jq : (j : Int) < (n : Int) := by omega
        have jq' : j < n := by omega
        have HDP := Aside0.mk (And.intro hdp (hlp.trans hpl))
        have HJM := Aside0.mk hjm
        have HHV := Aside0.mk hcV
        have HRV := Aside0.mk hrV
        have HGG := Aside0.mk hgg
        have hb01 : b = 0 ∨ b = 1 := by omega
        clear hL hlUj hpl hlnk hpre hsplit hMid hfS hVV hPP hde hval hb1 hlp hdp hcV hrV hgg
        rcases hb01 with rfl | rfl
        · go_wp2_with (first | (go_at_call 110; go_loud (refine (number_subtract.mid (g_ := (gU, cU)) (pre_ := Uj.take j) (post_ := Uj.drop (j + ln)) (ln + 1) (fun k => k = gU) _ (partOf k j Uj) _ _ V _ _ p' w wc HB8.out HMID.out HRV.out HHV.out HFS.out).mono ?_; rintro e w9 ⟨rfl, hm9, hb9, hk9⟩; have HM9 := Aside0.mk hm9; have HB9 := Aside0.mk hb9; have HQ9 := Aside0.mk (Kd.R_step HQ8.out (fun q hq hlt => hk9.2 q hlt (by have := HGG.out; omega))); have HV9 := Aside0.mk (Kd.R_step HV8.out (fun q hq hlt => hk9.2 q hlt (by have := HGG.out; omega))); have cq := (Kd.R_celln (0 : Int) HQ9.out (j : Int) (by omega) (by omega)); rw [Int.toNat_natCast] at cq; obtain ⟨cq1, cq2⟩ := cq; clear hm9 hb9 hk9)))
          rw [Exit.noGoto_normal]
          go_wp2
          go_roundw
          case rel =>
            have hL := HL.out
            have h0 := HDE.out.1 (by first | trivial | rfl)
            have hr := hL.round PV.out.1 p' HDP.out.1 HDP.out.2 h0.2
            rw [← h0.1] at hr
            have hgg := HGG.out
            refine ⟨j, _, _, rfl, ⟨hr⟩, ⟨?_⟩, ⟨?_⟩, ⟨?_⟩, ⟨?_⟩⟩
            · obtain ⟨_, _, c, hR, _⟩ := HM9.out
              have hlr := hr.lU
              rw [HLN.out] at hR
              rw [hlr, ← HN.out] at hR
              exact Kd.R_far (p := ⟨gQ, j, none⟩) (R_at hR) (fun q hq => by dsimp only; omega) _
            · exact Kd.R_far (p := ⟨gQ, j, none⟩) HV9.out (fun q hq => by dsimp only; omega) _
            · have := Kd.R_putn HQ9.out (j : Int) (x : Int)
              rwa [Int.toNat_natCast] at this
            · exact HB9.out.setCell (p := ⟨gQ, j, none⟩) HGW.out _
          case measure => simp [intOf]
        · have hx1 := ((HDE.out.2 rfl).1)
          have hx0 : 1 ≤ x := by rw [hx1]; exact Nat.le_add_left _ _
          obtain ⟨x', hx'⟩ : ∃ x' : Nat, x - 1 = x' := ⟨_, rfl⟩
          have wx1 : IntKind.u64.wrap ((x : Int) - 1) = (x' : Int) := by
            clear hx1
            rw [u64_in _ (by omega) (by have := HX.out.1; omega)]; omega
          have ux' : IntKind.u32.wrap (x' : Int) = (x' : Int) := by show (x' : Int) % 4294967296 = x'; have := HX.out.1; omega
          have HX' := Aside0.mk (show x' = val (partOf k j Uj) / val V by rw [← hx', hx1]; rfl)
          obtain ⟨p'', c, hfG, hdp2, hlp2, hc1b, hval2⟩ := giveBack_f p' V (ln + 1) HDP.out.1 PV.out.1.d (by rw [HDP.out.2, HVL.out]) (by rw [HDP.out.2]; omega) (by rw [HDP.out.2, HLN.out]; omega)
          have hp2 := (HDE.out.2 rfl).2 (val p'') c hc1b (by have := val_lt hdp2; rw [hlp2, HDP.out.2] at this; exact this) (by rw [HDP.out.2] at hval2; exact hval2)
          have HP2 := Aside0.mk hp2
          have HDP2 := Aside0.mk (And.intro hdp2 (hlp2.trans HDP.out.2))
          have HFG := Aside0.mk hfG
          clear hx1 hx' hfG hdp2 hlp2 hc1b hval2 hp2
          go_wp2_with (first | (go_at_call 110; go_loud (refine (number_subtract.mid (g_ := (gU, cU)) (pre_ := Uj.take j) (post_ := Uj.drop (j + ln)) (ln + 1) (fun k => k = gU) _ (partOf k j Uj) _ _ V _ _ p' w wc HB8.out HMID.out HRV.out HHV.out HFS.out).mono ?_; rintro e w9 ⟨rfl, hm9, hb9, hk9⟩; have HM9 := Aside0.mk hm9; have HB9 := Aside0.mk hb9; have HQ9 := Aside0.mk (Kd.R_step HQ8.out (fun q hq hlt => hk9.2 q hlt (by have := HGG.out; omega))); have HV9 := Aside0.mk (Kd.R_step HV8.out (fun q hq hlt => hk9.2 q hlt (by have := HGG.out; omega))); clear hm9 hb9 hk9)) | (go_at_call 111; go_loud (refine (number_giveBack.mid (g_ := (gU, cU)) (pre_ := Uj.take j) (post_ := Uj.drop (j + ln)) (ln + 1) (fun k => k = gU) _ p' _ _ V p'' w _ HB9.out (by obtain ⟨_, z, c, hR, h2⟩ := HM9.out; exact ⟨fun k hk => (Option.some.inj hk).symm, z, c, R_at hR, h2⟩) (fun W_ hk => (Kd.R_reads' (Kd.R_step HV9.out (fun q hq hlt => hk.2 q hlt (by have := HGG.out; omega)))).2.2) HHV.out HFG.out).mono ?_; rintro e w10 ⟨rfl, hm10, hb10, hk10⟩; have HM10 := Aside0.mk hm10; have HB10 := Aside0.mk hb10; have HQ10 := Aside0.mk (Kd.R_step HQ9.out (fun q hq hlt => hk10.2 q hlt (by have := HGG.out; omega))); have HV10 := Aside0.mk (Kd.R_step HV9.out (fun q hq hlt => hk10.2 q hlt (by have := HGG.out; omega))); have cq := (Kd.R_celln (0 : Int) HQ10.out (j : Int) (by omega) (by omega)); rw [Int.toNat_natCast] at cq; obtain ⟨cq1, cq2⟩ := cq; clear hm10 hb10 hk10)))
          rw [Exit.noGoto_normal]
          go_wp2
          go_roundw
          case rel =>
            have hL := HL.out
            have hr := hL.round PV.out.1 p'' HDP2.out.1 HDP2.out.2 HP2.out
            rw [← HX'.out] at hr
            have hgg := HGG.out
            refine ⟨j, _, _, rfl, ⟨hr⟩, ⟨?_⟩, ⟨?_⟩, ⟨?_⟩, ⟨?_⟩⟩
            · obtain ⟨_, _, c, hR, _⟩ := HM10.out
              have hlr := hr.lU
              rw [HLN.out] at hR
              rw [hlr, ← HN.out] at hR
              exact Kd.R_far (p := ⟨gQ, j, none⟩) (R_at hR) (fun q hq => by dsimp only; omega) _
            · exact Kd.R_far (p := ⟨gQ, j, none⟩) HV10.out (fun q hq => by dsimp only; omega) _
            · have := Kd.R_putn HQ10.out (j : Int) (x' : Int)
              rwa [Int.toNat_natCast] at this
            · exact HB10.out.setCell (p := ⟨gQ, j, none⟩) HGW.out _
          case measure => simp [intOf]
end Go.Proofs.Ythhgfogdeaaidaa.R
