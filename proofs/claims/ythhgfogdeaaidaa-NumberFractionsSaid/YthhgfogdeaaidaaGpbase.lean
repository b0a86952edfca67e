/- number.parted, first part: where the divisor is greater, and where it has one digit. -/
import Derived.Test.YthhgfogdeaaidaaR0
import Derived.Test.YthhgfogdeaaidaaGorder
import Derived.Test.YthhgfogdeaaidaaGclone
import Derived.Test.YthhgfogdeaaidaaGsmall
import Derived.Test.YthhgfogdeaaidaaR4
import Derived.Test.YthhgfogdeaaidaaR5
import Derived.Test.YthhgfogdeaaidaaR6
import Derived.Test.YthhgfogdeaaidaaGback
import Derived.Test.YthhgfogdeaaidaaGcmp
import Derived.Test.YthhgfogdeaaidaaGknuth
import Derived.Test.YthhgfogdeaaidaaGmid
import Derived.Test.YthhgfogdeaaidaaGone
import Derived.Deep.RegionHeld3
namespace Go.Proofs.Ythhgfogdeaaidaa.R
open Go.RowKit Go.Proofs.YthhgfogdeaaidaaW.PrintWords Go.Proofs.YthhgfogdeaaidaaW.PrintLast Go.Proofs.YthhgfogdeaaidaaW.PrintMore
set_option linter.unusedVariables false
set_option linter.unusedSimpArgs false
def digB (l : List Int) : Bool := l.all fun x => decide (0 ≤ x) && decide (x < 4294967296)
theorem digB_dig {l : List Int} (h : digB l = true) : Dig l := fun x hx => by
  have := List.all_eq_true.1 h x hx
  simpa using this
theorem digB_of {l : List Int} (h : Dig l) : digB l = true := List.all_eq_true.2 fun x hx => by
  have := h x hx
  simpa using this
def partOk (a b : List Int) : Bool := digB a && digB b && (trimL a == a) && (trimL b == b) && !b.isEmpty && decide (a.length < 1048576) && decide (b.length < 1048576)
def number_parted.f (l0 l1 : List Int) : Option (List Int × List Int) := if partOk l0 l1 = true then some (digs (val l0 / val l1), digs (val l0 % val l1)) else none
theorem bcell {W w1 : World} (hb : Below W.heap.size W w1) : (∀ b o, b < W.heap.size → w1.cell? ⟨b, o, none⟩ = W.cell? ⟨b, o, none⟩) :=
  fun b o h => hb.cell (p := ⟨b, o, none⟩) h
theorem boxes_two (w : World) (t : TypeId) (x y : Value) : ((w.alloc (.cells #[x] t)).alloc (.cells #[y] t)).cell? ⟨w.heap.size, 0, none⟩ = some x ∧ ((w.alloc (.cells #[x] t)).alloc (.cells #[y] t)).cell? ⟨w.heap.size + 1, 0, none⟩ = some y := by
  have h1 := ((Boxed.new w t x).alloc (.cells #[y] t)).cell
  have h2 := (Boxed.new (w.alloc (.cells #[x] t)) t y).cell
  rw [World.size_alloc] at h2
  exact ⟨h1, h2⟩
theorem callsIn_lift {F : Fence} (hF : F = Fence.wide) {n : Nat} {P : Program} {f : FuncId} {args : Array Value} {w : World} {R : Ending → World → Prop} (h : Calls P f args w R) : CallsIn F n P f args w R := by
  subst hF; exact callsIn_wide.2 h
set_option maxRecDepth 1000000 in
set_option maxHeartbeats 4000000 in
theorem parted_less (A0 : Option Addr) (c0 : Nat) (l0 : List Int) (A1 : Option Addr) (c1 : Nat) (l1 : List Int) (w : World) (hr0 : Kd.C (Kd.int .u32) w A0 l0.length l0) (hc0 : l0.length ≤ c0) (hr1 : Kd.C (Kd.int .u32) w A1 l1.length l1) (hc1 : l1.length ≤ c1)
    (r : Int) (ho : number_order.f l0 l1 = some r) (hlt : r < 0) (hl : l0.length < 1048576) :
    Calls Try.prog 75 #[.slice A0 l0.length c0, .slice A1 l1.length c1] w fun e w' => ∃ v : Value, e = .returned (.tuple #[.slice none 0 0, v]) ∧ Kd.R (Kd.int .u32) 84 w' w.heap.size (fun _ => True) v l0 ∧ Below w.heap.size w w' := by
  have HR0 := Aside0.mk hr0
  have HR1 := Aside0.mk hr1
  have HO := Aside0.mk ho
  clear hr0 hr1 ho
  have k1 : decide (r < 0) = true := decide_eq_true hlt
  have HB := Aside0.mk (Below.refl w.heap.size w)
  have HF := Aside0.mk (show api_Natural_uint32_105.f l0 = some l0 by unfold api_Natural_uint32_105.f; rw [if_pos (by omega)])
  have B0 := Aside0.mk (boxes_two w 41 (.slice A0 l0.length c0) (.slice A1 l1.length c1))
  go_enter Try.func75, Try.ntmps75
  go_wp2_with (first | (go_at_call 92; (refine (number_order.calls _ _ l0 _ _ l1 r _ ?s1 hc0 ?s2 hc1 HO.out).mono ?_); (case s1 => exact Kd.C_alloc (Kd.C_alloc HR0.out _) _); (case s2 => exact Kd.C_alloc (Kd.C_alloc HR1.out _) _); rintro e w1 ⟨rfl, hb⟩; have q0 := (hb.cell (p := ⟨w.heap.size, 0, none⟩) (by simp; omega)).trans B0.out.1; have q1 := (hb.cell (p := ⟨w.heap.size + 1, 0, none⟩) (by simp)).trans B0.out.2; have HW := Aside0.mk ((((Below.refl _ w).alloc (Nat.le_refl _) _).alloc (by simp) _).trans (hb.mono (by simp; omega))); clear hb) | (go_at_call 105; (refine (api_Natural_uint32_105.calls _ _ l0 l0 _ ?s3 hc0 HF.out).mono ?_); (case s3 => exact Kd.C_below HR0.out HW.out); rintro e w2 ⟨v, rfl, ho2, hb2⟩; have HV := Aside0.mk ho2; have HW2 := Aside0.mk (HW.out.trans (hb2.mono HW.out.size)); have hs := Aside0.mk HW.out.size; clear ho2 hb2))
  go_ret2
  exact ⟨v, rfl, Kd.R_lower HV.out hs.out, HW2.out⟩
theorem far_cell {w1 : World} {b : Nat} {x : Value} (h : w1.cell? ⟨b, 0, none⟩ = some x) (hb : b < w1.heap.size) (o1 o2 o3 : Obj) : (((w1.alloc o1).alloc o2).alloc o3).cell? ⟨b, 0, none⟩ = some x :=
  (((((Below.refl w1.heap.size w1).alloc (Nat.le_refl _) o1).alloc (by simp) o2).alloc (by simp; omega) o3).cell (p := ⟨b, 0, none⟩) hb).trans h
theorem wpOpIn_round {l n : Nat} {P : Program} {ops : Array Oper} {Q : Exit → Act → World → Prop} (hlet : ¬ LetsOut Q) {i : Nat} (hno : ∀ o, ops[i]? = some o → ∀ c, o.op ≠ .defer c) {K : Act → World → Prop} {a : Act} {w : World} (h : wpOp P ops Q i K a w) : wpOpIn (Fence.wide.inRound l) n P ops Q i K a w := by
  unfold wpOp at h
  unfold wpOpIn
  split
  · simpa [*] using h
  · rename_i o ho
    simp only [ho] at h
    split
    · rename_i hw
      simp only [hw, if_true] at h
      rcases h with h | h
      · refine ⟨fun _ _ => trivial, ?_⟩
        rw [Oper.semAt_eq _ _ _ (hno o ho)]
        unfold Oper.wp at h
        generalize (execOp a.eval o).run P w = r at *
        cases r with
        | ok x w' =>
          cases x <;> simp only [Oper.upon] at h <;> simp only [Oper.uponIn] <;> first
            | exact h
            | exact ⟨by simp [Fence.wide], CallsIn.inRound l (callsIn_wide.2 h)⟩
            | exact ⟨by simp [Fence.wide], fun c cs _ => let ⟨v, w'', hr, hs⟩ := h c cs; ⟨v, w'', hr, stepsIn_wide.2 hs⟩⟩
        | halt x w' => cases x <;> simp only [Oper.upon] at h <;> simp only [Oper.uponIn] <;> exact h
      · exact absurd h.2 hlet
    · rename_i hw
      simp only [hw] at h
      exact ⟨fun _ _ => trivial, h⟩
def noDefer (o : Oper) : Bool := match o.op with
  | .defer _ => false
  | _ => true
theorem noDefer_spec {ops : Array Oper} (h : ops.toList.all noDefer = true) (i : Nat) (o : Oper) (ho : ops[i]? = some o) (c : Call) : o.op ≠ .defer c := fun e => by
  have hm : o ∈ ops.toList := by
    have := Array.mem_of_getElem? ho
    simpa using this
  have := List.all_eq_true.1 h o hm
  simp [noDefer, e] at this
theorem wpAnyIn_round {l n : Nat} {P : Program} {md : Region.Mode} {ops : Array Oper} {Q : Exit → Act → World → Prop} (hlet : ¬ LetsOut Q) (hno : ops.toList.all noDefer = true) : ∀ (fuel : Nat) (listed : Array Bool) (a : Act) (w : World), wpAny P md ops Q fuel listed a w → wpAnyIn (Fence.wide.inRound l) n P md ops Q fuel listed a w
  | 0, _, _, _, h => h
  | fuel + 1, _, _, _, h => ⟨h.1, fun i hi => wpOpIn_mono (fun a' w' h' => wpAnyIn_round hlet hno fuel _ a' w' h') (wpOpIn_round hlet (noDefer_spec hno i) (h.2 i hi))⟩
theorem take_at {P : Program} {ops : Array Oper} {Q : Exit → Act → World → Prop} {md : Region.Mode} {S : World → Prop} {i : Nat} {oi : Oper} {v : Value} {d : Tmp} {fuel : Nat} {listed : Array Bool} {a : Act} {w : World} (hi : ops[i]? = some oi) (hd : oi.dst = some d)
    (hs : Region.noSelect ops = true) (hf : Region.free md ops listed i = true) (hr : (Region.ready md ops listed).contains i = true)
    (hQ : ∀ c a w, Q (.panic c) (a.put oi.dst v) w → Q (.panic c) a w) (hy : YieldsIf P ops S oi v a) (hS : S w)
    (h : wpAnyH P md ops Q S fuel (listed.setIfInBounds i true) (a.put (some d) v) w) : wpAnyH P md ops Q S (fuel + 1) listed a w :=
  wpAnyH_take hi hs hf hr hQ hy hS (by rw [hd]; exact h)
theorem pt_cell_far {W : World} {p q : Addr} {u x : Value} (h : W.cell? q = some x) (hne : q.block ≠ p.block) : (W.setCell p u).cell? q = some x :=
  (World.cell?_of_block (Below.heap_setCell W p u q.block hne)).trans h
theorem R_put {w : World} {D base : Nat} {ok : Nat → Prop} {v : Value} {xs : List Int} {ds : Option (List Deferred)} (h : Kd.R (Kd.int .u32) 84 w base ok v xs) (hD : w.heap[D]? = some (.deferred ds)) (o : Obj) : Kd.R (Kd.int .u32) 84 (w.putObj D o) base ok v xs := by
  refine Kd.R_mono (Kd.R_grown (Kd.R_bound h) (grownBy_putObj' w D o) ?_) (fun _ h => h.1)
  rintro k ⟨_, _, _, q, _, cells, hc⟩ e
  cases e
  rw [hD] at hc
  cases hc
theorem R_apart {w : World} {base : Nat} {ok1 ok2 : Nat → Prop} {v0 v1 : Value} {xs ys : List Int} (h0 : Kd.R (Kd.int .u32) 84 w base ok1 v0 xs) (h1 : Kd.R (Kd.int .u32) 84 w base ok2 v1 ys) (h : ∀ i j, ok1 i → ok2 j → i ≠ j) :
    Kd.R (Kd.int .u32) 84 w base (fun k => some k ≠ v1.ownBlock) v0 xs ∧ Kd.R (Kd.int .u32) 84 w base (fun k => some k ≠ v0.ownBlock) v1 ys :=
  ⟨Kd.R_mono h0 (fun k hk e => h k k hk (h1.1 k e.symm) rfl), Kd.R_mono h1 (fun k hk e => h k k (h0.1 k e.symm) hk rfl)⟩
theorem cell_new {W : World} {q : Addr} {x : Value} (h : W.cell? q = some x) (o : Obj) : (W.alloc o).cell? q = some x := (World.cell?_alloc_lt _ _ _ (World.block_lt_of_cell? W q h)).trans h
theorem cell_stays {W W2 : World} {S : Nat → Prop} {a : Addr} {v : Value} (hc : W.cell? a = some v) (hk : Kept W W2 S) (hne : ¬ S a.block) : W2.cell? a = some v :=
  (World.cell?_of_block (hk.2 a.block (World.block_lt_of_cell? W a hc) hne)).trans hc
def u32s (l : List Int) : Array Value := (encs (Value.int .u32) l).toArray
theorem R_of_row {W : World} {g base : Nat} {xs : List Int} {ok : Nat → Prop} (h : W.heap[g]? = some (.cells (u32s xs) 84 (0, 0))) (hb : base ≤ g) (hm : xs.length ≤ 9223372036854775807) (hok : ok g) : Kd.R (Kd.int .u32) 84 W base ok (.slice (some ⟨g, 0, none⟩) xs.length xs.length) xs :=
  Kd.R_of_own ⟨by simp [encs], .inr ⟨g, xs.length, u32s xs, rfl, hb, h, Nat.le_refl _, by simpa [maxLen] using hm, by simp [u32s, encs], by simp only [u32s, Nat.mul_one]; exact List.take_of_length_le (by simp [encs])⟩⟩ (fun k hk => by
    have : g = k := by simpa [Value.ownBlock] using hk
    exact this ▸ hok)
theorem u32s_made (n : Nat) : madeCells #[Value.int .u32 0] n = u32s (List.replicate n 0) := by
  apply Array.ext'
  apply List.ext_getElem
  · simp [u32s, encs, madeCells]
  · intro i h1 h2
    simp [u32s, encs, madeCells, Nat.mod_one]
theorem u32s_set (l : List Int) (i : Nat) (x : Int) : (u32s l).setIfInBounds i (.int .u32 x) = u32s (l.set i x) := by
  simp [u32s, encs, List.map_set]
theorem u32s_get (l : List Int) (i : Nat) (h : i < l.length) : (u32s l)[i]? = some (.int .u32 (rd l (i : Int))) := by
  simp [u32s, encs, h, rd]
def OneAt (g : Nat) (a : List Int) (b : Int) {n : Nat} (pre : List (Fin n)) (W : World) : Prop :=
  W.heap[g]? = some (.cells (u32s (foldOne a b pre).1) 84 (0, 0)) ∧ W.heap[g + 1]? = some (.cells #[.slice (some ⟨g, 0, none⟩) n n] 41 (0, 0)) ∧ W.heap[g + 1 + 1]? = some (.cells #[.int .u32 (foldOne a b pre).2] 84 (0, 0))
theorem OneAt.step {g : Nat} {a : List Int} {b : Int} {n : Nat} {pre : List (Fin n)} {x : Fin n} {W : World} {q r : Int} (h : OneAt g a b pre W) (hq : ((foldOne a b pre).2 * 4294967296 + rd a (x.1 : Int)) / b = q) (hr : ((foldOne a b pre).2 * 4294967296 + rd a (x.1 : Int)) % b = r) :
    OneAt g a b (pre ++ [x]) ((W.setCell ⟨g, x.1, none⟩ (.int .u32 q)).setCell ⟨g + 1 + 1, 0, none⟩ (.int .u32 r)) := by
  refine ⟨?_, blk_far (blk_far h.2.1 (by simp) _) (by simp) _, ?_⟩
  · rw [foldOne_snoc, stepOne, hq]
    exact blk_far (blk_put h.1 x.1 _ (u32s_set _ _ _)) (by simp; omega) _
  · rw [foldOne_snoc, stepOne, hr]
    exact blk_put (blk_far h.2.2 (by simp; omega) _) 0 _ (by simp)
attribute [local go_sem] Oper.semAt_some
open Go.Shelf in
set_option maxRecDepth 1000000 in
set_option maxHeartbeats 8000000 in
theorem parted_one (F : Fence) (n : Nat) (h75 : F.fn 75) (h92 : F.fn 92) (h106 : F.fn 106) (h118 : F.fn 118) (h107 : F.fn 107) (h85 : F.fn 85) (hro : F.round = none) (hn : 5 ≤ n) (hwide : F = Fence.wide) (A0 : Option Addr) (c0 : Nat) (l0 : List Int) (A1 : Option Addr) (c1 : Nat) (l1 : List Int) (w : World) (hr0 : Kd.C (Kd.int .u32) w A0 l0.length l0) (hc0 : l0.length ≤ c0) (hr1 : Kd.C (Kd.int .u32) w A1 l1.length l1) (hc1 : l1.length ≤ c1)
    (r : Int) (ho : number_order.f l0 l1 = some r) (hge : 0 ≤ r) (hl : l0.length < 1048576) (hl1 : l1.length = 1) (hd0 : Dig l0) (hd1 : Dig l1) (hb : 0 < rd l1 0) :
    CallsIn F n Try.prog 75 #[.slice A0 l0.length c0, .slice A1 l1.length c1] w fun e w' => ∃ v0 v1 : Value, e = .returned (.tuple #[v0, v1]) ∧ Kd.R (Kd.int .u32) 84 w' w.heap.size (fun k => some k ≠ v1.ownBlock) v0 (digs (val l0 / (rd l1 0).toNat)) ∧ Kd.R (Kd.int .u32) 84 w' w.heap.size (fun k => some k ≠ v0.ownBlock) v1 (digs (val l0 % (rd l1 0).toNat)) ∧ Below w.heap.size w w' := by
  have h1 : 1 ≤ n := by omega
  have HWI := Aside0.mk hwide
  clear hwide
  have HR0 := Aside0.mk hr0
  have HR1 := Aside0.mk hr1
  have HO := Aside0.mk ho
  have k1 : decide (r < 0) = false := decide_eq_false (by omega)
  have k2 : ((l1.length : Int) == 1) = true := beq_iff_eq.mpr (by omega)
  have k2' : (l1.length == 1) = true := beq_iff_eq.mpr hl1
  have HL1 := Aside0.mk hl1
  clear hl1 ho
  have hmk := print_make (P := Try.prog) 41 84 .u32 4 Try.underlying41 info84 (by decide) l0.length (by omega)
  have B0 := Aside0.mk (boxes_two w 41 (.slice A0 l0.length c0) (.slice A1 l1.length c1))
  refine callsIn_of_wp_marks Try.func75 rfl h75 ?_ hro
  simp only [Try.ntmps75, List.size_toArray, List.length_cons, List.length_nil, Nat.reduceAdd, Nat.reduceSub, Array.replicate_succ, Array.replicate_zero, List.push_toArray, List.append_toArray, List.nil_append, List.cons_append]
  gi_wp2_with (first | (gi_at_call 92; go_loud ((refine (callsIn_lift HWI.out (number_order.calls _ _ l0 _ _ l1 r _ ?s1 hc0 ?s2 hc1 HO.out)).mono ?_); (case s1 => exact Kd.C_alloc (Kd.C_alloc HR0.out _) _); (case s2 => exact Kd.C_alloc (Kd.C_alloc HR1.out _) _); rintro e w1 ⟨rfl, hb⟩; have q0 := (hb.cell (p := ⟨w.heap.size, 0, none⟩) (by simp; omega)).trans B0.out.1; have q1 := (hb.cell (p := ⟨w.heap.size + 1, 0, none⟩) (by simp)).trans B0.out.2; have HW := Aside0.mk ((((Below.refl _ w).alloc (Nat.le_refl _) _).alloc (by simp) _).trans (hb.mono (by simp; omega))); have HS := Aside0.mk (show w.heap.size + 1 < w1.heap.size by have := hb.size; simp at this; omega); have q5 := far_cell q0 (by have := HS.out; omega); clear hb)) | (gi_at_call 106; refine (back_in F (n - 1) h106 hro _ _ _ _).mono ?_; rintro e w2 ⟨rfl, rfl⟩))
  have hR1 := Kd.C_below HR0.out HW.out
  have hR2 := Kd.C_below HR1.out HW.out
  have hbl : Below w1.heap.size w1 ((((w1.alloc (.cells (madeCells #[Value.int .u32 0] l0.length) 84)).alloc (.cells #[.slice (some ⟨w1.heap.size, 0, none⟩) l0.length l0.length] 41)).alloc (.cells #[.int .u32 0] 84)).alloc (.cells #[.slice A0 l0.length c0] 41)) :=
    ((((Below.refl _ w1).alloc (Nat.le_refl _) _).alloc (by simp) _).alloc (by simp; omega) _).alloc (by simp; omega) _
  have bN := Boxed.new (((w1.alloc (.cells (madeCells #[Value.int .u32 0] l0.length) 84)).alloc (.cells #[.slice (some ⟨w1.heap.size, 0, none⟩) l0.length l0.length] 41)).alloc (.cells #[.int .u32 0] 84)) 41 (.slice A0 l0.length c0)
  rw [World.size_alloc, World.size_alloc, World.size_alloc] at bN
  have hst : OneAt w1.heap.size l0 (rd l1 0) ([] : List (Fin l0.length)) ((((w1.alloc (.cells (madeCells #[Value.int .u32 0] l0.length) 84)).alloc (.cells #[.slice (some ⟨w1.heap.size, 0, none⟩) l0.length l0.length] 41)).alloc (.cells #[.int .u32 0] 84)).alloc (.cells #[.slice A0 l0.length c0] 41)) := by
    refine ⟨?_, ?_, ?_⟩
    · rw [foldOne_nil, ← u32s_made]; exact blk_alloc (blk_alloc (blk_alloc (blk_new w1 _) _) _) _
    · have := blk_new (w1.alloc (.cells (madeCells #[Value.int .u32 0] l0.length) 84)) (.cells #[.slice (some ⟨w1.heap.size, 0, none⟩) l0.length l0.length] 41)
      rw [World.size_alloc] at this
      exact blk_alloc (blk_alloc this _) _
    · have := blk_new ((w1.alloc (.cells (madeCells #[Value.int .u32 0] l0.length) 84)).alloc (.cells #[.slice (some ⟨w1.heap.size, 0, none⟩) l0.length l0.length] 41)) (.cells #[.int .u32 0] 84)
      rw [World.size_alloc, World.size_alloc] at this
      exact blk_alloc this _
  refine wpIn_rangeFunc_ownG hro h1 (gf := 118) (lb := #[.pointer (some ⟨w1.heap.size + 1 + 1 + 1, 0, none⟩)]) rfl h118 (enters_of Try.func118 (by kernel_rfl) rfl)
    (back_stops F (n - 1) h118 hro (by omega) (w1.heap.size + 1 + 1 + 1) A0 c0 l0 w1 _ hR1 hbl (by simp) bN.cell) KeepBox.trans (KeepBox.putObj (by simp; omega) (by simp)) (Below.refl _ _) (fun _ => rfl)
    (fun pre W => OneAt w1.heap.size l0 (rd l1 0) pre W ∧ Below w1.heap.size w1 W) (fun _ _ _ => False)
    (OwnFrom.and (Own.from (fun s A B row hs hg hr => ⟨(grownBy_keeps_cells hg hr hs.1 rfl).trans hs.1, (grownBy_keeps_cells hg hr hs.2.1 rfl).trans hs.2.1, (grownBy_keeps_cells hg hr hs.2.2 rfl).trans hs.2.2⟩) _) (ownFrom_below (Nat.le_refl _) (by simp; omega)))
    (fun c _ _ _ _ hs _ _ => hs)
    ⟨hst, hbl⟩
    (fun x => { tmps := #[.slice A0 l0.length c0, .slice A1 l1.length c1, .pointer (some ⟨w.heap.size, 0, none⟩), .pointer (some ⟨w.heap.size + 1, 0, none⟩), .slice none 0 0, .slice none 0 0, .pointer (some ⟨w1.heap.size + 1, 0, none⟩), .pointer (some ⟨w1.heap.size + 1 + 1, 0, none⟩), .int .i64 (x.1 : Int), undef, undef, undef, undef, undef, undef, undef, undef, undef, undef, undef, .slice A0 l0.length c0, .slice A1 l1.length c1, .int .i64 r, .bool false, undef, undef, .slice A1 l1.length c1, .int .i64 (l1.length : Int), .bool true, .slice A0 l0.length c0, .int .i64 (l0.length : Int), .slice (some ⟨w1.heap.size, 0, none⟩) l0.length l0.length, .slice A0 l0.length c0, .func (.func 118) #[] #[.pointer (some ⟨w1.heap.size + 1 + 1 + 1, 0, none⟩)], .int .i64 (x.1 : Int), .int .u32 (rd l0 (x.1 : Int)), undef, undef, undef, undef, undef, undef, undef, undef, undef, undef, undef, undef, undef, undef, undef, undef, undef, undef, undef, undef, undef, undef, undef, undef, undef, undef, undef, undef, undef, undef, undef, undef, undef, undef, undef, undef, undef, undef, undef, undef, undef, undef, undef, undef, undef, undef, undef, undef, undef, undef, undef, undef, undef, undef, undef, undef, undef, undef, undef, undef, undef, undef, undef, undef, undef, undef, undef, undef, undef, undef, undef, undef, undef, undef, undef, undef, undef, undef, undef, undef, undef, undef, undef, undef, undef, undef, undef, undef, undef, undef, undef, undef, undef, undef, undef, undef, undef, undef, undef, undef, undef, undef, undef, undef, undef, undef, undef, undef, undef, undef, undef, undef, undef, undef, undef, undef, undef, undef, undef, undef, undef, undef, undef, undef, undef, undef, undef, undef, undef, undef, undef, undef, undef, undef, undef, undef, undef, undef], defers := [] }) ?assign ?body ?done ?stop
  case assign =>
    intro l x W K hK
    gi_wp2
    exact hK
  case body =>
    rintro l pre x W ⟨hone, hB⟩ _
    have hmx : Try.prog.follows .mixedOrders = true := by kernel_rfl
    obtain ⟨ad, e, hx1⟩ := Kd.at_int hR1 (x.1 : Int) (by omega) (by omega)
    subst e
    rw [Int.toNat_natCast] at hx1
    have hxb := World.block_lt_of_cell? w1 _ hx1
    have hx := (hB.cell (p := ad.add x.1) hxb).trans hx1
    obtain ⟨ad1, e, hy1⟩ := Kd.at_int hR2 (0 : Int) (by omega) (by have := HL1.out; omega)
    subst e
    rw [show ((0 : Int)).toNat = 0 from rfl, Addr.add_zero'] at hy1
    have hyb := World.block_lt_of_cell? w1 _ hy1
    have hy := (hB.cell (p := ad1) hyb).trans hy1
    have hxl := x.2
    have hd : 1 ≤ n - 1 - 1 := by omega
    have g1 : W.cell? ⟨w1.heap.size + 1, 0, none⟩ = some (.slice (some ⟨w1.heap.size, 0, none⟩) l0.length l0.length) := by rw [blk_cell hone.2.1]; rfl
    have g2 : W.cell? ⟨w1.heap.size + 1 + 1, 0, none⟩ = some (.int .u32 (foldOne l0 (rd l1 0) pre).2) := by rw [blk_cell hone.2.2]; rfl
    have g3 : W.frozen? ⟨w1.heap.size + 1 + 1, 0, none⟩ = false := blk_frozen hone.2.2 0
    have g4 : W.cell? ⟨w1.heap.size, x.1, none⟩ = some (.int .u32 (rd (foldOne l0 (rd l1 0) pre).1 (x.1 : Int))) := by rw [blk_cell hone.1]; exact u32s_get _ _ (by rw [foldOne_length]; exact hxl)
    have g5 : W.frozen? ⟨w1.heap.size, x.1, none⟩ = false := blk_frozen hone.1 _
    have g6 : W.cell? ⟨w.heap.size, 0, none⟩ = some (.slice (some ad) l0.length c0) := (bcell hB _ _ (by have := HS.out; omega)).trans q0
    have g7 : W.cell? ⟨w.heap.size + 1, 0, none⟩ = some (.slice (some ad1) l1.length c1) := (bcell hB _ _ HS.out).trans q1
    have HONE := Aside0.mk hone
    have hfr := foldOne_rest l0 (rd l1 0) hb pre
    have HD := Aside0.mk (show bits_Div32.f (foldOne l0 (rd l1 0) pre).2 (rd l0 (x.1 : Int)) (rd l1 0) = some ((((foldOne l0 (rd l1 0) pre).2 * 4294967296 + rd l0 (x.1 : Int)) / rd l1 0), (((foldOne l0 (rd l1 0) pre).2 * 4294967296 + rd l0 (x.1 : Int)) % rd l1 0)) from if_pos ⟨hfr.1, hfr.2, (hd1.rdok 0).2, (hd0.rdok _).1, (hd0.rdok _).2⟩)
    clear hone hfr
    have hl10 : 0 < l1.length := by have := HL1.out; omega
    have k3 : decide (0 < l1.length) = true := decide_eq_true hl10
    have hfw := HWI.out
    subst hfw
    refine wpIn_block ?_
    refine wpIn_region_any hmx ?_
    refine wpAnyIn_round (by rintro ⟨a, w, h⟩; exact h) (by kernel_rfl) _ _ _ _ ?_
    refine wpAny_of_held (S := fun W' => W'.cell? ⟨w1.heap.size + 1, 0, none⟩ = some (.slice (some ⟨w1.heap.size, 0, none⟩) l0.length l0.length) ∧ W'.cell? ⟨w.heap.size, 0, none⟩ = some (.slice (some ad) l0.length c0) ∧ W'.cell? ⟨w.heap.size + 1, 0, none⟩ = some (.slice (some ad1) l1.length c1) ∧ W'.cell? (ad.add x.1) = some (.int .u32 (rd l0 (x.1 : Int))) ∧ W'.cell? ad1 = some (.int .u32 (rd l1 0))) _ _ _ _ ?_
    have hS : W.drew.cell? ⟨w1.heap.size + 1, 0, none⟩ = some (.slice (some ⟨w1.heap.size, 0, none⟩) l0.length l0.length) ∧ W.drew.cell? ⟨w.heap.size, 0, none⟩ = some (.slice (some ad) l0.length c0) ∧ W.drew.cell? ⟨w.heap.size + 1, 0, none⟩ = some (.slice (some ad1) l1.length c1) ∧ W.drew.cell? (ad.add x.1) = some (.int .u32 (rd l0 (x.1 : Int))) ∧ W.drew.cell? ad1 = some (.int .u32 (rd l1 0)) := ⟨g1, g6, g7, hx, hy⟩
    change wpAnyH _ _ _ _ _ 17 #[false, false, false, false, false, false, false, false, false, false, false, false, false, false, false, false, false] _ _
    refine take_at (i := 0) (v := .slice (some ⟨w1.heap.size, 0, none⟩) l0.length l0.length) rfl rfl (by kernel_rfl) (by kernel_rfl) (by kernel_rfl) (fun _ _ _ h => h) (Or.inl ⟨by rfl, ?_⟩) hS ?_
    · intro w hSw
      (try dsimp only at hSw)
      go_simp
    simp only [Act.put, List.setIfInBounds_toArray, List.set_cons_zero, List.set_cons_succ]
    refine take_at (i := 1) (v := .int .i64 (x.1 : Int)) rfl rfl (by kernel_rfl) (by kernel_rfl) (by kernel_rfl) (fun _ _ _ h => h) (Or.inl ⟨by rfl, ?_⟩) hS ?_
    · intro w hSw
      (try dsimp only at hSw)
      go_simp
    simp only [Act.put, List.setIfInBounds_toArray, List.set_cons_zero, List.set_cons_succ]
    refine take_at (i := 3) (v := .slice (some ad) l0.length c0) rfl rfl (by kernel_rfl) (by kernel_rfl) (by kernel_rfl) (fun _ _ _ h => h) (Or.inl ⟨by rfl, ?_⟩) hS ?_
    · intro w hSw
      (try dsimp only at hSw)
      go_simp
    simp only [Act.put, List.setIfInBounds_toArray, List.set_cons_zero, List.set_cons_succ]
    refine take_at (i := 4) (v := .int .i64 (x.1 : Int)) rfl rfl (by kernel_rfl) (by kernel_rfl) (by kernel_rfl) (fun _ _ _ h => h) (Or.inl ⟨by rfl, ?_⟩) hS ?_
    · intro w hSw
      (try dsimp only at hSw)
      go_simp
    simp only [Act.put, List.setIfInBounds_toArray, List.set_cons_zero, List.set_cons_succ]
    refine take_at (i := 5) (v := .pointer (some (ad.add x.1))) rfl rfl (by kernel_rfl) (by kernel_rfl) (by kernel_rfl) (fun _ _ _ h => h) (Or.inl ⟨by rfl, ?_⟩) hS ?_
    · intro w hSw
      (try dsimp only at hSw)
      go_simp
    simp only [Act.put, List.setIfInBounds_toArray, List.set_cons_zero, List.set_cons_succ]
    refine take_at (i := 6) (v := .int .u32 (rd l0 (x.1 : Int))) rfl rfl (by kernel_rfl) (by kernel_rfl) (by kernel_rfl) (fun _ _ _ h => h) (Or.inl ⟨by rfl, ?_⟩) hS ?_
    · intro w hSw
      (try dsimp only at hSw)
      go_simp
    simp only [Act.put, List.setIfInBounds_toArray, List.set_cons_zero, List.set_cons_succ]
    refine take_at (i := 7) (v := .slice (some ad1) l1.length c1) rfl rfl (by kernel_rfl) (by kernel_rfl) (by kernel_rfl) (fun _ _ _ h => h) (Or.inl ⟨by rfl, ?_⟩) hS ?_
    · intro w hSw
      (try dsimp only at hSw)
      go_simp
    simp only [Act.put, List.setIfInBounds_toArray, List.set_cons_zero, List.set_cons_succ]
    refine take_at (i := 8) (v := .pointer (some ad1)) rfl rfl (by kernel_rfl) (by kernel_rfl) (by kernel_rfl) (fun _ _ _ h => h) (Or.inl ⟨by rfl, ?_⟩) hS ?_
    · intro w hSw
      (try dsimp only at hSw)
      go_simp
    simp only [Act.put, List.setIfInBounds_toArray, List.set_cons_zero, List.set_cons_succ]
    refine take_at (i := 9) (v := .int .u32 (rd l1 0)) rfl rfl (by kernel_rfl) (by kernel_rfl) (by kernel_rfl) (fun _ _ _ h => h) (Or.inl ⟨by rfl, ?_⟩) hS ?_
    · intro w hSw
      (try dsimp only at hSw)
      go_simp
    simp only [Act.put, List.setIfInBounds_toArray, List.set_cons_zero, List.set_cons_succ]
    refine wpAnyH_ready (rs := [2]) (by kernel_rfl) (by simp) ?_
    refine AllReadyH.cons (i := 2) rfl (fun K hK => ?_) AllReadyH.nil
    go_simp
    refine hK.out _ _ hS (fun _ => ?_)
    clear hK K
    simp only [Act.put, List.setIfInBounds_toArray, List.set_cons_zero, List.set_cons_succ]
    refine wpAnyH_ready (rs := [10]) (by kernel_rfl) (by simp) ?_
    refine AllReadyH.cons (i := 10) rfl (fun K hK => ?_) AllReadyH.nil
    go_simp
    refine (bits_Div32.calls _ _ _ _ _ _ HD.out).mono ?_
    rintro e w' ⟨rfl, n', rfl⟩
    dsimp only
    replace hS : (W.drew.drewN n').cell? ⟨w1.heap.size + 1, 0, none⟩ = some (.slice (some ⟨w1.heap.size, 0, none⟩) l0.length l0.length) ∧ (W.drew.drewN n').cell? ⟨w.heap.size, 0, none⟩ = some (.slice (some ad) l0.length c0) ∧ (W.drew.drewN n').cell? ⟨w.heap.size + 1, 0, none⟩ = some (.slice (some ad1) l1.length c1) ∧ (W.drew.drewN n').cell? (ad.add x.1) = some (.int .u32 (rd l0 (x.1 : Int))) ∧ (W.drew.drewN n').cell? ad1 = some (.int .u32 (rd l1 0)) := ⟨g1, g6, g7, hx, hy⟩
    refine hK.out _ _ hS (fun _ => ?_)
    clear hK K
    simp only [Act.put, List.setIfInBounds_toArray, List.set_cons_zero, List.set_cons_succ]
    generalize hqq : (((foldOne l0 (rd l1 0) pre).2 * 4294967296 + rd l0 (x.1 : Int)) / rd l1 0) = qq
    generalize hrr : (((foldOne l0 (rd l1 0) pre).2 * 4294967296 + rd l0 (x.1 : Int)) % rd l1 0) = rr
    refine take_at (i := 11) (v := .tuple #[.int .u32 qq, .int .u32 rr]) rfl rfl (by kernel_rfl) (by kernel_rfl) (by kernel_rfl) (fun _ _ _ h => h) (Or.inl ⟨by rfl, ?_⟩) hS ?_
    · intro w hSw
      (try dsimp only at hSw)
      go_simp
    simp only [Act.put, List.setIfInBounds_toArray, List.set_cons_zero, List.set_cons_succ]
    refine take_at (i := 12) (v := .int .u32 qq) rfl rfl (by kernel_rfl) (by kernel_rfl) (by kernel_rfl) (fun _ _ _ h => h) (Or.inl ⟨by rfl, ?_⟩) hS ?_
    · intro w hSw
      (try dsimp only at hSw)
      go_simp
    simp only [Act.put, List.setIfInBounds_toArray, List.set_cons_zero, List.set_cons_succ]
    refine take_at (i := 13) (v := .int .u32 rr) rfl rfl (by kernel_rfl) (by kernel_rfl) (by kernel_rfl) (fun _ _ _ h => h) (Or.inl ⟨by rfl, ?_⟩) hS ?_
    · intro w hSw
      (try dsimp only at hSw)
      go_simp
    simp only [Act.put, List.setIfInBounds_toArray, List.set_cons_zero, List.set_cons_succ]
    refine take_at (i := 14) (v := .pointer (some ⟨w1.heap.size, x.1, none⟩)) rfl rfl (by kernel_rfl) (by kernel_rfl) (by kernel_rfl) (fun _ _ _ h => h) (Or.inl ⟨by rfl, ?_⟩) hS ?_
    · intro w hSw
      (try dsimp only at hSw)
      go_simp
    simp only [Act.put, List.setIfInBounds_toArray, List.set_cons_zero, List.set_cons_succ]
    refine wpAnyH_ready (rs := [15]) (by kernel_rfl) (by simp) ?_
    refine AllReadyH.cons (i := 15) rfl (fun K hK => ?_) AllReadyH.nil
    go_simp
    refine hK.out _ _ ⟨pt_cell_far (W := W) g1 (by simp), pt_cell_far (W := W) g6 (by have := HS.out; simp; omega), pt_cell_far (W := W) g7 (by have := HS.out; simp; omega), pt_cell_far (W := W) hx (Nat.ne_of_lt hxb), pt_cell_far (W := W) hy (Nat.ne_of_lt hyb)⟩ (fun hS => ?_)
    clear hK K
    simp only [Act.put, List.setIfInBounds_toArray, List.set_cons_zero, List.set_cons_succ]
    refine wpAnyH_ready (rs := [16]) (by kernel_rfl) (by simp) ?_
    refine AllReadyH.cons (i := 16) rfl (fun K hK => ?_) AllReadyH.nil
    go_simp
    refine hK.out _ _ ⟨pt_cell_far (pt_cell_far (W := W) g1 (by simp)) (by simp), pt_cell_far (pt_cell_far (W := W) g6 (by have := HS.out; simp; omega)) (by have := HS.out; simp; omega), pt_cell_far (pt_cell_far (W := W) g7 (by have := HS.out; simp; omega)) (by have := HS.out; simp; omega), pt_cell_far (pt_cell_far (W := W) hx (Nat.ne_of_lt hxb)) (by simp only []; omega), pt_cell_far (pt_cell_far (W := W) hy (Nat.ne_of_lt hyb)) (by simp only []; omega)⟩ (fun hS => ?_)
    clear hK K
    refine wpAnyH_done (by kernel_rfl) ?_ _
    have hko : KeepsOthers W (W.drewN (1 + n')) := ⟨Nat.le_refl _, fun _ _ h _ => h⟩
    have hbw : Below w1.heap.size W (W.drewN (1 + n')) := pw_below_drewN (Below.refl _ _) _
    have hb3 := (hbw.setCell (p := ⟨w1.heap.size, x.1, none⟩) (Nat.le_refl _) (.int .u32 qq)).setCell (p := ⟨w1.heap.size + 1 + 1, 0, none⟩) (by simp; omega) (.int .u32 rr)
    refine ⟨((hko.trans (KeepsOthers.setCell _ _ _)).trans (KeepsOthers.setCell _ _ _)).from _, ⟨hb3, ?_⟩, ?_, hB.trans hb3⟩
    · exact (Below.heap_setCell _ _ _ _ (by dsimp only; omega)).trans (Below.heap_setCell _ _ _ _ (by dsimp only; omega))
    · exact OneAt.step (show OneAt w1.heap.size l0 (rd l1 0) pre (W.drewN (1 + n')) from HONE.out) hqq hrr
  case done =>
    rintro D ys W hD hDn ⟨hone, hB⟩ hKD
    have hfw := HWI.out
    subst hfw
    have hmx : Try.prog.follows .mixedOrders = true := by kernel_rfl
    have hDg : w1.heap.size + 1 + 1 + 1 < D := by simp at hD; omega
    clear hD
    have hod := one_done (b := (rd l1 0).toNat) hd0 (by omega) (by have := hd1.rdok 0; omega) hDn
    rw [Int.toNat_of_nonneg (by omega)] at hod
    gi_wp2
    refine wpIn_wide.2 ?_
    refine wp_region_noPanic ?_
    refine wp_region_any hmx ?_
    refine wpAny_of_held (S := fun W' => W'.cell? ⟨w1.heap.size + 1, 0, none⟩ = some (.slice (some ⟨w1.heap.size, 0, none⟩) l0.length l0.length) ∧ W'.cell? ⟨w1.heap.size + 1 + 1, 0, none⟩ = some (.int .u32 (foldOne l0 (rd l1 0) ys).2)) _ _ _ _ ?_
    have hS : W.drew.cell? ⟨w1.heap.size + 1, 0, none⟩ = some (.slice (some ⟨w1.heap.size, 0, none⟩) l0.length l0.length) ∧ W.drew.cell? ⟨w1.heap.size + 1 + 1, 0, none⟩ = some (.int .u32 (foldOne l0 (rd l1 0) ys).2) := ⟨by show W.cell? _ = _; rw [blk_cell hone.2.1]; rfl, by show W.cell? _ = _; rw [blk_cell hone.2.2]; rfl⟩
    change wpAnyH _ _ _ _ _ 7 #[false, false, false, false, false, false, false] _ W.drew
    refine take_at (i := 0) (v := .slice (some ⟨w1.heap.size, 0, none⟩) l0.length l0.length) rfl rfl (by kernel_rfl) (by kernel_rfl) (by kernel_rfl) (fun _ _ _ h => h) (Or.inl ⟨by rfl, ?_⟩) hS ?_
    · intro w hSw
      (try dsimp only at hSw)
      go_simp
    simp only [Act.put, List.setIfInBounds_toArray, List.set_cons_zero, List.set_cons_succ]
    refine take_at (i := 2) (v := .int .u32 (foldOne l0 (rd l1 0) ys).2) rfl rfl (by kernel_rfl) (by kernel_rfl) (by kernel_rfl) (fun _ _ _ h => h) (Or.inl ⟨by rfl, ?_⟩) hS ?_
    · intro w hSw
      (try dsimp only at hSw)
      go_simp
    simp only [Act.put, List.setIfInBounds_toArray, List.set_cons_zero, List.set_cons_succ]
    have hbw : Below w.heap.size w W.drew := (HW.out.trans (hB.mono HW.out.size)).drew
    have hql : (foldOne l0 (rd l1 0) ys).1.length = l0.length := foldOne_length _ _ _
    have hrow : Kd.R (Kd.int .u32) 84 W.drew w.heap.size (fun k => k = w1.heap.size) (.slice (some ⟨w1.heap.size, 0, none⟩) l0.length l0.length) (foldOne l0 (rd l1 0) ys).1 := by
      have := R_of_row (W := W.drew) (base := w.heap.size) (ok := fun k => k = w1.heap.size) (show W.drew.heap[w1.heap.size]? = _ from hone.1) HW.out.size (by rw [hql]; omega) rfl
      rwa [hql] at this
    have hDW : W.drew.heap[D]? = some (.deferred (some [])) := hKD
    refine wpAnyH_ready (rs := [1, 3]) (by kernel_rfl) (by simp) ?_
    refine AllReadyH.cons (i := 1) rfl (fun K hK => ?_) (AllReadyH.cons (i := 3) rfl (fun K hK => ?_) AllReadyH.nil)
    · go_simp
      refine (number_trim.calls (l0.length + 1) (fun k => k = w1.heap.size) _ (foldOne l0 (rd l1 0) ys).1 _ w _ hbw hrow (trim_f _ _ (by omega) (by omega))).mono ?_
      rintro e w2 ⟨v0, rfl, ho0, hb2, hk2⟩
      dsimp only
      have hS2 : w2.cell? ⟨w1.heap.size + 1, 0, none⟩ = some (.slice (some ⟨w1.heap.size, 0, none⟩) l0.length l0.length) ∧ w2.cell? ⟨w1.heap.size + 1 + 1, 0, none⟩ = some (.int .u32 (foldOne l0 (rd l1 0) ys).2) := ⟨cell_stays hS.1 hk2 (by simp), cell_stays hS.2 hk2 (by simp; omega)⟩
      have hD2 : w2.heap[D]? = some (.deferred (some [])) := blk_kept hDW hk2 (by omega)
      refine hK.out _ _ hS2 (fun _ => ?_)
      clear hK K
      simp only [Act.put, List.setIfInBounds_toArray, List.set_cons_zero, List.set_cons_succ]
      refine wpAnyH_ready (rs := [3]) (by kernel_rfl) (by simp) ?_
      refine AllReadyH.cons (i := 3) rfl (fun K hK => ?_) AllReadyH.nil
      go_simp
      have hS3 : (w2.alloc (.cells #[.int .u32 (foldOne l0 (rd l1 0) ys).2] 84)).cell? ⟨w1.heap.size + 1, 0, none⟩ = some (.slice (some ⟨w1.heap.size, 0, none⟩) l0.length l0.length) ∧ (w2.alloc (.cells #[.int .u32 (foldOne l0 (rd l1 0) ys).2] 84)).cell? ⟨w1.heap.size + 1 + 1, 0, none⟩ = some (.int .u32 (foldOne l0 (rd l1 0) ys).2) := ⟨cell_new hS2.1 _, cell_new hS2.2 _⟩
      have hD3 : (w2.alloc (.cells #[.int .u32 (foldOne l0 (rd l1 0) ys).2] 84)).heap[D]? = some (.deferred (some [])) := blk_alloc hD2 _
      have hb3 : Below w.heap.size w (w2.alloc (.cells #[.int .u32 (foldOne l0 (rd l1 0) ys).2] 84)) := hb2.alloc hb2.size _
      have hrow1 : Kd.R (Kd.int .u32) 84 (w2.alloc (.cells #[.int .u32 (foldOne l0 (rd l1 0) ys).2] 84)) w.heap.size (fun k => k = w2.heap.size) (.slice (some ⟨w2.heap.size, 0, none⟩) [(foldOne l0 (rd l1 0) ys).2].length [(foldOne l0 (rd l1 0) ys).2].length) [(foldOne l0 (rd l1 0) ys).2] :=
        R_of_row (xs := [(foldOne l0 (rd l1 0) ys).2]) (blk_new w2 _) hb2.size (by simp) rfl
      refine hK.out _ _ hS3 (fun _ => ?_)
      clear hK K
      simp only [Act.put, List.setIfInBounds_toArray, List.set_cons_zero, List.set_cons_succ]
      refine wpAnyH_ready (rs := [4]) (by kernel_rfl) (by simp) ?_
      refine AllReadyH.cons (i := 4) rfl (fun K hK => ?_) AllReadyH.nil
      go_simp
      refine (number_trim.calls 3 (fun k => k = w2.heap.size) _ [(foldOne l0 (rd l1 0) ys).2] _ w _ hb3 hrow1 (trim_f _ _ (by simp) (by simp))).mono ?_
      rintro e w4 ⟨v1, rfl, ho1, hb4, hk4⟩
      dsimp only
      have hS4 : w4.cell? ⟨w1.heap.size + 1, 0, none⟩ = some (.slice (some ⟨w1.heap.size, 0, none⟩) l0.length l0.length) ∧ w4.cell? ⟨w1.heap.size + 1 + 1, 0, none⟩ = some (.int .u32 (foldOne l0 (rd l1 0) ys).2) := ⟨cell_stays hS3.1 hk4 (by have := World.block_lt_of_cell? _ _ hS2.1; simp at this ⊢; omega), cell_stays hS3.2 hk4 (by have := World.block_lt_of_cell? _ _ hS2.2; simp at this ⊢; omega)⟩
      have hD4 : w4.heap[D]? = some (.deferred (some [])) := blk_kept hD3 hk4 (by have := blk_lt hD2; omega)
      have h04 : Kd.R (Kd.int .u32) 84 w4 w.heap.size (fun k => k < w2.heap.size) v0 (trimL (foldOne l0 (rd l1 0) ys).1) :=
        Kd.R_step (Kd.R_mono (Kd.R_bound ho0) (fun k hk => hk.2.2.1)) (fun k hk _ => (hk4.2 k (by simp; omega) (by omega)).trans (Below.heap_alloc _ _ _ hk))
      have hap := R_apart h04 ho1 (fun i j hi hj => by simp at hj; omega)
      refine hK.out _ _ hS4 (fun _ => ?_)
      clear hK K
      simp only [Act.put, List.setIfInBounds_toArray, List.set_cons_zero, List.set_cons_succ]
      refine take_at (i := 5) (v := v0) rfl rfl (by kernel_rfl) (by kernel_rfl) (by kernel_rfl) (fun _ _ _ h => h) (Or.inl ⟨by rfl, ?_⟩) hS4 ?_
      · intro w hSw
        (try dsimp only at hSw)
        go_simp
      simp only [Act.put, List.setIfInBounds_toArray, List.set_cons_zero, List.set_cons_succ]
      refine take_at (i := 6) (v := v1) rfl rfl (by kernel_rfl) (by kernel_rfl) (by kernel_rfl) (fun _ _ _ h => h) (Or.inl ⟨by rfl, ?_⟩) hS4 ?_
      · intro w hSw
        (try dsimp only at hSw)
        go_simp
      simp only [Act.put, List.setIfInBounds_toArray, List.set_cons_zero, List.set_cons_succ]
      refine wpAnyH_done (by kernel_rfl) ?_ _
      refine NoPanic.normal ?_
      gi_wp2
      rw [hod.1, hod.2] at hap
      refine ⟨by simp, .inl ⟨_, _, rfl, run_takeDeferred hD4, ?_⟩⟩
      refine ⟨.tuple #[v0, v1], by simp [results, Try.f75, go_sem], v0, v1, rfl, R_put hap.1 hD4 _, R_put hap.2 hD4 _, hb4.trans (belowK_b (w := w) (Nat.le_refl _) w4 D _ _ (by have := HS.out; omega) hD4 rfl rfl)⟩
    · go_simp
      have hS2 : (W.drew.alloc (.cells #[.int .u32 (foldOne l0 (rd l1 0) ys).2] 84)).cell? ⟨w1.heap.size + 1, 0, none⟩ = some (.slice (some ⟨w1.heap.size, 0, none⟩) l0.length l0.length) ∧ (W.drew.alloc (.cells #[.int .u32 (foldOne l0 (rd l1 0) ys).2] 84)).cell? ⟨w1.heap.size + 1 + 1, 0, none⟩ = some (.int .u32 (foldOne l0 (rd l1 0) ys).2) := ⟨cell_new hS.1 _, cell_new hS.2 _⟩
      have hD2 : (W.drew.alloc (.cells #[.int .u32 (foldOne l0 (rd l1 0) ys).2] 84)).heap[D]? = some (.deferred (some [])) := blk_alloc hDW _
      have hrow1 : Kd.R (Kd.int .u32) 84 (W.drew.alloc (.cells #[.int .u32 (foldOne l0 (rd l1 0) ys).2] 84)) w.heap.size (fun k => k = W.drew.heap.size) (.slice (some ⟨W.drew.heap.size, 0, none⟩) [(foldOne l0 (rd l1 0) ys).2].length [(foldOne l0 (rd l1 0) ys).2].length) [(foldOne l0 (rd l1 0) ys).2] :=
        R_of_row (xs := [(foldOne l0 (rd l1 0) ys).2]) (blk_new W.drew _) hbw.size (by simp) rfl
      have hb2 : Below w.heap.size w (W.drew.alloc (.cells #[.int .u32 (foldOne l0 (rd l1 0) ys).2] 84)) := hbw.alloc hbw.size _
      have hgW : w1.heap.size < W.drew.heap.size := by have := World.block_lt_of_cell? _ _ hS.1; simp at this ⊢; omega
      refine hK.out _ _ hS2 (fun _ => ?_)
      clear hK K
      simp only [Act.put, List.setIfInBounds_toArray, List.set_cons_zero, List.set_cons_succ]
      refine wpAnyH_ready (rs := [1]) (by kernel_rfl) (by simp) ?_
      refine AllReadyH.cons (i := 1) rfl (fun K hK => ?_) AllReadyH.nil
      go_simp
      refine (number_trim.calls (l0.length + 1) (fun k => k = w1.heap.size) _ (foldOne l0 (rd l1 0) ys).1 _ w _ hb2 (Kd.R_alloc hrow _) (trim_f _ _ (by omega) (by omega))).mono ?_
      rintro e w3 ⟨v0, rfl, ho0, hb3, hk3⟩
      dsimp only
      have hS3 : w3.cell? ⟨w1.heap.size + 1, 0, none⟩ = some (.slice (some ⟨w1.heap.size, 0, none⟩) l0.length l0.length) ∧ w3.cell? ⟨w1.heap.size + 1 + 1, 0, none⟩ = some (.int .u32 (foldOne l0 (rd l1 0) ys).2) := ⟨cell_stays hS2.1 hk3 (by simp), cell_stays hS2.2 hk3 (by simp; omega)⟩
      have hD3 : w3.heap[D]? = some (.deferred (some [])) := blk_kept hD2 hk3 (by omega)
      have hrow3 : Kd.R (Kd.int .u32) 84 w3 w.heap.size (fun k => k = W.drew.heap.size) (.slice (some ⟨W.drew.heap.size, 0, none⟩) [(foldOne l0 (rd l1 0) ys).2].length [(foldOne l0 (rd l1 0) ys).2].length) [(foldOne l0 (rd l1 0) ys).2] :=
        Kd.R_step hrow1 (fun k hk hlt => hk3.2 k hlt (by omega))
      refine hK.out _ _ hS3 (fun _ => ?_)
      clear hK K
      simp only [Act.put, List.setIfInBounds_toArray, List.set_cons_zero, List.set_cons_succ]
      refine wpAnyH_ready (rs := [4]) (by kernel_rfl) (by simp) ?_
      refine AllReadyH.cons (i := 4) rfl (fun K hK => ?_) AllReadyH.nil
      go_simp
      refine (number_trim.calls 3 (fun k => k = W.drew.heap.size) _ [(foldOne l0 (rd l1 0) ys).2] _ w _ hb3 hrow3 (trim_f _ _ (by simp) (by simp))).mono ?_
      rintro e w4 ⟨v1, rfl, ho1, hb4, hk4⟩
      dsimp only
      have hS4 : w4.cell? ⟨w1.heap.size + 1, 0, none⟩ = some (.slice (some ⟨w1.heap.size, 0, none⟩) l0.length l0.length) ∧ w4.cell? ⟨w1.heap.size + 1 + 1, 0, none⟩ = some (.int .u32 (foldOne l0 (rd l1 0) ys).2) := ⟨cell_stays hS3.1 hk4 (by have := World.block_lt_of_cell? _ _ hS.1; simp at this ⊢; omega), cell_stays hS3.2 hk4 (by have := World.block_lt_of_cell? _ _ hS.2; simp at this ⊢; omega)⟩
      have hD4 : w4.heap[D]? = some (.deferred (some [])) := blk_kept hD3 hk4 (by have := blk_lt hDW; omega)
      have h04 : Kd.R (Kd.int .u32) 84 w4 w.heap.size (fun k => k < w3.heap.size ∧ k ≠ W.drew.heap.size) v0 (trimL (foldOne l0 (rd l1 0) ys).1) :=
        Kd.R_step (Kd.R_mono (Kd.R_bound ho0) (fun k hk => ⟨hk.2.2.1, by have := hk.1; simp at this hgW ⊢; omega⟩)) (fun k hk _ => hk4.2 k hk.1 hk.2)
      have hap := R_apart h04 ho1 (fun i j hi hj => by omega)
      refine hK.out _ _ hS4 (fun _ => ?_)
      clear hK K
      simp only [Act.put, List.setIfInBounds_toArray, List.set_cons_zero, List.set_cons_succ]
      refine take_at (i := 5) (v := v0) rfl rfl (by kernel_rfl) (by kernel_rfl) (by kernel_rfl) (fun _ _ _ h => h) (Or.inl ⟨by rfl, ?_⟩) hS4 ?_
      · intro w hSw
        (try dsimp only at hSw)
        go_simp
      simp only [Act.put, List.setIfInBounds_toArray, List.set_cons_zero, List.set_cons_succ]
      refine take_at (i := 6) (v := v1) rfl rfl (by kernel_rfl) (by kernel_rfl) (by kernel_rfl) (fun _ _ _ h => h) (Or.inl ⟨by rfl, ?_⟩) hS4 ?_
      · intro w hSw
        (try dsimp only at hSw)
        go_simp
      simp only [Act.put, List.setIfInBounds_toArray, List.set_cons_zero, List.set_cons_succ]
      refine wpAnyH_done (by kernel_rfl) ?_ _
      refine NoPanic.normal ?_
      gi_wp2
      rw [hod.1, hod.2] at hap
      refine ⟨by simp, .inl ⟨_, _, rfl, run_takeDeferred hD4, ?_⟩⟩
      refine ⟨.tuple #[v0, v1], by simp [results, Try.f75, go_sem], v0, v1, rfl, R_put hap.1 hD4 _, R_put hap.2 hD4 _, hb4.trans (belowK_b (w := w) (Nat.le_refl _) w4 D _ _ (by have := HS.out; omega) hD4 rfl rfl)⟩
  case stop =>
    rintro D c pre W _ _ h _
    exact h.elim
end Go.Proofs.Ythhgfogdeaaidaa.R
