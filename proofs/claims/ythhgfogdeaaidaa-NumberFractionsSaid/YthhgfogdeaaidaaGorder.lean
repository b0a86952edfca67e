/- number.order: -1, 0 or 1 for two numbers: the shorter one is less; of numbers of one length the highest digit that parts them tells. -/
import Derived.Test.YthhgfogdeaaidaaR0
import Derived.Test.YthhgfogdeaaidaaGback
namespace Go.Proofs.Ythhgfogdeaaidaa.R
open Go.RowKit Go.Shelf Go.Proofs.YthhgfogdeaaidaaW.PrintWords Go.Proofs.YthhgfogdeaaidaaW.PrintLast Go.Proofs.YthhgfogdeaaidaaW.PrintMore
set_option linter.unusedVariables false
set_option linter.unusedSimpArgs false
attribute [local go_sem] Oper.semAt_some
def ordTo (a b : List Int) : Nat → Int
  | 0 => 0
  | k + 1 => if rd a (k : Int) < rd b (k : Int) then -1 else if rd b (k : Int) < rd a (k : Int) then 1 else ordTo a b k
theorem ordTo_same (a b : List Int) : ∀ n : Nat, (∀ i : Nat, i < n → rd a (i : Int) = rd b (i : Int)) → ordTo a b n = 0
  | 0, _ => rfl
  | n + 1, h => by
    have e := h n (by omega)
    simp only [ordTo]
    rw [if_neg (by omega), if_neg (by omega)]
    exact ordTo_same a b n (fun i hi => h i (by omega))
theorem ordTo_skip (a b : List Int) (m : Nat) : ∀ n : Nat, m ≤ n → (∀ i : Nat, m ≤ i → i < n → rd a (i : Int) = rd b (i : Int)) → ordTo a b n = ordTo a b m
  | 0, hm, _ => by obtain rfl : m = 0 := by omega
                   rfl
  | n + 1, hm, h => by
    by_cases e : m = n + 1
    · rw [e]
    · have e2 := h n (by omega) (by omega)
      rw [← ordTo_skip a b m n (by omega) (fun i h1 h2 => h i h1 (by omega))]
      simp only [ordTo]
      rw [if_neg (by omega), if_neg (by omega)]
theorem Down.mem {n k : Nat} {l : List (Fin n)} (h : Down n k l) (i : Nat) (hi : i < n) (hk : n - k ≤ i) : ∃ x ∈ l, x.1 = i := by
  have : i ∈ l.map Fin.val := by
    rw [h.2, List.mem_map]
    have := h.1
    exact ⟨n - 1 - i, List.mem_range.2 (by omega), by omega⟩
  obtain ⟨x, hx, e⟩ := List.mem_map.1 this
  exact ⟨x, hx, e⟩
theorem Down.snoc {n k : Nat} {l : List (Fin n)} {x : Fin n} (h : Down n k (l ++ [x])) : ∃ m, k = m + 1 ∧ Down n m l ∧ x.1 = n - 1 - m := by
  have hl := h.length
  rw [List.length_append] at hl
  obtain ⟨m, rfl⟩ : ∃ m, k = m + 1 := ⟨l.length, by simpa using hl.symm⟩
  have h2 := h.2
  rw [List.map_append, List.range_succ, List.map_append] at h2
  have e := List.append_inj h2 (by simp at hl ⊢; omega)
  exact ⟨m, rfl, ⟨by have := h.1; omega, e.1⟩, by simpa using e.2⟩
theorem order_same {l0 l1 : List Int} {ys : List (Fin l0.length)} (hS : Down l0.length l0.length ys) (h : ∀ i ∈ ys, rd l0 (i.1 : Int) = rd l1 (i.1 : Int)) : ordTo l0 l1 l0.length = 0 :=
  ordTo_same l0 l1 _ fun i hi => by
    obtain ⟨x, hx, e⟩ := hS.mem i hi (by omega)
    have := h x hx
    rwa [e] at this
theorem order_parts {l0 l1 : List Int} {k : Nat} {ini : List (Fin l0.length)} {last : Fin l0.length} {r : Int} (hS : Down l0.length k (ini ++ [last])) (h : ∀ i ∈ ini, rd l0 (i.1 : Int) = rd l1 (i.1 : Int))
    (hr : rd l0 (last.1 : Int) < rd l1 (last.1 : Int) ∧ r = -1 ∨ rd l1 (last.1 : Int) < rd l0 (last.1 : Int) ∧ r = 1) : ordTo l0 l1 l0.length = r := by
  obtain ⟨m, rfl, hd, hl⟩ := hS.snoc
  have hlt := last.2
  rw [ordTo_skip l0 l1 (last.1 + 1) l0.length (by omega) (fun i h1 h2 => by
    obtain ⟨x, hx, e⟩ := hd.mem i h2 (by have := hS.1; omega)
    have := h x hx
    rwa [e] at this)]
  simp only [ordTo]
  rcases hr with ⟨h1, rfl⟩ | ⟨h1, rfl⟩
  · rw [if_pos h1]
  · rw [if_neg (by omega), if_pos h1]
def number_order.f (l0 l1 : List Int) : Option Int := some (if l0.length = l1.length then ordTo l0 l1 l0.length else if l0.length < l1.length then -1 else 1)
set_option maxHeartbeats 1000000 in
theorem order_less (A0 : Option Addr) (c0 : Nat) (l0 : List Int) (A1 : Option Addr) (c1 : Nat) (l1 : List Int) (w : World) (hl : l0.length < l1.length) (h1 : l1.length ≤ 9223372036854775807) :
    Calls Try.prog 92 #[.slice A0 l0.length c0, .slice A1 l1.length c1] w fun e w' => e = .returned (.int .i64 (-1)) ∧ Below w.heap.size w w' := by
  have k1 : ((l0.length : Int) != (l1.length : Int)) = true := by rw [bne_iff_ne]; omega
  have k1' : (l0.length != l1.length) = true := by rw [bne_iff_ne]; omega
  have k2 : decide ((l0.length : Int) < (l1.length : Int)) = true := decide_eq_true (by omega)
  have k2' : decide (l0.length < l1.length) = true := decide_eq_true hl
  go_enter Try.func92, Try.ntmps92
  go_wp2
  refine bodyPost_ret (v := .int .i64 (-1)) (by simp [results, Try.results92, go_sem]) rfl ?_
  exact ⟨rfl, ((Below.refl _ _).alloc (Nat.le_refl _) _).alloc (by simp) _⟩
set_option maxHeartbeats 1000000 in
theorem order_more (A0 : Option Addr) (c0 : Nat) (l0 : List Int) (A1 : Option Addr) (c1 : Nat) (l1 : List Int) (w : World) (hl : l1.length < l0.length) (h1 : l0.length ≤ 9223372036854775807) :
    Calls Try.prog 92 #[.slice A0 l0.length c0, .slice A1 l1.length c1] w fun e w' => e = .returned (.int .i64 1) ∧ Below w.heap.size w w' := by
  have k1 : ((l0.length : Int) != (l1.length : Int)) = true := by rw [bne_iff_ne]; omega
  have k1' : (l0.length != l1.length) = true := by rw [bne_iff_ne]; omega
  have k2 : decide ((l0.length : Int) < (l1.length : Int)) = false := decide_eq_false (by omega)
  have k2' : decide (l0.length < l1.length) = false := decide_eq_false (by omega)
  go_enter Try.func92, Try.ntmps92
  go_wp2
  refine bodyPost_ret (v := .int .i64 1) (by simp [results, Try.results92, go_sem]) rfl ?_
  exact ⟨rfl, ((Below.refl _ _).alloc (Nat.le_refl _) _).alloc (by simp) _⟩
set_option maxRecDepth 100000 in
set_option maxHeartbeats 4000000 in
theorem order_in (F : Fence) (n : Nat) (h4 : F.fn 92) (h6 : F.fn 106) (h8 : F.fn 118) (hro : F.round = none) (hn : 3 ≤ n) (A0 : Option Addr) (c0 : Nat) (l0 : List Int) (A1 : Option Addr) (c1 : Nat) (l1 : List Int) (w : World)
    (hr0 : Kd.C (Kd.int .u32) w A0 l0.length l0) (hr1 : Kd.C (Kd.int .u32) w A1 l1.length l1) (he : l0.length = l1.length) :
    CallsIn F n Try.prog 92 #[.slice A0 l0.length c0, .slice A1 l1.length c1] w fun e w' => e = .returned (.int .i64 (ordTo l0 l1 l0.length)) ∧ Below w.heap.size w w' := by
  have h1 : 1 ≤ n := by omega
  have hm0 : l0.length ≤ 9223372036854775807 := hr0.2.1
  have hm1 : l1.length ≤ 9223372036854775807 := hr1.2.1
  have k1 : ((l0.length : Int) != (l1.length : Int)) = false := by rw [bne_eq_false_iff_eq]; omega
  have k1' : (l0.length != l1.length) = false := by rw [bne_eq_false_iff_eq]; omega
  have HE := Aside0.mk he
  clear he
  refine callsIn_of_wp_marks Try.func92 rfl h4 ?_ hro
  simp only [Try.ntmps92, List.size_toArray, List.length_cons, List.length_nil, Nat.reduceAdd, Nat.reduceSub, Array.replicate_succ, Array.replicate_zero, List.push_toArray, List.append_toArray, List.nil_append, List.cons_append]
  gi_wp2_with (gi_at_call 106; refine (back_in F (n - 1) h6 hro _ _ _ _).mono ?_; rintro e w' ⟨rfl, rfl⟩)
  have bB := Boxed.new w 41 (.slice A1 l1.length c1)
  have bR := Boxed.new (w.alloc (.cells #[.slice A1 l1.length c1] 41)) 3 (.int .i64 0)
  have bN := Boxed.new ((w.alloc (.cells #[.slice A1 l1.length c1] 41)).alloc (.cells #[.int .i64 0] 3)) 41 (.slice A0 l0.length c0)
  rw [World.size_alloc] at bR
  rw [World.size_alloc, World.size_alloc] at bN
  have hB0 : Below w.heap.size w (((w.alloc (.cells #[.slice A1 l1.length c1] 41)).alloc (.cells #[.int .i64 0] 3)).alloc (.cells #[.slice A0 l0.length c0] 41)) := (((Below.refl _ w).alloc (Nat.le_refl _) _).alloc (by simp) _).alloc (by simp; omega) _
  refine wpIn_rangeFunc_ownG hro h1 (gf := 118) (lb := #[.pointer (some ⟨w.heap.size + 1 + 1, 0, none⟩)]) rfl h8 (enters_of Try.func118 (by kernel_rfl) rfl)
    (back_stops F (n - 1) h8 hro (by omega) (w.heap.size + 1 + 1) A0 c0 l0 w _ hr0 hB0 (by simp) bN.cell) KeepBox.trans (KeepBox.putObj (by simp; omega) (by simp)) (Below.refl _ _) (fun _ => rfl)
    (fun pre W => ((∀ i ∈ pre, rd l0 (i.1 : Int) = rd l1 (i.1 : Int)) ∧ W.cell? ⟨w.heap.size, 0, none⟩ = some (.slice A1 l1.length c1) ∧ W.cell? ⟨w.heap.size + 1, 0, none⟩ = some (.int .i64 0) ∧ W.frozen? ⟨w.heap.size + 1, 0, none⟩ = false) ∧ Below w.heap.size w W)
    (fun c pre W => (c = .ret ∧ ∃ ini last r, pre = ini ++ [last] ∧ (∀ i ∈ ini, rd l0 (i.1 : Int) = rd l1 (i.1 : Int)) ∧ (rd l0 (last.1 : Int) < rd l1 (last.1 : Int) ∧ r = -1 ∨ rd l1 (last.1 : Int) < rd l0 (last.1 : Int) ∧ r = 1) ∧ W.cell? ⟨w.heap.size + 1, 0, none⟩ = some (.int .i64 r)) ∧ Below w.heap.size w W)
    (OwnFrom.and (Own.from (fun s A B row hs hg hr => ⟨hs.1, cell_kept hs.2.1 hg hr, cell_kept hs.2.2.1 hg hr, (frozen_kept hs.2.2.1 hg hr).trans hs.2.2.2⟩) _) (ownFrom_below (Nat.le_refl _) (by simp; omega)))
    (fun c => OwnFrom.and (Own.from (fun s A B row hs hg hr => by obtain ⟨hc, ini, last, r, e1, e2, e3, e4⟩ := hs; exact ⟨hc, ini, last, r, e1, e2, e3, cell_kept e4 hg hr⟩) _) (ownFrom_below (Nat.le_refl _) (by simp; omega)))
    ⟨⟨by simp, ((bB.alloc _).alloc _).cell, (bR.alloc _).cell, (bR.alloc _).frozen⟩, hB0⟩
    (fun x => { tmps := #[.slice A0 l0.length c0, .slice A1 l1.length c1, undef, .pointer (some ⟨w.heap.size, 0, none⟩), .pointer (some ⟨w.heap.size + 1, 0, none⟩), .int .i64 (x.1 : Int), .int .u32 (rd l0 (x.1 : Int)), .slice A0 l0.length c0, .int .i64 l0.length, .slice A1 l1.length c1, .int .i64 l1.length, .bool false, undef, undef, undef, undef, undef, .slice A0 l0.length c0, .func (.func 118) #[] #[.pointer (some ⟨w.heap.size + 1 + 1, 0, none⟩)], .int .i64 (x.1 : Int), .int .u32 (rd l0 (x.1 : Int)), undef, undef, undef, undef, undef, undef, undef, undef, undef, undef, undef, undef, undef, undef], defers := [] }) ?assign ?body ?done ?stop
  case assign =>
    intro l x W K hK
    gi_wp2
    exact hK
  case body =>
    rintro l pre x W ⟨⟨hp, hcb, hcr, hfr⟩, hB⟩ _
    have hx1 : x.1 < l1.length := by have := HE.out; omega
    obtain ⟨ad, e, hx⟩ := Kd.at_int (Kd.C_below hr1 hB) (x.1 : Int) (by omega) (by omega)
    subst e
    rw [Int.toNat_natCast] at hx
    rcases Int.lt_trichotomy (rd l0 (x.1 : Int)) (rd l1 (x.1 : Int)) with hlt | heq | hgt
    · gi_wp2
      exact ⟨(KeepsOthers.setCell _ _ _).from _, ⟨rfl, pre, x, -1, rfl, hp, .inl ⟨hlt, rfl⟩, World.cell?_setCell_same' _ _ _ (by rw [hcr]; rfl)⟩, hB.setCell (p := ⟨w.heap.size + 1, 0, none⟩) (Nat.le_succ _) _⟩
    · have k5 : decide (rd l0 (x.1 : Int) < rd l1 (x.1 : Int)) = false := decide_eq_false (by omega)
      have k6 : decide (rd l1 (x.1 : Int) < rd l0 (x.1 : Int)) = false := decide_eq_false (by omega)
      have HQ := Aside0.mk heq
      clear heq
      gi_wp2
      exact ⟨KeepsFrom.refl _ _, KeepBox.refl _ _ _, ⟨fun i hi => (List.mem_append.1 hi).elim (hp i) (fun e => by simp at e; subst e; exact HQ.out), hcb, hcr, hfr⟩, hB⟩
    · have k5 : decide (rd l0 (x.1 : Int) < rd l1 (x.1 : Int)) = false := decide_eq_false (by omega)
      gi_wp2
      exact ⟨(KeepsOthers.setCell _ _ _).from _, ⟨rfl, pre, x, 1, rfl, hp, .inr ⟨hgt, rfl⟩, World.cell?_setCell_same' _ _ _ (by rw [hcr]; rfl)⟩, hB.setCell (p := ⟨w.heap.size + 1, 0, none⟩) (Nat.le_succ _) _⟩
  case done =>
    rintro D ys W hD hS ⟨⟨hne, hcb, hcr, hfr⟩, hB⟩ hK
    gi_wp2
    have hK' := (KeepsOthers.setCell W ⟨w.heap.size + 1, 0, none⟩ (.int .i64 0)).same D _ hK rfl
    refine ⟨by simp, .inl ⟨_, _, rfl, run_takeDeferred hK', ?_⟩⟩
    have hc5 := cell_kept (World.cell?_setCell_same' W ⟨w.heap.size + 1, 0, none⟩ (.int .i64 0) (by rw [hcr]; rfl)) (grownBy_putObj' _ D (.deferred none)) (fun r e => by cases e; exact ⟨_, hK', rfl⟩)
    refine ⟨.int .i64 0, ?_, by rw [order_same hS hne], (hB.setCell (p := ⟨w.heap.size + 1, 0, none⟩) (Nat.le_succ _) _).trans (belowK_b (w := w) (Nat.le_refl _) _ D _ _ (by simp at hD; omega) hK' rfl rfl)⟩
    simp [results, Try.f92, go_sem, hc5]
  case stop =>
    rintro D c pre W hD ⟨k, hk⟩ ⟨⟨rfl, ini, last, r, rfl, e2, e3, hcr⟩, hB⟩ hK
    gi_wp2
    refine ⟨by simp, .inl ⟨_, _, rfl, run_takeDeferred hK, ?_⟩⟩
    have hc5 := cell_kept hcr (grownBy_putObj' _ D (.deferred none)) (fun r e => by cases e; exact ⟨_, hK, rfl⟩)
    refine ⟨.int .i64 r, ?_, by rw [order_parts hk e2 e3], hB.trans (belowK_b (w := w) (Nat.le_refl _) W D _ _ (by simp at hD; omega) hK rfl rfl)⟩
    simp [results, Try.f92, go_sem, hc5]
theorem number_order.calls (A0 : Option Addr) (c0 : Nat) (l0 : List Int) (A1 : Option Addr) (c1 : Nat) (l1 : List Int) (r : Int) (w : World) (hr0 : Kd.C (Kd.int .u32) w A0 l0.length l0) (hc0 : l0.length ≤ c0) (hr1 : Kd.C (Kd.int .u32) w A1 l1.length l1) (hc1 : l1.length ≤ c1) (h : number_order.f l0 l1 = some r) :
    Calls Try.prog 92 #[.slice A0 l0.length c0, .slice A1 l1.length c1] w fun e w' => e = .returned (.int .i64 r) ∧ Below w.heap.size w w' := by
  obtain rfl := Option.some.inj h
  by_cases he : l0.length = l1.length
  · rw [if_pos he]
    exact (callsIn_wide (n := 3)).1 (order_in Fence.wide 3 trivial trivial trivial rfl (by omega) A0 c0 l0 A1 c1 l1 w hr0 hr1 he)
  · rw [if_neg he]
    by_cases hl : l0.length < l1.length
    · rw [if_pos hl]
      exact order_less A0 c0 l0 A1 c1 l1 w hl hr1.2.1
    · rw [if_neg hl]
      exact order_more A0 c0 l0 A1 c1 l1 w (by omega) hr0.2.1
end Go.Proofs.Ythhgfogdeaaidaa.R
