/- slices.Backward over the digits of a number: the value that it hands back gives the pairs (index, digit) from the last to the first. -/
import Derived.Test.YthhgfogdeaaidaaR0
import Derived.RangeFuncNested
import Derived.RangeFuncBound
import Derived.RangeFuncCalls
import Derived.RangeFuncLeaves
import Derived.RangeFuncBox
import Derived.Shelf.Abstract
import Derived.Shelf.RegionOpen
import Derived.OwnWalkIn
import Derived.TacticsInMore
import Derived.LoopNIn
import Derived.LoopIn
namespace Go.Proofs.Ythhgfogdeaaidaa.R
open Go.RowKit Go.Shelf Go.Proofs.YthhgfogdeaaidaaW.PrintWords Go.Proofs.YthhgfogdeaaidaaW.PrintLast Go.Proofs.YthhgfogdeaaidaaW.PrintMore
set_option linter.unusedVariables false
set_option linter.unusedSimpArgs false
attribute [local go_sem] Oper.semAt_some
def Down (n k : Nat) (l : List (Fin n)) : Prop := k ≤ n ∧ l.map Fin.val = (List.range k).map fun j => n - 1 - j
theorem Down.zero (n : Nat) : Down n 0 [] := ⟨Nat.zero_le _, rfl⟩
theorem Down.succ {n k : Nat} {l : List (Fin n)} (h : Down n k l) (hk : k < n) (i : Fin n) (hi : i.1 = n - 1 - k) : Down n (k + 1) (l ++ [i]) :=
  ⟨hk, by rw [List.map_append, h.2, List.range_succ, List.map_append]; simp [hi]⟩
theorem Down.length {n k : Nat} {l : List (Fin n)} (h : Down n k l) : l.length = k := by
  have := congrArg List.length h.2
  simpa using this
def KeepBox (n₀ Bs : Nat) (W W' : World) : Prop := Below n₀ W W' ∧ W'.heap[Bs]? = W.heap[Bs]?
theorem KeepBox.refl (n₀ Bs : Nat) (W : World) : KeepBox n₀ Bs W W := ⟨Below.refl _ _, rfl⟩
theorem KeepBox.trans {n₀ Bs : Nat} {A B C : World} (h : KeepBox n₀ Bs A B) (k : KeepBox n₀ Bs B C) : KeepBox n₀ Bs A C := ⟨h.1.trans k.1, k.2.trans h.2⟩
theorem KeepBox.putObj {n₀ Bs : Nat} {w : World} (hn : n₀ ≤ w.heap.size) (hB : Bs < w.heap.size) (W : World) (l : Nat) (o o' : Obj) (hl : w.heap.size ≤ l) (h : W.heap[l]? = some o) (h1 : o.isCells = false) (h2 : o.isWalk = false) : KeepBox n₀ Bs W (W.putObj l o') :=
  ⟨belowK_b hn W l o o' hl h h1 h2, World.putObj_heap_other (by omega)⟩
theorem back_in (F : Fence) (n : Nat) (h5 : F.fn 106) (hro : F.round = none) (a : Option Addr) (len cap : Nat) (w : World) :
    CallsIn F n Try.prog 106 #[.slice a len cap] w fun e w' => e = .returned (.func (.func 118) #[] #[.pointer (some ⟨w.heap.size, 0, none⟩)]) ∧ w' = w.alloc (.cells #[.slice a len cap] 41) := by
  refine callsIn_of_wp Try.func106 rfl h5 ?_ hro
  simp only [Try.ntmps106, List.size_toArray, List.length_cons, List.length_nil, Nat.reduceAdd, Nat.reduceSub, Array.replicate_succ, Array.replicate_zero, List.push_toArray, List.append_toArray, List.nil_append, List.cons_append]
  gi_wp2
  go_ret
  exact ⟨rfl, rfl⟩
set_option maxRecDepth 100000 in
set_option maxHeartbeats 2000000 in
theorem back1_in (F : Fence) (n : Nat) (h8 : F.fn 118) (hro : F.round = none) (hn : 1 ≤ n) (l Bs : Nat) (A : Option Addr) (cap : Nat) (zs : List Int) (w0 : World) (hR : Kd.C (Kd.int .u32) w0 A zs.length zs) (J Jx : List (Fin zs.length) → World → Prop)
    (hY : ∀ pre (x : Fin zs.length) W, J pre W → pre.length < zs.length → YieldAt F (n - 1) Try.prog l #[.int .i64 (x.1 : Int), .int .u32 (rd zs (x.1 : Int))] W fun e W' =>
      (e = .returned (.bool true) ∧ J (pre ++ [x]) W' ∧ KeepBox w0.heap.size Bs W W') ∨ (e = .returned (.bool false) ∧ Jx (pre ++ [x]) W'))
    (W : World) (hBs : W.cell? ⟨Bs, 0, none⟩ = some (.slice A zs.length cap)) (hW : Below w0.heap.size w0 W) (h0 : J [] W) :
    CallsIn F n Try.prog 118 #[.func (.yield l) #[] #[], .pointer (some ⟨Bs, 0, none⟩)] W fun e W' => (∃ v, e = .returned v) ∧
      ((∃ ys, Down zs.length zs.length ys ∧ J ys W') ∨ (∃ pre, (∃ k, Down zs.length k pre) ∧ Jx pre W')) := by
  have hm : zs.length ≤ 9223372036854775807 := hR.2.1
  refine callsIn_of_wp Try.func118 rfl h8 ?_ hro
  simp only [Try.ntmps118, List.size_toArray, List.length_cons, List.length_nil, Nat.reduceAdd, Nat.reduceSub, Array.replicate_succ, Array.replicate_zero, List.push_toArray, List.append_toArray, List.nil_append, List.cons_append]
  gi_wp2
  gi_loopw [3] (fun i wr => ∃ (k : Nat) (pre : List (Fin zs.length)), Down zs.length k pre ∧ i = .int .i64 ((zs.length : Int) - 1 - k) ∧ J pre wr ∧ KeepBox w0.heap.size Bs W wr)
    (fun i _ => (intOf i + 1).toNat)
  case atStart => exact ⟨0, [], Down.zero _, by simp, h0, KeepBox.refl _ _ _⟩
  case round =>
    obtain ⟨k, pre, hd, rfl, hJs, hnx⟩ := hrel
    have hk := hd.1
    have hbx : wr.cell? ⟨Bs, 0, none⟩ = some (.slice A zs.length cap) := (World.cell?_of_block (w := W) (a := ⟨Bs, 0, none⟩) hnx.2).trans hBs
    by_cases hlt : k < zs.length
    · have hRr := Kd.C_below hR (hW.trans hnx.1)
      obtain ⟨m, hm2⟩ : ∃ m : Nat, (m : Int) = (zs.length : Int) - 1 - k := ⟨zs.length - 1 - k, by omega⟩
      obtain ⟨ad, rfl, hx⟩ := Kd.at_int hRr (m : Int) (by omega) (by omega)
      rw [Int.toNat_natCast] at hx
      have hM1 : m < zs.length := by omega
      obtain ⟨fn, tmps, assign, body, hy, hR1⟩ := hY pre ⟨m, hM1⟩ wr hJs (by rw [hd.length]; exact hlt)
      dsimp only at hy
      have hD2 := Aside0.mk (hd.succ hlt ⟨m, hM1⟩ (by simp; omega))
      have hM := Aside0.mk hm2
      rw [← hm2]
      have hM0 : (0 : Int) ≤ m := Int.natCast_nonneg m
      have hk1 : k + 1 ≤ zs.length := hlt
      clear hm2 hd hk hlt
      gi_wp2
      refine hR1.mono ?_
      rintro e W3 (⟨rfl, hJ3, hk3⟩ | ⟨rfl, hJx3⟩)
      · gi_wp2
        go_roundw
        case rel => exact ⟨k + 1, _, hD2.out, by have := hM.out; first | (congr 1; done) | (congr 1; omega), hJ3, hnx.trans hk3⟩
        case measure => simp [intOf]
      · gi_wp2
        refine bodyPost_ret (results_none rfl _ _ _) rfl ?_
        exact ⟨⟨_, rfl⟩, .inr ⟨_, ⟨k + 1, hD2.out⟩, hJx3⟩⟩
    · obtain rfl : k = zs.length := by omega
      have e : (zs.length : Int) - 1 - (zs.length : Int) = -1 := by omega
      rw [e]
      clear e
      gi_wp2
      go_end0
      exact ⟨⟨_, rfl⟩, .inl ⟨_, hd, hJs⟩⟩
theorem back_stops (F : Fence) (n : Nat) (h8 : F.fn 118) (hro : F.round = none) (hn : 1 ≤ n) (Bs : Nat) (A : Option Addr) (cap : Nat) (zs : List Int) (w0 w : World) (hR : Kd.C (Kd.int .u32) w0 A zs.length zs) (hW : Below w0.heap.size w0 w) (hB : Bs < w.heap.size)
    (hc : w.cell? ⟨Bs, 0, none⟩ = some (.slice A zs.length cap)) :
    SeqStopsK F n Try.prog 118 #[.pointer (some ⟨Bs, 0, none⟩)] (fun x : Fin zs.length => #[Value.int .i64 (x.1 : Int), Value.int .u32 (rd zs (x.1 : Int))]) (KeepBox w0.heap.size Bs) (fun ys => Down zs.length zs.length ys) (fun pre => ∃ k, Down zs.length k pre) zs.length w := fun l J Jx W hw _ _ hY h0 =>
  back1_in F n h8 hro hn l Bs A cap zs w0 hR J Jx hY W ((hw.cell (p := ⟨Bs, 0, none⟩) hB).trans hc) (hW.trans (hw.mono hW.size)) h0
end Go.Proofs.Ythhgfogdeaaidaa.R
