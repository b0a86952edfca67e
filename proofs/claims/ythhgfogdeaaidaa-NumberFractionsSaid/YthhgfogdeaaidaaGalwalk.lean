/- headendlaw01.alive, first part: the walk through the examples, from what the functions answer. -/
import Derived.Test.YthhgfogdeaaidaaR0
import Derived.Test.YthhgfogdeaaidaaR17
import Derived.Test.YthhgfogdeaaidaaR9
import Derived.Test.YthhgfogdeaaidaaR7
import Derived.Test.YthhgfogdeaaidaaR10
import Derived.Test.YthhgfogdeaaidaaR13
import Derived.Test.YthhgfogdeaaidaaR1
import Derived.Test.YthhgfogdeaaidaaR14
import Derived.Test.YthhgfogdeaaidaaR2
import Derived.Test.YthhgfogdeaaidaaGplong
import Derived.Deep.RegionHeld3
import Derived.WalkMore
namespace Go.Proofs.Ythhgfogdeaaidaa.R
open Go.RowKit Go.Proofs.YthhgfogdeaaidaaW.PrintWords Go.Proofs.YthhgfogdeaaidaaW.PrintLast Go.Proofs.YthhgfogdeaaidaaW.PrintMore
set_option linter.unusedVariables false
set_option linter.unusedSimpArgs false
def VV (W : World) (v : Value) (xs : List Int) : Prop := Kd.V (Kd.int .u32) 84 W 0 (fun _ => True) v xs
def Live (W : World) (L : List (Value × List Int)) : Prop := ∀ p ∈ L, VV W p.1 p.2
theorem live_below {W W1 : World} {L : List (Value × List Int)} (h : Live W L) (hb : Below W.heap.size W W1) : Live W1 L := fun p hp => Kd.V_below (h p hp) hb
theorem live_alloc {W : World} {L : List (Value × List Int)} (h : Live W L) (o : Obj) : Live (W.alloc o) L := fun p hp => Kd.V_alloc (h p hp) o
theorem live_drew {W : World} {L : List (Value × List Int)} (h : Live W L) : Live W.drew L := fun p hp => Kd.V_drew (h p hp)
theorem live_drewN {W : World} {L : List (Value × List Int)} (h : Live W L) (m : Nat) : Live (W.drewN m) L := fun p hp => Kd.V_drewN (h p hp) m
theorem live_add {W W1 : World} {L : List (Value × List Int)} {base : Nat} {ok : Nat → Prop} {v : Value} {xs : List Int} (h : Live W L) (hb : Below W.heap.size W W1) (hv : Kd.R (Kd.int .u32) 84 W1 base ok v xs) : Live W1 ((v, xs) :: L) := fun p hp => by
  rcases List.mem_cons.1 hp with rfl | hp
  · exact Kd.V_mono (Kd.R_V hv) (fun _ _ => trivial)
  · exact live_below h hb p hp
theorem live_get {W : World} {L : List (Value × List Int)} {v : Value} {xs : List Int} (h : Live W L) (hm : (v, xs) ∈ L) (base : Nat) : Kd.V (Kd.int .u32) 84 W base (fun _ => True) v xs := h (v, xs) hm
theorem live_C {W : World} {L : List (Value × List Int)} {A : Option Addr} {n c : Nat} {xs : List Int} (h : Live W L) (hm : (.slice A n c, xs) ∈ L) : n = xs.length ∧ n ≤ c ∧ Kd.C (Kd.int .u32) W A xs.length xs := Kd.V_reads' (h (.slice A n c, xs) hm)
/-- The live rows, from HL. -/
theorem LL_ {W : World} {L : List (Value × List Int)} (h : Live W L := by (repeat (first | exact HL.out | apply live_alloc | apply live_drewN | apply live_drew))) : Live W L := h
end Go.Proofs.Ythhgfogdeaaidaa.R
