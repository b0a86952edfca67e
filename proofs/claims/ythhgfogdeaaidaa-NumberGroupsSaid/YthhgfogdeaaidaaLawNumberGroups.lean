/- The statement NumberGroups is proved as it is given: the law answers true at every input that its row lets in; no condition is added. Written by a program of this session over the kit's printer; Lean checks it. -/
import Derived.Test.YthhgfogdeaaidaaRows
import Derived.Test.YthhgfogdeaaidaaR3
import Derived.Test.YthhgfogdeaaidaaPureNumberGroups
import Derived.WalkKit
import Derived.ProofKit
import Derived.OpenShut
import Derived.ShutString
import Derived.ChangeOld
import Derived.Below
import Derived.SizedLaws
import Derived.Lib.SmallJoins
namespace Go.Proofs.Ythhgfogdeaaidaa.numberGroups
open Go.ChangeShapes Go.WideShapes Go.ChangeAt Go.RowKit
open Go.ChangeMaps (open_string shut_string)
open Go.Joins (open_agg3 shut_agg3 field_of_Trod)
set_option linter.unusedVariables false
theorem own : ownKnob Try.prog.godebug = none := by kernel_rfl
set_option maxRecDepth 100000 in
theorem lifted (os : Os) (started : os.Started) (H : Type) (enc : TypeId × Value → H) :
    ReturnsInHanded {} Try.checked os 4 .any (Rows.numberGroupsSpec.pre6 enc Try.prog Try.f4 Rows.numberGroupsRow.domain false) (Rows.numberGroupsSpec.post enc Try.prog Try.f4 false true false false) := by
  refine returnsInHanded_of_change_sized (C := Try.checked) own started (by kernel_rfl) Try.func4
    (ChangeSpec.witness6 (enc := enc) (C := Try.checked) false ⟨#[], #[.int .u64 0, .agg #[.int .u64 0, .int .u64 0, .int .u64 0]], []⟩ 8 (by kernel_rfl) (by kernel_rfl) (by kernel_rfl) (by kernel_rfl)) ?_
  intro W base args ds gs before hval0 hW hcnd hsz0 _
  have hsz : (DataW.weightsEach Try.prog (Try.f4.params.toList ++ Rows.numberGroupsSpec.plain.varTypes Try.prog) (ds ++ gs)).all (· ≤ reachBytes) = true := hsz0
  have hval : ∀ (j : Nat) t v, Try.f4.params[j]? = some t → args[j]? = some v → Value.okWide Try.prog W .any base t v := hval0
  have hW' := hW
  obtain ⟨p, q, hA0, hV, rfl, hfz, hnd⟩ := hW
  have hA : DataW.TrodAll enc Try.prog W 0 (fun _ => true) true Try.f4.params.toList args.toList ds p := hA0
  rw [Try.params4] at hA hval hsz
  obtain ⟨v0, vs0, d0, ds0, p0, q0, hargs, rfl, rfl, h0, r0⟩ := trodAll_cons hA
  obtain ⟨v1, vs1, d1, ds1, p1, q1, rfl, rfl, rfl, h1, r1⟩ := trodAll_cons r0
  obtain ⟨rfl, rfl, rfl⟩ := trodAll_nil r1
  obtain rfl : args = #[v0, v1] := by cases args; simp_all
  obtain ⟨rfl, rfl⟩ := trodVars_none hV
  obtain ⟨a0, rfl, rfl, rfl, w0⟩ := open_int Try.underlying22 (hval 0 22 v0 rfl rfl) h0
  obtain ⟨u0, u1, u2, y0, y1, y2, n, rfl, rfl, rfl, g0, g1, g2⟩ := open_agg3 Try.underlying32 (by kernel_rfl) (by kernel_rfl) (hval 1 32 v1 rfl rfl) h1
  obtain ⟨x0, e0, rfl, z0⟩ := DataW.trod_int Try.underlying22 g0
  obtain ⟨x1, e1, rfl, z1⟩ := DataW.trod_int Try.underlying22 g1
  obtain ⟨x2, e2, rfl, z2⟩ := DataW.trod_int Try.underlying22 g2
  cases e0
  cases e1
  cases e2
  clear hA0 hval0 hsz0 hsz
  obtain ⟨k, hk⟩ := Pure.NumberGroups a0 x0 x1 x2 w0 z0 z1 z2
  refine (R.headendlaw01_NumberGroups.calls k a0 x0 x1 x2 true W hk rfl).mono fun e W' ⟨he, bel⟩ => ?_
  subst he
  exact ⟨_, rfl, _, _, _, [], _, [], hW', trodAll_mk1 (shut_bool Try.underlying4 _), (trodAll_cons_mk (shut_int Try.underlying22 w0) (trodAll_cons_mk (shut_agg3 Try.underlying32 (by kernel_rfl) (by kernel_rfl) (field_of_Trod (shut_int Try.underlying22 z0) rfl) (field_of_Trod (shut_int Try.underlying22 z1) rfl) (field_of_Trod (shut_int Try.underlying22 z2) rfl)) trodAll_mk0)), rfl, bel.frame _, fun h => by cases h⟩
theorem over : Rows.numberGroupsRow.holds Try.pinned (OpenSpec.ofChange Rows.numberGroupsSpec) :=
  OpenClaim.holds_of_wide 4 Try.f4 rfl rfl rfl rfl rfl rfl rfl ⟨rfl, rfl, rfl, rfl, rfl⟩ rfl rfl rfl rfl rfl (by kernel_rfl) Try.func4 (by kernel_rfl)
    (of_decide_eq_true (by kernel_rfl)) (by unfold Func.isWrapper; first | (rw [if_pos (by decide +kernel)]; kernel_rfl) | (rw [if_neg (by decide +kernel)]; exact ⟨rfl, rfl⟩))
    (fun os started H enc _ => lifted os started H enc)
theorem proved : Rows.NumberGroupsSaid := over
#print axioms proved
end Go.Proofs.Ythhgfogdeaaidaa.numberGroups
namespace Go.Proofs.Ythhgfogdeaaidaa
/-- The row, under a short name, for the claim. -/
theorem numberGroups_holds : Rows.NumberGroupsSaid := numberGroups.proved
end Go.Proofs.Ythhgfogdeaaidaa
