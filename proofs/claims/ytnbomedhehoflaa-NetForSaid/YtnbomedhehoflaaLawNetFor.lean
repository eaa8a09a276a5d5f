/- The call of NetFor is true of every input. No condition. -/
import Derived.Test.YtnbomedhehoflaaRows
import Derived.Test.YtnbomedhehoflaaFcorncriblaw15NetFor
import Derived.Test.YtnbomedhehoflaaPureNetFor
import Derived.Test.YtnbomedhehoflaaPhb
import Derived.WalkKit
import Derived.ProofKit
import Derived.OpenShut
import Derived.ShutString
import Derived.ChangeOld
import Derived.Below
import Derived.SizedLaws
import Derived.WideShapes
import Derived.Carry
import Derived.Lib.SmallJoins
namespace Go.Proofs.Ytnbomedhehoflaa.netFor
open Go.ChangeShapes Go.WideShapes Go.ChangeAt Go.RowKit Go.Joins
open Go.Proofs.Ytnbomedhehoflaa.Open Go.Proofs.YtnbomedhehoflaaW.PrintWords Go.Proofs.Ytnbomedhehoflaa.Al
set_option linter.unusedVariables false
theorem own : ownKnob Try.prog.godebug = none := by kernel_rfl
theorem laid : laidOutB Try.prog = true := by kernel_rfl
set_option maxRecDepth 100000 in
theorem lifted (os : Os) (started : os.Started) (H : Type) (enc : TypeId × Value → H) :
    ReturnsInHanded {} Try.checked os 5 .any (Rows.netForSpec.pre6 enc Try.prog Try.f5 Rows.netForRow.domain false) (Rows.netForSpec.post enc Try.prog Try.f5 false true false false) := by
  refine returnsInHanded_of_change_sized (C := Try.checked) own started (by kernel_rfl) Try.func5
    (ChangeSpec.witness6 (enc := enc) (C := Try.checked) false ⟨#[], #[.slice none 0 0], []⟩ 8 (by kernel_rfl) (by kernel_rfl) (by kernel_rfl) (by kernel_rfl)) ?_
  intro W base args ds gs before hval0 hW hcnd hsz0 _
  have hsz : (DataW.weightsEach Try.prog (Try.f5.params.toList ++ Rows.netForSpec.plain.varTypes Try.prog) (ds ++ gs)).all (· ≤ reachBytes) = true := hsz0
  have hval : ∀ (j : Nat) t v, Try.f5.params[j]? = some t → args[j]? = some v → Value.okWide Try.prog W .any base t v := hval0
  have hW' := hW
  obtain ⟨p, q, hA0, hV, rfl, hfz, hnd⟩ := hW
  have hA : DataW.TrodAll enc Try.prog W 0 (fun _ => true) true Try.f5.params.toList args.toList ds p := hA0
  rw [Try.params5] at hA hval hsz
  obtain ⟨v0, vs0, d0, ds0, p0, q0, hargs, rfl, rfl, h0, r0⟩ := trodAll_cons hA
  obtain ⟨rfl, rfl, rfl⟩ := trodAll_nil r0
  obtain rfl : args = #[v0] := by cases args; simp_all
  obtain ⟨rfl, rfl⟩ := trodVars_none hV
  have T0 := h0
  obtain ⟨fu0, hf0⟩ := h0
  have hlt0 := DataW.trod_lt _ _ _ _ hf0
  obtain ⟨a0, hK0, hV0, hL0, hm0⟩ := (opens_slice (d := (Kd.int .i64)) 3 8 Try.underlying39 (by kernel_rfl) (by kernel_rfl) (opens_int (k := .i64) Try.underlying3)).out hf0
  obtain ⟨A0, n0, c0, rfl⟩ := okWide_slice Try.underlying39 (hval 0 39 v0 rfl rfl)
  obtain ⟨X0, y0, e0, hc0, hC0⟩ := hK0
  have q0 : A0 = X0 ∧ n0 = a0.length ∧ c0 = y0 := by have e : [Value.slice A0 n0 c0] = [Value.slice X0 a0.length y0] := e0; simpa using e
  obtain ⟨rfl, rfl, rfl⟩ := q0
  clear hA0 hval0 hsz0
  have hsz1 : (DataW.weights Try.prog 39 d0 ++ ([])).all (· ≤ reachBytes) = true := hsz
  simp only [all_append] at hsz1
  have hl0 := hL0 hsz1.1
  have hk := Pure.NetFor a0 hV0 hl0
  refine ((corncriblaw15_NetFor.calls A0 c0 a0 true W hC0 hc0 hk rfl).mono fun e W' ⟨he, bel0⟩ => ?_)
  have bel : Below W.heap.size W W' := bel0
  subst he
  exact ⟨_, rfl, _, _, _, [], _, [], hW', trodAll_mk1 (shut_bool Try.underlying4 _), (trodAll_cons_mk (Below.trod laid (by kernel_rfl) (of_decide_eq_true (by kernel_rfl)) T0 bel hlt0) trodAll_mk0), rfl, bel.frame _, fun h => by cases h⟩
theorem over : Rows.netForRow.holds Try.pinned (OpenSpec.ofChange Rows.netForSpec) :=
  OpenClaim.holds_of_wide 5 Try.f5 rfl rfl rfl rfl rfl rfl rfl ⟨rfl, rfl, rfl, rfl, rfl⟩ rfl rfl rfl rfl rfl (by kernel_rfl) Try.func5 (by kernel_rfl)
    (of_decide_eq_true (by kernel_rfl)) (by unfold Func.isWrapper; first | (rw [if_pos (by decide +kernel)]; kernel_rfl) | (rw [if_neg (by decide +kernel)]; exact ⟨rfl, rfl⟩))
    (fun os started H enc _ => lifted os started H enc)
theorem proved : Rows.NetForSaid := over
end Go.Proofs.Ytnbomedhehoflaa.netFor
namespace Go.Proofs.Ytnbomedhehoflaa
/-- The row, under a short name, for the claim. -/
theorem netFor_holds : Rows.NetForSaid := netFor.proved
end Go.Proofs.Ytnbomedhehoflaa
