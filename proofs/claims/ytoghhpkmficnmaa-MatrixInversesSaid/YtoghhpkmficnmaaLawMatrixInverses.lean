/- The call of MatrixInverses is true of every input. No condition. -/
import Derived.Test.YtoghhpkmficnmaaRows
import Derived.Test.YtoghhpkmficnmaaFcorncriblaw02MatrixInverses
import Derived.Test.YtoghhpkmficnmaaPureMatrixInverses
import Derived.Test.YtoghhpkmficnmaaPec
import Derived.WalkKit
import Derived.ProofKit
import Derived.OpenShut
import Derived.ShutString
import Derived.ChangeOld
import Derived.Below
import Derived.SizedLaws
import Derived.WideShapes
import Derived.Carry
import Derived.Lib.SmallJoins
namespace Go.Proofs.Ytoghhpkmficnmaa.matrixInverses
open Go.ChangeShapes Go.WideShapes Go.ChangeAt Go.RowKit Go.Joins
open Go.Proofs.Ytoghhpkmficnmaa.Open Go.Proofs.YtoghhpkmficnmaaW.PrintWords Go.Proofs.Ytoghhpkmficnmaa.Al
set_option linter.unusedVariables false
theorem own : ownKnob Try.prog.godebug = none := by kernel_rfl
theorem laid : laidOutB Try.prog = true := by kernel_rfl
set_option maxRecDepth 100000 in
theorem lifted (os : Os) (started : os.Started) (H : Type) (enc : TypeId × Value → H) :
    ReturnsInHanded {} Try.checked os 8 .any (Rows.matrixInversesSpec.pre6 enc Try.prog Try.f8 Rows.matrixInversesRow.domain false) (Rows.matrixInversesSpec.post enc Try.prog Try.f8 false true false false) := by
  refine returnsInHanded_of_change_sized (C := Try.checked) own started (by kernel_rfl) Try.func8
    (ChangeSpec.witness6 (enc := enc) (C := Try.checked) false ⟨#[], #[.agg #[.int .i64 0, .int .i64 0, .string ByteArray.empty]], []⟩ 8 (by kernel_rfl) (by kernel_rfl) (by kernel_rfl) (by kernel_rfl)) ?_
  intro W base args ds gs before hval0 hW hcnd hsz0 _
  have hsz : (DataW.weightsEach Try.prog (Try.f8.params.toList ++ Rows.matrixInversesSpec.plain.varTypes Try.prog) (ds ++ gs)).all (· ≤ reachBytes) = true := hsz0
  have hval : ∀ (j : Nat) t v, Try.f8.params[j]? = some t → args[j]? = some v → Value.okWide Try.prog W .any base t v := hval0
  have hW' := hW
  obtain ⟨p, q, hA0, hV, rfl, hfz, hnd⟩ := hW
  have hA : DataW.TrodAll enc Try.prog W 0 (fun _ => true) true Try.f8.params.toList args.toList ds p := hA0
  rw [Try.params8] at hA hval hsz
  obtain ⟨v0, vs0, d0, ds0, p0, q0, hargs, rfl, rfl, h0, r0⟩ := trodAll_cons hA
  obtain ⟨rfl, rfl, rfl⟩ := trodAll_nil r0
  obtain rfl : args = #[v0] := by cases args; simp_all
  obtain ⟨rfl, rfl⟩ := trodVars_none hV
  have T0 := h0
  obtain ⟨fu0, hf0⟩ := h0
  have hlt0 := DataW.trod_lt _ _ _ _ hf0
  obtain ⟨a0, hK0, hV0, hL0, hm0⟩ := (opens_struct (fun x => x) (fun x => x) (fun _ => rfl) Try.underlying24 (by kernel_rfl) (opensF_cons (opens_int (k := .i64) Try.underlying3) rfl (by kernel_rfl) (opensF_cons (opens_int (k := .i64) Try.underlying3) rfl (by kernel_rfl) (opensF_one (opens_string Try.underlying9) rfl (by kernel_rfl))))).out hf0
  obtain ⟨cs0, rfl, hz0⟩ := okWide_struct Try.underlying24 (hval 0 24 v0 rfl rfl)
  obtain ⟨_, _, e0, rfl, _, _, rfl, rfl, rfl⟩ := hK0
  have q0 : cs0 = #[.int .i64 a0.1, .int .i64 a0.2.1, .string a0.2.2] := by apply Array.toList_inj.1; exact e0
  subst q0
  clear hA0 hval0 hsz0
  have hsz1 : (DataW.weights Try.prog 24 d0 ++ ([])).all (· ≤ reachBytes) = true := hsz
  simp only [all_append] at hsz1
  have hl0 := hL0 hsz1.1
  obtain ⟨k, hk⟩ := Pure.MatrixInverses a0.1 a0.2.1 a0.2.2 hV0 hl0
  refine ((corncriblaw02_MatrixInverses.calls k a0.1 a0.2.1 a0.2.2 true W  hk rfl).mono fun e W' ⟨he, bel0⟩ => ?_)
  have bel : Below W.heap.size W W' := bel0
  subst he
  exact ⟨_, rfl, _, _, _, [], _, [], hW', trodAll_mk1 (shut_bool Try.underlying4 _), (trodAll_cons_mk (Below.trod laid (by kernel_rfl) (of_decide_eq_true (by kernel_rfl)) T0 bel hlt0) trodAll_mk0), rfl, bel.frame _, fun h => by cases h⟩
theorem over : Rows.matrixInversesRow.holds Try.pinned (OpenSpec.ofChange Rows.matrixInversesSpec) :=
  OpenClaim.holds_of_wide 8 Try.f8 rfl rfl rfl rfl rfl rfl rfl ⟨rfl, rfl, rfl, rfl, rfl⟩ rfl rfl rfl rfl rfl (by kernel_rfl) Try.func8 (by kernel_rfl)
    (of_decide_eq_true (by kernel_rfl)) (by unfold Func.isWrapper; first | (rw [if_pos (by decide +kernel)]; kernel_rfl) | (rw [if_neg (by decide +kernel)]; exact ⟨rfl, rfl⟩))
    (fun os started H enc _ => lifted os started H enc)
theorem proved : Rows.MatrixInversesSaid := over
end Go.Proofs.Ytoghhpkmficnmaa.matrixInverses
namespace Go.Proofs.Ytoghhpkmficnmaa
/-- The row, under a short name, for the claim. -/
theorem matrixInverses_holds : Rows.MatrixInversesSaid := matrixInverses.proved
end Go.Proofs.Ytoghhpkmficnmaa
