/- The call of RecordReads is true of every input. No condition. -/
import Derived.Test.YtbfjbcaabijpfaaRows
import Derived.Test.YtbfjbcaabijpfaaFcorncriblaw08RecordReads
import Derived.Test.YtbfjbcaabijpfaaPureRecordReads
import Derived.Test.YtbfjbcaabijpfaaPzh
import Derived.WalkKit
import Derived.ProofKit
import Derived.OpenShut
import Derived.ShutString
import Derived.ChangeOld
import Derived.Below
import Derived.SizedLaws
import Derived.WideShapes
import Derived.Carry
import Derived.Lib.SmallJoins
namespace Go.Proofs.Ytbfjbcaabijpfaa.recordReads
open Go.ChangeShapes Go.WideShapes Go.ChangeAt Go.RowKit Go.Joins
open Go.Proofs.Ytbfjbcaabijpfaa.Open Go.Proofs.YtbfjbcaabijpfaaW.PrintWords Go.Proofs.Ytbfjbcaabijpfaa.Al
set_option linter.unusedVariables false
theorem own : ownKnob Try.prog.godebug = none := by kernel_rfl
theorem laid : laidOutB Try.prog = true := by kernel_rfl
set_option maxRecDepth 100000 in
theorem lifted (os : Os) (started : os.Started) (H : Type) (enc : TypeId × Value → H) :
    ReturnsInHanded {} Try.checked os 6 .any (Rows.recordReadsSpec.pre6 enc Try.prog Try.f6 Rows.recordReadsRow.domain false) (Rows.recordReadsSpec.post enc Try.prog Try.f6 false true false false) := by
  refine returnsInHanded_of_change_sized (C := Try.checked) own started (by kernel_rfl) Try.func6
    (ChangeSpec.witness6 (enc := enc) (C := Try.checked) false ⟨#[], #[.string ByteArray.empty], []⟩ 8 (by kernel_rfl) (by kernel_rfl) (by kernel_rfl) (by kernel_rfl)) ?_
  intro W base args ds gs before hval0 hW hcnd hsz0 _
  have hsz : (DataW.weightsEach Try.prog (Try.f6.params.toList ++ Rows.recordReadsSpec.plain.varTypes Try.prog) (ds ++ gs)).all (· ≤ reachBytes) = true := hsz0
  have hval : ∀ (j : Nat) t v, Try.f6.params[j]? = some t → args[j]? = some v → Value.okWide Try.prog W .any base t v := hval0
  have hW' := hW
  obtain ⟨p, q, hA0, hV, rfl, hfz, hnd⟩ := hW
  have hA : DataW.TrodAll enc Try.prog W 0 (fun _ => true) true Try.f6.params.toList args.toList ds p := hA0
  rw [Try.params6] at hA hval hsz
  obtain ⟨v0, vs0, d0, ds0, p0, q0, hargs, rfl, rfl, h0, r0⟩ := trodAll_cons hA
  obtain ⟨rfl, rfl, rfl⟩ := trodAll_nil r0
  obtain rfl : args = #[v0] := by cases args; simp_all
  obtain ⟨rfl, rfl⟩ := trodVars_none hV
  have T0 := h0
  obtain ⟨fu0, hf0⟩ := h0
  have hlt0 := DataW.trod_lt _ _ _ _ hf0
  obtain ⟨a0, hK0, hV0, hL0, hm0⟩ := (opens_string Try.underlying9).out hf0
  obtain ⟨b0, rfl⟩ := okWide_string Try.underlying9 (hval 0 9 v0 rfl rfl)
  have q0 : b0 = a0 := by have e : [Value.string b0] = [Value.string a0] := hK0; simpa using e
  subst q0
  clear hA0 hval0 hsz0
  have hsz1 : (DataW.weights Try.prog 9 d0 ++ ([])).all (· ≤ reachBytes) = true := hsz
  simp only [all_append] at hsz1
  have hl0 := hL0 hsz1.1
  obtain ⟨k, hk⟩ := Pure.RecordReads b0 hV0 hl0
  refine ((corncriblaw08_RecordReads.calls k b0 true W  hk rfl).mono fun e W' ⟨he, bel0⟩ => ?_)
  have bel : Below W.heap.size W W' := bel0
  subst he
  exact ⟨_, rfl, _, _, _, [], _, [], hW', trodAll_mk1 (shut_bool Try.underlying4 _), (trodAll_cons_mk (Below.trod laid (by kernel_rfl) (of_decide_eq_true (by kernel_rfl)) T0 bel hlt0) trodAll_mk0), rfl, bel.frame _, fun h => by cases h⟩
theorem over : Rows.recordReadsRow.holds Try.pinned (OpenSpec.ofChange Rows.recordReadsSpec) :=
  OpenClaim.holds_of_wide 6 Try.f6 rfl rfl rfl rfl rfl rfl rfl ⟨rfl, rfl, rfl, rfl, rfl⟩ rfl rfl rfl rfl rfl (by kernel_rfl) Try.func6 (by kernel_rfl)
    (of_decide_eq_true (by kernel_rfl)) (by unfold Func.isWrapper; first | (rw [if_pos (by decide +kernel)]; kernel_rfl) | (rw [if_neg (by decide +kernel)]; exact ⟨rfl, rfl⟩))
    (fun os started H enc _ => lifted os started H enc)
theorem proved : Rows.RecordReadsSaid := over
end Go.Proofs.Ytbfjbcaabijpfaa.recordReads
namespace Go.Proofs.Ytbfjbcaabijpfaa
/-- The row, under a short name, for the claim. -/
theorem recordReads_holds : Rows.RecordReadsSaid := recordReads.proved
end Go.Proofs.Ytbfjbcaabijpfaa
