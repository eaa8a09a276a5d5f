/- All frames of any bytes, and the place where they end, are those of the reference: the call is true of every text. Condition: the arguments hold together at most 1048576 values and letters (the given second form). -/
import Derived.Test.YtdajpglkggmpoaaRows
import Derived.Test.YtdajpglkggmpoaaFcorncriblaw05SumAll
import Derived.Test.YtdajpglkggmpoaaPureSumAll
import Derived.Test.YtdajpglkggmpoaaOpen
import Derived.WalkKit
import Derived.ProofKit
import Derived.OpenShut
import Derived.ShutString
import Derived.ChangeOld
import Derived.Below
import Derived.SizedLaws
import Derived.WideShapes
import Derived.Carry
import Derived.Lib.SmallJoins
import Derived.JoinedCond
import Derived.Deep.CondSized
namespace Go.Proofs.Ytdajpglkggmpoaa.sumAllUpto
open Go.ChangeShapes Go.WideShapes Go.ChangeAt Go.RowKit Go.Joins
open Go.Proofs.Ytdajpglkggmpoaa.Open Go.Proofs.YtdajpglkggmpoaaW.PrintWords Go.Proofs.Ytdajpglkggmpoaa.Al
set_option linter.unusedVariables false
theorem own : ownKnob Try.prog.godebug = none := by kernel_rfl
theorem laid : laidOutB Try.prog = true := by kernel_rfl
set_option maxRecDepth 100000 in
theorem lifted (os : Os) (started : os.Started) (H : Type) (enc : TypeId × Value → H) (F : Stop.Interp) :
    ReturnsInHanded {} Try.checked os 8 .any ((Rows.OpenSpec.upto Rows.sumAllSpec).pre6 enc Try.prog Try.f8 Rows.sumAllUptoRow.domain false) (((Rows.OpenSpec.upto Rows.sumAllSpec).at F).post enc Try.prog Try.f8 false true false false) := by
  refine returnsInHanded_of_cond_sized (C := Try.checked) (s := Rows.OpenSpec.upto Rows.sumAllSpec) (k := Rows.uptoSmall) rfl own started (by kernel_rfl) Try.func8
    (OpenSpec.witness (enc := enc) (C := Try.checked) (s := Rows.OpenSpec.upto Rows.sumAllSpec) (k := Rows.uptoSmall) rfl false ⟨#[], #[.string ByteArray.empty], []⟩ 8 (by kernel_rfl) (by kernel_rfl) (by kernel_rfl) (x := ([.lit (.string [])], [], [])) (by kernel_rfl) rfl (by kernel_rfl)) ?_
  intro W base args ds gs before hval0 hW hcnd hk0 hsz0 _
  have hsz : (DataW.weightsEach Try.prog (Try.f8.params.toList ++ Rows.sumAllSpec.plain.varTypes Try.prog) (ds ++ gs)).all (· ≤ reachBytes) = true := hsz0
  have hval : ∀ (j : Nat) t v, Try.f8.params[j]? = some t → args[j]? = some v → Value.okWide Try.prog W .any base t v := hval0
  have hW' := hW
  obtain ⟨p, q, hA0, hV, rfl, hfz, hnd⟩ := hW
  have hA : DataW.TrodAll enc Try.prog W 0 (fun _ => true) true Try.f8.params.toList args.toList ds p := hA0
  rw [Try.params8] at hA hval hsz
  obtain ⟨v0, vs0, d0, ds0, p0, q0, hargs, rfl, rfl, h0, r0⟩ := trodAll_cons hA
  obtain ⟨rfl, rfl, rfl⟩ := trodAll_nil r0
  obtain rfl : args = #[v0] := by cases args; simp_all
  obtain ⟨rfl, rfl⟩ := trodVars_none hV
  have T0 := h0
  obtain ⟨fu0, hf0⟩ := h0
  have hlt0 := DataW.trod_lt _ _ _ _ hf0
  obtain ⟨a0, hK0, hV0, hL0, hm0⟩ := (opens_string Try.underlying9).out hf0
  obtain ⟨b0, rfl⟩ := okWide_string Try.underlying9 (hval 0 9 v0 rfl rfl)
  have q0 : b0 = a0 := by have e : [Value.string b0] = [Value.string a0] := hK0; simpa using e
  subst q0
  clear hA0 hval0 hsz0
  have hb : Rows.uptoBulk d0 ≤ 1048576 := by
    have z := of_decide_eq_true hk0
    simp only [List.append_nil, Rows.uptoBulkAll] at z
    omega
  obtain ⟨k, hk⟩ := Pure.SumAll b0 hV0 (by have := hb; have m0 : _ ≤ Rows.uptoBulk d0 := hm0; omega)
  refine ((corncriblaw05_SumAll.calls k b0 true W  hk).mono fun e W' ⟨he, bel0⟩ => ?_)
  have bel : Below W.heap.size W W' := bel0
  subst he
  exact ⟨_, rfl, _, _, _, [], _, [], hW', trodAll_mk1 (shut_bool Try.underlying4 _), (trodAll_cons_mk (Below.trod laid (by kernel_rfl) (of_decide_eq_true (by kernel_rfl)) T0 bel hlt0) trodAll_mk0), rfl, bel.frame _, fun h => by cases h⟩
theorem over : Rows.sumAllUptoRow.holds Try.pinned (Rows.OpenSpec.upto Rows.sumAllSpec) :=
  OpenClaim.holds_of_cond 8 Try.f8 rfl rfl rfl rfl rfl rfl rfl ⟨rfl, rfl, rfl, rfl, rfl⟩ rfl rfl rfl rfl rfl (by kernel_rfl) Try.func8 (by kernel_rfl)
    (of_decide_eq_true (by kernel_rfl)) (by unfold Func.isWrapper; first | (rw [if_pos (by decide +kernel)]; kernel_rfl) | (rw [if_neg (by decide +kernel)]; exact ⟨rfl, rfl⟩))
    (fun os started H enc _ F => lifted os started H enc F)
theorem proved : Rows.SumAllUptoSaid := over
end Go.Proofs.Ytdajpglkggmpoaa.sumAllUpto
namespace Go.Proofs.Ytdajpglkggmpoaa
/-- The row, under a short name, for the claim. -/
theorem sumAllUpto_holds : Rows.SumAllUptoSaid := sumAllUpto.proved
end Go.Proofs.Ytdajpglkggmpoaa
