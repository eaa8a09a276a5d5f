/- The call of MatrixRing is true of every input. No condition. -/
import Derived.Test.YtoghhpkmficnmaaRows
import Derived.Test.YtoghhpkmficnmaaFcorncriblaw02MatrixRing
import Derived.Test.YtoghhpkmficnmaaPureMatrixRing
import Derived.Test.YtoghhpkmficnmaaPcb
import Derived.WalkKit
import Derived.ProofKit
import Derived.OpenShut
import Derived.ShutString
import Derived.ChangeOld
import Derived.Below
import Derived.SizedLaws
import Derived.WideShapes
import Derived.Carry
import Derived.Lib.SmallJoins
namespace Go.Proofs.Ytoghhpkmficnmaa.matrixRing
open Go.ChangeShapes Go.WideShapes Go.ChangeAt Go.RowKit Go.Joins
open Go.Proofs.Ytoghhpkmficnmaa.Open Go.Proofs.YtoghhpkmficnmaaW.PrintWords Go.Proofs.Ytoghhpkmficnmaa.Al
set_option linter.unusedVariables false
theorem own : ownKnob Try.prog.godebug = none := by kernel_rfl
theorem laid : laidOutB Try.prog = true := by kernel_rfl
set_option maxRecDepth 100000 in
theorem lifted (os : Os) (started : os.Started) (H : Type) (enc : TypeId × Value → H) :
    ReturnsInHanded {} Try.checked os 6 .any (Rows.matrixRingSpec.pre6 enc Try.prog Try.f6 Rows.matrixRingRow.domain false) (Rows.matrixRingSpec.post enc Try.prog Try.f6 false true false false) := by
  refine returnsInHanded_of_change_sized (C := Try.checked) own started (by kernel_rfl) Try.func6
    (ChangeSpec.witness6 (enc := enc) (C := Try.checked) false ⟨#[], #[.agg #[.int .i64 0, .int .i64 0, .int .i64 0], .string ByteArray.empty, .string ByteArray.empty], []⟩ 8 (by kernel_rfl) (by kernel_rfl) (by kernel_rfl) (by kernel_rfl)) ?_
  intro W base args ds gs before hval0 hW hcnd hsz0 _
  have hsz : (DataW.weightsEach Try.prog (Try.f6.params.toList ++ Rows.matrixRingSpec.plain.varTypes Try.prog) (ds ++ gs)).all (· ≤ reachBytes) = true := hsz0
  have hval : ∀ (j : Nat) t v, Try.f6.params[j]? = some t → args[j]? = some v → Value.okWide Try.prog W .any base t v := hval0
  have hW' := hW
  obtain ⟨p, q, hA0, hV, rfl, hfz, hnd⟩ := hW
  have hA : DataW.TrodAll enc Try.prog W 0 (fun _ => true) true Try.f6.params.toList args.toList ds p := hA0
  rw [Try.params6] at hA hval hsz
  obtain ⟨v0, vs0, d0, ds0, p0, q0, hargs, rfl, rfl, h0, r0⟩ := trodAll_cons hA
  obtain ⟨v1, vs1, d1, ds1, p1, q1, rfl, rfl, rfl, h1, r1⟩ := trodAll_cons r0
  obtain ⟨v2, vs2, d2, ds2, p2, q2, rfl, rfl, rfl, h2, r2⟩ := trodAll_cons r1
  obtain ⟨rfl, rfl, rfl⟩ := trodAll_nil r2
  obtain rfl : args = #[v0, v1, v2] := by cases args; simp_all
  obtain ⟨rfl, rfl⟩ := trodVars_none hV
  have T0 := h0
  obtain ⟨fu0, hf0⟩ := h0
  have hlt0 := DataW.trod_lt _ _ _ _ hf0
  obtain ⟨a0, hK0, hV0, hL0, hm0⟩ := (opens_struct (fun x => x) (fun x => x) (fun _ => rfl) Try.underlying39 (by kernel_rfl) (opensF_cons (opens_int (k := .i64) Try.underlying3) rfl (by kernel_rfl) (opensF_cons (opens_int (k := .i64) Try.underlying3) rfl (by kernel_rfl) (opensF_one (opens_int (k := .i64) Try.underlying3) rfl (by kernel_rfl))))).out hf0
  obtain ⟨cs0, rfl, hz0⟩ := okWide_struct Try.underlying39 (hval 0 39 v0 rfl rfl)
  obtain ⟨_, _, e0, rfl, _, _, rfl, rfl, rfl⟩ := hK0
  have q0 : cs0 = #[.int .i64 a0.1, .int .i64 a0.2.1, .int .i64 a0.2.2] := by apply Array.toList_inj.1; exact e0
  subst q0
  have T1 := h1
  obtain ⟨fu1, hf1⟩ := h1
  have hlt1 := DataW.trod_lt _ _ _ _ hf1
  obtain ⟨a1, hK1, hV1, hL1, hm1⟩ := (opens_string Try.underlying9).out hf1
  obtain ⟨b1, rfl⟩ := okWide_string Try.underlying9 (hval 1 9 v1 rfl rfl)
  have q1 : b1 = a1 := by have e : [Value.string b1] = [Value.string a1] := hK1; simpa using e
  subst q1
  have T2 := h2
  obtain ⟨fu2, hf2⟩ := h2
  have hlt2 := DataW.trod_lt _ _ _ _ hf2
  obtain ⟨a2, hK2, hV2, hL2, hm2⟩ := (opens_string Try.underlying9).out hf2
  obtain ⟨b2, rfl⟩ := okWide_string Try.underlying9 (hval 2 9 v2 rfl rfl)
  have q2 : b2 = a2 := by have e : [Value.string b2] = [Value.string a2] := hK2; simpa using e
  subst q2
  clear hA0 hval0 hsz0
  have hsz1 : (DataW.weights Try.prog 39 d0 ++ (DataW.weights Try.prog 9 d1 ++ (DataW.weights Try.prog 9 d2 ++ ([])))).all (· ≤ reachBytes) = true := hsz
  simp only [all_append] at hsz1
  have hl0 := hL0 hsz1.1
  have hl1 := hL1 hsz1.2.1
  have hl2 := hL2 hsz1.2.2.1
  have hk := Pure.MatrixRing a0.1 a0.2.1 a0.2.2 b1 b2 hV0 hV1 hV2 hl0 hl1 hl2
  refine ((corncriblaw02_MatrixRing.calls a0.1 a0.2.1 a0.2.2 b1 b2 true W  hk rfl).mono fun e W' ⟨he, bel0⟩ => ?_)
  have bel : Below W.heap.size W W' := bel0
  subst he
  exact ⟨_, rfl, _, _, _, [], _, [], hW', trodAll_mk1 (shut_bool Try.underlying4 _), (trodAll_cons_mk (Below.trod laid (by kernel_rfl) (of_decide_eq_true (by kernel_rfl)) T0 bel hlt0) (trodAll_cons_mk (Below.trod laid (by kernel_rfl) (of_decide_eq_true (by kernel_rfl)) T1 bel hlt1) (trodAll_cons_mk (Below.trod laid (by kernel_rfl) (of_decide_eq_true (by kernel_rfl)) T2 bel hlt2) trodAll_mk0))), rfl, bel.frame _, fun h => by cases h⟩
theorem over : Rows.matrixRingRow.holds Try.pinned (OpenSpec.ofChange Rows.matrixRingSpec) :=
  OpenClaim.holds_of_wide 6 Try.f6 rfl rfl rfl rfl rfl rfl rfl ⟨rfl, rfl, rfl, rfl, rfl⟩ rfl rfl rfl rfl rfl (by kernel_rfl) Try.func6 (by kernel_rfl)
    (of_decide_eq_true (by kernel_rfl)) (by unfold Func.isWrapper; first | (rw [if_pos (by decide +kernel)]; kernel_rfl) | (rw [if_neg (by decide +kernel)]; exact ⟨rfl, rfl⟩))
    (fun os started H enc _ => lifted os started H enc)
theorem proved : Rows.MatrixRingSaid := over
end Go.Proofs.Ytoghhpkmficnmaa.matrixRing
namespace Go.Proofs.Ytoghhpkmficnmaa
/-- The row, under a short name, for the claim. -/
theorem matrixRing_holds : Rows.MatrixRingSaid := matrixRing.proved
end Go.Proofs.Ytoghhpkmficnmaa
