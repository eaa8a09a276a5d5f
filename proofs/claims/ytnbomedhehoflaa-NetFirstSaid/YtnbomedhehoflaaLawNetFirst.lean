/- The call of NetFirst is true of every input. No condition. -/
import Derived.Test.YtnbomedhehoflaaRows
import Derived.Test.YtnbomedhehoflaaFcorncriblaw15NetFirst
import Derived.Test.YtnbomedhehoflaaPureNetFirst
import Derived.Test.YtnbomedhehoflaaPfb
import Derived.WalkKit
import Derived.ProofKit
import Derived.OpenShut
import Derived.ShutString
import Derived.ChangeOld
import Derived.Below
import Derived.SizedLaws
import Derived.WideShapes
import Derived.Carry
import Derived.Lib.SmallJoins
namespace Go.Proofs.Ytnbomedhehoflaa.netFirst
open Go.ChangeShapes Go.WideShapes Go.ChangeAt Go.RowKit Go.Joins
open Go.Proofs.Ytnbomedhehoflaa.Open Go.Proofs.YtnbomedhehoflaaW.PrintWords Go.Proofs.Ytnbomedhehoflaa.Al
set_option linter.unusedVariables false
theorem own : ownKnob Try.prog.godebug = none := by kernel_rfl
theorem laid : laidOutB Try.prog = true := by kernel_rfl
set_option maxRecDepth 100000 in
theorem lifted (os : Os) (started : os.Started) (H : Type) (enc : TypeId × Value → H) :
    ReturnsInHanded {} Try.checked os 3 .any (Rows.netFirstSpec.pre6 enc Try.prog Try.f3 Rows.netFirstRow.domain false) (Rows.netFirstSpec.post enc Try.prog Try.f3 false true false false) := by
  refine returnsInHanded_of_change_sized (C := Try.checked) own started (by kernel_rfl) Try.func3
    (ChangeSpec.witness6 (enc := enc) (C := Try.checked) false ⟨#[], #[.int .i64 0, .bool false], []⟩ 8 (by kernel_rfl) (by kernel_rfl) (by kernel_rfl) (by kernel_rfl)) ?_
  intro W base args ds gs before hval0 hW hcnd hsz0 _
  have hsz : (DataW.weightsEach Try.prog (Try.f3.params.toList ++ Rows.netFirstSpec.plain.varTypes Try.prog) (ds ++ gs)).all (· ≤ reachBytes) = true := hsz0
  have hval : ∀ (j : Nat) t v, Try.f3.params[j]? = some t → args[j]? = some v → Value.okWide Try.prog W .any base t v := hval0
  have hW' := hW
  obtain ⟨p, q, hA0, hV, rfl, hfz, hnd⟩ := hW
  have hA : DataW.TrodAll enc Try.prog W 0 (fun _ => true) true Try.f3.params.toList args.toList ds p := hA0
  rw [Try.params3] at hA hval hsz
  obtain ⟨v0, vs0, d0, ds0, p0, q0, hargs, rfl, rfl, h0, r0⟩ := trodAll_cons hA
  obtain ⟨v1, vs1, d1, ds1, p1, q1, rfl, rfl, rfl, h1, r1⟩ := trodAll_cons r0
  obtain ⟨rfl, rfl, rfl⟩ := trodAll_nil r1
  obtain rfl : args = #[v0, v1] := by cases args; simp_all
  obtain ⟨rfl, rfl⟩ := trodVars_none hV
  have T0 := h0
  obtain ⟨fu0, hf0⟩ := h0
  have hlt0 := DataW.trod_lt _ _ _ _ hf0
  obtain ⟨a0, hK0, hV0, hL0, hm0⟩ := (opens_int (k := .i64) Try.underlying3).out hf0
  obtain ⟨b0, rfl⟩ := okWide_int Try.underlying3 (hval 0 3 v0 rfl rfl)
  have q0 : b0 = a0 := by have e : [Value.int .i64 b0] = [Value.int .i64 a0] := hK0; simpa using e
  subst q0
  have T1 := h1
  obtain ⟨fu1, hf1⟩ := h1
  have hlt1 := DataW.trod_lt _ _ _ _ hf1
  obtain ⟨a1, hK1, hV1, hL1, hm1⟩ := (opens_bool Try.underlying4).out hf1
  obtain ⟨b1, rfl⟩ := okWide_bool Try.underlying4 (hval 1 4 v1 rfl rfl)
  have q1 : b1 = a1 := by have e : [Value.bool b1] = [Value.bool a1] := hK1; simpa using e
  subst q1
  clear hA0 hval0 hsz0
  have hsz1 : (DataW.weights Try.prog 3 d0 ++ (DataW.weights Try.prog 4 d1 ++ ([]))).all (· ≤ reachBytes) = true := hsz
  simp only [all_append] at hsz1
  have hl0 := hL0 hsz1.1
  have hl1 := hL1 hsz1.2.1
  have hk := Pure.NetFirst b0 b1 hV0 hV1 hl0 hl1
  refine ((corncriblaw15_NetFirst.calls b0 b1 true W  hk rfl).mono fun e W' ⟨he, bel0⟩ => ?_)
  have bel : Below W.heap.size W W' := bel0
  subst he
  exact ⟨_, rfl, _, _, _, [], _, [], hW', trodAll_mk1 (shut_bool Try.underlying4 _), (trodAll_cons_mk (Below.trod laid (by kernel_rfl) (of_decide_eq_true (by kernel_rfl)) T0 bel hlt0) (trodAll_cons_mk (Below.trod laid (by kernel_rfl) (of_decide_eq_true (by kernel_rfl)) T1 bel hlt1) trodAll_mk0)), rfl, bel.frame _, fun h => by cases h⟩
theorem over : Rows.netFirstRow.holds Try.pinned (OpenSpec.ofChange Rows.netFirstSpec) :=
  OpenClaim.holds_of_wide 3 Try.f3 rfl rfl rfl rfl rfl rfl rfl ⟨rfl, rfl, rfl, rfl, rfl⟩ rfl rfl rfl rfl rfl (by kernel_rfl) Try.func3 (by kernel_rfl)
    (of_decide_eq_true (by kernel_rfl)) (by unfold Func.isWrapper; first | (rw [if_pos (by decide +kernel)]; kernel_rfl) | (rw [if_neg (by decide +kernel)]; exact ⟨rfl, rfl⟩))
    (fun os started H enc _ => lifted os started H enc)
theorem proved : Rows.NetFirstSaid := over
end Go.Proofs.Ytnbomedhehoflaa.netFirst
namespace Go.Proofs.Ytnbomedhehoflaa
/-- The row, under a short name, for the claim. -/
theorem netFirst_holds : Rows.NetFirstSaid := netFirst.proved
end Go.Proofs.Ytnbomedhehoflaa
