/- Sums of any pieces and frames of any text are those of the reference: the call is true of every list of texts and every text. Condition: the arguments hold together at most 1048576 values and letters (the given second form). -/
import Derived.Test.YtdajpglkggmpoaaRows
import Derived.Test.YtdajpglkggmpoaaFcorncriblaw05SumPieces
import Derived.Test.YtdajpglkggmpoaaPureSumPieces
import Derived.Test.YtdajpglkggmpoaaOpen
import Derived.WalkKit
import Derived.ProofKit
import Derived.OpenShut
import Derived.ShutString
import Derived.ChangeOld
import Derived.Below
import Derived.SizedLaws
import Derived.WideShapes
import Derived.Carry
import Derived.Lib.SmallJoins
import Derived.JoinedCond
import Derived.Deep.CondSized
namespace Go.Proofs.Ytdajpglkggmpoaa.sumPiecesUpto
open Go.ChangeShapes Go.WideShapes Go.ChangeAt Go.RowKit Go.Joins
open Go.Proofs.Ytdajpglkggmpoaa.Open Go.Proofs.YtdajpglkggmpoaaW.PrintWords Go.Proofs.Ytdajpglkggmpoaa.Al
set_option linter.unusedVariables false
theorem own : ownKnob Try.prog.godebug = none := by kernel_rfl
theorem laid : laidOutB Try.prog = true := by kernel_rfl
set_option maxRecDepth 100000 in
theorem lifted (os : Os) (started : os.Started) (H : Type) (enc : TypeId × Value → H) (F : Stop.Interp) :
    ReturnsInHanded {} Try.checked os 4 .any ((Rows.OpenSpec.upto Rows.sumPiecesSpec).pre6 enc Try.prog Try.f4 Rows.sumPiecesUptoRow.domain false) (((Rows.OpenSpec.upto Rows.sumPiecesSpec).at F).post enc Try.prog Try.f4 false true false false) := by
  refine returnsInHanded_of_cond_sized (C := Try.checked) (s := Rows.OpenSpec.upto Rows.sumPiecesSpec) (k := Rows.uptoSmall) rfl own started (by kernel_rfl) Try.func4
    (OpenSpec.witness (enc := enc) (C := Try.checked) (s := Rows.OpenSpec.upto Rows.sumPiecesSpec) (k := Rows.uptoSmall) rfl false ⟨#[], #[.slice none 0 0, .string ByteArray.empty], []⟩ 8 (by kernel_rfl) (by kernel_rfl) (by kernel_rfl) (x := ([.nil, .lit (.string [])], [], [])) (by kernel_rfl) rfl (by kernel_rfl)) ?_
  intro W base args ds gs before hval0 hW hcnd hk0 hsz0 _
  have hsz : (DataW.weightsEach Try.prog (Try.f4.params.toList ++ Rows.sumPiecesSpec.plain.varTypes Try.prog) (ds ++ gs)).all (· ≤ reachBytes) = true := hsz0
  have hval : ∀ (j : Nat) t v, Try.f4.params[j]? = some t → args[j]? = some v → Value.okWide Try.prog W .any base t v := hval0
  have hW' := hW
  obtain ⟨p, q, hA0, hV, rfl, hfz, hnd⟩ := hW
  have hA : DataW.TrodAll enc Try.prog W 0 (fun _ => true) true Try.f4.params.toList args.toList ds p := hA0
  rw [Try.params4] at hA hval hsz
  obtain ⟨v0, vs0, d0, ds0, p0, q0, hargs, rfl, rfl, h0, r0⟩ := trodAll_cons hA
  obtain ⟨v1, vs1, d1, ds1, p1, q1, rfl, rfl, rfl, h1, r1⟩ := trodAll_cons r0
  obtain ⟨rfl, rfl, rfl⟩ := trodAll_nil r1
  obtain rfl : args = #[v0, v1] := by cases args; simp_all
  obtain ⟨rfl, rfl⟩ := trodVars_none hV
  have T0 := h0
  obtain ⟨fu0, hf0⟩ := h0
  have hlt0 := DataW.trod_lt _ _ _ _ hf0
  obtain ⟨a0, hK0, hV0, hL0, hm0⟩ := (opens_slice (d := Kd.string) 9 16 Try.underlying26 (by kernel_rfl) (by kernel_rfl) (opens_string Try.underlying9)).out hf0
  obtain ⟨A0, n0, c0, rfl⟩ := okWide_slice Try.underlying26 (hval 0 26 v0 rfl rfl)
  obtain ⟨X0, y0, e0, hc0, hC0⟩ := hK0
  have q0 : A0 = X0 ∧ n0 = a0.length ∧ c0 = y0 := by have e : [Value.slice A0 n0 c0] = [Value.slice X0 a0.length y0] := e0; simpa using e
  obtain ⟨rfl, rfl, rfl⟩ := q0
  have T1 := h1
  obtain ⟨fu1, hf1⟩ := h1
  have hlt1 := DataW.trod_lt _ _ _ _ hf1
  obtain ⟨a1, hK1, hV1, hL1, hm1⟩ := (opens_string Try.underlying9).out hf1
  obtain ⟨b1, rfl⟩ := okWide_string Try.underlying9 (hval 1 9 v1 rfl rfl)
  have q1 : b1 = a1 := by have e : [Value.string b1] = [Value.string a1] := hK1; simpa using e
  subst q1
  clear hA0 hval0 hsz0
  have hb : Rows.uptoBulk d0 + Rows.uptoBulk d1 ≤ 1048576 := by
    have z := of_decide_eq_true hk0
    simp only [List.append_nil, Rows.uptoBulkAll] at z
    omega
  obtain ⟨k, hk⟩ := Pure.SumPieces a0 b1 hV0 hV1 (by have := hb; have m0 : _ ≤ Rows.uptoBulk d0 := hm0; have m1 : _ ≤ Rows.uptoBulk d1 := hm1; omega)
  refine ((corncriblaw05_SumPieces.calls k A0 c0 a0 b1 true W hC0 hc0 hk rfl).mono fun e W' ⟨he, bel0⟩ => ?_)
  have bel : Below W.heap.size W W' := bel0
  subst he
  exact ⟨_, rfl, _, _, _, [], _, [], hW', trodAll_mk1 (shut_bool Try.underlying4 _), (trodAll_cons_mk (Below.trod laid (by kernel_rfl) (of_decide_eq_true (by kernel_rfl)) T0 bel hlt0) (trodAll_cons_mk (Below.trod laid (by kernel_rfl) (of_decide_eq_true (by kernel_rfl)) T1 bel hlt1) trodAll_mk0)), rfl, bel.frame _, fun h => by cases h⟩
theorem over : Rows.sumPiecesUptoRow.holds Try.pinned (Rows.OpenSpec.upto Rows.sumPiecesSpec) :=
  OpenClaim.holds_of_cond 4 Try.f4 rfl rfl rfl rfl rfl rfl rfl ⟨rfl, rfl, rfl, rfl, rfl⟩ rfl rfl rfl rfl rfl (by kernel_rfl) Try.func4 (by kernel_rfl)
    (of_decide_eq_true (by kernel_rfl)) (by unfold Func.isWrapper; first | (rw [if_pos (by decide +kernel)]; kernel_rfl) | (rw [if_neg (by decide +kernel)]; exact ⟨rfl, rfl⟩))
    (fun os started H enc _ F => lifted os started H enc F)
theorem proved : Rows.SumPiecesUptoSaid := over
end Go.Proofs.Ytdajpglkggmpoaa.sumPiecesUpto
namespace Go.Proofs.Ytdajpglkggmpoaa
/-- The row, under a short name, for the claim. -/
theorem sumPiecesUpto_holds : Rows.SumPiecesUptoSaid := sumPiecesUpto.proved
end Go.Proofs.Ytdajpglkggmpoaa
