/- Two sweeps are the sweep of the later time: the call is true of every slice of versions, version and two times. No condition. -/
import Derived.Test.YtpkccaoeglbcfaaRows
import Derived.Test.YtpkccaoeglbcfaaFcorncriblaw11ChainSweeps
import Derived.Test.YtpkccaoeglbcfaaPureChainSweeps
import Derived.Test.YtpkccaoeglbcfaaOpen
import Derived.WalkKit
import Derived.ProofKit
import Derived.OpenShut
import Derived.ShutString
import Derived.ChangeOld
import Derived.Below
import Derived.SizedLaws
import Derived.WideShapes
import Derived.Carry
import Derived.Lib.SmallJoins
namespace Go.Proofs.Ytpkccaoeglbcfaa.chainSweeps
open Go.ChangeShapes Go.WideShapes Go.ChangeAt Go.RowKit Go.Joins
open Go.Proofs.Ytpkccaoeglbcfaa.Open Go.Proofs.YtpkccaoeglbcfaaW.PrintWords Go.Proofs.Ytpkccaoeglbcfaa.Al
set_option linter.unusedVariables false
theorem own : ownKnob Try.prog.godebug = none := by kernel_rfl
theorem laid : laidOutB Try.prog = true := by kernel_rfl
set_option maxRecDepth 100000 in
theorem lifted (os : Os) (started : os.Started) (H : Type) (enc : TypeId × Value → H) :
    ReturnsInHanded {} Try.checked os 7 .any (Rows.chainSweepsSpec.pre6 enc Try.prog Try.f7 Rows.chainSweepsRow.domain false) (Rows.chainSweepsSpec.post enc Try.prog Try.f7 false true false false) := by
  refine returnsInHanded_of_change_sized (C := Try.checked) own started (by kernel_rfl) Try.func7
    (ChangeSpec.witness6 (enc := enc) (C := Try.checked) false ⟨#[], #[.slice none 0 0, .agg #[.int .i64 0, .string ByteArray.empty, .bool false], .agg #[.int .i64 0, .int .i64 0]], []⟩ 8 (by kernel_rfl) (by kernel_rfl) (by kernel_rfl) (by kernel_rfl)) ?_
  intro W base args ds gs before hval0 hW hcnd hsz0 _
  have hsz : (DataW.weightsEach Try.prog (Try.f7.params.toList ++ Rows.chainSweepsSpec.plain.varTypes Try.prog) (ds ++ gs)).all (· ≤ reachBytes) = true := hsz0
  have hval : ∀ (j : Nat) t v, Try.f7.params[j]? = some t → args[j]? = some v → Value.okWide Try.prog W .any base t v := hval0
  have hW' := hW
  obtain ⟨p, q, hA0, hV, rfl, hfz, hnd⟩ := hW
  have hA : DataW.TrodAll enc Try.prog W 0 (fun _ => true) true Try.f7.params.toList args.toList ds p := hA0
  rw [Try.params7] at hA hval hsz
  obtain ⟨v0, vs0, d0, ds0, p0, q0, hargs, rfl, rfl, h0, r0⟩ := trodAll_cons hA
  obtain ⟨v1, vs1, d1, ds1, p1, q1, rfl, rfl, rfl, h1, r1⟩ := trodAll_cons r0
  obtain ⟨v2, vs2, d2, ds2, p2, q2, rfl, rfl, rfl, h2, r2⟩ := trodAll_cons r1
  obtain ⟨rfl, rfl, rfl⟩ := trodAll_nil r2
  obtain rfl : args = #[v0, v1, v2] := by cases args; simp_all
  obtain ⟨rfl, rfl⟩ := trodVars_none hV
  have T0 := h0
  obtain ⟨fu0, hf0⟩ := h0
  have hlt0 := DataW.trod_lt _ _ _ _ hf0
  obtain ⟨a0, hK0, hV0, hL0, hm0⟩ := (opens_slice (d := k25) 25 32 Try.underlying22 (by kernel_rfl) (by kernel_rfl) (opens_struct (fun x : S25 => (x.f0, x.f1, x.f2)) (fun p => (⟨p.1, p.2.1, p.2.2⟩ : S25)) (fun _ => rfl) Try.underlying25 (by kernel_rfl) (opensF_cons (opens_int (k := .i64) Try.underlying3) rfl (by kernel_rfl) (opensF_cons (opens_string Try.underlying9) rfl (by kernel_rfl) (opensF_one (opens_bool Try.underlying4) rfl (by kernel_rfl)))))).out hf0
  obtain ⟨A0, n0, c0, rfl⟩ := okWide_slice Try.underlying22 (hval 0 22 v0 rfl rfl)
  obtain ⟨X0, y0, e0, hc0, hC0⟩ := hK0
  have q0 : A0 = X0 ∧ n0 = a0.length ∧ c0 = y0 := by have e : [Value.slice A0 n0 c0] = [Value.slice X0 a0.length y0] := e0; simpa using e
  obtain ⟨rfl, rfl, rfl⟩ := q0
  have T1 := h1
  obtain ⟨fu1, hf1⟩ := h1
  have hlt1 := DataW.trod_lt _ _ _ _ hf1
  obtain ⟨a1, hK1, hV1, hL1, hm1⟩ := (opens_struct (fun x => x) (fun x => x) (fun _ => rfl) Try.underlying25 (by kernel_rfl) (opensF_cons (opens_int (k := .i64) Try.underlying3) rfl (by kernel_rfl) (opensF_cons (opens_string Try.underlying9) rfl (by kernel_rfl) (opensF_one (opens_bool Try.underlying4) rfl (by kernel_rfl))))).out hf1
  obtain ⟨cs1, rfl, hz1⟩ := okWide_struct Try.underlying25 (hval 1 25 v1 rfl rfl)
  obtain ⟨_, _, e1, rfl, _, _, rfl, rfl, rfl⟩ := hK1
  have q1 : cs1 = #[.int .i64 a1.1, .string a1.2.1, .bool a1.2.2] := by apply Array.toList_inj.1; exact e1
  subst q1
  have T2 := h2
  obtain ⟨fu2, hf2⟩ := h2
  have hlt2 := DataW.trod_lt _ _ _ _ hf2
  obtain ⟨a2, hK2, hV2, hL2, hm2⟩ := (opens_struct (fun x => x) (fun x => x) (fun _ => rfl) Try.underlying40 (by kernel_rfl) (opensF_cons (opens_int (k := .i64) Try.underlying3) rfl (by kernel_rfl) (opensF_one (opens_int (k := .i64) Try.underlying3) rfl (by kernel_rfl)))).out hf2
  obtain ⟨cs2, rfl, hz2⟩ := okWide_struct Try.underlying40 (hval 2 40 v2 rfl rfl)
  obtain ⟨_, _, e2, rfl, rfl⟩ := hK2
  have q2 : cs2 = #[.int .i64 a2.1, .int .i64 a2.2] := by apply Array.toList_inj.1; exact e2
  subst q2
  clear hA0 hval0 hsz0
  have hsz1 : (DataW.weights Try.prog 22 d0 ++ (DataW.weights Try.prog 25 d1 ++ (DataW.weights Try.prog 40 d2 ++ ([])))).all (· ≤ reachBytes) = true := hsz
  simp only [all_append] at hsz1
  have hl0 := hL0 hsz1.1
  have hl1 := hL1 hsz1.2.1
  have hl2 := hL2 hsz1.2.2.1
  obtain ⟨k, hk⟩ := Pure.ChainSweeps a0 a1.1 a1.2.1 a1.2.2 a2.1 a2.2 hV0 hV1 hV2 hl0 hl1 hl2
  refine ((corncriblaw11_ChainSweeps.calls k A0 c0 a0 a1.1 a1.2.1 a1.2.2 a2.1 a2.2 true W hC0 hc0 hk rfl).mono fun e W' ⟨he, bel0⟩ => ?_)
  have bel : Below W.heap.size W W' := bel0
  subst he
  exact ⟨_, rfl, _, _, _, [], _, [], hW', trodAll_mk1 (shut_bool Try.underlying4 _), (trodAll_cons_mk (Below.trod laid (by kernel_rfl) (of_decide_eq_true (by kernel_rfl)) T0 bel hlt0) (trodAll_cons_mk (Below.trod laid (by kernel_rfl) (of_decide_eq_true (by kernel_rfl)) T1 bel hlt1) (trodAll_cons_mk (Below.trod laid (by kernel_rfl) (of_decide_eq_true (by kernel_rfl)) T2 bel hlt2) trodAll_mk0))), rfl, bel.frame _, fun h => by cases h⟩
theorem over : Rows.chainSweepsRow.holds Try.pinned (OpenSpec.ofChange Rows.chainSweepsSpec) :=
  OpenClaim.holds_of_wide 7 Try.f7 rfl rfl rfl rfl rfl rfl rfl ⟨rfl, rfl, rfl, rfl, rfl⟩ rfl rfl rfl rfl rfl (by kernel_rfl) Try.func7 (by kernel_rfl)
    (of_decide_eq_true (by kernel_rfl)) (by unfold Func.isWrapper; first | (rw [if_pos (by decide +kernel)]; kernel_rfl) | (rw [if_neg (by decide +kernel)]; exact ⟨rfl, rfl⟩))
    (fun os started H enc _ => lifted os started H enc)
theorem proved : Rows.ChainSweepsSaid := over
end Go.Proofs.Ytpkccaoeglbcfaa.chainSweeps
namespace Go.Proofs.Ytpkccaoeglbcfaa
/-- The row, under a short name, for the claim. -/
theorem chainSweeps_holds : Rows.ChainSweepsSaid := chainSweeps.proved
end Go.Proofs.Ytpkccaoeglbcfaa
