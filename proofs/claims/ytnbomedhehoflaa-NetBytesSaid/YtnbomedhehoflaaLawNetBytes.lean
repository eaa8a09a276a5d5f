/- The call of NetBytes is true of every input. No condition. -/
import Derived.Test.YtnbomedhehoflaaRows
import Derived.Test.YtnbomedhehoflaaFcorncriblaw15NetBytes
import Derived.Test.YtnbomedhehoflaaPureNetBytes
import Derived.Test.YtnbomedhehoflaaPie
import Derived.WalkKit
import Derived.ProofKit
import Derived.OpenShut
import Derived.ShutString
import Derived.ChangeOld
import Derived.Below
import Derived.SizedLaws
import Derived.WideShapes
import Derived.Carry
import Derived.Lib.SmallJoins
namespace Go.Proofs.Ytnbomedhehoflaa.netBytes
open Go.ChangeShapes Go.WideShapes Go.ChangeAt Go.RowKit Go.Joins
open Go.Proofs.Ytnbomedhehoflaa.Open Go.Proofs.YtnbomedhehoflaaW.PrintWords Go.Proofs.Ytnbomedhehoflaa.Al
set_option linter.unusedVariables false
theorem own : ownKnob Try.prog.godebug = none := by kernel_rfl
theorem laid : laidOutB Try.prog = true := by kernel_rfl
set_option maxRecDepth 100000 in
theorem lifted (os : Os) (started : os.Started) (H : Type) (enc : TypeId × Value → H) :
    ReturnsInHanded {} Try.checked os 6 .any (Rows.netBytesSpec.pre6 enc Try.prog Try.f6 Rows.netBytesRow.domain false) (Rows.netBytesSpec.post enc Try.prog Try.f6 false true false false) := by
  refine returnsInHanded_of_change_sized (C := Try.checked) own started (by kernel_rfl) Try.func6
    (ChangeSpec.witness6 (enc := enc) (C := Try.checked) false ⟨#[], #[.agg #[.int .i64 0, .int .i64 0, .int .i64 0, .int .i64 0, .int .i64 0, .int .i64 0, .string ByteArray.empty, .slice none 0 0, .slice none 0 0], .string ByteArray.empty], []⟩ 8 (by kernel_rfl) (by kernel_rfl) (by kernel_rfl) (by kernel_rfl)) ?_
  intro W base args ds gs before hval0 hW hcnd hsz0 _
  have hsz : (DataW.weightsEach Try.prog (Try.f6.params.toList ++ Rows.netBytesSpec.plain.varTypes Try.prog) (ds ++ gs)).all (· ≤ reachBytes) = true := hsz0
  have hval : ∀ (j : Nat) t v, Try.f6.params[j]? = some t → args[j]? = some v → Value.okWide Try.prog W .any base t v := hval0
  have hW' := hW
  obtain ⟨p, q, hA0, hV, rfl, hfz, hnd⟩ := hW
  have hA : DataW.TrodAll enc Try.prog W 0 (fun _ => true) true Try.f6.params.toList args.toList ds p := hA0
  rw [Try.params6] at hA hval hsz
  obtain ⟨v0, vs0, d0, ds0, p0, q0, hargs, rfl, rfl, h0, r0⟩ := trodAll_cons hA
  obtain ⟨v1, vs1, d1, ds1, p1, q1, rfl, rfl, rfl, h1, r1⟩ := trodAll_cons r0
  obtain ⟨rfl, rfl, rfl⟩ := trodAll_nil r1
  obtain rfl : args = #[v0, v1] := by cases args; simp_all
  obtain ⟨rfl, rfl⟩ := trodVars_none hV
  have T0 := h0
  obtain ⟨fu0, hf0⟩ := h0
  have hlt0 := DataW.trod_lt _ _ _ _ hf0
  obtain ⟨a0, hK0, hV0, hL0, hm0⟩ := (opens_struct (fun x => x) (fun x => x) (fun _ => rfl) Try.underlying32 (by kernel_rfl) (opensF_cons (opens_int (k := .i64) Try.underlying3) rfl (by kernel_rfl) (opensF_cons (opens_int (k := .i64) Try.underlying3) rfl (by kernel_rfl) (opensF_cons (opens_int (k := .i64) Try.underlying3) rfl (by kernel_rfl) (opensF_cons (opens_int (k := .i64) Try.underlying3) rfl (by kernel_rfl) (opensF_cons (opens_int (k := .i64) Try.underlying3) rfl (by kernel_rfl) (opensF_cons (opens_int (k := .i64) Try.underlying3) rfl (by kernel_rfl) (opensF_cons (opens_string Try.underlying9) rfl (by kernel_rfl) (opensF_cons (opens_slice (d := Kd.string) 9 16 Try.underlying29 (by kernel_rfl) (by kernel_rfl) (opens_string Try.underlying9)) rfl (by kernel_rfl) (opensF_one (opens_slice (d := k72) 72 40 Try.underlying30 (by kernel_rfl) (by kernel_rfl) (opens_struct (fun x : S72 => (x.f0, x.f1, x.f2)) (fun p => (⟨p.1, p.2.1, p.2.2⟩ : S72)) (fun _ => rfl) Try.underlying72 (by kernel_rfl) (opensF_cons (opens_string Try.underlying9) rfl (by kernel_rfl) (opensF_cons (opens_string Try.underlying9) rfl (by kernel_rfl) (opensF_one (opens_bool Try.underlying4) rfl (by kernel_rfl)))))) rfl (by kernel_rfl))))))))))).out hf0
  obtain ⟨cs0, rfl, hz0⟩ := okWide_struct Try.underlying32 (hval 0 32 v0 rfl rfl)
  obtain ⟨_, _, e0, rfl, _, _, rfl, rfl, _, _, rfl, rfl, _, _, rfl, rfl, _, _, rfl, rfl, _, _, rfl, rfl, _, _, rfl, rfl, _, _, rfl, ⟨A0_7, c0_7, rfl, hc0_7, hC0_7⟩, ⟨A0_8, c0_8, rfl, hc0_8, hC0_8⟩⟩ := hK0
  have q0 : cs0 = #[.int .i64 a0.1, .int .i64 a0.2.1, .int .i64 a0.2.2.1, .int .i64 a0.2.2.2.1, .int .i64 a0.2.2.2.2.1, .int .i64 a0.2.2.2.2.2.1, .string a0.2.2.2.2.2.2.1, .slice A0_7 a0.2.2.2.2.2.2.2.1.length c0_7, .slice A0_8 a0.2.2.2.2.2.2.2.2.length c0_8] := by apply Array.toList_inj.1; exact e0
  subst q0
  have T1 := h1
  obtain ⟨fu1, hf1⟩ := h1
  have hlt1 := DataW.trod_lt _ _ _ _ hf1
  obtain ⟨a1, hK1, hV1, hL1, hm1⟩ := (opens_string Try.underlying9).out hf1
  obtain ⟨b1, rfl⟩ := okWide_string Try.underlying9 (hval 1 9 v1 rfl rfl)
  have q1 : b1 = a1 := by have e : [Value.string b1] = [Value.string a1] := hK1; simpa using e
  subst q1
  clear hA0 hval0 hsz0
  have hsz1 : (DataW.weights Try.prog 32 d0 ++ (DataW.weights Try.prog 9 d1 ++ ([]))).all (· ≤ reachBytes) = true := hsz
  simp only [all_append] at hsz1
  have hl0 := hL0 hsz1.1
  have hl1 := hL1 hsz1.2.1
  have hk := Pure.NetBytes a0.1 a0.2.1 a0.2.2.1 a0.2.2.2.1 a0.2.2.2.2.1 a0.2.2.2.2.2.1 a0.2.2.2.2.2.2.1 a0.2.2.2.2.2.2.2.1 a0.2.2.2.2.2.2.2.2 b1 hV0 hV1 hl0 hl1
  refine ((corncriblaw15_NetBytes.calls a0.1 a0.2.1 a0.2.2.1 a0.2.2.2.1 a0.2.2.2.2.1 a0.2.2.2.2.2.1 a0.2.2.2.2.2.2.1 A0_7 c0_7 a0.2.2.2.2.2.2.2.1 A0_8 c0_8 a0.2.2.2.2.2.2.2.2 b1 true W hC0_7 hc0_7 hC0_8 hc0_8 hk rfl).mono fun e W' ⟨he, bel0⟩ => ?_)
  have bel : Below W.heap.size W W' := bel0
  subst he
  exact ⟨_, rfl, _, _, _, [], _, [], hW', trodAll_mk1 (shut_bool Try.underlying4 _), (trodAll_cons_mk (Below.trod laid (by kernel_rfl) (of_decide_eq_true (by kernel_rfl)) T0 bel hlt0) (trodAll_cons_mk (Below.trod laid (by kernel_rfl) (of_decide_eq_true (by kernel_rfl)) T1 bel hlt1) trodAll_mk0)), rfl, bel.frame _, fun h => by cases h⟩
theorem over : Rows.netBytesRow.holds Try.pinned (OpenSpec.ofChange Rows.netBytesSpec) :=
  OpenClaim.holds_of_wide 6 Try.f6 rfl rfl rfl rfl rfl rfl rfl ⟨rfl, rfl, rfl, rfl, rfl⟩ rfl rfl rfl rfl rfl (by kernel_rfl) Try.func6 (by kernel_rfl)
    (of_decide_eq_true (by kernel_rfl)) (by unfold Func.isWrapper; first | (rw [if_pos (by decide +kernel)]; kernel_rfl) | (rw [if_neg (by decide +kernel)]; exact ⟨rfl, rfl⟩))
    (fun os started H enc _ => lifted os started H enc)
theorem proved : Rows.NetBytesSaid := over
end Go.Proofs.Ytnbomedhehoflaa.netBytes
namespace Go.Proofs.Ytnbomedhehoflaa
/-- The row, under a short name, for the claim. -/
theorem netBytes_holds : Rows.NetBytesSaid := netBytes.proved
end Go.Proofs.Ytnbomedhehoflaa
