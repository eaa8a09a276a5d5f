/- MatrixInverses' plain statement: inverses are those of the document. -/
import Derived.Test.YtoghhpkmficnmaaPec
import Derived.Test.YtoghhpkmficnmaaFcorncriblaw02MatrixInverses
namespace Go.Proofs.Ytoghhpkmficnmaa.Pure
set_option linter.unusedVariables false
open Go.RowKit Go.Proofs.Ytoghhpkmficnmaa.GfRef Go.Proofs.Ytoghhpkmficnmaa.Grid Go.Proofs.Ytoghhpkmficnmaa.Al Go.Proofs.Ytoghhpkmficnmaa.Base Go.Proofs.YtoghhpkmficnmaaW.PrintWords
theorem invs_j0 (b : Bool) (r c : Int) (s : ByteArray) : Ev (fun n => corncriblaw02_MatrixInverses.j0 n b r c s) true := by
  refine Ev.succ ?_
  simp only [corncriblaw02_MatrixInverses.j0, works_f]
  cases b
  · refine Ev.neg (by decide) ?_
    unfold matrix_Inverse.f corncribref02_Inverse.f
    simp only [Option.bind_some, beq_self_eq_true, Bool.and_self, if_true]
    exact Ev.now _
  · exact Ev.pos rfl (Ev.now _)
theorem MatrixInverses {V0 L0 : Prop} (r c : Int) (s : ByteArray) (_ : V0) (_ : L0) : ∃ k, corncriblaw02_MatrixInverses.f k r c s = some true := by
  refine Ev.rounds (g := fun k => corncriblaw02_MatrixInverses.f k r c s) ?_
  unfold corncriblaw02_MatrixInverses.f corncriblaw02_large.f
  have hl : ∀ x y : Int, (if x > 16 then some true else some (decide (y > 16))) = some (if x > 16 then true else decide (y > 16)) := fun x y => by split <;> rfl
  rw [hl, rchk_f]
  simp only [Option.bind_some]
  generalize (if r > 16 then true else decide (c > 16)) = b1
  have j := fun b => invs_j0 b r c s
  cases b1
  · exact Ev.neg (by decide) (j false)
  · refine Ev.pos rfl ?_
    by_cases h : chkE r c s = 0
    · exact Ev.pos h (j _)
    · exact Ev.neg h (j _)
end Go.Proofs.Ytoghhpkmficnmaa.Pure
