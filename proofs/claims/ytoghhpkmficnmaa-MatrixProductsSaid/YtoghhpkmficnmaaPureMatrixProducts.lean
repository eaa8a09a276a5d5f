/- MatrixProducts' plain statement: checks, identities and products are those of the document. -/
import Derived.Test.YtoghhpkmficnmaaPac
import Derived.Test.YtoghhpkmficnmaaFcorncriblaw02MatrixProducts
namespace Go.Proofs.Ytoghhpkmficnmaa.Pure
set_option linter.unusedVariables false
open Go.RowKit Go.Proofs.Ytoghhpkmficnmaa.GfRef Go.Proofs.Ytoghhpkmficnmaa.Al Go.Proofs.Ytoghhpkmficnmaa.Base Go.Proofs.YtoghhpkmficnmaaW.PrintWords
theorem prod_j1 (b : Bool) (ra ca : Int) (s : ByteArray) (rb cb : Int) (t : ByteArray) : Ev (fun k => corncriblaw02_MatrixProducts.j1 k b ra ca s rb cb t) true := by
  refine Ev.succ ?_
  simp only [corncriblaw02_MatrixProducts.j1]
  cases b
  · refine Ev.neg (by decide) ?_
    unfold matrix_Mul.f
    simp only [Option.bind_some]
    refine Ev.bind (rmulM_ev ra ca s rb cb t) ?_
    simp only [beq_self_eq_true, Bool.and_self, if_true]
    exact Ev.now _
  · exact Ev.pos rfl (Ev.now _)
theorem MatrixProducts {V0 V1 V2 L0 L1 L2 : Prop} (ra ca : Int) (s : ByteArray) (rb cb : Int) (t : ByteArray) (n : Int) (_ : V0) (_ : V1) (_ : V2) (_ : L0) (_ : L1) (_ : L2) : ∃ k, corncriblaw02_MatrixProducts.f k ra ca s rb cb t n = some true := by
  refine Ev.rounds (g := fun k => corncriblaw02_MatrixProducts.f k ra ca s rb cb t n) ?_
  unfold corncriblaw02_MatrixProducts.f matrix_Identity.f
  rw [works_f, chk_f, rchk_f]
  simp only [Option.bind_some]
  refine Ev.bind (rid_ev n) ?_
  simp only [beq_self_eq_true, Bool.not_true, Bool.or_self, if_true]
  refine Ev.neg (by decide) ?_
  refine Ev.succ ?_
  simp only [corncriblaw02_MatrixProducts.j0]
  refine Ev.neg (by decide) ?_
  unfold corncriblaw02_large.f
  have hl : ∀ x y : Int, (if x > 16 then some true else some (decide (y > 16))) = some (if x > 16 then true else decide (y > 16)) := fun x y => by split <;> rfl
  rw [hl, hl]
  simp only [Option.bind_some]
  have j := fun b => prod_j1 b ra ca s rb cb t
  generalize (if ra > 16 then true else decide (ca > 16)) = b1
  generalize (if rb > 16 then true else decide (cb > 16)) = b2
  cases b1
  · exact Ev.neg (by decide) (j b2)
  · exact Ev.pos rfl (j true)
end Go.Proofs.Ytoghhpkmficnmaa.Pure
