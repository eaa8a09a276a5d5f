/- MatrixGenerators' plain statement: generators are those of the document. -/
import Derived.Test.YtoghhpkmficnmaaPdc
import Derived.Test.YtoghhpkmficnmaaFcorncriblaw02MatrixGenerators
namespace Go.Proofs.Ytoghhpkmficnmaa.Pure
open Go.RowKit Go.Proofs.Ytoghhpkmficnmaa.GfRef Go.Proofs.Ytoghhpkmficnmaa.Grid Go.Proofs.Ytoghhpkmficnmaa.Al Go.Proofs.Ytoghhpkmficnmaa.Base Go.Proofs.YtoghhpkmficnmaaW.PrintWords
theorem rgen_f (k m : Int) : corncribref02_Generator.f k m = some (genV k m) := by
  unfold corncribref02_Generator.f genV
  by_cases h1 : k < 1
  · rw [if_pos h1, if_neg (by omega)]; rfl
  rw [if_neg h1]
  by_cases h2 : k > 255
  · rw [if_pos h2, if_neg (by omega)]; rfl
  rw [if_neg h2]
  by_cases h3 : m < 0
  · rw [if_pos h3, if_neg (by omega)]; rfl
  rw [if_neg h3, wrap_id (by omega) (by omega)]
  by_cases h4 : m > 255 - k
  · rw [if_pos h4, if_neg (by omega)]; rfl
  rw [if_neg h4, if_pos (by omega)]
  unfold corncribref02_Made.f
  rw [if_pos (by omega)]
  rfl
theorem gens_j0 (k m : Int) (b : Bool) : Ev (fun n => corncriblaw02_MatrixGenerators.j0 n k m b) true := by
  refine Ev.succ ?_
  simp only [corncriblaw02_MatrixGenerators.j0, works_f, rgen_f]
  cases b
  · refine Ev.neg (by decide) ?_
    unfold matrix_Generator.f
    simp only [Option.bind_some, beq_self_eq_true, Bool.and_self, if_true]
    exact Ev.now _
  · exact Ev.pos rfl (Ev.now _)
theorem MatrixGenerators : corncriblaw02_MatrixGenerators.Pure := by
  intro a0 a1 _ _
  refine Ev.rounds (g := fun k => corncriblaw02_MatrixGenerators.f k a0 a1) ?_
  unfold corncriblaw02_MatrixGenerators.f
  have j := fun b => gens_j0 a0 a1 b
  by_cases h1 : a0 ≥ 1
  · refine Ev.pos h1 ?_
    by_cases h2 : a0 ≤ 255
    · refine Ev.pos h2 ?_
      by_cases h3 : a1 ≥ 0
      · refine Ev.pos h3 ?_
        by_cases h4 : a1 ≤ wrap64 (255 - a0)
        · exact Ev.pos h4 (j _)
        · exact Ev.neg h4 (j _)
      · exact Ev.neg h3 (j _)
    · exact Ev.neg h2 (j _)
  · exact Ev.neg h1 (j _)
end Go.Proofs.Ytoghhpkmficnmaa.Pure
