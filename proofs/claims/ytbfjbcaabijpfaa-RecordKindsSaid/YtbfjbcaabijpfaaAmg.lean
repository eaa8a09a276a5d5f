/- Among: a number within 0 .. m-1. -/
import Derived.Test.YtbfjbcaabijpfaaPlc
import Derived.Test.YtbfjbcaabijpfaaFcorncribbookAmong
namespace Go.Proofs.Ytbfjbcaabijpfaa.Amg
open Go.RowKit Go.Proofs.Ytbfjbcaabijpfaa.Base Go.Proofs.Ytbfjbcaabijpfaa.Al Go.Proofs.YtbfjbcaabijpfaaW.PrintWords
set_option linter.unusedVariables false
set_option linter.unusedSimpArgs false
theorem among_eq (a n : Int) (h0 : 0 < n) (hn : n ≤ 4611686018427387904) : corncribbook_Among.f a n = some (a % n) := by
  unfold corncribbook_Among.f
  rw [if_neg (by omega)]
  have h1 : -n < Int.tmod a n ∧ (Int.tmod a n) % n = a % n := by
    rcases Int.le_total 0 a with ha | ha
    · rw [Int.tmod_eq_emod_of_nonneg ha]
      have := Int.emod_nonneg a (by omega : n ≠ 0)
      exact ⟨by omega, Int.emod_emod_of_dvd _ (Int.dvd_refl _)⟩
    · obtain ⟨b, rfl⟩ : ∃ b, a = -b := ⟨-a, by omega⟩
      rw [Int.neg_tmod, Int.tmod_eq_emod_of_nonneg (by omega)]
      have := Int.emod_lt_of_pos b h0
      refine ⟨by omega, ?_⟩
      rw [Int.neg_emod_eq_sub_emod, Int.neg_emod_eq_sub_emod, Int.sub_emod_emod]
  have h2 : Int.tmod a n < n := Int.tmod_lt_of_pos a h0
  obtain ⟨h1, h3⟩ := h1
  rw [wrap_id (by omega) (by omega), Int.tmod_eq_emod_of_nonneg (by omega), Int.add_emod_right, h3]
end Go.Proofs.Ytbfjbcaabijpfaa.Amg
