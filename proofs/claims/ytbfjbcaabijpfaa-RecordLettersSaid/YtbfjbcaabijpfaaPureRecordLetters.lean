/- For every letter and every number: what may be asked for by a letter may be a record, and the other way round. No condition. -/
import Derived.Test.YtbfjbcaabijpfaaPlc
import Derived.Test.YtbfjbcaabijpfaaFcorncriblaw08RecordLetters
namespace Go.Proofs.Ytbfjbcaabijpfaa.Pure
open Go.RowKit Go.Proofs.Ytbfjbcaabijpfaa.Base Go.Proofs.Ytbfjbcaabijpfaa.LetSpec Go.Proofs.Ytbfjbcaabijpfaa.RecSpec Go.Proofs.Ytbfjbcaabijpfaa.Al Go.Proofs.YtbfjbcaabijpfaaW.PrintWords
set_option linter.unusedVariables false
set_option linter.unusedSimpArgs false
theorem ok_one (t s c : Int) (l7 : List ByteArray) (l8 : List S50) : okR 1 t s c (⟨#[]⟩ : ByteArray) (⟨#[]⟩ : ByteArray) false l7 l8 ↔ (1 ≤ t ∧ t ≤ 1125899906842623 ∧ 0 ≤ s ∧ s ≤ 1125899906842624 ∧ l7.length ≤ 16 ∧ risB l7 = true ∧ wriB l8 = true) ∧ 0 ≤ c ∧ c < 16 := by
  unfold okR okK headP
  rw [if_pos rfl]
  constructor
  · rintro ⟨⟨h1, h2, h3, h4, h5, h6⟩, ⟨g1, g2, g3⟩, h7, _⟩
    exact ⟨⟨by omega, h2, h3, h4, g1, g2, g3⟩, h5, h6⟩
  · rintro ⟨⟨h1, h2, h3, h4, g1, g2, g3⟩, h5, h6⟩
    exact ⟨⟨by omega, h2, h3, h4, h5, h6⟩, ⟨g1, g2, g3⟩, by omega, nil_toList, nil_toList, rfl⟩
theorem let_one (t s : Int) (l7 : List ByteArray) (l8 : List S50) : chkL 3 0 0 t s 0 (⟨#[]⟩ : ByteArray) l7 l8 = 0 ↔ (1 ≤ t ∧ t ≤ 1125899906842623 ∧ 0 ≤ s ∧ s ≤ 1125899906842624 ∧ l7.length ≤ 16 ∧ risB l7 = true ∧ wriB l8 = true) := by
  rw [ref_chk]
  by_cases hg : addrB 0 = true ∧ addrB 0 = true ∧ 1 ≤ t ∧ t ≤ 1125899906842623 ∧ 0 ≤ s ∧ s ≤ 1125899906842624 ∧ (0 : Int) ≤ 0 ∧ (0 : Int) ≤ 4
  · rw [if_pos hg]
    obtain ⟨_, _, h1, h2, h3, h4, _, _⟩ := hg
    unfold refV
    rw [if_neg (by omega), if_neg (by omega), if_pos rfl]
    by_cases hc : l7.length ≤ 16 ∧ risB l7 = true ∧ wriB l8 = true ∧ (⟨#[]⟩ : ByteArray).toList = [] ∧ (0 : Int) = 0
    · rw [if_pos hc]
      exact ⟨fun _ => ⟨h1, h2, h3, h4, hc.1, hc.2.1, hc.2.2.1⟩, fun _ => rfl⟩
    · rw [if_neg hc]
      exact ⟨fun h => (by cases h), fun h => absurd ⟨h.2.2.2.2.1, h.2.2.2.2.2.1, h.2.2.2.2.2.2, nil_toList, rfl⟩ hc⟩
  · rw [if_neg hg]
    exact ⟨fun h => (by cases h), fun h => absurd ⟨by decide, by decide, h.1, h.2.1, h.2.2.1, h.2.2.2.1, by omega, by omega⟩ hg⟩
theorem RecordLettersCore (x0 x1 x2 x3 x4 x5 : Int) (x6 : ByteArray) (x7 : List ByteArray) (x8 : List S50) (c : Int) (h7 : x7.length * 16 ≤ 140737488351232) (h8 : x8.length * 40 ≤ 140737488351232) : ∃ k, corncriblaw08_RecordLetters.f k x0 x1 x2 x3 x4 x5 x6 x7 x8 c = some true := by
  refine Ev.rounds (g := fun k => corncriblaw08_RecordLetters.f k x0 x1 x2 x3 x4 x5 x6 x7 x8 c) ?_
  unfold corncriblaw08_RecordLetters.f
  refine Ev.bind worksR_ev (Ev.pos rfl ?_)
  have hc : letter_Check.f 3 0 0 x3 x4 0 (⟨#[]⟩ : ByteArray) x7 x8 = some (chkL 3 0 0 x3 x4 0 (⟨#[]⟩ : ByteArray) x7 x8) := if_pos ⟨by omega, by omega⟩
  rw [hc, rcheck_eq _ _ _ _ _ _ _ _ _ (by omega) (by omega), rcheck_eq _ _ _ _ _ _ _ _ _ (by omega) (by omega)]
  refine Ev.some_bind (Ev.some_bind ?_)
  have l1 := let_one x3 x4 x7 x8
  have o0 := ok_one x3 x4 0 x7 x8
  have oc := ok_one x3 x4 c x7 x8
  by_cases g : 1 ≤ x3 ∧ x3 ≤ 1125899906842623 ∧ 0 ≤ x4 ∧ x4 ≤ 1125899906842624 ∧ x7.length ≤ 16 ∧ risB x7 = true ∧ wriB x8 = true
  · have g0 := o0.2 ⟨g, by omega, by omega⟩
    rw [l1.2 g, if_pos g0]
    refine Ev.neg (by decide) (Ev.some_bind (Ev.some_bind (Ev.pos rfl ?_)))
    by_cases c0 : c ≥ 0
    · refine Ev.pos c0 ?_
      by_cases c1 : c < 16
      · rw [if_pos (oc.2 ⟨g, c0, c1⟩), decide_eq_true c1]; exact Ev.now _
      · rw [if_neg (fun h => c1 (oc.1 h).2.2), decide_eq_false c1]; exact Ev.now _
    · refine Ev.neg c0 ?_
      rw [if_neg (fun h => c0 (oc.1 h).2.1)]; exact Ev.now _
  · have e : (chkL 3 0 0 x3 x4 0 (⟨#[]⟩ : ByteArray) x7 x8 == 0) = false := beq_eq_false_iff_ne.2 (fun h => g (l1.1 h))
    rw [e, if_neg (fun h => g (o0.1 h).1), if_neg (fun h => g (oc.1 h).1)]
    exact Ev.neg (by decide) (Ev.some_bind (Ev.some_bind (Ev.neg (by decide) (Ev.now _))))
theorem RecordLetters {V V' L0 L1 L2 L3 L4 L5 L6 Q7 Q8 R : Prop} (x0 x1 x2 x3 x4 x5 : Int) (x6 : ByteArray) (x7 : List ByteArray) (x8 : List S50) (c : Int) (_ : V) (_ : V') (h : L0 ∧ L1 ∧ L2 ∧ L3 ∧ L4 ∧ L5 ∧ L6 ∧ (x7.length * 16 ≤ 140737488351232 ∧ Q7) ∧ (x8.length * 40 ≤ 140737488351232 ∧ Q8)) (_ : R) : ∃ k, corncriblaw08_RecordLetters.f k x0 x1 x2 x3 x4 x5 x6 x7 x8 c = some true := RecordLettersCore x0 x1 x2 x3 x4 x5 x6 x7 x8 c h.2.2.2.2.2.2.2.1.1 h.2.2.2.2.2.2.2.2.1
end Go.Proofs.Ytbfjbcaabijpfaa.Pure
