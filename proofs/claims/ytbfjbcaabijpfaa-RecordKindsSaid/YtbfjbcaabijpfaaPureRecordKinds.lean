/- For every record and every number: a record that may be of one kind may be of no other one, unless both are of transactions, or both of numbers alone. No condition. -/
import Derived.Test.YtbfjbcaabijpfaaPlc
import Derived.Test.YtbfjbcaabijpfaaAmg
import Derived.Test.YtbfjbcaabijpfaaFcorncriblaw08RecordKinds
namespace Go.Proofs.Ytbfjbcaabijpfaa.Pure
open Go.RowKit Go.Proofs.Ytbfjbcaabijpfaa.Base Go.Proofs.Ytbfjbcaabijpfaa.Amg Go.Proofs.Ytbfjbcaabijpfaa.LetSpec Go.Proofs.Ytbfjbcaabijpfaa.RecSpec Go.Proofs.Ytbfjbcaabijpfaa.Al Go.Proofs.YtbfjbcaabijpfaaW.PrintWords
set_option linter.unusedVariables false
set_option linter.unusedSimpArgs false
def ofB (k : Int) : Bool := decide (k = 1 ∨ k = 2 ∨ k = 5 ∨ k = 6)
theorem of_eq (k : Int) : corncriblaw08_of.f k = some (ofB k) := by
  unfold corncriblaw08_of.f ofB
  by_cases h1 : k = 1
  · rw [if_pos h1, decide_eq_true (.inl h1)]
  rw [if_neg h1]
  by_cases h2 : k = 2
  · rw [if_pos h2, decide_eq_true (.inr (.inl h2))]
  rw [if_neg h2]
  by_cases h5 : k = 5
  · rw [if_pos h5, decide_eq_true (.inr (.inr (.inl h5)))]
  rw [if_neg h5]
  by_cases h6 : k = 6
  · rw [decide_eq_true (.inr (.inr (.inr h6)))]; subst h6; rfl
  · rw [decide_eq_false (by omega)]; simp [h6]
section
variable {k a1 a2 a3 : Int} {a4 a5 : ByteArray} {a6 : Bool} {l7 : List ByteArray} {l8 : List S50}
theorem ok_told (h : okK k a1 a2 a3 a4 a5 a6 l7 l8) : ((ofB k = true ∧ 0 < a1) ∨ (ofB k = false ∧ a1 = 0)) ∧ ((k = 3 ∧ keyB a4 = true) ∨ (¬ k = 3 ∧ a4.toList = [])) := by
  unfold okK at h
  by_cases n1 : k = 1
  · rw [if_pos n1] at h; subst n1; exact ⟨.inl ⟨rfl, h.2.1⟩, .inr ⟨by omega, h.2.2.1⟩⟩
  rw [if_neg n1] at h
  by_cases n2 : k = 2
  · rw [if_pos n2] at h; subst n2; exact ⟨.inl ⟨rfl, h.2.1⟩, .inr ⟨by omega, h.2.2.2.1⟩⟩
  rw [if_neg n2] at h
  by_cases n5 : k = 5
  · rw [if_pos n5] at h; subst n5; exact ⟨.inl ⟨rfl, h.2.1⟩, .inr ⟨by omega, h.2.2.2.2.1⟩⟩
  rw [if_neg n5] at h
  by_cases n6 : k = 6
  · rw [if_pos n6] at h; subst n6; exact ⟨.inl ⟨rfl, h.2.1⟩, .inr ⟨by omega, h.2.2.2.2.1⟩⟩
  rw [if_neg n6] at h
  by_cases n3 : k = 3
  · rw [if_pos n3] at h; subst n3; exact ⟨.inr ⟨rfl, h.2.2.2.2.2.1⟩, .inl ⟨rfl, h.2.2.1⟩⟩
  rw [if_neg n3] at h
  by_cases n4 : k = 4
  · rw [if_pos n4] at h; subst n4; exact ⟨.inr ⟨rfl, h.2.1⟩, .inr ⟨by omega, h.2.2.2.1⟩⟩
  rw [if_neg n4] at h
  by_cases n7 : k = 7
  · rw [if_pos n7] at h; subst n7; exact ⟨.inr ⟨rfl, h.2.2.1⟩, .inr ⟨by omega, h.2.2.2.2.1⟩⟩
  rw [if_neg n7] at h
  exact h.elim
theorem key_some {s : ByteArray} (h : keyB s = true) (e : s.toList = []) : False := by
  have h1 := (empty_iff s).1 e
  unfold keyB at h
  have := of_decide_eq_true h
  omega
end
theorem RecordKindsCore (x0 x1 x2 x3 : Int) (x4 x5 : ByteArray) (x6 : Bool) (x7 : List ByteArray) (x8 : List S50) (a : Int) (h7 : x7.length * 16 ≤ 140737488351232) (h8 : x8.length * 40 ≤ 140737488351232) : ∃ k, corncriblaw08_RecordKinds.f k x0 x1 x2 x3 x4 x5 x6 x7 x8 a = some true := by
  refine Ev.rounds (g := fun k => corncriblaw08_RecordKinds.f k x0 x1 x2 x3 x4 x5 x6 x7 x8 a) ?_
  unfold corncriblaw08_RecordKinds.f
  refine Ev.bind worksR_ev (Ev.pos rfl ?_)
  rw [rcheck_eq _ _ _ _ _ _ _ _ _ (by omega) (by omega), among_eq a 7 (by omega) (by omega)]
  refine Ev.some_bind ?_
  by_cases c1 : okR x0 x1 x2 x3 x4 x5 x6 x7 x8
  case neg => exact Ev.neg (by rw [if_neg c1]; decide) (Ev.now _)
  refine Ev.pos (if_pos c1) (Ev.some_bind ?_)
  have hm0 := Int.emod_nonneg a (show (7 : Int) ≠ 0 by omega)
  have hm1 := Int.emod_lt_of_pos a (show (0 : Int) < 7 by omega)
  rw [show wrap64 (1 + a % 7) = 1 + a % 7 from wrap_id (by omega) (by omega)]
  by_cases c2 : 1 + a % 7 = x0
  · refine Ev.pos c2 (LetSpec.Ev.succ ?_)
    simp only [corncriblaw08_RecordKinds.j0]
    exact Ev.pos (by trivial) (Ev.now _)
  refine Ev.neg c2 ?_
  rw [rcheck_eq _ _ _ _ _ _ _ _ _ (by omega) (by omega)]
  refine Ev.some_bind (LetSpec.Ev.succ ?_)
  simp only [corncriblaw08_RecordKinds.j0]
  by_cases c3 : okR (1 + a % 7) x1 x2 x3 x4 x5 x6 x7 x8
  case neg => exact Ev.pos (by rw [if_neg c3]; rfl) (Ev.now _)
  refine Ev.neg (by rw [if_pos c3]; decide) ?_
  rw [of_eq, of_eq]
  refine Ev.some_bind (Ev.some_bind ?_)
  obtain ⟨t1, u1⟩ := ok_told c1.2
  obtain ⟨t2, u2⟩ := ok_told c3.2
  have e : ofB x0 = ofB (1 + a % 7) := by
    rcases t1 with ⟨h1, g1⟩ | ⟨h1, g1⟩ <;> rcases t2 with ⟨h2, g2⟩ | ⟨h2, g2⟩
    · rw [h1, h2]
    · omega
    · omega
    · rw [h1, h2]
  rw [e, beq_self_eq_true]
  have n3 : ¬ x0 = 3 := fun h => by
    rcases u1 with ⟨_, k1⟩ | ⟨k1, _⟩
    · rcases u2 with ⟨k2, _⟩ | ⟨_, k2⟩
      · omega
      · exact key_some k1 k2
    · exact k1 h
  have m3 : ¬ (1 + a % 7) = 3 := fun h => by
    rcases u2 with ⟨_, k1⟩ | ⟨k1, _⟩
    · rcases u1 with ⟨k2, _⟩ | ⟨_, k2⟩
      · omega
      · exact key_some k1 k2
    · exact k1 h
  refine Ev.pos (by trivial) (Ev.neg n3 ?_)
  rw [bne_iff_ne.2 m3]
  exact Ev.now _
theorem RecordKinds {V V' L0 L1 L2 L3 L4 L5 L6 Q7 Q8 R : Prop} (x0 x1 x2 x3 : Int) (x4 x5 : ByteArray) (x6 : Bool) (x7 : List ByteArray) (x8 : List S50) (a : Int) (_ : V) (_ : V') (h : L0 ∧ L1 ∧ L2 ∧ L3 ∧ L4 ∧ L5 ∧ L6 ∧ (x7.length * 16 ≤ 140737488351232 ∧ Q7) ∧ (x8.length * 40 ≤ 140737488351232 ∧ Q8)) (_ : R) : ∃ k, corncriblaw08_RecordKinds.f k x0 x1 x2 x3 x4 x5 x6 x7 x8 a = some true := RecordKindsCore x0 x1 x2 x3 x4 x5 x6 x7 x8 a h.2.2.2.2.2.2.2.1.1 h.2.2.2.2.2.2.2.2.1
end Go.Proofs.Ytbfjbcaabijpfaa.Pure
