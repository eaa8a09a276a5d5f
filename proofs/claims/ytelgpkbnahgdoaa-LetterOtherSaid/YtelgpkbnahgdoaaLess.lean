/- Texts by their order: '<=' is 'not greater'. -/
import Derived.Test.YtelgpkbnahgdoaaF0
namespace Go.Proofs.Ytelgpkbnahgdoaa.Al
open Go.RowKit
theorem less_total : ∀ a b : List UInt8, (Op.bytesLess a b || a == b) = !Op.bytesLess b a
  | [], [] => rfl
  | [], _ :: _ => rfl
  | _ :: _, [] => rfl
  | a :: x, b :: y => by
    have ih := less_total x y
    show ((decide (a < b) || (a == b && Op.bytesLess x y)) || (a :: x == b :: y)) = !(decide (b < a) || (b == a && Op.bytesLess y x))
    by_cases hab : a = b
    · subst hab
      have h1 : decide (a < a) = false := decide_eq_false (UInt8.lt_irrefl a)
      simp only [h1, Bool.false_or, beq_self_eq_true, Bool.true_and, List.cons_beq_cons]
      exact ih
    · have h2 : (a == b) = false := by simpa using hab
      have h3 : (b == a) = false := by simpa using fun h => hab h.symm
      simp only [h2, h3, Bool.false_and, Bool.or_false, List.cons_beq_cons]
      by_cases hlt : a < b
      · have : ¬ b < a := fun h => by have h1 := UInt8.lt_iff_toNat_lt.1 hlt; have h2 := UInt8.lt_iff_toNat_lt.1 h; omega
        simp [hlt, this]
      · have : b < a := by
          apply UInt8.lt_iff_toNat_lt.2
          have h1 : ¬ a.toNat < b.toNat := fun h => hlt (UInt8.lt_iff_toNat_lt.2 h)
          have h2 : a.toNat ≠ b.toNat := fun h => hab (UInt8.toNat_inj.1 h)
          omega
        simp [hlt, this]
theorem leq_not (t : TypeId) (a b : ByteArray) : binOp .leq t (.string a) (.string b) = pure (.bool (!Op.bytesLess b.toList a.toList)) := by
  have e : binOp .leq t (.string a) (.string b) = pure (.bool (Op.bytesLess a.toList b.toList || a.toList == b.toList)) := by simp [binOp, Op.stringOp]
  rw [e, less_total]
end Go.Proofs.Ytelgpkbnahgdoaa.Al
