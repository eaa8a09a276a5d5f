/- NetBytes' plain statement: the walk has it all. -/
import Derived.Test.YtnbomedhehoflaaFcorncriblaw15NetBytes
namespace Go.Proofs.Ytnbomedhehoflaa.Pure
open Go.RowKit Go.Proofs.Ytnbomedhehoflaa.Al Go.Proofs.YtnbomedhehoflaaW.PrintWords
theorem NetBytes {V V' L0 L1 L2 L3 L4 L5 L6 Q7 Q8 : Prop} (x0 x1 x2 x3 x4 x5 : Int) (x6 : ByteArray) (x7 : List ByteArray) (x8 : List S72) (s : ByteArray) (_ : V) (_ : V') (h : L0 ∧ L1 ∧ L2 ∧ L3 ∧ L4 ∧ L5 ∧ L6 ∧ (x7.length * 16 ≤ 140737488351232 ∧ Q7) ∧ (x8.length * 40 ≤ 140737488351232 ∧ Q8)) (hs : s.size ≤ 140737488351232) : corncriblaw15_NetBytes.f x0 x1 x2 x3 x4 x5 x6 x7 x8 s = some true := by
  have h7 := h.2.2.2.2.2.2.2.1.1
  have h8 := h.2.2.2.2.2.2.2.2.1
  exact if_pos ⟨by omega, by omega, by omega⟩
end Go.Proofs.Ytnbomedhehoflaa.Pure
