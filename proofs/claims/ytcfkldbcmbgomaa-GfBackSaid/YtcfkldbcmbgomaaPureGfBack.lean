/- For every two elements: inverses and quotients go back, and a product is 0 just if one of both is. No condition. -/
import Derived.Test.YtcfkldbcmbgomaaFcorncriblaw01GfBack
namespace Go.Proofs.Ytcfkldbcmbgomaa.Pure
open Go.RowKit Go.Proofs.Ytcfkldbcmbgomaa.Al Go.Proofs.Ytcfkldbcmbgomaa.Base Go.Proofs.YtcfkldbcmbgomaaW.PrintWords
theorem GfBack (a : Int) (b : Int) (v_a : (Lit.int .u8 a).wf = true) (v_b : (Lit.int .u8 b).wf = true) (_ : True) (_ : True) : corncriblaw01_GfBack.f a b = some true := by
  have q_a : 0 ≤ a ∧ a < 256 := by
    have h : 0 ≤ a ∧ a ≤ 255 := by simpa [Lit.wf, IntKind.min, IntKind.max, IntKind.signed, IntKind.bits] using v_a
    omega
  have q_b : 0 ≤ b ∧ b < 256 := by
    have h : 0 ≤ b ∧ b ≤ 255 := by simpa [Lit.wf, IntKind.min, IntKind.max, IntKind.signed, IntKind.bits] using v_b
    omega
  unfold corncriblaw01_GfBack.f
  rw [if_pos ⟨q_a, q_b⟩]
end Go.Proofs.Ytcfkldbcmbgomaa.Pure
