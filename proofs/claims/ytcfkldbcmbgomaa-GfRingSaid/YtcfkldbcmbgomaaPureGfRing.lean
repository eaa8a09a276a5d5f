/- For every three elements: the laws of a field hold of sums and products. No condition. -/
import Derived.Test.YtcfkldbcmbgomaaFcorncriblaw01GfRing
namespace Go.Proofs.Ytcfkldbcmbgomaa.Pure
open Go.RowKit Go.Proofs.Ytcfkldbcmbgomaa.Al Go.Proofs.Ytcfkldbcmbgomaa.Base Go.Proofs.YtcfkldbcmbgomaaW.PrintWords
theorem GfRing (a : Int) (b : Int) (c : Int) (v_a : (Lit.int .u8 a).wf = true) (v_b : (Lit.int .u8 b).wf = true) (v_c : (Lit.int .u8 c).wf = true) (_ : True) (_ : True) (_ : True) : corncriblaw01_GfRing.f a b c = some true := by
  have q_a : 0 ≤ a ∧ a < 256 := by
    have h : 0 ≤ a ∧ a ≤ 255 := by simpa [Lit.wf, IntKind.min, IntKind.max, IntKind.signed, IntKind.bits] using v_a
    omega
  have q_b : 0 ≤ b ∧ b < 256 := by
    have h : 0 ≤ b ∧ b ≤ 255 := by simpa [Lit.wf, IntKind.min, IntKind.max, IntKind.signed, IntKind.bits] using v_b
    omega
  have q_c : 0 ≤ c ∧ c < 256 := by
    have h : 0 ≤ c ∧ c ≤ 255 := by simpa [Lit.wf, IntKind.min, IntKind.max, IntKind.signed, IntKind.bits] using v_c
    omega
  unfold corncriblaw01_GfRing.f
  rw [if_pos ⟨q_a, q_b, q_c⟩]
end Go.Proofs.Ytcfkldbcmbgomaa.Pure
