/- For every two elements and every number: powers whose number is a power of 2 go over sums. No condition. -/
import Derived.Test.YtcfkldbcmbgomaaFcorncriblaw01GfSquares
namespace Go.Proofs.Ytcfkldbcmbgomaa.Pure
open Go.RowKit Go.Proofs.Ytcfkldbcmbgomaa.Al Go.Proofs.Ytcfkldbcmbgomaa.Base Go.Proofs.YtcfkldbcmbgomaaW.PrintWords
theorem GfSquares (a : Int) (b : Int) (n : Int) (v_a : (Lit.int .u8 a).wf = true) (v_b : (Lit.int .u8 b).wf = true) (v_n : (Lit.int .i64 n).wf = true) (_ : True) (_ : True) (_ : True) : corncriblaw01_GfSquares.f a b n = some true := by
  have q_a : 0 ≤ a ∧ a < 256 := by
    have h : 0 ≤ a ∧ a ≤ 255 := by simpa [Lit.wf, IntKind.min, IntKind.max, IntKind.signed, IntKind.bits] using v_a
    omega
  have q_b : 0 ≤ b ∧ b < 256 := by
    have h : 0 ≤ b ∧ b ≤ 255 := by simpa [Lit.wf, IntKind.min, IntKind.max, IntKind.signed, IntKind.bits] using v_b
    omega
  have q_n : -9223372036854775808 ≤ n ∧ n < 9223372036854775808 := by
    have h : -9223372036854775808 ≤ n ∧ n ≤ 9223372036854775807 := by simpa [Lit.wf, IntKind.min, IntKind.max, IntKind.signed, IntKind.bits] using v_n
    omega
  unfold corncriblaw01_GfSquares.f
  rw [if_pos ⟨q_a, q_b, q_n⟩]
end Go.Proofs.Ytcfkldbcmbgomaa.Pure
