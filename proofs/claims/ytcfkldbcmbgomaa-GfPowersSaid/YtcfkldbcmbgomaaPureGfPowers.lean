/- For every number and element: the power of 2 and the log are those of the document. No condition. -/
import Derived.Test.YtcfkldbcmbgomaaFcorncriblaw01GfPowers
namespace Go.Proofs.Ytcfkldbcmbgomaa.Pure
open Go.RowKit Go.Proofs.Ytcfkldbcmbgomaa.Al Go.Proofs.Ytcfkldbcmbgomaa.Base Go.Proofs.YtcfkldbcmbgomaaW.PrintWords
theorem GfPowers (n : Int) (a : Int) (v_n : (Lit.int .i64 n).wf = true) (v_a : (Lit.int .u8 a).wf = true) (_ : True) (_ : True) : corncriblaw01_GfPowers.f n a = some true := by
  have q_n : -9223372036854775808 ≤ n ∧ n < 9223372036854775808 := by
    have h : -9223372036854775808 ≤ n ∧ n ≤ 9223372036854775807 := by simpa [Lit.wf, IntKind.min, IntKind.max, IntKind.signed, IntKind.bits] using v_n
    omega
  have q_a : 0 ≤ a ∧ a < 256 := by
    have h : 0 ≤ a ∧ a ≤ 255 := by simpa [Lit.wf, IntKind.min, IntKind.max, IntKind.signed, IntKind.bits] using v_a
    omega
  unfold corncriblaw01_GfPowers.f
  rw [if_pos ⟨q_n, q_a⟩]
end Go.Proofs.Ytcfkldbcmbgomaa.Pure
