/- For every element and every number: an element times itself so many times is the power of 2 of its log, as many times; 255 times it is 1. No condition. -/
import Derived.Test.YtcfkldbcmbgomaaFcorncriblaw01GfPowersOf
namespace Go.Proofs.Ytcfkldbcmbgomaa.Pure
open Go.RowKit Go.Proofs.Ytcfkldbcmbgomaa.Al Go.Proofs.Ytcfkldbcmbgomaa.Base Go.Proofs.YtcfkldbcmbgomaaW.PrintWords
theorem GfPowersOf (a : Int) (n : Int) (v_a : (Lit.int .u8 a).wf = true) (v_n : (Lit.int .i64 n).wf = true) (_ : True) (_ : True) : corncriblaw01_GfPowersOf.f a n = some true := by
  have q_a : 0 ≤ a ∧ a < 256 := by
    have h : 0 ≤ a ∧ a ≤ 255 := by simpa [Lit.wf, IntKind.min, IntKind.max, IntKind.signed, IntKind.bits] using v_a
    omega
  have q_n : -9223372036854775808 ≤ n ∧ n < 9223372036854775808 := by
    have h : -9223372036854775808 ≤ n ∧ n ≤ 9223372036854775807 := by simpa [Lit.wf, IntKind.min, IntKind.max, IntKind.signed, IntKind.bits] using v_n
    omega
  unfold corncriblaw01_GfPowersOf.f
  rw [if_pos ⟨q_a, q_n⟩]
end Go.Proofs.Ytcfkldbcmbgomaa.Pure
