/- For every element and every two texts: sums of products go over sums, and over what is scaled, place by place. No condition. -/
import Derived.Test.YtcfkldbcmbgomaaFcorncriblaw01GfLinear
namespace Go.Proofs.Ytcfkldbcmbgomaa.Pure
open Go.RowKit Go.Proofs.Ytcfkldbcmbgomaa.Al Go.Proofs.Ytcfkldbcmbgomaa.Base Go.Proofs.YtcfkldbcmbgomaaW.PrintWords
theorem GfLinear (a : Int) (s : ByteArray) (t : ByteArray) (v_a : (Lit.int .u8 a).wf = true) (_ : s.size ≤ maxLen) (_ : t.size ≤ maxLen) (_ : True) (l_s : s.size ≤ 140737488351232) (l_t : t.size ≤ 140737488351232) : corncriblaw01_GfLinear.f a s t = some true := by
  have q_a : 0 ≤ a ∧ a < 256 := by
    have h : 0 ≤ a ∧ a ≤ 255 := by simpa [Lit.wf, IntKind.min, IntKind.max, IntKind.signed, IntKind.bits] using v_a
    omega
  have q_s := l_s
  have q_t := l_t
  unfold corncriblaw01_GfLinear.f
  rw [if_pos ⟨q_a, q_s, q_t⟩]
end Go.Proofs.Ytcfkldbcmbgomaa.Pure
