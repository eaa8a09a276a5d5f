/- For every element and every two texts: sums of products, and what is scaled, are those of the document. No condition. -/
import Derived.Test.YtcfkldbcmbgomaaFcorncriblaw01GfTexts
namespace Go.Proofs.Ytcfkldbcmbgomaa.Pure
open Go.RowKit Go.Proofs.Ytcfkldbcmbgomaa.Al Go.Proofs.Ytcfkldbcmbgomaa.Base Go.Proofs.YtcfkldbcmbgomaaW.PrintWords
theorem GfTexts (a : Int) (s : ByteArray) (t : ByteArray) (v_a : (Lit.int .u8 a).wf = true) (_ : s.size ≤ maxLen) (_ : t.size ≤ maxLen) (_ : True) (l_s : s.size ≤ 140737488351232) (l_t : t.size ≤ 140737488351232) : corncriblaw01_GfTexts.f a s t = some true := by
  have q_a : 0 ≤ a ∧ a < 256 := by
    have h : 0 ≤ a ∧ a ≤ 255 := by simpa [Lit.wf, IntKind.min, IntKind.max, IntKind.signed, IntKind.bits] using v_a
    omega
  have q_s := l_s
  have q_t := l_t
  unfold corncriblaw01_GfTexts.f
  rw [if_pos ⟨q_a, q_s, q_t⟩]
end Go.Proofs.Ytcfkldbcmbgomaa.Pure
