/- For every text: what its bytes are as a pack, or where they are none, is what the reference says. No condition. -/
import Derived.Test.YtjjgpleaidledaaPkb
import Derived.Test.YtjjgpleaidledaaFcorncriblaw06PackReads
namespace Go.Proofs.Ytjjgpleaidledaa.Pure
open Go.RowKit Go.Proofs.Ytjjgpleaidledaa.Base Go.Proofs.Ytjjgpleaidledaa.PackMath Go.Proofs.Ytjjgpleaidledaa.PackDec Go.Proofs.Ytjjgpleaidledaa.PackFns Go.Proofs.Ytjjgpleaidledaa.Al Go.Proofs.YtjjgpleaidledaaW.PrintWords
theorem PackReads (s : ByteArray) (_ : s.size ≤ maxLen) (hs : s.size ≤ 140737488351232) : ∃ k, corncriblaw06_PackReads.f k s = some true := by
  refine Ev.rounds (g := fun k => corncriblaw06_PackReads.f k s) ?_
  obtain ⟨h1, h2⟩ := dec_len s
  have hsm := same_ev (dec s).1 (dec s).2.1 (by omega) (by omega)
  unfold corncriblaw06_PackReads.f
  rw [decode_eq s (by omega), rdecode_eq s (by omega)]
  exact Ev.some_bind (Ev.some_bind (Ev.bind hsm (Ev.pos rfl (Ev.pos rfl (Ev.pos rfl (Ev.bind packWorks_ev (Ev.now _)))))))
end Go.Proofs.Ytjjgpleaidledaa.Pure
