/- For every number of nodes, who asks, transaction and letters: what follows of what nodes told is as the reference has it; the letters stay as they are. No condition. -/
import Derived.Test.YtdecpagcaondiaaPte
import Derived.Test.YtdecpagcaondiaaFcorncriblaw21TermTold
namespace Go.Proofs.Ytdecpagcaondiaa.Pure
open Go.RowKit Go.Proofs.Ytdecpagcaondiaa.Base Go.Proofs.Ytdecpagcaondiaa.Al Go.Proofs.Ytdecpagcaondiaa.LetSpec Go.Proofs.Ytdecpagcaondiaa.TermSpec Go.Proofs.Ytdecpagcaondiaa.TermRef Go.Proofs.YtdecpagcaondiaaW.PrintWords
set_option linter.unusedVariables false
set_option linter.unusedSimpArgs false
theorem TermToldCore (nodes me txn : Int) (l : List S34) (hl : l.length * 112 ≤ 140737488351232) (h : ∀ x ∈ l, x.f7.length * 16 ≤ 140737488351232 ∧ x.f8.length * 40 ≤ 140737488351232) : ∃ k, corncriblaw21_TermTold.f k nodes me txn l = some true := by
  have hf := fits_of h
  have hs := lenOk_of h
  have hl' : l.length < 1256584717458 := by omega
  refine Ev.rounds (g := fun k => corncriblaw21_TermTold.f k nodes me txn l) ?_
  unfold corncriblaw21_TermTold.f
  refine Ev.bind (copied_ev l hl' hf) ?_
  rw [show term_Told.f nodes me txn l = some (toldL nodes me txn l) from if_pos hs, works21]
  exact Ev.some_bind (Ev.bind (rtold_ev nodes me txn l hs) (Ev.pos rfl (Ev.pos rfl (Ev.pos rfl (Ev.bind (sameLs_ev l hl' hf) (Ev.pos rfl (Ev.some_bind (Ev.now _))))))))
theorem TermTold {V0 V1 U0 : Prop} {L0 L1 L2 L3 L4 L5 L6 Q7 Q8 : S34 → Prop} (nodes me txn : Int) (l : List S34) (_ : V0) (_ : V1) (_ : U0) (h : l.length * 112 ≤ 140737488351232 ∧ ∀ x ∈ l, L0 x ∧ L1 x ∧ L2 x ∧ L3 x ∧ L4 x ∧ L5 x ∧ L6 x ∧ (x.f7.length * 16 ≤ 140737488351232 ∧ Q7 x) ∧ (x.f8.length * 40 ≤ 140737488351232 ∧ Q8 x)) : ∃ k, corncriblaw21_TermTold.f k nodes me txn l = some true :=
  TermToldCore nodes me txn l h.1 fun x hx => ⟨(h.2 x hx).2.2.2.2.2.2.2.1.1, (h.2 x hx).2.2.2.2.2.2.2.2.1⟩
end Go.Proofs.Ytdecpagcaondiaa.Pure
