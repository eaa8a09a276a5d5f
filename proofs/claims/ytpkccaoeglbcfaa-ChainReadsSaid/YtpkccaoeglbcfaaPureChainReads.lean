/- For every slice of versions and every time: what counts of the time, what a sweep leaves, and the last time, are as the document has it. No condition. -/
import Derived.Test.YtpkccaoeglbcfaaChainFns
import Derived.Test.YtpkccaoeglbcfaaFcorncriblaw11ChainReads
namespace Go.Proofs.Ytpkccaoeglbcfaa.Pure
open Go.RowKit Go.Proofs.Ytpkccaoeglbcfaa.Base Go.Proofs.Ytpkccaoeglbcfaa.ChainMath Go.Proofs.Ytpkccaoeglbcfaa.ChainFns Go.Proofs.Ytpkccaoeglbcfaa.Al Go.Proofs.YtpkccaoeglbcfaaW.PrintWords Go.Proofs.YtpkccaoeglbcfaaW.PrintLast Go.Proofs.YtpkccaoeglbcfaaW.PrintMore
theorem sweepR_len (l : List S25) (t : Int) : (sweepR l t).1.length ≤ l.length := by
  unfold sweepR
  split
  · unfold sweep; rw [List.length_drop]; omega
  · simp
theorem ChainReadsCore (l : List S25) (t : Int) (h : l.length * 32 ≤ 140737488351232) : ∃ k, corncriblaw11_ChainReads.f k l t = some true := by
  refine Ev.rounds (g := fun k => corncriblaw11_ChainReads.f k l t) ?_
  have hn := sweepR_len l t
  obtain ⟨r, hr⟩ := spoil_ev (sweepR l t).1 (by omega)
  unfold corncriblaw11_ChainReads.f
  rw [lend_eq l h]
  exact Ev.some_bind (Ev.bind (at_ev l t) (Ev.bind (rat_ev l t) (Ev.bind (sweep_ev l t) (Ev.bind (rsweep_ev l t) (Ev.bind (last_ev l) (Ev.bind (rlast_ev l) (Ev.pos (by simp) (Ev.pos (by simp) (Ev.pos rfl (Ev.bind (sameV_ev _ (by omega)) (Ev.pos rfl (Ev.pos rfl (Ev.pos rfl (Ev.bind hr (Ev.pos rfl (Ev.bind (kept_ev l (by omega)) (Ev.pos rfl (Ev.bind works_ev (Ev.now _)))))))))))))))))))
theorem ChainReads {V1 V2 L2 : Prop} {Q : S25 → Prop} (l : List S25) (t : Int) (_ : V1) (_ : V2) (h : l.length * 32 ≤ 140737488351232 ∧ ∀ a ∈ l, Q a) (_ : L2) : ∃ k, corncriblaw11_ChainReads.f k l t = some true := ChainReadsCore l t h.1
end Go.Proofs.Ytpkccaoeglbcfaa.Pure
