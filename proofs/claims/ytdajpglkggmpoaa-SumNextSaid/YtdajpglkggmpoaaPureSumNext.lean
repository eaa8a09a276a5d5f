/- For every text and every number: what Next of the package sum finds at that place is what the reference finds. No condition. -/
import Derived.Test.YtdajpglkggmpoaaSumNextFns
import Derived.Test.YtdajpglkggmpoaaFcorncriblaw05SumNext
namespace Go.Proofs.Ytdajpglkggmpoaa.Pure
open Go.RowKit Go.Proofs.Ytdajpglkggmpoaa.Base Go.Proofs.Ytdajpglkggmpoaa.SumMath Go.Proofs.Ytdajpglkggmpoaa.SumFns Go.Proofs.Ytdajpglkggmpoaa.Al Go.Proofs.YtdajpglkggmpoaaW.PrintWords
theorem SumNext : corncriblaw05_SumNext.Pure := by
  intro s i hs _
  refine Ev.rounds (g := fun k => corncriblaw05_SumNext.f k s i) ?_
  unfold corncriblaw05_SumNext.f
  exact Ev.bind (next_ev s (by omega) i) (Ev.bind (rnext_ev s (by omega) i) (Ev.pos rfl (Ev.pos rfl (Ev.pos rfl (Ev.bind works_ev (Ev.now _))))))
end Go.Proofs.Ytdajpglkggmpoaa.Pure
