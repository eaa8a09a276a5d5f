/- For every text of fewer than 1048576 bytes: all frames of it, and where they end, are those of the reference. -/
import Derived.Test.YtdajpglkggmpoaaSumAllFns
import Derived.Test.YtdajpglkggmpoaaFcorncriblaw05SumAll
namespace Go.Proofs.Ytdajpglkggmpoaa.Pure
open Go.RowKit Go.Proofs.Ytdajpglkggmpoaa.Base Go.Proofs.Ytdajpglkggmpoaa.SumMath Go.Proofs.Ytdajpglkggmpoaa.SumFns Go.Proofs.Ytdajpglkggmpoaa.Al Go.Proofs.YtdajpglkggmpoaaW.PrintWords
theorem SumAll (s : ByteArray) (_ : s.size ≤ maxLen) (hb : s.size + 1 ≤ 1048576) : ∃ k, corncriblaw05_SumAll.f k s = some true := by
  have hs : s.size ≤ 8796093022000 := by omega
  refine Ev.rounds (g := fun k => corncriblaw05_SumAll.f k s) ?_
  obtain ⟨r, h1, h2, h3⟩ := all_both s hs s.size [] 0 (by omega) (by omega) (by simp)
  unfold corncriblaw05_SumAll.f
  exact Ev.bind (f := fun k bt208 => _) (show Ev (fun k => sum_All.f k s) r from h1) (Ev.bind (show Ev (fun k => corncribref05_All.f k s) r from h2) (Ev.bind (same_ev r.1 (by omega)) (Ev.pos rfl (Ev.pos rfl (Ev.pos rfl (Ev.bind works_ev (Ev.now _)))))))
end Go.Proofs.Ytdajpglkggmpoaa.Pure
