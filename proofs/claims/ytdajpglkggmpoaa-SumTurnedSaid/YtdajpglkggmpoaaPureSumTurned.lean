/- For every text and every two numbers: a frame in which bits within 32 that follow one another were turned is refused. No condition. -/
import Derived.Test.YtdajpglkggmpoaaFcorncriblaw05SumTurned
namespace Go.Proofs.Ytdajpglkggmpoaa.Pure
open Go.RowKit Go.Proofs.Ytdajpglkggmpoaa.Al Go.Proofs.Ytdajpglkggmpoaa.Base Go.Proofs.YtdajpglkggmpoaaW.PrintWords
theorem SumTurned (t : ByteArray) (i : Int) (b : Int) (_ : t.size ≤ maxLen) (_ : (Lit.int .i64 i).wf = true) (_ : (Lit.int .i64 b).wf = true) (h : t.size ≤ 140737488351232) (_ : True) (_ : True) : corncriblaw05_SumTurned.f t i b = some true := if_pos h
end Go.Proofs.Ytdajpglkggmpoaa.Pure
