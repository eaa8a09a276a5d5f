import Derived.Test.YtdajpglkggmpoaaProg
import Derived.Below
import Derived.Deep.Draws
import Derived.Deep.AppendLies
import Derived.Maps.AppendAt
import Derived.OwnWalk
import Derived.Laws.BytesArg
import Derived.Laws.MakeOwn
import Derived.Laws.OwnMore
import Derived.Deep.OwnRows
import Derived.Tactics
import Derived.Lib.ConvBytes
import Derived.Laws.Slices
import Derived.WalkKit
import Derived.KernelRfl
import Derived.RowKit3
import Derived.Deep.LoopGhost
import Derived.Deep.QuietTactic
import Derived.BigQuiet
import Derived.WideLaws
import Derived.Deep.DeepCutAuto
import Derived.Deep.CutBlock
import Derived.Deep.RegionHeld3
import Derived.Laws.Rows
import Derived.Lib.AppendStr
import Derived.ArgAppend
import Derived.Laws.IdiomCopy
import Derived.OrdersHeld
import Derived.Laws.BitsLemmas
import Derived.RowKit
import Derived.Test.YtdajpglkggmpoaaWWords
import Derived.Test.YtdajpglkggmpoaaWLast
import Derived.Test.YtdajpglkggmpoaaWTab
import Derived.Test.YtdajpglkggmpoaaWFour
import Derived.Test.YtdajpglkggmpoaaWQPut
import Derived.Test.YtdajpglkggmpoaaWApart
import Derived.Test.YtdajpglkggmpoaaWArr
import Derived.Test.YtdajpglkggmpoaaWZeros
import Derived.Test.YtdajpglkggmpoaaWFoot
import Derived.Test.YtdajpglkggmpoaaWKept
import Derived.Test.YtdajpglkggmpoaaWShare
import Derived.Test.YtdajpglkggmpoaaWN
import Derived.Test.YtdajpglkggmpoaaWFootNe
import Derived.Test.YtdajpglkggmpoaaWAt
import Derived.Test.YtdajpglkggmpoaaWEqStruct
import Derived.Test.YtdajpglkggmpoaaWRepsOne
import Derived.Test.YtdajpglkggmpoaaWInv
import Derived.Test.YtdajpglkggmpoaaWInvWords
import Derived.Test.YtdajpglkggmpoaaWGuard
import Derived.Test.YtdajpglkggmpoaaWNEv
import Derived.Test.YtdajpglkggmpoaaWMore
namespace Go.Proofs.Ytdajpglkggmpoaa.Al
open Go.RowKit Go.Proofs.YtdajpglkggmpoaaW.PrintWords Go.Proofs.YtdajpglkggmpoaaW.PrintLast Go.Proofs.YtdajpglkggmpoaaW.PrintMore
attribute [local go_sem] max2_int min2_int max_two min_two max_three min_three max_four min_four   -- for this text's walks alone
set_option linter.unusedVariables false
set_option linter.unusedSimpArgs false



def errW : Option Int → Value
  | none => .nilIface
  | some c => .iface 0 (.int .i64 c)
theorem errW_none : errW none = .nilIface := rfl
theorem errW_some (c : Int) : errW (some c) = .iface 0 (.int .i64 c) := rfl

theorem info3 : (Try.prog.info? 3).map (fun i => (i.zero, i.size, i.bytes)) = some (some (.int .i64 0), 1, 8) := by kernel_rfl
theorem info5 : (Try.prog.info? 5).map (fun i => (i.zero, i.size, i.bytes)) = some (some (.int .u8 0), 1, 1) := by kernel_rfl
theorem info9 : (Try.prog.info? 9).map (fun i => (i.zero, i.size, i.bytes)) = some (some (.string ⟨#[]⟩), 1, 16) := by kernel_rfl
-- the values' own types

theorem bne_nil_ (l : List UInt8) : (l != []) = !l.isEmpty := by cases l <;> rfl
end Go.Proofs.Ytdajpglkggmpoaa.Al
