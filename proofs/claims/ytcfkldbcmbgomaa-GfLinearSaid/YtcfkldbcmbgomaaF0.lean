import Derived.Test.YtcfkldbcmbgomaaProg
import Derived.Below
import Derived.Deep.Draws
import Derived.Deep.AppendLies
import Derived.Maps.AppendAt
import Derived.OwnWalk
import Derived.Laws.BytesArg
import Derived.Laws.MakeOwn
import Derived.Laws.OwnMore
import Derived.Deep.OwnRows
import Derived.Tactics
import Derived.Lib.ConvBytes
import Derived.Laws.Slices
import Derived.WalkKit
import Derived.KernelRfl
import Derived.RowKit3
import Derived.Deep.LoopGhost
import Derived.Deep.QuietTactic
import Derived.BigQuiet
import Derived.WideLaws
import Derived.Deep.DeepCutAuto
import Derived.Deep.CutBlock
import Derived.Deep.RegionHeld3
import Derived.Laws.Rows
import Derived.Lib.AppendStr
import Derived.ArgAppend
import Derived.Laws.IdiomCopy
import Derived.OrdersHeld
import Derived.Laws.BitsLemmas
import Derived.RowKit
import Derived.Test.YtcfkldbcmbgomaaWWords
import Derived.Test.YtcfkldbcmbgomaaWLast
import Derived.Test.YtcfkldbcmbgomaaWTab
import Derived.Test.YtcfkldbcmbgomaaWFour
import Derived.Test.YtcfkldbcmbgomaaWQPut
import Derived.Test.YtcfkldbcmbgomaaWApart
import Derived.Test.YtcfkldbcmbgomaaWArr
import Derived.Test.YtcfkldbcmbgomaaWZeros
import Derived.Test.YtcfkldbcmbgomaaWFoot
import Derived.Test.YtcfkldbcmbgomaaWKept
import Derived.Test.YtcfkldbcmbgomaaWShare
import Derived.Test.YtcfkldbcmbgomaaWN
import Derived.Test.YtcfkldbcmbgomaaWFootNe
import Derived.Test.YtcfkldbcmbgomaaWAt
import Derived.Test.YtcfkldbcmbgomaaWEqStruct
import Derived.Test.YtcfkldbcmbgomaaWRepsOne
import Derived.Test.YtcfkldbcmbgomaaWInv
import Derived.Test.YtcfkldbcmbgomaaWInvWords
import Derived.Test.YtcfkldbcmbgomaaWGuard
import Derived.Test.YtcfkldbcmbgomaaWNEv
import Derived.Test.YtcfkldbcmbgomaaWMore
namespace Go.Proofs.Ytcfkldbcmbgomaa.Al
open Go.RowKit Go.Proofs.YtcfkldbcmbgomaaW.PrintWords Go.Proofs.YtcfkldbcmbgomaaW.PrintLast Go.Proofs.YtcfkldbcmbgomaaW.PrintMore
attribute [local go_sem] max2_int min2_int max_two min_two max_three min_three max_four min_four   -- for this text's walks alone
set_option linter.unusedVariables false
set_option linter.unusedSimpArgs false



def errW : Option Int → Value
  | none => .nilIface
  | some c => .iface 0 (.int .i64 c)
theorem errW_none : errW none = .nilIface := rfl
theorem errW_some (c : Int) : errW (some c) = .iface 0 (.int .i64 c) := rfl

theorem info5 : (Try.prog.info? 5).map (fun i => (i.zero, i.size, i.bytes)) = some (some (.int .u8 0), 1, 1) := by kernel_rfl
-- the values' own types

theorem bne_nil_ (l : List UInt8) : (l != []) = !l.isEmpty := by cases l <;> rfl
end Go.Proofs.Ytcfkldbcmbgomaa.Al
