/- NetTruth's plain statement: the walk has it all. -/
import Derived.Test.YtnbomedhehoflaaFcorncriblaw15NetTruth
namespace Go.Proofs.Ytnbomedhehoflaa.Pure
open Go.RowKit Go.Proofs.Ytnbomedhehoflaa.Al Go.Proofs.YtnbomedhehoflaaW.PrintWords
theorem NetTruth {V0 L0 : Prop} (a0 : List S41) (_ : V0) (_ : L0) : corncriblaw15_NetTruth.f a0 = some true := rfl
end Go.Proofs.Ytnbomedhehoflaa.Pure
