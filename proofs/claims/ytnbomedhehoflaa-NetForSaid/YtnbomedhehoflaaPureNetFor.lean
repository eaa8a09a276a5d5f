/- NetFor's plain statement: the walk has it all. -/
import Derived.Test.YtnbomedhehoflaaFcorncriblaw15NetFor
namespace Go.Proofs.Ytnbomedhehoflaa.Pure
open Go.RowKit Go.Proofs.Ytnbomedhehoflaa.Al Go.Proofs.YtnbomedhehoflaaW.PrintWords
theorem NetFor {V0 L0 : Prop} (a0 : List Int) (_ : V0) (_ : L0) : corncriblaw15_NetFor.f a0 = some true := rfl
end Go.Proofs.Ytnbomedhehoflaa.Pure
