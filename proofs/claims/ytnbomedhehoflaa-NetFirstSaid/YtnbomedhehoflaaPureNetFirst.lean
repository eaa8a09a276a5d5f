/- NetFirst's plain statement: the walk has it all. -/
import Derived.Test.YtnbomedhehoflaaFcorncriblaw15NetFirst
namespace Go.Proofs.Ytnbomedhehoflaa.Pure
open Go.RowKit Go.Proofs.Ytnbomedhehoflaa.Al Go.Proofs.YtnbomedhehoflaaW.PrintWords
theorem NetFirst {V0 V1 L0 L1 : Prop} (a0 : Int) (a1 : Bool) (_ : V0) (_ : V1) (_ : L0) (_ : L1) : corncriblaw15_NetFirst.f a0 a1 = some true := rfl
end Go.Proofs.Ytnbomedhehoflaa.Pure
