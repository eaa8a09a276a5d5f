/- DueAll's plain statement: the walk has it all. -/
import Derived.Test.YtacceeefcelkhaaFcorncriblaw14DueAll
namespace Go.Proofs.Ytacceeefcelkhaa.Pure
open Go.RowKit Go.Proofs.Ytacceeefcelkhaa.Al Go.Proofs.YtacceeefcelkhaaW.PrintWords
theorem DueAll {V0 V1 L0 L1 : Prop} (a0 : List S29) (a1 : List Int) (_ : V0) (_ : V1) (_ : L0) (_ : L1) : corncriblaw14_DueAll.f a0 a1 = some true := rfl
end Go.Proofs.Ytacceeefcelkhaa.Pure
