/- DuePlays's plain statement: the walk has it all. -/
import Derived.Test.YtacceeefcelkhaaFcorncriblaw14DuePlays
namespace Go.Proofs.Ytacceeefcelkhaa.Pure
open Go.RowKit Go.Proofs.Ytacceeefcelkhaa.Al Go.Proofs.YtacceeefcelkhaaW.PrintWords
theorem DuePlays {V0 L0 : Prop} (a0 : List S47) (_ : V0) (_ : L0) : corncriblaw14_DuePlays.f a0 = some true := rfl
end Go.Proofs.Ytacceeefcelkhaa.Pure
