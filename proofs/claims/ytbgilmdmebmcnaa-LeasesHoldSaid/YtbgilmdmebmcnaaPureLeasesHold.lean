/- LeasesHold's plain statement: the walk has it all. -/
import Derived.Test.YtbgilmdmebmcnaaFcorncriblaw17LeasesHold
namespace Go.Proofs.Ytbgilmdmebmcnaa.Pure
open Go.RowKit Go.Proofs.Ytbgilmdmebmcnaa.Al Go.Proofs.YtbgilmdmebmcnaaW.PrintWords
theorem LeasesHold {V0 V1 V2 L0 L1 L2 : Prop} (a0 : Int) (a1 : List S31) (a2 : Int) (_ : V0) (_ : V1) (_ : V2) (_ : L0) (_ : L1) (_ : L2) : corncriblaw17_LeasesHold.f a0 a1 a2 = some true := rfl
end Go.Proofs.Ytbgilmdmebmcnaa.Pure
