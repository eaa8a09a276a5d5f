/- LeasesPlay's plain statement: the walk has it all. -/
import Derived.Test.YtbgilmdmebmcnaaFcorncriblaw17LeasesPlay
namespace Go.Proofs.Ytbgilmdmebmcnaa.Pure
open Go.RowKit Go.Proofs.Ytbgilmdmebmcnaa.Al Go.Proofs.YtbgilmdmebmcnaaW.PrintWords
theorem LeasesPlay {V0 V1 L0 L1 : Prop} (a0 : Int) (a1 : List S41) (_ : V0) (_ : V1) (_ : L0) (_ : L1) : corncriblaw17_LeasesPlay.f a0 a1 = some true := rfl
end Go.Proofs.Ytbgilmdmebmcnaa.Pure
