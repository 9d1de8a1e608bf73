/- Walks: the ways up of a tree -/
import Derived.Test.YtgdjcmehlhebdaaGreatDoorY2
set_option maxHeartbeats 25600000
namespace Go.Proofs.YtgdjcmehlhebdaaGreatDoor
open _root_.Go.Proofs.Tryz
open Go.E
set_option maxRecDepth 4000
theorem Tryz.keyU : KeyLaw prog 40 encU := Go.E.keyU underlying40
end Go.Proofs.YtgdjcmehlhebdaaGreatDoor
