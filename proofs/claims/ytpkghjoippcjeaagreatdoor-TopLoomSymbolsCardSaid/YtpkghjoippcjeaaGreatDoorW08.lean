/- Texts R1 to S0 of this proof, in one file. -/
import Derived.Test.YtpkghjoippcjeaaGreatDoorW03
import Derived.Test.YtpkghjoippcjeaaGreatDoorW04
import Derived.Deep.CutBlock
import Derived.Deep.CutRange
namespace Go.Proofs.YtpkghjoippcjeaaGreatDoor
set_option maxRecDepth 100000
set_option maxHeartbeats 16000000
end Go.Proofs.YtpkghjoippcjeaaGreatDoor
