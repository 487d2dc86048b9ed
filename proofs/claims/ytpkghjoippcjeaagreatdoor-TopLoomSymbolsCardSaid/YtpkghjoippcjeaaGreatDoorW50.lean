/- Texts B22 to B23 of this proof, in one file. -/
import Derived.Test.YtpkghjoippcjeaaGreatDoorW13
import Derived.Test.YtpkghjoippcjeaaGreatDoorW42
namespace Go.Proofs.YtpkghjoippcjeaaGreatDoor
set_option maxRecDepth 100000
set_option maxHeartbeats 16000000
end Go.Proofs.YtpkghjoippcjeaaGreatDoor
