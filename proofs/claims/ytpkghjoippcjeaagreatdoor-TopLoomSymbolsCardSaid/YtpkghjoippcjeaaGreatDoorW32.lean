/- Texts U1 to U2 of this proof, in one file. -/
import Derived.Test.YtpkghjoippcjeaaGreatDoorW02
import Derived.Test.YtpkghjoippcjeaaGreatDoorW03
import Derived.Test.YtpkghjoippcjeaaGreatDoorW12
namespace Go.Proofs.YtpkghjoippcjeaaGreatDoor
set_option maxRecDepth 100000
set_option maxHeartbeats 16000000
end Go.Proofs.YtpkghjoippcjeaaGreatDoor
