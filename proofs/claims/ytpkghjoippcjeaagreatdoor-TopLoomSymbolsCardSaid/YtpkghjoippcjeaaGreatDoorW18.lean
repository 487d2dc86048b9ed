/- Texts Z1 to Z4 of this proof, in one file. -/
import Derived.Test.YtpkghjoippcjeaaGreatDoorW05
import Derived.Test.YtpkghjoippcjeaaGreatDoorW11
namespace Go.Proofs.YtpkghjoippcjeaaGreatDoor
set_option maxRecDepth 100000
set_option maxHeartbeats 16000000
end Go.Proofs.YtpkghjoippcjeaaGreatDoor
