/- Texts A1 to A3 of this proof, in one file. -/
import Derived.Test.YtpkghjoippcjeaaGreatDoorW18
namespace Go.Proofs.YtpkghjoippcjeaaGreatDoor
set_option maxRecDepth 100000
set_option maxHeartbeats 16000000
end Go.Proofs.YtpkghjoippcjeaaGreatDoor
