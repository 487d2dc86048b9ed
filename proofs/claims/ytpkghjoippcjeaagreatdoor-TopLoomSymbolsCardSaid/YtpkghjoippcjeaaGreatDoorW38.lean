/- Texts Reg5 to Reg5 of this proof, in one file. -/
import Derived.Test.YtpkghjoippcjeaaGreatDoorW09
namespace Go.Proofs.YtpkghjoippcjeaaGreatDoor
set_option maxRecDepth 100000
set_option maxHeartbeats 16000000
end Go.Proofs.YtpkghjoippcjeaaGreatDoor
