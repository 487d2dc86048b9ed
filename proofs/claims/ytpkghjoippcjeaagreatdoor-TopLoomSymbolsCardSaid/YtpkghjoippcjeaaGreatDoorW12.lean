/- Texts L1 to T5 of this proof, in one file. -/
import Derived.Test.YtpkghjoippcjeaaGreatDoorW02
import Derived.Test.YtpkghjoippcjeaaGreatDoorW03
import Derived.Test.YtpkghjoippcjeaaGreatDoorW08
import Derived.Test.YtpkghjoippcjeaaGreatDoorW11
import Derived.Below
namespace Go.Proofs.YtpkghjoippcjeaaGreatDoor
set_option maxRecDepth 100000
set_option maxHeartbeats 16000000
end Go.Proofs.YtpkghjoippcjeaaGreatDoor
