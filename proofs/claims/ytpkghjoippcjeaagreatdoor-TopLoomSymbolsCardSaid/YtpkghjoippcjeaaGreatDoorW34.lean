/- Texts U6 to U8 of this proof, in one file. -/
import Derived.Test.YtpkghjoippcjeaaGreatDoorW02
import Derived.Test.YtpkghjoippcjeaaGreatDoorW04
import Derived.Test.YtpkghjoippcjeaaGreatDoorW12
import Derived.Test.YtpkghjoippcjeaaGreatDoorW30
import Derived.Test.YtpkghjoippcjeaaGreatDoorW32
import Derived.Test.YtpkghjoippcjeaaGreatDoorW33
import Derived.Deep.CutBlock
import Derived.Deep.CutRange
namespace Go.Proofs.YtpkghjoippcjeaaGreatDoor
set_option maxRecDepth 100000
set_option maxHeartbeats 16000000
end Go.Proofs.YtpkghjoippcjeaaGreatDoor
