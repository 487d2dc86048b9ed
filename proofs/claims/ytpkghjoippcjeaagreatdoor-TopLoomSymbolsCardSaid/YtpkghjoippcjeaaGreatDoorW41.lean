/- Texts B10 to B11 of this proof, in one file. -/
import Derived.Test.YtpkghjoippcjeaaGreatDoorW02
import Derived.Test.YtpkghjoippcjeaaGreatDoorW09
import Derived.Test.YtpkghjoippcjeaaGreatDoorW30
import Derived.Test.YtpkghjoippcjeaaGreatDoorW33
import Derived.Test.YtpkghjoippcjeaaGreatDoorW34
import Derived.Test.YtpkghjoippcjeaaGreatDoorW36
import Derived.Test.YtpkghjoippcjeaaGreatDoorW38
import Derived.Test.YtpkghjoippcjeaaGreatDoorW39
namespace Go.Proofs.YtpkghjoippcjeaaGreatDoor
set_option maxRecDepth 100000
set_option maxHeartbeats 16000000
end Go.Proofs.YtpkghjoippcjeaaGreatDoor
