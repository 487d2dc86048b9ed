/- Texts J137 to J166 of this proof, in one file. -/
import Derived.Test.YtpkghjoippcjeaaGreatDoorW06
import Derived.Test.YtpkghjoippcjeaaGreatDoorW24
import Derived.Test.YtpkghjoippcjeaaGreatDoorW54
import Derived.Test.YtpkghjoippcjeaaGreatDoorW55
import Derived.Test.YtpkghjoippcjeaaGreatDoorW56
import Derived.Test.YtpkghjoippcjeaaGreatDoorW57
import Derived.Test.YtpkghjoippcjeaaGreatDoorW58
import Derived.Test.YtpkghjoippcjeaaGreatDoorW59
import Derived.Test.YtpkghjoippcjeaaGreatDoorW60
import Derived.Laws.IdiomArrays
import Derived.Deep.CutRange
namespace Go.Proofs.YtpkghjoippcjeaaGreatDoor
set_option maxRecDepth 100000
set_option maxHeartbeats 16000000
end Go.Proofs.YtpkghjoippcjeaaGreatDoor
