/- Texts J167 to J176 of this proof, in one file. -/
import Derived.Test.YtpkghjoippcjeaaGreatDoorW06
import Derived.Test.YtpkghjoippcjeaaGreatDoorW12
import Derived.Test.YtpkghjoippcjeaaGreatDoorW19
import Derived.Test.YtpkghjoippcjeaaGreatDoorW42
import Derived.Test.YtpkghjoippcjeaaGreatDoorW57
import Derived.Test.YtpkghjoippcjeaaGreatDoorW59
import Derived.Test.YtpkghjoippcjeaaGreatDoorW60
import Derived.Test.YtpkghjoippcjeaaGreatDoorW61
import Derived.Laws.IdiomArrays
import Derived.Deep.CutRange
namespace Go.Proofs.YtpkghjoippcjeaaGreatDoor
set_option maxRecDepth 100000
set_option maxHeartbeats 16000000
section
end
end Go.Proofs.YtpkghjoippcjeaaGreatDoor
