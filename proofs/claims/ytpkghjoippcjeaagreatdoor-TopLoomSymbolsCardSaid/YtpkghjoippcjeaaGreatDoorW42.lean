/- Texts B6 to Reg6 of this proof, in one file. -/
import Derived.Test.YtpkghjoippcjeaaGreatDoorW09
import Derived.Test.YtpkghjoippcjeaaGreatDoorW15
import Derived.Test.YtpkghjoippcjeaaGreatDoorW36
namespace Go.Proofs.YtpkghjoippcjeaaGreatDoor
set_option maxRecDepth 100000
set_option maxHeartbeats 16000000
section
open Go Go.RowKit
section
variable {P:Program} {ops:Array Oper} {Q:Exit→Act→World→Prop} {md:Region.Mode} {S:World→Prop}
end
end
end Go.Proofs.YtpkghjoippcjeaaGreatDoor
