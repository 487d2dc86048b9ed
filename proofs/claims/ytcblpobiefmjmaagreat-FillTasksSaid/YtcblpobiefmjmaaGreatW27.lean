/- Texts S2 to S4 of this proof, in one file. -/
import Derived.Test.YtcblpobiefmjmaaGreatW16
import Derived.Test.YtcblpobiefmjmaaGreatW17
import Derived.Test.YtcblpobiefmjmaaGreatW18
import Derived.Test.YtcblpobiefmjmaaGreatW23
import Derived.Test.YtcblpobiefmjmaaGreatW26
namespace Go.Proofs.YtcblpobiefmjmaaGreat
set_option maxRecDepth 100000
set_option maxHeartbeats 16000000
end Go.Proofs.YtcblpobiefmjmaaGreat
