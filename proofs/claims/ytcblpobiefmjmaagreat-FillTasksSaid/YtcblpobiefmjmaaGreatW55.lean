/- Texts A6 to A7 of this proof, in one file. -/
import Derived.Test.YtcblpobiefmjmaaGreatW07
import Derived.Test.YtcblpobiefmjmaaGreatW15
import Derived.Test.YtcblpobiefmjmaaGreatW52
namespace Go.Proofs.YtcblpobiefmjmaaGreat
set_option maxRecDepth 100000
set_option maxHeartbeats 16000000
end Go.Proofs.YtcblpobiefmjmaaGreat
