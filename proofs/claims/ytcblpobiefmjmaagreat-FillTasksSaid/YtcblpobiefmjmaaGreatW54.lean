/- Texts A5 to A5 of this proof, in one file. -/
import Derived.Test.YtcblpobiefmjmaaGreatW14
import Derived.Test.YtcblpobiefmjmaaGreatW53
namespace Go.Proofs.YtcblpobiefmjmaaGreat
set_option maxRecDepth 100000
set_option maxHeartbeats 16000000
end Go.Proofs.YtcblpobiefmjmaaGreat
