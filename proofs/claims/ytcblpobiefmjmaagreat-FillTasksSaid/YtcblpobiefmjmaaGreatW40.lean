/- Texts Z1 to Z4 of this proof, in one file. -/
import Derived.Test.YtcblpobiefmjmaaGreatW12
import Derived.Test.YtcblpobiefmjmaaGreatW14
import Derived.Test.YtcblpobiefmjmaaGreatW15
import Derived.Test.YtcblpobiefmjmaaGreatW27
namespace Go.Proofs.YtcblpobiefmjmaaGreat
set_option maxRecDepth 100000
set_option maxHeartbeats 16000000
end Go.Proofs.YtcblpobiefmjmaaGreat
