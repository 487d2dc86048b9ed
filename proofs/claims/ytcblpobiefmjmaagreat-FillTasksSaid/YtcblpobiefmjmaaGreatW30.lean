/- Texts R3 to R5 of this proof, in one file. -/
import Derived.Test.YtcblpobiefmjmaaGreatW04
import Derived.Test.YtcblpobiefmjmaaGreatW06
import Derived.Test.YtcblpobiefmjmaaGreatW08
import Derived.Test.YtcblpobiefmjmaaGreatW23
namespace Go.Proofs.YtcblpobiefmjmaaGreat
set_option maxRecDepth 100000
set_option maxHeartbeats 16000000
end Go.Proofs.YtcblpobiefmjmaaGreat
