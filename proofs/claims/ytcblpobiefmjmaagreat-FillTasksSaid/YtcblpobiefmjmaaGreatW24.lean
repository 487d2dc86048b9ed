/- Texts N1 to Reg3 of this proof, in one file. -/
import Derived.Test.YtcblpobiefmjmaaGreatW01
import Derived.Test.YtcblpobiefmjmaaGreatW17
import Derived.Test.YtcblpobiefmjmaaGreatW18
import Derived.Test.YtcblpobiefmjmaaGreatW19
import Derived.Test.YtcblpobiefmjmaaGreatW20
namespace Go.Proofs.YtcblpobiefmjmaaGreat
set_option maxRecDepth 100000
set_option maxHeartbeats 16000000
end Go.Proofs.YtcblpobiefmjmaaGreat
