/- Texts B2 to B2 of this proof, in one file. -/
import Derived.Test.YtaadpihbjhachaaGreatW15
import Derived.Test.YtaadpihbjhachaaGreatW16
import Derived.Test.YtaadpihbjhachaaGreatW28
import Derived.Test.YtaadpihbjhachaaGreatW39
import Derived.Test.YtaadpihbjhachaaGreatW50
namespace Go.Proofs.YtaadpihbjhachaaGreat
set_option maxRecDepth 100000
set_option maxHeartbeats 16000000
section
open Go Go.RowKit
end
end Go.Proofs.YtaadpihbjhachaaGreat
