/- Texts A1 to A3 of this proof, in one file. -/
import Derived.Test.YtaadpihbjhachaaGreatW39
namespace Go.Proofs.YtaadpihbjhachaaGreat
set_option maxRecDepth 100000
set_option maxHeartbeats 16000000
section
open Go Go.RowKit
end
end Go.Proofs.YtaadpihbjhachaaGreat
