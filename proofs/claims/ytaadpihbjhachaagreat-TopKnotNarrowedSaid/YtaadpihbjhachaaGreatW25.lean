/- Texts N3 to N3 of this proof, in one file. -/
import Derived.Test.YtaadpihbjhachaaGreatW11
import Derived.Test.YtaadpihbjhachaaGreatW24
namespace Go.Proofs.YtaadpihbjhachaaGreat
set_option maxRecDepth 100000
set_option maxHeartbeats 16000000
end Go.Proofs.YtaadpihbjhachaaGreat
