/- Texts X1 to X2 of this proof, in one file. -/
import Derived.Test.YtaadpihbjhachaaGreatW30
namespace Go.Proofs.YtaadpihbjhachaaGreat
set_option maxRecDepth 100000
set_option maxHeartbeats 16000000
section
open Go Go.RowKit
attribute [local go_sem] over_cell
attribute [local go_sem] Oper.semAt_some
end
end Go.Proofs.YtaadpihbjhachaaGreat
