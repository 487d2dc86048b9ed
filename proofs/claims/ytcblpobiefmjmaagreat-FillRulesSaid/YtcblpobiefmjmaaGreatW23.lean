/- Texts R1 to S0 of this proof, in one file. -/
import Derived.Test.YtcblpobiefmjmaaGreatW06
import Derived.Test.YtcblpobiefmjmaaGreatW07
import Derived.Test.YtcblpobiefmjmaaGreatW12
import Derived.Deep.CutBlock
import Derived.Deep.CutRange
namespace Go.Proofs.YtcblpobiefmjmaaGreat
set_option maxRecDepth 100000
set_option maxHeartbeats 16000000
section
open Go Go.RowKit
attribute [local go_sem] over_cell
attribute [local go_sem] Oper.semAt_some
end
section
open Go Go.RowKit
attribute [local go_sem] over_cell
attribute [local go_sem] Oper.semAt_some
theorem upb_snoc {f:Nat→Bool} {k:Nat} (h:∀j,j<k→f j=false) (hk:f k=false):∀j,j<k+1→f j=false:=by
 intro j hj
 by_cases e:j=k
 ·rw[e];exact hk
 ·exact h j (by omega)
end
section
open Go Go.RowKit
end
section
open Go Go.RowKit
end
section
open Go Go.RowKit
end
end Go.Proofs.YtcblpobiefmjmaaGreat
