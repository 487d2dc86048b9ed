/- Texts R3 to R5 of this proof, in one file. -/
import Derived.Test.YtcblpobiefmjmaaGreatW04
import Derived.Test.YtcblpobiefmjmaaGreatW06
import Derived.Test.YtcblpobiefmjmaaGreatW08
import Derived.Test.YtcblpobiefmjmaaGreatW23
namespace Go.Proofs.YtcblpobiefmjmaaGreat
set_option maxRecDepth 100000
set_option maxHeartbeats 16000000
section
open Go Go.RowKit
attribute [local go_sem] over_cell
attribute [local go_sem] Oper.semAt_some
end
section
open Go Go.RowKit
attribute [local go_sem] over_cell
attribute [local go_sem] Oper.semAt_some
end
section
open Go Go.RowKit
def noB:Nat→Prop:=fun _=>False
theorem RowsI.below {W W':World} {L:Nat} {v:Value} {pre:List (Value × List Int)} (h:RowsI W noB L v pre) (hb:Below W.heap.size W W'):RowsI W' noB L v pre :=
 ⟨owns_keep h.1 (fun k _ hl=>hb.block k hl),h.2.1,fun x hx=>⟨owns_keep (h.2.2 x hx).1 (fun k _ hl=>hb.block k hl),(h.2.2 x hx).2⟩⟩
end
end Go.Proofs.YtcblpobiefmjmaaGreat
