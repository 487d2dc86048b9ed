/- Texts O3 to O3 of this proof, in one file. -/
import Derived.Test.YtaadpihbjhachaaGreatW21
import Derived.ChangeArms
namespace Go.Proofs.YtaadpihbjhachaaGreat
set_option maxRecDepth 100000
set_option maxHeartbeats 16000000
section
open Go Go.RowKit Go.ChangeShapes Go.WideShapes
theorem wf_u8 {n:Int} (h:(Lit.int .u8 n).wf=true):0≤n∧n≤255:=by
 have h1:(decide (IntKind.u8.min≤n)&&decide (n≤IntKind.u8.max))=true:=h
 rw[Bool.and_eq_true,decide_eq_true_eq,decide_eq_true_eq] at h1
 exact ⟨h1.1,h1.2⟩
section
variable {H:Type} {enc:TypeId × Value→H} {w:World} {held:Bool}
end
end
end Go.Proofs.YtaadpihbjhachaaGreat
