/- Texts O3 to O3 of this proof, in one file. -/
import Derived.Test.YtaadpihbjhachaaGreatW21
import Derived.ChangeArms
namespace Go.Proofs.YtaadpihbjhachaaGreat
set_option maxRecDepth 100000
set_option maxHeartbeats 16000000
section
open Go Go.RowKit Go.ChangeShapes Go.WideShapes
theorem O3.cellsB:Tryz.prog.cellsOf 4=1:=by kernel_rfl
section
variable {H:Type} {enc:TypeId × Value→H} {w:World} {held:Bool}
end
end
end Go.Proofs.YtaadpihbjhachaaGreat
