/- Texts B14 to B14 of this proof, in one file. -/
import Derived.Test.YtaadpihbjhachaaGreatW07
import Derived.Test.YtaadpihbjhachaaGreatW27
import Derived.Test.YtaadpihbjhachaaGreatW28
import Derived.Test.YtaadpihbjhachaaGreatW31
import Derived.Test.YtaadpihbjhachaaGreatW62
import Derived.Test.YtaadpihbjhachaaGreatW63
namespace Go.Proofs.YtaadpihbjhachaaGreat
set_option maxRecDepth 100000
set_option maxHeartbeats 16000000
section
open Go Go.RowKit
theorem small_zero {cells:Int} {ls:List (List Int)} {sum:Int} {g:List Int} (h:zx cells ls sum g=0) (ho:(zj g).length≤16):zH cells ls sum g=0:=by
 unfold zH
 rw[h,if_neg (by decide),decide_eq_false (by omega)]
 rfl
theorem count_ok {cells:Int} {ls:List (List Int)} {sum:Int} {g:List Int} (h:zx cells ls sum g=0) (ho:(zj g).length≤7):countE cells ls sum g=0∧countN cells ls sum g=((jk ls sum g []).length:Int)∧(jk ls sum g []).length≤5040:=by
 have h1:=small_zero h (by omega)
 have h2:=sols_count (qg h) ho
 refine ⟨?_,?_,h2⟩
 ·unfold countE
  rw[h1,if_neg (by decide),if_neg (by omega)]
 ·unfold countN
  rw[h1,if_neg (by decide),if_neg (by omega)]
end
end Go.Proofs.YtaadpihbjhachaaGreat
