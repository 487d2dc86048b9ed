/- Texts L1 to T5 of this proof, in one file. -/
import Derived.Test.YtcblpobiefmjmaaGreatW06
import Derived.Test.YtcblpobiefmjmaaGreatW23
import Derived.Test.YtcblpobiefmjmaaGreatW27
import Derived.Below
namespace Go.Proofs.YtcblpobiefmjmaaGreat
set_option maxRecDepth 100000
set_option maxHeartbeats 16000000
section
end
section
open Go Go.RowKit
end
section
open Go Go.RowKit
attribute [local go_sem] over_cell
attribute [local go_sem] Oper.semAt_some
end
section
open Go Go.RowKit
attribute [local go_sem] over_cell
attribute [local go_sem] Oper.semAt_some
end
section
open Go Go.RowKit
theorem few_good {cells:Int} {ls:List (List Int)} {sum:Int} {g:List Int} {cc op:Int} (h:few6B cc op cells sum ls g=true):GoodTask cells ls sum g∧((openL g).length:Int)≤op:=by
 unfold few6B at h
 simp only[Bool.and_eq_true,beq_iff_eq,decide_eq_true_eq] at h
 exact ⟨goodTask (by omega),by omega⟩
end
section
open Go Go.RowKit
theorem few_sys {cells:Int} {ls:List (List Int)} {sum:Int} {g:List Int} {cc op:Int} (h:few6B cc op cells sum ls g=true):sysErr cells ls=0:=by
 unfold few6B few2B at h
 simp only[Bool.and_eq_true,beq_iff_eq,decide_eq_true_eq] at h
 omega
theorem taskErr_good {cells:Int} {ls:List (List Int)} {sum:Int} {g:List Int} (G:GoodTask cells ls sum g) (hs:sysErr cells ls=0):taskErr cells ls sum g=0:=by
 have h1:=G.sum1
 have h2:=G.sum2
 have h3:=G.len
 unfold taskErr
 rw[if_neg (by rw[hs];decide),if_neg (by omega),if_neg (by omega)]
 refine errs_none (fun i hi=>?_)
 have h4:=G.num i hi
 unfold givenBad
 rw[if_neg (by omega),if_neg]
 rintro ⟨h5,h6⟩
 obtain ⟨j,hj,e⟩:=List.getElem_of_mem (hasB_iff.1 h6)
 rw[List.length_take] at hj
 rw[List.getElem_take] at e
 have h7:=G.apart j i (by omega) hi h5
 rw[List.getElem?_eq_getElem (by omega:j<g.length),Option.getD_some] at h7
 exact h7 e
end
end Go.Proofs.YtcblpobiefmjmaaGreat
