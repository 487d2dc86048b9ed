/- Texts H12 to H13 of this proof, in one file. -/
import Derived.Test.YtaadpihbjhachaaGreatW07
import Derived.Test.YtaadpihbjhachaaGreatW08
import Derived.Test.YtaadpihbjhachaaGreatW11
import Derived.Test.YtaadpihbjhachaaGreatW12
import Derived.Test.YtaadpihbjhachaaGreatW15
import Derived.Laws.EntriesVeiled
namespace Go.Proofs.YtaadpihbjhachaaGreat
set_option maxRecDepth 100000
set_option maxHeartbeats 16000000
section
open Go Go.RowKit Go.Shelf
attribute [local go_sem] over_cell
attribute [local go_sem] Oper.semAt_some
end
section
open Go Go.RowKit
attribute [local go_sem] over_cell
attribute [local go_sem] Oper.semAt_some
theorem not_hasB {g:List Int} {x:Int} (h:hasB g x=false) (i:Nat) (hi:i<g.length):g[i]?.getD 0≠x:=by
 intro e
 rw[List.getElem?_eq_getElem hi,Option.getD_some] at e
 have:hasB g x=true:=by unfold hasB;rw[List.contains_iff_mem,← e];exact List.getElem_mem hi
 rw[h] at this
 cases this
theorem set_get (g:List Int) (k i:Nat) (x:Int) (hk:k<g.length):(g.set k x)[i]?.getD 0=if i=k then x else g[i]?.getD 0:=by
 by_cases e:i=k
 ·subst e;rw[List.getElem?_set_self hk,if_pos rfl];rfl
 ·rw[List.getElem?_set_ne (fun h=>e h.symm),if_neg e]
theorem GoodTask.put {cells:Int} {ls:List (List Int)} {sum:Int} {g:List Int} (h:GoodTask cells ls sum g) {k:Nat} {x:Int} (hk:k<g.length) (hx:x∈unusedL g):GoodTask cells ls sum (g.set k x):=by
 have hu:=mem_unused.1 hx
 have hl:=h.len
 refine ⟨h.cells1,h.cells2,h.lines,h.sum1,h.sum2,by rw[List.length_set];exact hl,h.some,h.mem,h.asc,fun i hi=>?_,fun i j hij hj hp=>?_⟩
 ·rw[List.length_set] at hi
  rw[set_get g k i x hk]
  split
  ·omega
  ·exact h.num i hi
 ·rw[List.length_set] at hj
  rw[set_get g k i x hk,set_get g k j x hk]
  rw[set_get g k j x hk] at hp
  by_cases e1:i=k
  ·rw[if_pos e1]
   rw[if_neg (by omega)]
   exact fun e=>not_hasB hu.2.2 j hj e.symm
  ·rw[if_neg e1]
   by_cases e2:j=k
   ·rw[if_pos e2];exact not_hasB hu.2.2 i (by omega)
   ·rw[if_neg e2] at hp ⊢
    exact h.apart i j hij hj hp
def okTB (ls:List (List Int)) (sum:Int):Nat→List Int→Bool
 | 0,_=>false
 | f+1,g=>decide (0≤tightLine ls g sum) ||
  (decide (0≤tightCell ls g sum)&&decide (tightCell ls g sum<g.length)&&g[(tightCell ls g sum).toNat]?.getD 0==0&&(unusedL g).all fun x=>okTB ls sum f (g.set (tightCell ls g sum).toNat x))
end
end Go.Proofs.YtaadpihbjhachaaGreat
