/- Texts Reg4 to Reg4 of this proof, in one file. -/
import Derived.Test.YtpkghjoippcjeaaGreatDoorW03
import Derived.Test.YtpkghjoippcjeaaGreatDoorW04
namespace Go.Proofs.YtpkghjoippcjeaaGreatDoor
set_option maxRecDepth 100000
set_option maxHeartbeats 16000000
section
open Go Go.RowKit
def hold (o:Obj) (b:Nat) (u:World):World:={ u with heap:=(u.heap.toList.take b++List.replicate (b - u.heap.size) o++o :: u.heap.toList.drop (b+1)).toArray }
theorem hold_heap (o:Obj) (b:Nat) (u:World):(hold o b u).heap[b]?=some o:=by
 simp only[hold,List.getElem?_toArray]
 rw[List.getElem?_append_right (by simp;omega)]
 rw[show b - (u.heap.toList.take b++List.replicate (b - u.heap.size) o).length=0 from by simp;omega]
 rfl
theorem hold_of {o:Obj} {b:Nat} {w:World} (h:w.heap[b]?=some o):w=hold o b w:=by
 have hb:=q_lt h
 cases w with
 | mk hp tp dr os ou =>
  simp only at h hb
  simp only[hold,World.mk.injEq,and_true]
  apply Array.ext_getElem?
  intro k
  have e:∀L:List Obj,L.toArray[k]?=L[k]?:=fun L=>by simp
  rw[e (hp.toList.take b++List.replicate (b - hp.size) o++o :: hp.toList.drop (b+1)),show b - hp.size=0 from by omega,List.replicate_zero,List.append_nil]
  rcases Nat.lt_trichotomy k b with hk|hk|hk
  ·rw[List.getElem?_append_left (by simp;omega),List.getElem?_take,if_pos hk,Array.getElem?_toList]
  ·subst hk
   rw[List.getElem?_append_right (by simp;omega),h,show k - (hp.toList.take k).length=0 from by simp;omega]
   rfl
  ·rw[List.getElem?_append_right (by simp;omega),show k - (hp.toList.take b).length=(k - b - 1)+1 from by simp;omega,List.getElem?_cons_succ,List.getElem?_drop,Array.getElem?_toList]
   congr 1
   omega
theorem hold_c0 (v0 v1 v2:Value) (T:TypeId) (b:Nat) (u:World):(hold (.cells #[v0,v1,v2] T (0,0)) b u).cell? ⟨b,0,none⟩=some v0:=q_cell (hold_heap _ b u) 0
theorem hold_c1 (v0 v1 v2:Value) (T:TypeId) (b:Nat) (u:World):(hold (.cells #[v0,v1,v2] T (0,0)) b u).cell? ⟨b,1,none⟩=some v1:=q_cell (hold_heap _ b u) 1
theorem hold_c2 (v0 v1 v2:Value) (T:TypeId) (b:Nat) (u:World):(hold (.cells #[v0,v1,v2] T (0,0)) b u).cell? ⟨b,2,none⟩=some v2:=q_cell (hold_heap _ b u) 2
end
end Go.Proofs.YtpkghjoippcjeaaGreatDoor
