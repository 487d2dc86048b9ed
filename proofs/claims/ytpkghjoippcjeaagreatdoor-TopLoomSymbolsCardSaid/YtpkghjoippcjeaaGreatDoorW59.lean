/- Texts J92 to J107 of this proof, in one file. -/
import Derived.Test.YtpkghjoippcjeaaGreatDoorW02
import Derived.Test.YtpkghjoippcjeaaGreatDoorW03
import Derived.Test.YtpkghjoippcjeaaGreatDoorW04
import Derived.Test.YtpkghjoippcjeaaGreatDoorW16
import Derived.Test.YtpkghjoippcjeaaGreatDoorW53
import Derived.Test.YtpkghjoippcjeaaGreatDoorW54
import Derived.Test.YtpkghjoippcjeaaGreatDoorW55
import Derived.Test.YtpkghjoippcjeaaGreatDoorW56
import Derived.Test.YtpkghjoippcjeaaGreatDoorW57
import Derived.Test.YtpkghjoippcjeaaGreatDoorW58
import Derived.RangeFuncBox
import Derived.RangeFuncLeaves
import Derived.RangeFuncWrites
namespace Go.Proofs.YtpkghjoippcjeaaGreatDoor
set_option maxRecDepth 100000
set_option maxHeartbeats 16000000
section
open Go Go.RowKit Go.Shelf
attribute [local go_sem] Oper.semAt_some
attribute [local go_sem] over_cell
def Kp2 (p q:Nat) (A B:World):Prop:=B.heap[p]?=A.heap[p]?∧B.heap[q]?=A.heap[q]?
theorem Kp2.refl {p q:Nat} {A:World}:Kp2 p q A A:=⟨rfl,rfl⟩
theorem Kp2.trans {p q:Nat} {A B C:World} (h:Kp2 p q A B) (k:Kp2 p q B C):Kp2 p q A C:=⟨k.1.trans h.1,k.2.trans h.2⟩
theorem Kp2.c1 {p q i:Nat} {A B:World} (h:Kp2 p q A B):B.cell? ⟨p,i,none⟩=A.cell? ⟨p,i,none⟩:=World.cell?_of_block h.1
theorem Kp2.c2 {p q i:Nat} {A B:World} (h:Kp2 p q A B):B.cell? ⟨q,i,none⟩=A.cell? ⟨q,i,none⟩:=World.cell?_of_block h.2
end
section
open Go Go.RowKit
structure OI (W:World) (B g n cap:Nat) (xs:List Int):Prop where
 len:xs.length=n
 own:W.ownsRow B 3 1 (.slice (some ⟨g,0,none⟩) n cap) n (xs.map (Value.int .i64))
theorem OI.at {W:World} {B g n cap:Nat} {xs:List Int} (h:OI W B g n cap xs) {k:Nat} (hk:k<n):W.cell? ⟨g,k,none⟩=some (.int .i64 (xs[k]?.getD 0))∧W.frozen? ⟨g,k,none⟩=false∧g<W.heap.size:=by
 obtain ⟨g2,cap2,x,hv,hx,hc,hf,hl,_⟩:=owns_free h.own k hk
 simp only[Value.slice.injEq,Option.some.injEq,Addr.mk.injEq,and_true,true_and] at hv
 obtain ⟨rfl,_⟩:=hv
 have hlt:k<xs.length:=by rw[h.len];exact hk
 rw[List.getElem?_map,List.getElem?_eq_getElem hlt] at hx
 rw[List.getElem?_eq_getElem hlt]
 cases hx
 exact ⟨hc,hf,hl⟩
theorem OI.blk {W:World} {B g n cap:Nat} {xs:List Int} (h:OI W B g n cap xs):B≤g∧g<W.heap.size:=h.own.lt g rfl
theorem OI.set {W:World} {B g n cap:Nat} {xs:List Int} (h:OI W B g n cap xs) (k:Nat) (x:Int):OI (W.setCell ⟨g,k,none⟩ (.int .i64 x)) B g n cap (xs.set k x) :=
 ⟨by rw[List.length_set];exact h.len,by rw[List.map_set];exact owns_set h.own k _⟩
theorem OI.keep {W W':World} {B g n cap:Nat} {xs:List Int} (h:OI W B g n cap xs) (hb:Below W.heap.size W W'):OI W' B g n cap xs:=⟨h.len,owns_keep h.own (fun k _ hl=>hb.block k hl)⟩
theorem OI.drew {W:World} {B g n cap:Nat} {xs:List Int} (h:OI W B g n cap xs):OI W.drew B g n cap xs:=h.keep (Below.refl _ _).drew
theorem OI.base {W:World} {B B' g n cap:Nat} {xs:List Int} (h:OI W B g n cap xs) (hb:B'≤B):OI W B' g n cap xs:=⟨h.len,owns_base h.own hb⟩
theorem OI.other {W:World} {B g n cap b i:Nat} {xs:List Int} (h:OI W B g n cap xs) (hne:g≠b) (u:Value):OI (W.setCell ⟨b,i,none⟩ u) B g n cap xs :=
 ⟨h.len,ownsRow_setCell_other h.own (a:=⟨b,i,none⟩) (fun e=>hne (by cases e;rfl)) u⟩
theorem OI.ic {W:World} {B g n cap:Nat} {xs:List Int} (h:OI W B g n cap xs) (hn:n≤17592186044416):IC W (some ⟨g,0,none⟩) n xs :=
 ⟨⟨h.len,hn⟩,fun k hk=>⟨g,0,rfl,h.blk.2,by rw[Nat.zero_add];exact (h.at hk).1⟩⟩
theorem OI.of {W:World} {B n c:Nat} {a:Option Addr} {xs:List Int} (hown:W.ownsRow B 3 1 (.slice a n c) n (xs.map (Value.int .i64))) (hn:1≤n):∃g,a=some ⟨g,0,none⟩∧OI W B g n c xs:=by
 obtain ⟨g,cap,x,hv,_⟩:=owns_free hown 0 (by omega)
 simp only[Value.slice.injEq,true_and] at hv
 obtain ⟨rfl,rfl⟩:=hv
 exact ⟨g,rfl,by have:=hown.1;rw[List.length_map] at this;omega,hown⟩
end
section
open Go Go.RowKit
attribute [local go_sem] over_cell
attribute [local go_sem] Oper.semAt_some
end
section
open Go Go.RowKit
attribute [local go_sem] over_cell
attribute [local go_sem] Oper.semAt_some
theorem OI.take {W:World} {B g n cap:Nat} {xs:List Int} (h:OI W B g n cap xs) {m:Nat} (hm:m≤n) (hn:n≤17592186044416):IC W (some ⟨g,0,none⟩) m (xs.take m) :=
 ⟨⟨by rw[List.length_take,h.len];omega,by omega⟩,fun k hk=>⟨g,0,rfl,h.blk.2,by rw[Nat.zero_add,List.getElem?_take,if_pos hk];exact (h.at (by omega)).1⟩⟩
end
section
open Go Go.RowKit
attribute [local go_sem] over_cell
attribute [local go_sem] Oper.semAt_some
end
section
open Go Go.RowKit
attribute [local go_sem] over_cell
attribute [local go_sem] Oper.semAt_some
end
end Go.Proofs.YtpkghjoippcjeaaGreatDoor
