/- Texts J51 to J61 of this proof, in one file. -/
import Derived.Test.YtpkghjoippcjeaaGreatDoorW02
import Derived.Test.YtpkghjoippcjeaaGreatDoorW03
import Derived.Test.YtpkghjoippcjeaaGreatDoorW35
import Derived.Test.YtpkghjoippcjeaaGreatDoorW51
import Derived.Test.YtpkghjoippcjeaaGreatDoorW53
import Derived.Test.YtpkghjoippcjeaaGreatDoorW54
import Derived.Test.YtpkghjoippcjeaaGreatDoorW55
import Derived.Test.YtpkghjoippcjeaaGreatDoorW56
import Derived.Laws.EntriesVeiled
namespace Go.Proofs.YtpkghjoippcjeaaGreatDoor
set_option maxRecDepth 100000
set_option maxHeartbeats 16000000
section
end
section
open Go Go.RowKit Go.Maps
section
variable {α:Type} [DecidableEq α] {P:Program} {k e:TypeId} {κ:α→Lit} {b:Nat} {w:World} {L:List α}
def KeysL (κ:α→Lit) (L:List α) (D:DataW Unit):Prop:=Tidy D∧size D=L.length∧L.Nodup∧∀x,has D (κ x)=decide (x∈L)
def addK (L:List α) (y:α):List α:=if y∈L then L else y :: L
def MapJ (w:World) (P:Program) (k e:TypeId) (κ:α→Lit) (b:Nat) (L:List α) (g:α→Option Int):Prop :=
 ∃D:DataW Unit,w.ownsMap P k (plainElem P e) b L.length D∧KeysL κ L D∧∀x,has D (κ x)=(g x).isSome∧∀c,g x=some c→∀z,D.atKey (κ x) z = .lit (.int .i64 c)
def MapC (w:World) (P:Program) (k e:TypeId) (κ:α→Lit) (b:Nat) (L:List α) (g:α→Bool):Prop :=
 ∃D:DataW Unit,w.ownsMap P k (plainElem P e) b L.length D∧KeysL κ L D∧∀x,D.atKey (κ x) (.lit (.bool false)) = .lit (.bool (g x))
theorem MapJ.toI {g:α→Option Int} (h:MapJ w P k e κ b L g):MapI w P k e κ b L.length g:=by
 obtain ⟨D,h1,_,h3⟩:=h
 exact ⟨D,h1,h3⟩
theorem MapC.toB {g:α→Bool} (h:MapC w P k e κ b L g):MapB w P k e κ b L.length g:=by
 obtain ⟨D,h1,_,h3⟩:=h
 exact ⟨D,h1,h3⟩
theorem MapJ.lt {g:α→Option Int} (h:MapJ w P k e κ b L g):b<w.heap.size:=h.toI.lt
theorem MapC.lt {g:α→Bool} (h:MapC w P k e κ b L g):b<w.heap.size:=h.toB.lt
theorem MapJ.block {g:α→Option Int} (h:MapJ w P k e κ b L g) {w':World} (hb:w'.heap[b]?=w.heap[b]?):MapJ w' P k e κ b L g:=by
 obtain ⟨D,h1,h2⟩:=h
 exact ⟨D,own_block h1 hb,h2⟩
theorem MapC.block {g:α→Bool} (h:MapC w P k e κ b L g) {w':World} (hb:w'.heap[b]?=w.heap[b]?):MapC w' P k e κ b L g:=by
 obtain ⟨D,h1,h2⟩:=h
 exact ⟨D,own_block h1 hb,h2⟩
theorem MapJ.mono {g:α→Option Int} (h:MapJ w P k e κ b L g) {B:Nat} {w':World} (hb:Below B w w') (hlt:b<B):MapJ w' P k e κ b L g:=h.block (hb.block b hlt)
theorem MapC.mono {g:α→Bool} (h:MapC w P k e κ b L g) {B:Nat} {w':World} (hb:Below B w w') (hlt:b<B):MapC w' P k e κ b L g:=h.block (hb.block b hlt)
theorem MapJ.nodup {g:α→Option Int} (h:MapJ w P k e κ b L g):L.Nodup:=by obtain ⟨_,_,h2,_⟩:=h;exact h2.2.2.1
theorem MapC.nodup {g:α→Bool} (h:MapC w P k e κ b L g):L.Nodup:=by obtain ⟨_,_,h2,_⟩:=h;exact h2.2.2.1
end
section
variable {α:Type} [DecidableEq α] {P:Program} (w:World) {ops:Array Oper} {rest:List Oper} {o:Oper} {a:Act} {Q:Exit→Act→World→Prop}
end
end
section
end
section
open Go Go.RowKit
attribute [local go_sem] over_cell
attribute [local go_sem] Oper.semAt_some
end
section
open Go Go.RowKit
attribute [local go_sem] over_cell
attribute [local go_sem] Oper.semAt_some
def ExtV (w w':World) (n m:Nat) (v v':Value):Prop :=
 (∃g cap,v = .slice (some ⟨g,0,none⟩) n cap∧v' = .slice (some ⟨g,0,none⟩) m cap)∨((∀k,v'.ownBlock=some k→w.heap.size≤k)∧Below w.heap.size w w')
theorem ExtV.blk {w w':World} {n m:Nat} {v v':Value} (h:ExtV w w' n m v v'):∀k,v'.ownBlock=some k→v.ownBlock=some k∨w.heap.size≤k:=by
 rcases h with ⟨g,cap,rfl,rfl⟩|⟨h,_⟩
 ·exact fun k e => .inl e
 ·exact fun k e => .inr (h k e)
end
end Go.Proofs.YtpkghjoippcjeaaGreatDoor
