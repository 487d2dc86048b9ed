/- Texts J14 to B26 of this proof, in one file. -/
import Derived.Test.YtpkghjoippcjeaaGreatDoorW01
import Derived.Test.YtpkghjoippcjeaaGreatDoorW39
import Derived.Test.YtpkghjoippcjeaaGreatDoorW41
import Derived.Test.YtpkghjoippcjeaaGreatDoorW50
import Derived.Maps.OwnSet
import Derived.Below
import Derived.Laws.BytesArg
import Derived.StringKeys
import Derived.Carry
namespace Go.Proofs.YtpkghjoippcjeaaGreatDoor
set_option maxRecDepth 100000
set_option maxHeartbeats 16000000
section
open Go Go.RowKit Go.Maps
section
variable {α:Type} {P:Program} {k e:TypeId} {κ:α→Lit} {b n:Nat} {w:World}
def MapI (w:World) (P:Program) (k e:TypeId) (κ:α→Lit) (b n:Nat) (g:α→Option Int):Prop :=
 ∃D:DataW Unit,w.ownsMap P k (plainElem P e) b n D∧∀x,has D (κ x)=(g x).isSome∧∀c,g x=some c→∀z,D.atKey (κ x) z = .lit (.int .i64 c)
def MapB (w:World) (P:Program) (k e:TypeId) (κ:α→Lit) (b n:Nat) (g:α→Bool):Prop :=
 ∃D:DataW Unit,w.ownsMap P k (plainElem P e) b n D∧∀x,D.atKey (κ x) (.lit (.bool false)) = .lit (.bool (g x))
theorem own_block {D:DataW Unit} {w':World} {R:Value→Option (DataW Unit × List MemPlace)} (h:w.ownsMap P k R b n D) (hb:w'.heap[b]?=w.heap[b]?):w'.ownsMap P k R b n D:=by
 obtain ⟨es,clock,h1,r⟩:=h
 exact ⟨es,clock,hb.trans h1,r⟩
theorem MapI.lt {g:α→Option Int} (h:MapI w P k e κ b n g):b<w.heap.size:=by obtain ⟨D,h1,_⟩:=h;exact h1.lt
theorem MapB.lt {g:α→Bool} (h:MapB w P k e κ b n g):b<w.heap.size:=by obtain ⟨D,h1,_⟩:=h;exact h1.lt
theorem MapI.block {g:α→Option Int} (h:MapI w P k e κ b n g) {w':World} (hb:w'.heap[b]?=w.heap[b]?):MapI w' P k e κ b n g:=by
 obtain ⟨D,h1,h2⟩:=h
 exact ⟨D,own_block h1 hb,h2⟩
theorem MapB.block {g:α→Bool} (h:MapB w P k e κ b n g) {w':World} (hb:w'.heap[b]?=w.heap[b]?):MapB w' P k e κ b n g:=by
 obtain ⟨D,h1,h2⟩:=h
 exact ⟨D,own_block h1 hb,h2⟩
theorem MapI.mono {g:α→Option Int} (h:MapI w P k e κ b n g) {B:Nat} {w':World} (hb:Below B w w') (hlt:b<B):MapI w' P k e κ b n g:=h.block (hb.block b hlt)
theorem MapB.mono {g:α→Bool} (h:MapB w P k e κ b n g) {B:Nat} {w':World} (hb:Below B w w') (hlt:b<B):MapB w' P k e κ b n g:=h.block (hb.block b hlt)
theorem MapB.made:MapB (w.alloc (.map #[] 0)) P k e κ w.heap.size 0 (fun _=>false):=⟨_,World.ownsMap_made _ _ _ _,fun _=>rfl⟩
theorem plainElem_bool_inv (he:P.underlying e=some .bool) {v:Value} {z:DataW Unit × List MemPlace} (h:plainElem P e v=some z):∃x,v = .bool x∧z=(.lit (.bool x),[]):=by
 unfold plainElem at h
 rw[he] at h
 cases v <;> simp at h
 exact ⟨_,rfl,h.symm⟩
end
section
variable {α:Type} [DecidableEq α] {P:Program} (w:World) {ops:Array Oper} {rest:List Oper} {o:Oper} {a:Act} {Q:Exit→Act→World→Prop}
theorem wpList_putB (hg:o.guard=none) (m x v:Operand) (t:TypeId) (hop:o.op=Op.mapUpdate t m x v) (k e:TypeId) (K:Keyed P k) (ht:P.underlying t=some (.map k e)) (he:P.underlying e=some .bool)
  (κ:α→Lit) (hinj:∀x y,κ x=κ y→x=y) (b n:Nat) (g:α→Bool) (hm:a.eval m = .map (some b)) (h:MapB w P k e κ b n g) (hn:n<maxLen) (key:Value) (y:α) (c:Bool) (hx:a.eval x=key) (hv:a.eval v = .bool c)
  (hkey:keyOf P k key=some (κ y))
  (hK:∀w',MapB w' P k e κ b (n+1) (fun z=>if z=y then c else g z)→w.grownBy w' (some b)→wpList P ops Q rest (a.put o.dst undef) w') :
  wpList P ops Q (o :: rest) a w:=by
 obtain ⟨D,h1,h2⟩:=h
 refine wpList_mapUpdate_own w hg m x v t hop k e K ht (plainElem P e) b n D hm h1 hn key (.bool c) (κ y) hx hv hkey (.lit (.bool c)) [] (plainElem_bool he c) (fun w' h3 h4=>hK w' ⟨_,h3,fun z=>?_⟩ h4)
 by_cases e1:z=y
 ·subst e1
  dsimp only
  rw[if_pos rfl]
  exact atKey_put_same h1.isMap (K.key hkey) _ _
 ·dsimp only
  rw[if_neg e1,atKey_put_other (fun e2=>e1 (hinj _ _ e2))]
  exact h2 z
end
section
variable {α:Type} {P:Program} (w:World) {ops:Array Oper} {rest:List Oper} {o:Oper} {a:Act} {Q:Exit→Act→World→Prop}
theorem wpList_lookB (hg:o.guard=none) (m x:Operand) (t:TypeId) (hop:o.op=Op.lookup t m x false) (k e:TypeId) (K:Keyed P k) (ht:P.underlying t=some (.map k e)) (he:P.underlying e=some .bool) (hz:(zeroValue e).run P w = .ok (.bool false) w)
  (κ:α→Lit) (b n:Nat) (g:α→Bool) (hm:a.eval m = .map (some b)) (h:MapB w P k e κ b n g) (key:Value) (y:α) (hx:a.eval x=key) (hkey:keyOf P k key=some (κ y))
  (hK:wpList P ops Q rest (a.put o.dst (.bool (g y))) w) :
  wpList P ops Q (o :: rest) a w:=by
 obtain ⟨D,h1,h2⟩:=h
 refine wpList_plain hg fun K' hK'=>?_
 obtain ⟨v,ps,hrun,hv⟩:=h1.lookup K ht hz (plainElem_bool he false) hkey
 obtain ⟨c,rfl,hc⟩:=plainElem_bool_inv he hv
 simp only[Prod.mk.injEq] at hc
 rw[h2 y] at hc
 have:g y=c:=by have:=hc.1;cases this;rfl
 rw[this] at hK
 unfold Oper.wp
 simp[execOp,hop,hm,hx,hrun,Result.andThen]
 exact hK' _ _ hK
end
end
end Go.Proofs.YtpkghjoippcjeaaGreatDoor
