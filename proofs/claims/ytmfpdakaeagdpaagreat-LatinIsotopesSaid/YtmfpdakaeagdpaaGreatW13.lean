/- Texts J52 to J57 of this proof, in one file. -/
import Derived.Test.YtmfpdakaeagdpaaGreatW01
import Derived.Test.YtmfpdakaeagdpaaGreatW02
import Derived.Test.YtmfpdakaeagdpaaGreatW03
import Derived.Test.YtmfpdakaeagdpaaGreatW04
import Derived.Test.YtmfpdakaeagdpaaGreatW05
import Derived.Test.YtmfpdakaeagdpaaGreatW06
import Derived.Test.YtmfpdakaeagdpaaGreatW07
import Derived.Test.YtmfpdakaeagdpaaGreatW12
import Derived.Below
import Derived.BigFrame
import Derived.BigQuiet
import Derived.Deep.CutBlock
import Derived.Deep.CutRange
import Derived.Deep.LoopGhost
import Derived.Deep.Quiet
import Derived.Deep.RegionHeld3
import Derived.DeepKeys4
import Derived.KernelRfl
import Derived.Laws.BitsAllLaws
import Derived.Lib.Hide
import Derived.Lib.SliceRun
import Derived.LoopIn
import Derived.LoopNIn
import Derived.Maps.AppendAt
import Derived.Maps.OwnIn
import Derived.Maps.OwnSet
import Derived.OneCell
import Derived.OrdersHeld
import Derived.OwnWalkIn
import Derived.RangeFuncBound
import Derived.RangeFuncCalls
import Derived.RangeFuncLeaves
import Derived.RangeFuncNested
import Derived.Shelf.Abstract
import Derived.Still
import Derived.TacticsInMore
import Derived.Test.YtmfpdakaeagdpaaGreatProg
import Derived.WalkKit
import Derived.WalkLawsBesides
import Derived.WalkSpells
import Derived.WideKeyPair
namespace Go.Proofs.YtmfpdakaeagdpaaGreat
set_option maxRecDepth 100000
set_option maxHeartbeats 16000000
section
open Go Go.RowKit Go.Maps
section
variable {α:Type} [DecidableEq α] {P:Program} {k e:TypeId} {κ:α→Lit} {b:Nat} {w:World} {L:List α}
def KeysL (κ:α→Lit) (L:List α) (D:DataW Unit):Prop:=Tidy D∧size D=L.length∧L.Nodup∧∀x,has D (κ x)=decide (x∈L)
def addK (L:List α) (y:α):List α:=if y∈L then L else y :: L
theorem addK_nodup (h:L.Nodup) (y:α):(addK L y).Nodup:=by
 unfold addK
 split
 ·exact h
 ·rename_i h1
  exact List.nodup_cons.2 ⟨h1,h⟩
theorem mem_addK {x y:α}:x∈addK L y↔x=y∨x∈L:=by
 unfold addK
 split
 ·rename_i h1
  exact ⟨.inr,fun h=>h.elim (fun e=>by rw[e];exact h1) id⟩
 ·exact List.mem_cons
theorem KeysL.put {D:DataW Unit} (h:KeysL κ L D) (hinj:∀x y,κ x=κ y→x=y) {y:α} (hk:WideAt.IsKeyLit (κ y)) (d:DataW Unit):KeysL κ (addK L y) (D.put (κ y) d):=by
 obtain ⟨h1,h2,h3,h4⟩:=h
 refine ⟨h1.put hk d,?_,addK_nodup h3 y,fun x=>?_⟩
 ·rw[size_put h1,h4 y,h2]
  unfold addK
  by_cases e:y∈L
  ·rw[if_pos e,decide_eq_true e];rfl
  ·rw[if_neg e,decide_eq_false e];rfl
 ·by_cases e:x=y
  ·subst e
   rw[has_put_same h1.isMap hk,decide_eq_true (mem_addK.2 (.inl rfl))]
  ·rw[has_put_other (fun e2=>e (hinj _ _ e2)),h4 x]
   have:x∈addK L y↔x∈L:=⟨fun h=>(mem_addK.1 h).resolve_left e,fun h=>mem_addK.2 (.inr h)⟩
   simp only[this]
theorem own_size {n:Nat} {D:DataW Unit} {R:Value→Option (DataW Unit × List MemPlace)} (h:w.ownsMap P k R b n D):w.ownsMap P k R b (size D) D:=by
 obtain ⟨es,clock,h1,h2,h3,rfl⟩:=h
 refine ⟨es,clock,h1,h2,?_,rfl⟩
 rw[size_eq,length_sorted]
 simp
def MapJ (w:World) (P:Program) (k e:TypeId) (κ:α→Lit) (b:Nat) (L:List α) (g:α→Option Int):Prop :=
 ∃D:DataW Unit,w.ownsMap P k (plainElem P e) b L.length D∧KeysL κ L D∧∀x,has D (κ x)=(g x).isSome∧∀c,g x=some c→∀z,D.atKey (κ x) z = .lit (.int .i64 c)
def MapC (w:World) (P:Program) (k e:TypeId) (κ:α→Lit) (b:Nat) (L:List α) (g:α→Bool):Prop :=
 ∃D:DataW Unit,w.ownsMap P k (plainElem P e) b L.length D∧KeysL κ L D∧∀x,D.atKey (κ x) (.lit (.bool false)) = .lit (.bool (g x))
theorem MapJ.toI {g:α→Option Int} (h:MapJ w P k e κ b L g):MapI w P k e κ b L.length g:=by
 obtain ⟨D,h1,_,h3⟩:=h
 exact ⟨D,h1,h3⟩
theorem MapC.toB {g:α→Bool} (h:MapC w P k e κ b L g):MapB w P k e κ b L.length g:=by
 obtain ⟨D,h1,_,h3⟩:=h
 exact ⟨D,h1,h3⟩
theorem MapJ.lt {g:α→Option Int} (h:MapJ w P k e κ b L g):b<w.heap.size:=h.toI.lt
theorem MapC.lt {g:α→Bool} (h:MapC w P k e κ b L g):b<w.heap.size:=h.toB.lt
theorem MapJ.block {g:α→Option Int} (h:MapJ w P k e κ b L g) {w':World} (hb:w'.heap[b]?=w.heap[b]?):MapJ w' P k e κ b L g:=by
 obtain ⟨D,h1,h2⟩:=h
 exact ⟨D,own_block h1 hb,h2⟩
theorem MapC.block {g:α→Bool} (h:MapC w P k e κ b L g) {w':World} (hb:w'.heap[b]?=w.heap[b]?):MapC w' P k e κ b L g:=by
 obtain ⟨D,h1,h2⟩:=h
 exact ⟨D,own_block h1 hb,h2⟩
theorem MapJ.mono {g:α→Option Int} (h:MapJ w P k e κ b L g) {B:Nat} {w':World} (hb:Below B w w') (hlt:b<B):MapJ w' P k e κ b L g:=h.block (hb.block b hlt)
theorem MapC.mono {g:α→Bool} (h:MapC w P k e κ b L g) {B:Nat} {w':World} (hb:Below B w w') (hlt:b<B):MapC w' P k e κ b L g:=h.block (hb.block b hlt)
theorem MapJ.made:MapJ (w.alloc (.map #[] 0)) P k e κ w.heap.size [] (fun _=>none):=⟨_,World.ownsMap_made _ _ _ _,⟨tidy_empty,rfl,List.nodup_nil,fun _=>rfl⟩,fun _=>⟨rfl,fun _ h=>by cases h⟩⟩
theorem MapC.made:MapC (w.alloc (.map #[] 0)) P k e κ w.heap.size [] (fun _=>false):=⟨_,World.ownsMap_made _ _ _ _,⟨tidy_empty,rfl,List.nodup_nil,fun _=>rfl⟩,fun _=>rfl⟩
theorem MapJ.nodup {g:α→Option Int} (h:MapJ w P k e κ b L g):L.Nodup:=by obtain ⟨_,_,h2,_⟩:=h;exact h2.2.2.1
theorem MapC.nodup {g:α→Bool} (h:MapC w P k e κ b L g):L.Nodup:=by obtain ⟨_,_,h2,_⟩:=h;exact h2.2.2.1
theorem MapC.same {g g':α→Bool} (h:MapC w P k e κ b L g) (hg:∀x,g x=g' x):MapC w P k e κ b L g':=by
 rw[← funext hg];exact h
theorem MapJ.same {g g':α→Option Int} (h:MapJ w P k e κ b L g) (hg:∀x,g x=g' x):MapJ w P k e κ b L g':=by
 rw[← funext hg];exact h
end
section
variable {α:Type} [DecidableEq α] {P:Program} (w:World) {ops:Array Oper} {rest:List Oper} {o:Oper} {a:Act} {Q:Exit→Act→World→Prop}
theorem wpList_putJ (hg:o.guard=none) (m x v:Operand) (t:TypeId) (hop:o.op=Op.mapUpdate t m x v) (k e:TypeId) (K:Keyed P k) (ht:P.underlying t=some (.map k e)) (he:P.underlying e=some (.int .i64))
  (κ:α→Lit) (hinj:∀x y,κ x=κ y→x=y) (b:Nat) (L:List α) (g:α→Option Int) (hm:a.eval m = .map (some b)) (h:MapJ w P k e κ b L g) (hn:L.length<maxLen) (key:Value) (y:α) (c:Int) (hx:a.eval x=key) (hv:a.eval v = .int .i64 c)
  (hkey:keyOf P k key=some (κ y)) (hwf:(Lit.int .i64 c).wf=true)
  (hK:∀w',MapJ w' P k e κ b (addK L y) (fun z=>if z=y then some c else g z)→w.grownBy w' (some b)→wpList P ops Q rest (a.put o.dst undef) w') :
  wpList P ops Q (o :: rest) a w:=by
 obtain ⟨D,h1,h2,h3⟩:=h
 refine wpList_mapUpdate_own w hg m x v t hop k e K ht (plainElem P e) b L.length D hm h1 hn key (.int .i64 c) (κ y) hx hv hkey (.lit (.int .i64 c)) [] (plainElem_int he hwf) (fun w' h4 h5=>hK w' ?_ h5)
 have hk:=h2.put hinj (K.key hkey) (.lit (.int .i64 c))
 refine ⟨_,(by rw[← hk.2.1];exact own_size h4),hk,fun z=>?_⟩
 by_cases e1:z=y
 ·subst e1
  dsimp only
  rw[if_pos rfl]
  exact ⟨has_put_same h1.isMap (K.key hkey) _,fun c2 e2 z2=>by cases e2;exact atKey_put_same h1.isMap (K.key hkey) _ _⟩
 ·dsimp only
  rw[if_neg e1,has_put_other (fun e2=>e1 (hinj _ _ e2))]
  exact ⟨(h3 z).1,fun c2 e2 z2=>by rw[atKey_put_other (fun e3=>e1 (hinj _ _ e3))];exact (h3 z).2 c2 e2 z2⟩
theorem wpList_putC (hg:o.guard=none) (m x v:Operand) (t:TypeId) (hop:o.op=Op.mapUpdate t m x v) (k e:TypeId) (K:Keyed P k) (ht:P.underlying t=some (.map k e)) (he:P.underlying e=some .bool)
  (κ:α→Lit) (hinj:∀x y,κ x=κ y→x=y) (b:Nat) (L:List α) (g:α→Bool) (hm:a.eval m = .map (some b)) (h:MapC w P k e κ b L g) (hn:L.length<maxLen) (key:Value) (y:α) (c:Bool) (hx:a.eval x=key) (hv:a.eval v = .bool c)
  (hkey:keyOf P k key=some (κ y))
  (hK:∀w',MapC w' P k e κ b (addK L y) (fun z=>if z=y then c else g z)→w.grownBy w' (some b)→wpList P ops Q rest (a.put o.dst undef) w') :
  wpList P ops Q (o :: rest) a w:=by
 obtain ⟨D,h1,h2,h3⟩:=h
 refine wpList_mapUpdate_own w hg m x v t hop k e K ht (plainElem P e) b L.length D hm h1 hn key (.bool c) (κ y) hx hv hkey (.lit (.bool c)) [] (plainElem_bool he c) (fun w' h4 h5=>hK w' ?_ h5)
 have hk:=h2.put hinj (K.key hkey) (.lit (.bool c))
 refine ⟨_,(by rw[← hk.2.1];exact own_size h4),hk,fun z=>?_⟩
 by_cases e1:z=y
 ·subst e1
  dsimp only
  rw[if_pos rfl]
  exact atKey_put_same h1.isMap (K.key hkey) _ _
 ·dsimp only
  rw[if_neg e1,atKey_put_other (fun e2=>e1 (hinj _ _ e2))]
  exact h3 z
end
end
section
def sumN (f:Nat→Nat):Nat→Nat
 | 0=>0
 | k+1=>sumN f k+f k
theorem sumN_succ (f:Nat→Nat) (k:Nat):sumN f (k+1)=sumN f k+f k:=rfl
theorem sumN_le {f:Nat→Nat} {B:Nat}:∀{k:Nat},(∀i,i<k→f i≤B)→sumN f k≤k*B
 | 0,_=>by simp[sumN]
 | k+1,h=>by
  have h1:=sumN_le (k:=k) (fun i hi=>h i (by omega))
  have h2:=h k (by omega)
  rw[sumN_succ,Nat.add_mul];omega
def itC (n:Nat) (cs:List Int) (i k j m:Nat):Nat:=if cs[i*n+j]?.getD 0=cs[k*n+m]?.getD 0∧cs[i*n+m]?.getD 0=cs[k*n+j]?.getD 0 then 1 else 0
theorem itC_le (n:Nat) (cs:List Int) (i k j m:Nat):itC n cs i k j m≤1:=by unfold itC;split <;> omega
def itJ (n:Nat) (cs:List Int) (k i m j:Nat):Nat:=sumN (fun j=>itC n cs i k j m) j
def itM (n:Nat) (cs:List Int) (k i m:Nat):Nat:=sumN (fun m=>itJ n cs k i m m) m
def itI (n:Nat) (cs:List Int) (k i:Nat):Nat:=sumN (fun i=>itM n cs k i n) i
def itK (n:Nat) (cs:List Int) (k:Nat):Nat:=sumN (fun k=>itI n cs k k) k
theorem itJ_le (n:Nat) (cs:List Int) (k i m j:Nat):itJ n cs k i m j≤j:=by
 have:=sumN_le (f:=fun j=>itC n cs i k j m) (k:=j) (fun a _=>itC_le n cs i k a m)
 unfold itJ;omega
theorem itM_le (n:Nat) (cs:List Int) (k i m:Nat) (hm:m≤n):itM n cs k i m≤n*n :=
 Nat.le_trans (sumN_le (B:=n) (fun a ha=>Nat.le_trans (itJ_le n cs k i a a) (by omega))) (Nat.mul_le_mul_right _ hm)
theorem itI_le (n:Nat) (cs:List Int) (k i:Nat) (hi:i≤n):itI n cs k i≤n*(n*n) :=
 Nat.le_trans (sumN_le (B:=n*n) (fun a _=>itM_le n cs k a n (Nat.le_refl _))) (Nat.mul_le_mul_right _ hi)
theorem itK_le (n:Nat) (cs:List Int) (k:Nat) (hk:k≤n):itK n cs k≤n*(n*(n*n)) :=
 Nat.le_trans (sumN_le (B:=n*(n*n)) (fun a ha=>itI_le n cs a a (by omega))) (Nat.mul_le_mul_right _ hk)
end
section
def onceX (n:Nat) (cs:List Int) (col:Nat→Int) (i:Nat):Int:=cs[i*n+(col i % (n:Int)).toNat]?.getD 0
def onceXs (n:Nat) (cs:List Int) (col:Nat→Int) (k:Nat):List Int:=(List.range k).map (onceX n cs col)
theorem onceXs_succ (n:Nat) (cs:List Int) (col:Nat→Int) (k:Nat):onceXs n cs col (k+1)=onceXs n cs col k++[onceX n cs col k]:=by
 unfold onceXs;rw[List.range_succ,List.map_append];rfl
def onceB (n:Nat) (cs:List Int) (col:Nat→Int):Bool:=(List.range n).all fun i=>!(onceXs n cs col i).contains (onceX n cs col i)
def kRed (n:Nat) (cs:List Int):Bool:=decide (cs=reduL (-1) n cs)
def kSym (n:Nat) (cs:List Int):Bool:=(List.range (n*n)).all fun k=>cs[k]?.getD 0==cs[k % n*n+k / n]?.getD 0
def kIde (n:Nat) (cs:List Int):Bool:=(List.range n).all fun i=>cs[i*n+i]?.getD 0==(i:Int)
def kUni (n:Nat) (cs:List Int):Bool:=(List.range n).all fun i=>cs[i*n+i]?.getD 0==cs[0]?.getD 0
def kDia (n:Nat) (cs:List Int):Bool:=onceB n cs (fun i=>(i:Int))&&onceB n cs (fun i=>(n:Int) - 1 - (i:Int))
def kPan (n:Nat) (cs:List Int):Bool:=(List.range n).all fun k=>onceB n cs (fun i=>(i:Int)+(k:Int))&&onceB n cs (fun i=>(k:Int) - (i:Int))
def symM (n:Nat) (r:List Int) (x y:Nat):Nat:=(r[x*n+y]?.getD 0).toNat
def kGrp (n:Nat) (cs:List Int):Bool:=(List.range (n*n*n)).all fun k =>
 symM n (reduL (-1) n cs) (symM n (reduL (-1) n cs) (k / n / n) (k / n % n)) (k % n)==symM n (reduL (-1) n cs) (k / n / n) (symM n (reduL (-1) n cs) (k / n % n) (k % n))
def kindsB (n:Nat) (cs:List Int):List Bool:=[kRed n cs,kSym n cs,kIde n cs,kUni n cs,kDia n cs,kPan n cs,kGrp n cs]
def kindTo (n:Nat) (cs:List Int) (m:Nat):List Nat:=(List.range m).filter fun i=>(kindsB n cs)[i]?.getD false
theorem kindTo_succ (n:Nat) (cs:List Int) (m:Nat):kindTo n cs (m+1)=if (kindsB n cs)[m]?.getD false=true then kindTo n cs m++[m] else kindTo n cs m:=by
 unfold kindTo
 rw[List.range_succ,List.filter_append]
 split
 ·rename_i h
  rw[List.filter_cons,if_pos h,List.filter_nil]
 ·rename_i h
  rw[List.filter_cons,if_neg h,List.filter_nil,List.append_nil]
theorem allr_upto {p:Nat→Bool} {n:Nat} (h:∀i,i<n→p i=true):(List.range n).all p=true:=List.all_eq_true.2 fun i hi=>h i (List.mem_range.1 hi)
theorem allr_miss {p:Nat→Bool} {n k:Nat} (hk:k<n) (h:p k=false):(List.range n).all p=false:=by
 rw[Bool.eq_false_iff]
 intro ha
 have:=List.all_eq_true.1 ha k (List.mem_range.2 hk)
 rw[h] at this;cases this
end
section
def pairB (l:List Int) (k:Nat) (x:Int) (cs:List Int):Bool:=(List.range k).all fun d=>!(l[d]?.getD 0==l[k]?.getD 0&&cs[d]?.getD 0==x)
end
section
theorem nodupN_le:∀{l m:List Nat},l.Nodup→(∀x,x∈l→x∈m)→l.length≤m.length
 | [],_,_,_=>Nat.zero_le _
 | x :: l,m,hn,hs=>by
  rw[List.nodup_cons] at hn
  have hx:=hs x List.mem_cons_self
  have h:=nodupN_le (l:=l) (m:=m.erase x) hn.2 (fun y hy=>(List.mem_erase_of_ne (fun e=>hn.1 (by rw[← e];exact hy))).2 (hs y (List.mem_cons_of_mem _ hy)))
  rw[List.length_erase_of_mem hx] at h
  have:=List.length_pos_of_mem hx
  simp only[List.length_cons]
  omega
def symN (C:Nat) (cs:List Int) (i j:Nat):Nat:=(cs[i*C+j]?.getD 0).toNat
def colN (C rows:Nat) (cs:List Int) (j:Nat):List Nat:=(List.range rows).map fun i=>symN C cs i j
def leftR (C rows:Nat) (cs:List Int):List (List Int):=(List.range C).map fun j=>((List.range C).filter fun x=>decide (x ∉ colN C rows cs j)).map fun (x:Nat)=>(x:Int)
theorem cellR_lt {C rows i j:Nat} (hi:i<rows) (hj:j<C):i*C+j<rows*C:=by
 have:=Nat.mul_le_mul_right C (show i+1≤rows by omega)
 rw[Nat.add_mul,Nat.one_mul] at this
 omega
theorem leftR_len {C rows:Nat} {cs:List Int}:(leftR C rows cs).length=C:=by unfold leftR;rw[List.length_map,List.length_range]
end
section
open Go
def pairG (n:Nat) (l cs:List Int) (z:Pr):Bool:=(List.range (n*n)).any fun d=>l[d]?.getD 0==z.1.1&&cs[d]?.getD 0==z.1.2&&decide (0≤cs[d]?.getD 0)
theorem pairG_iff {n:Nat} {l cs:List Int} {z:Pr}:pairG n l cs z=true↔∃d,d<n*n∧l[d]?.getD 0=z.1.1∧cs[d]?.getD 0=z.1.2∧0≤cs[d]?.getD 0:=by
 unfold pairG
 simp only[List.any_eq_true,List.mem_range,Bool.and_eq_true,beq_iff_eq,decide_eq_true_eq,and_assoc]
theorem pair_free {n k x:Nat} {l cs:List Int} {z:Pr} (hk:k<n*n) (h:∀d,k≤d→d<n*n→cs[d]?.getD 0<0) (hz:z.1.1=l[k]?.getD 0) (hz2:z.1.2=(x:Int)):(!pairG n l cs z)=pairB l k (x:Int) cs:=by
 have h1:pairG n l cs z=true↔pairB l k (x:Int) cs=false:=by
  rw[pairG_iff]
  unfold pairB
  constructor
  ·rintro ⟨d,hd,e1,e2,e3⟩
   rw[Bool.eq_false_iff]
   intro hall
   rw[List.all_eq_true] at hall
   have hlt:d<k:=by
    rcases Nat.lt_or_ge d k with e|e
    ·exact e
    ·have:=h d e hd;omega
   have:=hall d (List.mem_range.2 hlt)
   rw[e1,hz,e2,hz2] at this
   simp at this
  ·intro hf
   rw[Bool.eq_false_iff] at hf
   have:∃d,d∈List.range k∧(l[d]?.getD 0==l[k]?.getD 0&&cs[d]?.getD 0==(x:Int))=true:=by
    refine Classical.byContradiction fun hn=>hf (List.all_eq_true.2 fun d hd=>?_)
    have:=Bool.eq_false_iff.2 fun e=>hn ⟨d,hd,e⟩
    rw[this];rfl
   obtain ⟨d,hd,e⟩:=this
   rw[Bool.and_eq_true,beq_iff_eq,beq_iff_eq] at e
   have:=List.mem_range.1 hd
   exact ⟨d,by omega,e.1.trans hz.symm,e.2.trans hz2.symm,by rw[e.2];omega⟩
 cases hg:pairG n l cs z with
 | true=>rw[(h1.1 hg)];rfl
 | false =>
  cases hb:pairB l k (x:Int) cs with
  | true=>rfl
  | false=>rw[h1.2 hb] at hg;cases hg
theorem pair_set {n k x:Nat} {l cs:List Int} {z:Pr} (hk:k<n*n) (hl:cs.length=n*n) (h0:cs[k]?.getD 0<0):pairG n l (cs.set k (x:Int)) z=true↔(z.1.1=l[k]?.getD 0∧z.1.2=(x:Int))∨pairG n l cs z=true:=by
 rw[pairG_iff,pairG_iff]
 constructor
 ·rintro ⟨d,hd,e1,e2,e3⟩
  rw[gset_get (by omega)] at e2 e3
  by_cases e:d=k
  ·subst e
   rw[if_pos rfl] at e2
   exact .inl ⟨e1.symm,e2.symm⟩
  ·rw[if_neg e] at e2 e3
   exact .inr ⟨d,hd,e1,e2,e3⟩
 ·rintro (⟨e1,e2⟩|⟨d,hd,e1,e2,e3⟩)
  ·refine ⟨k,hk,e1.symm,?_,?_⟩
   ·rw[gset_get (by omega),if_pos rfl];exact e2.symm
   ·rw[gset_get (by omega),if_pos rfl];omega
  ·have e:d≠k:=by rintro rfl;omega
   refine ⟨d,hd,e1,?_,?_⟩
   ·rw[gset_get (by omega),if_neg e];exact e2
   ·rw[gset_get (by omega),if_neg e];exact e3
theorem pair_put {n k x:Nat} {l cs:List Int} {p:Pr} (hk:k<n*n) (hl:cs.length=n*n) (h0:cs[k]?.getD 0<0) (hp:p.1.1=l[k]?.getD 0∧p.1.2=(x:Int)) (z:Pr):(if z=p then true else pairG n l cs z)=pairG n l (cs.set k (x:Int)) z:=by
 have h:=pair_set (x:=x) (l:=l) (z:=z) hk hl h0
 by_cases e:z=p
 ·rw[if_pos e,h.2 (.inl (by rw[e];exact hp))]
 ·rw[if_neg e]
  cases hg:pairG n l cs z with
  | true=>rw[h.2 (.inr hg)]
  | false =>
   cases hs:pairG n l (cs.set k (x:Int)) z with
   | false=>rfl
   | true =>
    rcases h.1 hs with e2|e2
    ·exact absurd (Subtype.ext (Prod.ext (e2.1.trans hp.1.symm) (e2.2.trans hp.2.symm))) e
    ·rw[hg] at e2;cases e2
theorem pair_take {n k x:Nat} {l cs:List Int} {p:Pr} (hk:k<n*n) (hl:cs.length=n*n) (h0:cs[k]?.getD 0<0) (h:∀d,k≤d→d<n*n→cs[d]?.getD 0<0) (hp:p.1.1=l[k]?.getD 0∧p.1.2=(x:Int)) (hok:pairB l k (x:Int) cs=true) (z:Pr):(if z=p then false else pairG n l (cs.set k (x:Int)) z)=pairG n l cs z:=by
 by_cases e:z=p
 ·rw[if_pos e]
  have:=pair_free (x:=x) hk h (z:=z) (by rw[e];exact hp.1) (by rw[e];exact hp.2)
  rw[hok] at this
  cases hg:pairG n l cs z with
  | false=>rfl
  | true=>rw[hg] at this;cases this
 ·rw[if_neg e,← pair_put hk hl h0 hp,if_neg e]
def PrIn (n:Nat) (z:Pr):Prop:=0≤z.1.1∧z.1.1<(n:Int)∧0≤z.1.2∧z.1.2<(n:Int)
theorem prs_few {n:Nat} {L:List Pr} (hn:L.Nodup) (hr:∀z,z∈L→PrIn n z):L.length≤n*n:=by
 have h1:(L.map fun z=>z.1.1.toNat*n+z.1.2.toNat).Nodup:=by
  unfold List.Nodup
  rw[List.pairwise_map]
  refine List.Pairwise.imp_of_mem ?_ hn
  intro a b ha hb hne e
  obtain ⟨a0,a1,a2,a3⟩:=hr a ha
  obtain ⟨b0,b1,b2,b3⟩:=hr b hb
  have d1:=gcell_div (n:=n) (i:=a.1.1.toNat) (j:=a.1.2.toNat) (by omega)
  have d2:=gcell_div (n:=n) (i:=b.1.1.toNat) (j:=b.1.2.toNat) (by omega)
  rw[e] at d1
  exact hne (Subtype.ext (Prod.ext (by have:=d1.1.symm.trans d2.1;omega) (by have:=d1.2.symm.trans d2.2;omega)))
 have h2:=nodupN_le h1 (m:=List.range (n*n)) (fun x hx=>by
  obtain ⟨z,hz,rfl⟩:=List.mem_map.1 hx
  obtain ⟨a0,a1,a2,a3⟩:=hr z hz
  exact List.mem_range.2 (gcell_lt (by omega) (by omega)))
 simpa using h2
end
section
open Go Go.RowKit
attribute [local go_sem] over_cell
attribute [local go_sem] Oper.semAt_some
def linS (N:Nat) (a b:Int) (i j:Nat):Int:=(a*(i:Int)+b*(j:Int)) % (N:Int)
end
section
open Go Go.RowKit
attribute [local go_sem] over_cell
attribute [local go_sem] Oper.semAt_some
def ExtV (w w':World) (n m:Nat) (v v':Value):Prop :=
 (∃g cap,v = .slice (some ⟨g,0,none⟩) n cap∧v' = .slice (some ⟨g,0,none⟩) m cap)∨((∀k,v'.ownBlock=some k→w.heap.size≤k)∧Below w.heap.size w w')
theorem ExtV.blk {w w':World} {n m:Nat} {v v':Value} (h:ExtV w w' n m v v'):∀k,v'.ownBlock=some k→v.ownBlock=some k∨w.heap.size≤k:=by
 rcases h with ⟨g,cap,rfl,rfl⟩|⟨h,_⟩
 ·exact fun k e => .inl e
 ·exact fun k e => .inr (h k e)
theorem own_back {w w' W:World} {L n m:Nat} {e:TypeId} {v v':Value} {xs ys:List Value} (hx:ExtV w w' n (n+m) v v') (h:w.ownsRow L e 1 v n xs) (h':W.ownsRow L e 1 v' (n+m) (xs++ys))
  (hk:Below w.heap.size w w'→∀k,v.ownBlock=some k→k<w.heap.size→v'.ownBlock≠some k→W.heap[k]?=w.heap[k]?):W.ownsRow L e 1 v n xs:=by
 have hl:xs.length=n:=by have:=h.1;simpa using this
 rcases hx with ⟨g,cap,rfl,rfl⟩|⟨hx,hb⟩
 ·rcases h'.2 with ⟨e1,_⟩|⟨g',cap',cur,e1,hb,hg,hnc,hcm,hcs,ht⟩
  ·cases e1
  ·cases e1
   refine ⟨h.1,.inr ⟨g,cap,cur,rfl,hb,hg,by omega,hcm,hcs,?_⟩⟩
   have e2:cur.toList.take (n*1)=(cur.toList.take ((n+m)*1)).take n:=by rw[List.take_take];congr 1;omega
   rw[e2,ht,List.take_append_of_le_length (by omega),List.take_of_length_le (by omega)]
 ·exact owns_keep h (fun k e hlt=>hk hb k e hlt (fun e2=>by have:=hx k e2;omega))
theorem run_append_own3 {P:Program} (w:World) (t ty e:TypeId) (i:TypeInfo) (z:Value) (size bytes:Nat) (ht:P.underlying t=some (.slice e)) (hi:P.info? e=some i) (hz:i.zero=some z)
  (hsize:i.size=size) (hby:i.bytes=bytes) (hzs:z.cells.size=size) (hsz:0<size)
  (v:Value) (n:Nat) (xs:List Value) (hown:w.ownsRow 0 e size v n xs)
  (a:Addr) (m c:Nat) (news:List Value) (hl:news.length=m*size) (hnews:∀j u,news[j]?=some u→w.cell? (a.add j)=some u) (h1:∀u∈news,u.oneCell'=true)
  (h63:n+m≤maxLen) (hbytes:(n+m)*bytes≤140737488355328) :
  ∃v' w',(Builtin.append_ #[t,t] ty #[v,.slice (some a) m c]).run P w = .ok v' w'∧w'.ownsRow 0 e size v' (n+m) (xs++news)∧w.grownBy w' v.ownBlock∧ExtV w w' n (n+m) v v':=by
 obtain ⟨v',w',hr,h2,h3,_⟩:=run_append_own (P:=P) w 0 t ty e i z size bytes ht hi hz hsize hby hzs hsz v n xs hown a m c news hl hnews h1 h63 hbytes (Nat.zero_le _)
 refine ⟨v',w',hr,h2,h3,?_⟩
 rcases hown.2 with ⟨rfl,rfl⟩|⟨g,cap,cur,rfl,hbg,hg,hnc,hcm,hcs,htake⟩
 ·have hx:xs=[]:=List.eq_nil_of_length_eq_zero (by simpa using hown.1)
  subst hx
  obtain ⟨v2,w2,hr2,h4,h5,_⟩:=run_append_own (P:=P) w w.heap.size t ty e i z size bytes ht hi hz hsize hby hzs hsz _ 0 [] (World.ownsRow_nil w _ e size) a m c news hl hnews h1 h63 hbytes (Nat.le_refl _)
  rw[hr] at hr2
  cases hr2
  exact .inr ⟨fun k hk=>(h4.lt k hk).1,⟨h5.os,h5.tape,h5.output,h5.size,fun k hk=>h5.block k hk (by simp[Value.ownBlock])⟩⟩
 ·by_cases hroom:n+m≤cap
  ·subst hsize
   have hfit:n*i.size+news.length≤cur.size:=by rw[hl,hcs,← Nat.add_mul];exact Nat.mul_le_mul_right _ hroom
   have hr2:=run_append_room (P:=P) w t ty e i ht hi g n cap cur hg a m c news hl hnews h1 hroom hfit
   rw[hr] at hr2
   cases hr2
   exact .inl ⟨g,cap,rfl,rfl⟩
  ·subst hsize
   subst hby
   have hsmall:n+m≤9223372036854775807:=by simp only[maxLen] at h63;omega
   have holds:∀j u,xs[j]?=some u→w.cell? ((⟨g,0,none⟩:Addr).add j)=some u:=hown.cells (g:=g) rfl
   have hr2:=run_append_grow (P:=P) w t ty e i z ht hi hz ⟨g,0,none⟩ n cap xs hown.1 holds a m c news hl hnews (by omega) (by omega) (growslice_fits (by omega) hbytes)
   rw[hr] at hr2
   cases hr2
   refine .inr ⟨?_,keep_alloc (keep_drew (Below.refl _ _)) _⟩
   intro k hk
   simp only[Value.ownBlock,Option.some.injEq] at hk
   omega
theorem wpList_append_ext {P:Program} (w:World) {ops:Array Oper} {rest:List Oper} {o:Oper} {a:Act} {Q:Exit→Act→World→Prop} (hgd:o.guard=none) (s x:Operand) (t:TypeId)
  (ho:o.op = .call { callee := .builtin .append,args:=#[s,x],argTypes:=#[t,t] })
  (B:Nat) (e:TypeId) (i:TypeInfo) (z:Value) (bytes:Nat) (ht:P.underlying t=some (.slice e)) (hi:P.info? e=some i) (hz:i.zero=some z)
  (hsize:i.size=1) (hby:i.bytes=bytes) (hzs:z.cells.size=1)
  (v:Value) (n:Nat) (xs:List Value) (hs:a.eval s=v) (hown:w.ownsRow B e 1 v n xs) (hB:B≤w.heap.size)
  (ad:Addr) (m c:Nat) (news:List Value) (hx:a.eval x = .slice (some ad) m c) (hl:news.length=m*1) (hnews:∀j u,news[j]?=some u→w.cell? (ad.add j)=some u) (h1:∀u∈news,u.oneCell'=true)
  (h63:n+m≤maxLen) (hbytes:(n+m)*bytes≤140737488355328)
  (h:∀v' w',w'.ownsRow B e 1 v' (n+m) (xs++news)→Stays (fun k=>v.ownBlock=some k) w w'→ExtV w w' n (n+m) v v'→wpList P ops Q rest (a.put o.dst v') w'):wpList P ops Q (o :: rest) a w :=
 wpList_plain hgd fun _ hK=>by
  obtain ⟨v',w',hr,h2,h3,h4⟩:=run_append_own3 (P:=P) w t o.type e i z 1 bytes ht hi hz hsize hby hzs (by decide) v n xs (owns_base hown (Nat.zero_le _)) ad m c news hl hnews h1 h63 hbytes
  unfold Oper.wp execOp
  simp only[ho,resolve,invoke,builtin,Sem.run_bind,Sem.run_pure,Result.andThen_ok,List.map_toArray,List.map_cons,List.map_nil,hs,hx,hr]
  refine hK _ _ (h v' w' ⟨h2.1,h2.2.imp id ?_⟩ (Stays.grown h3 (fun k e=>e)) h4)
  rintro ⟨g,cap,cur,rfl,_,r⟩
  refine ⟨g,cap,cur,rfl,?_,r⟩
  rcases h4.blk g rfl with e|e
  ·exact (hown.lt g e).1
  ·omega
theorem RowsI.weak {W:World} {M M':Nat→Prop} {L:Nat} {v:Value} {pre:List (Value × List Int)} (h:RowsI W M' L v pre) (hm:∀k,M k→M' k):RowsI W M L v pre :=
 ⟨h.1,fun k e e2=>h.2.1 k e (hm k e2),fun x hx=>⟨(h.2.2 x hx).1,fun k e=>⟨fun e2=>((h.2.2 x hx).2 k e).1 (hm k e2),((h.2.2 x hx).2 k e).2⟩⟩⟩
def trAcc (n:Nat) (cs:List Int) (f:Nat) (t:List Int) (j:Nat):List (List Int):=(List.range j).flatMap fun (j:Nat)=>if transB n cs (t++[(j:Int)])=true then transL n cs f (t++[(j:Int)]) else []
theorem trAcc_succ (n:Nat) (cs:List Int) (f:Nat) (t:List Int) (j:Nat):trAcc n cs f t (j+1)=trAcc n cs f t j++if transB n cs (t++[(j:Int)])=true then transL n cs f (t++[(j:Int)]) else []:=by
 unfold trAcc;rw[List.range_succ,List.flatMap_append];simp
theorem trAcc_all (n:Nat) (cs:List Int) (f:Nat) (t:List Int):trAcc n cs f t n=transL n cs (f+1) t:=rfl
theorem tr_len (n:Nat) (cs:List Int):∀(f:Nat) (t:List Int),(transL n cs f t).length≤n ^ f∧∀j,(trAcc n cs f t j).length≤j*n ^ f
 | 0,t=>by
  refine ⟨by simp[transL],fun j=>?_⟩
  induction j with
  | zero=>simp[trAcc]
  | succ j ih =>
   rw[trAcc_succ,List.length_append,Nat.add_mul]
   split
   ·simp[transL] at ih ⊢;omega
   ·simp at ih ⊢;omega
 | f+1,t=>by
  have h1:=fun s=>(tr_len n cs f s).1
  have h3:(transL n cs (f+1) t).length≤n ^ (f+1):=by
   rw[← trAcc_all,Nat.pow_succ,Nat.mul_comm]
   exact (tr_len n cs f t).2 n
  refine ⟨h3,fun j=>?_⟩
  have h4:∀s,(transL n cs (f+1) s).length≤n ^ (f+1):=fun s=>by
   rw[← trAcc_all,Nat.pow_succ,Nat.mul_comm]
   exact (tr_len n cs f s).2 n
  induction j with
  | zero=>simp[trAcc]
  | succ j ih =>
   rw[trAcc_succ,List.length_append,Nat.add_mul,Nat.one_mul]
   split
   ·have:=h4 (t++[(j:Int)]);omega
   ·rw[List.length_nil];omega
structure TrW (N m c:Nat) (a:Option Addr) (cs:List Int) (bL bO:Nat) (W:World):Prop where
 q:W.heap[bL]?=some (.cells #[.int .i64 (N:Int),.int .i64 (N:Int),.slice a m c] 24 (0,0))
 f:W.heap[bO+1]?=some (.cells #[.func (.func 140) #[] #[.pointer (some ⟨bL,0,none⟩),.pointer (some ⟨bO,0,none⟩),.pointer (some ⟨bO+1,0,none⟩)]] 141 (0,0))
 ic:Sure (fun k=>k<bL) W (fun w'=>IC w' a m cs)
 lt:bL<bO
theorem TrW.stays {N m c:Nat} {a:Option Addr} {cs:List Int} {bL bO:Nat} {W W':World} {S:Nat→Prop} (h:TrW N m c a cs bL bO W) (hs:Stays S W W') (hS:∀k,S k→k=bO∨bO+2≤k):TrW N m c a cs bL bO W' where
 q:=hs.q h.q (fun e=>by have:=hS _ e;have:=h.lt;omega)
 f:=hs.q h.f (fun e=>by have:=hS _ e;omega)
 ic:=h.ic.keep hs.size (fun k e=>hs.block k (Nat.lt_trans e (q_lt h.q)) (fun e2=>by have:=hS _ e2;have:=h.lt;omega))
 lt:=h.lt
def TrQ (bO L:Nat) (t:List Int) (v vo:Value) (pre:List (Value × List Int)) (M:Nat→Prop) (W:World) (T:List (List Int)) (W':World):Prop :=
 ∃vo' new,W'.heap[bO]?=some (.cells #[vo'] 40 (0,0))∧RowsI W' M L vo' (pre++new)∧new.map Prod.snd=T∧W'.ownsRow L 3 1 v t.length (t.map (Value.int .i64)) ∧
  Stays (fun k=>k=bO∨vo.ownBlock=some k∨v.ownBlock=some k) W W'∧∀k,vo'.ownBlock=some k→vo.ownBlock=some k∨W.heap.size≤k
structure TrI (N m c:Nat) (a:Option Addr) (cs:List Int) (bL bO:Nat) (t:List Int) (v vo:Value) (pre:List (Value × List Int)) (M:Nat→Prop) (W:World):Prop where
 st:TrW N m c a cs bL bO W
 q:W.heap[bO]?=some (.cells #[vo] 40 (0,0))
 rows:RowsI W M (bO+2) vo pre
 own:W.ownsRow (bO+2) 3 1 v t.length (t.map (Value.int .i64))
 mlt:∀k,M k→k<W.heap.size
 mv:∀k,v.ownBlock=some k→M k
 size:bO+2≤W.heap.size
 num:∀y,y∈t→0≤y∧y<(N:Int)
 tr:transB N cs t=true
end
end Go.Proofs.YtmfpdakaeagdpaaGreat
