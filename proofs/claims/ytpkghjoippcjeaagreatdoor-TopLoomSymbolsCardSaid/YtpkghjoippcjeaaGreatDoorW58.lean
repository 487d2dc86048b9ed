/- Texts J62 to J91 of this proof, in one file. -/
import Derived.Test.YtpkghjoippcjeaaGreatDoorW33
import Derived.Test.YtpkghjoippcjeaaGreatDoorW39
import Derived.Test.YtpkghjoippcjeaaGreatDoorW42
import Derived.Test.YtpkghjoippcjeaaGreatDoorW53
import Derived.Test.YtpkghjoippcjeaaGreatDoorW54
import Derived.Test.YtpkghjoippcjeaaGreatDoorW55
import Derived.Test.YtpkghjoippcjeaaGreatDoorW56
import Derived.Test.YtpkghjoippcjeaaGreatDoorW57
import Derived.Lib.SliceRun
import Derived.Maps.OwnSet
import Derived.Lib.AppendZeros
namespace Go.Proofs.YtpkghjoippcjeaaGreatDoor
set_option maxRecDepth 100000
set_option maxHeartbeats 16000000
section
open Go Go.RowKit
attribute [local go_sem] over_cell
attribute [local go_sem] Oper.semAt_some
end
section
open Go Go.RowKit
attribute [local go_sem] over_cell
attribute [local go_sem] Oper.semAt_some
def farO (x:Int):Bool:=decide (x<0)||decide (999999999<x)
def risB (s:List Int) (k:Nat):Bool:=(List.range k).all fun i=>decide (i=0)||decide (s[i - 1]?.getD 0<s[i]?.getD 0)
def setE (s:List Int):Int:=firstL [whenV (decide ((64:Int)<(s.length:Int))) 5,whenV (s.any farO) 3,whenV (!risB s s.length) 11]
def stE (sets:List (List Int)):Int:=if 32<sets.length then 5 else firstL (sets.map setE)
end
section
end
section
open Go Go.RowKit Go.Maps
attribute [local go_sem] over_cell
attribute [local go_sem] Oper.semAt_some
abbrev Nk:={x:Int // (Lit.int .i64 x).wf=true}
def kapN (x:Nk):Lit := .int .i64 x.1
end
section
open Go Go.RowKit Go.Maps
attribute [local go_sem] over_cell
attribute [local go_sem] Oper.semAt_some
end
section
open Go Go.RowKit Go.Shelf Go.Sort
attribute [local go_sem] over_cell
attribute [local go_sem] Oper.semAt_some
end
section
open Go Go.RowKit Go.Maps
attribute [local go_sem] over_cell
attribute [local go_sem] Oper.semAt_some
structure SetsOk (sets:List (List Int)):Prop where
 few:sets.length≤32∧sets.flatten.length≤4096
 num:∀x,x∈sets.flatten→0≤x∧x≤999999999
end
section
open Go Go.RowKit
attribute [local go_sem] over_cell
attribute [local go_sem] Oper.semAt_some
def LRow (X:Nat→Prop) (B:Nat) (W:World) (v:Value) (n:Nat) (xss:List (List Int)):Prop :=
 xss.length=n∧∃vs:List Value,W.ownsRow B 22 1 v n vs∧∀k,k<n→∃a' n' c',vs[k]?=some (.slice a' n' c')∧IC W a' n' (xss[k]?.getD [])∧n'≤c'∧∀b o,0<n'→a'=some ⟨b,o,none⟩→v.ownBlock≠some b∧¬X b
theorem LRow.keep {X:Nat→Prop} {B n:Nat} {W W':World} {v:Value} {xss:List (List Int)} (h:LRow X B W v n xss) (hb:Below W.heap.size W W'):LRow X B W' v n xss:=by
 obtain ⟨h1,vs,h2,h3⟩:=h
 refine ⟨h1,vs,owns_keep h2 (fun k _ hl=>hb.block k hl),fun k hk=>?_⟩
 obtain ⟨a',n',c',e1,e2,e3,e4⟩:=h3 k hk
 exact ⟨a',n',c',e1,e2.mono hb,e3,e4⟩
theorem LRow.stays {X:Nat→Prop} {B n:Nat} {W W':World} {v:Value} {xss:List (List Int)} (h:LRow X B W v n xss) (hs:Stays X W W') (hv:∀k,v.ownBlock=some k→¬X k):LRow X B W' v n xss:=by
 obtain ⟨h1,vs,h2,h3⟩:=h
 refine ⟨h1,vs,owns_keep h2 (fun k e hl=>hs.block k hl (hv k e)),fun k hk=>?_⟩
 obtain ⟨a',n',c',e1,e2,e3,e4⟩:=h3 k hk
 exact ⟨a',n',c',e1,e2.stays hs (fun b o h0 e5=>(e4 b o h0 e5).2),e3,e4⟩
theorem LRow.set {X:Nat→Prop} {B n c g k:Nat} {W:World} {xss:List (List Int)} {a':Option Addr} {n' c':Nat} {ys:List Int} (h:LRow X B W (.slice (some ⟨g,0,none⟩) n c) n xss) (_hk:k<n) (hy:IC W a' n' ys) (hc:n'≤c') (hg:∀b o,0<n'→a'=some ⟨b,o,none⟩→b≠g∧¬X b) :
  LRow X B (W.setCell ⟨g,k,none⟩ (.slice a' n' c')) (.slice (some ⟨g,0,none⟩) n c) n (xss.set k ys):=by
 obtain ⟨h1,vs,h2,h3⟩:=h
 have hl:vs.length=n:=by have:=h2.1;omega
 have hst:Stays (fun b=>b=g) W (W.setCell ⟨g,k,none⟩ (.slice a' n' c')):=Stays.setCell (S:=fun b=>b=g) W (p:=⟨g,k,none⟩) rfl _
 refine ⟨by rw[List.length_set];exact h1,vs.set k (.slice a' n' c'),owns_set h2 k _,fun i hi=>?_⟩
 by_cases e:i=k
 ·subst e
  refine ⟨a',n',c',by rw[List.getElem?_set_self (by omega)],?_,hc,fun b o h0 e2=>⟨fun e3=>(hg b o h0 e2).1 (by simpa [Value.ownBlock] using e3.symm),(hg b o h0 e2).2⟩⟩
  rw[List.getElem?_set_self (by omega),Option.getD_some]
  exact hy.stays hst (fun b o h0 e2 e3=>(hg b o h0 e2).1 e3)
 ·obtain ⟨a9,n9,c9,e1,e2,e3,e4⟩:=h3 i hi
  refine ⟨a9,n9,c9,by rw[List.getElem?_set_ne (fun e5=>e e5.symm)];exact e1,?_,e3,e4⟩
  rw[List.getElem?_set_ne (fun e5=>e e5.symm)]
  exact e2.stays hst (fun b o h0 e5 e6=>(e4 b o h0 e5).1 (by simp[Value.ownBlock,e6]))
theorem run_nilR (w:World) (a:Option Addr) (n c:Nat):(binOp .eql 28 (.slice a n c) (.slice none 0 0)).run Tryz.prog w = .ok (.bool a.isNone) w :=
 Go.Lib.run_eql_slice_nil w _ _ a n c 0 0 Tryz.underlying28
attribute [local go_sem] run_nilR
structure SetsB (sets:List (List Int)):Prop where
 few:sets.length≤32
 each:∀s,s∈sets→s.length≤64∧∀x,x∈s→0≤x∧x≤999999999
theorem flatS_len {sets:List (List Int)} {b:Nat} (h:∀s,s∈sets→s.length≤b):sets.flatten.length≤sets.length*b:=by
 induction sets with
 | nil=>simp
 | cons s l ih =>
  rw[List.flatten_cons,List.length_append,List.length_cons,Nat.add_mul,Nat.one_mul]
  have:=ih (fun t ht=>h t (List.mem_cons_of_mem _ ht))
  have:=h s List.mem_cons_self
  omega
theorem SetsB.ok {sets:List (List Int)} (h:SetsB sets):SetsOk sets:=by
 refine ⟨⟨h.few,?_⟩,fun x hx=>?_⟩
 ·have h1:=flatS_len (b:=64) (fun s hs=>(h.each s hs).1)
  have h2:=h.few
  omega
 ·obtain ⟨s,hs,hx2⟩:=List.mem_flatten.1 hx
  exact (h.each s hs).2 x hx2
theorem SetsB.set {sets:List (List Int)} (h:SetsB sets) (k:Nat) {y:List Int} (hy:y.length≤64∧∀x,x∈y→0≤x∧x≤999999999):SetsB (sets.set k y):=by
 refine ⟨by rw[List.length_set];exact h.few,fun s hs=>?_⟩
 rcases List.mem_or_eq_of_mem_set hs with e|e
 ·exact h.each s e
 ·rw[e];exact hy
end
section
open Go Go.RowKit
attribute [local go_sem] over_cell
attribute [local go_sem] Oper.semAt_some
attribute [local go_sem] run_nilI
theorem ic_one (w:World) (x:Int):IC (w.alloc (.cells #[.int .i64 x] 3)) (some ⟨w.heap.size,0,none⟩) 1 [x] :=
 ⟨⟨rfl,by omega⟩,fun k hk=>by
  obtain rfl:k=0:=by omega
  exact ⟨w.heap.size,0,rfl,by rw[World.size_alloc];omega,q_cell (World.alloc_heap_new w (.cells #[.int .i64 x] 3)) 0⟩⟩
theorem LRow.at {X:Nat→Prop} {B n k:Nat} {W:World} {v:Value} {xss:List (List Int)} (h:LRow X B W v n xss) (hk:k<n):∃g cap x,v = .slice (some ⟨g,0,none⟩) n cap∧W.cell? ⟨g,k,none⟩=some x∧W.frozen? ⟨g,k,none⟩=false∧g<W.heap.size∧n≤cap∧B≤g:=by
 obtain ⟨_,vs,h2,_⟩:=h
 obtain ⟨g,cap,x,e,_,h3,h4,h5,h6⟩:=owns_free h2 k hk
 exact ⟨g,cap,x,e,h3,h4,h5,h6,(h2.lt g (by rw[e];rfl)).1⟩
structure RpW (w:World) (n:Nat) (vL vo:Value) (out:List Int) (left:List (List Int)) (W:World):Prop where
 rows:LRow (fun b=>vo.ownBlock=some b) w.heap.size W vL n left
 own:W.ownsRow w.heap.size 3 1 vo out.length (out.map (Value.int .i64))
 ap:∀k,vo.ownBlock=some k→vL.ownBlock≠some k
 base:Below w.heap.size w W
 ok:SetsB left
theorem RpW.below {w W W':World} {n:Nat} {vL vo:Value} {out:List Int} {left:List (List Int)} (h:RpW w n vL vo out left W) (hb:Below W.heap.size W W'):RpW w n vL vo out left W' :=
 ⟨h.rows.keep hb,owns_keep h.own (fun k _ hl=>hb.block k hl),h.ap,keep_trans h.base hb,h.ok⟩
theorem RpW.set {w W:World} {n c g k:Nat} {vo:Value} {out:List Int} {left:List (List Int)} {x:Int} (h:RpW w n (.slice (some ⟨g,0,none⟩) n c) vo out left W) (hk:k<n) (hx:0≤x∧x≤999999999) (hg:g<W.heap.size) (hwg:w.heap.size≤g) :
  RpW w n (.slice (some ⟨g,0,none⟩) n c) vo out (left.set k [x]) ((W.setCell ⟨g,k,none⟩ (.slice (some ⟨W.heap.size,0,none⟩) 1 1)).alloc (.cells #[.int .i64 x] 3)):=by
 rw[← World.setCell_alloc_past _ _ _ _ hg]
 have hb:Below W.heap.size W (W.alloc (.cells #[.int .i64 x] 3)):=(Below.refl _ _).alloc (Nat.le_refl _) _
 have h2:=h.below hb
 exact ⟨h2.rows.set hk (ic_one W x) (Nat.le_refl _) (fun b o _ e=>by cases e;exact ⟨by omega,fun e2=>by have:=(h.own.lt _ e2).2;omega⟩),ownsRow_setCell_other h2.own (a:=⟨g,k,none⟩) (fun e=>h2.ap g e rfl) _,h2.ap,h2.base.setCell (p:=⟨g,k,none⟩) hwg _,h2.ok.set k ⟨by simp,fun y hy=>by rw[List.mem_singleton.1 hy];exact hx⟩⟩
end
section
open Go Go.RowKit
attribute [local go_sem] over_cell
attribute [local go_sem] Oper.semAt_some
attribute [local go_sem] run_nilI
def rpO (sets:List (List Int)):Option (List Int):=repP sets sets.length [] sets
def haO (sets:List (List Int)):(Int→Option Nat) ⊕ List Nat:=matchM sets (sets.flatten.length+1) sets.length 0 (fun _=>none)
def haE (sets:List (List Int)):Int:=if stE sets=0 then (match haO sets with | .inl _=>7 | .inr _=>0) else stE sets
end
section
open Go Go.RowKit Go.Maps
attribute [local go_sem] over_cell
attribute [local go_sem] Oper.semAt_some
section
variable {α:Type} [DecidableEq α] {P:Program} (w:World) {ops:Array Oper} {rest:List Oper} {o:Oper} {a:Act} {Q:Exit→Act→World→Prop}
end
def keysI (l:List Int):List Int:=l.foldl addK []
structure ChW (w:World) (sets:List (List Int)) (m:Nat) (l:List Int) (W:World):Prop where
 base:Below w.heap.size w W
 lo:w.heap.size≤m
 map:∃(K:List Nk) (g:Nk→Bool),MapC W Tryz.prog 3 4 kapN m K g∧K.map (·.1)=keysI l∧∀x,x∈l→x∈sets.flatten
theorem ChW.below {w:World} {sets:List (List Int)} {m:Nat} {l:List Int} {W W':World} (h:ChW w sets m l W) (hb:Below W.heap.size W W'):ChW w sets m l W':=by
 obtain ⟨K,g,h1,h2,h3⟩:=h.map
 exact ⟨keep_trans h.base hb,h.lo,K,g,h1.mono hb h1.lt,h2,h3⟩
end
section
open Go Go.RowKit
attribute [local go_sem] over_cell
attribute [local go_sem] Oper.semAt_some
end
section
open Go Go.RowKit
attribute [local go_sem] over_cell
attribute [local go_sem] Oper.semAt_some
end
section
open Go Go.RowKit
attribute [local go_sem] over_cell
attribute [local go_sem] Oper.semAt_some
end
section
open Go Go.RowKit
attribute [local go_sem] over_cell
attribute [local go_sem] Oper.semAt_some
end
section
open Go Go.RowKit
attribute [local go_sem] over_cell
attribute [local go_sem] Oper.semAt_some
end
section
open Go Go.RowKit
attribute [local go_sem] over_cell
attribute [local go_sem] Oper.semAt_some
end
section
open Go Go.RowKit
attribute [local go_sem] over_cell
attribute [local go_sem] Oper.semAt_some
end
section
open Go Go.RowKit
attribute [local go_sem] over_cell
attribute [local go_sem] Oper.semAt_some
end
section
open Go Go.RowKit
attribute [local go_sem] over_cell
attribute [local go_sem] Oper.semAt_some
end
end Go.Proofs.YtpkghjoippcjeaaGreatDoor
