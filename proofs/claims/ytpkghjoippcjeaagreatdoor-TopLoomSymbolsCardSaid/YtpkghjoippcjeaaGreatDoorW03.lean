/- Texts C21 to I6 of this proof, in one file. -/
import Derived.Test.YtpkghjoippcjeaaGreatDoorW02
import Derived.Lib.Hide
import Derived.RangeFuncNested
import Derived.RangeFuncLeaves
import Derived.RangeFuncCalls
import Derived.OwnWalkIn
import Derived.TacticsInMore
import Derived.LoopNIn
import Derived.LoopIn
import Derived.RangeFuncBound
import Derived.Shelf.Abstract
import Derived.Maps.OwnIn
import Derived.Maps.AppendAt
namespace Go.Proofs.YtpkghjoippcjeaaGreatDoor
set_option maxRecDepth 100000
set_option maxHeartbeats 16000000
section
open Go Go.RowKit
theorem owns_up {w:World} {B:Nat} {e:TypeId} {size:Nat} {v:Value} {n:Nat} {xs:List Value} (h:w.ownsRow 0 e size v n xs) (hb:∀k,v.ownBlock=some k→B≤k):w.ownsRow B e size v n xs :=
 ⟨h.1,h.2.imp id fun ⟨g,cap,cur,a,_,r⟩=>⟨g,cap,cur,a,hb g (by rw[a];rfl),r⟩⟩
structure TB (w:World) (al m Bt:Nat) (rows:Nat→List Value) (vs:Nat→Value):Prop where
 lt:al<w.heap.size
 fz:∀k,k<m→w.frozen? ⟨al,k,none⟩=false
 cell:∀k,k<m→w.cell? ⟨al,k,none⟩=some (vs k)
 own:∀k,k<m→w.ownsRow Bt 22 1 (vs k) (rows k).length (rows k)
 apart:∀j k x,j<m→k<m→j≠k→(vs j).ownBlock=some x→(vs k).ownBlock≠some x
theorem TB.keep {w w':World} {al m Bt:Nat} {rows:Nat→List Value} {vs:Nat→Value} (h:TB w al m Bt rows vs) (hb:Below w.heap.size w w'):TB w' al m Bt rows vs :=
 ⟨Nat.lt_of_lt_of_le h.lt hb.size,fun k hk=>((bcell hb).2 _ _ h.lt).trans (h.fz k hk),fun k hk=>((bcell hb).1 _ _ h.lt).trans (h.cell k hk),fun k hk=>owns_keep (h.own k hk) (fun _ _ hlt=>hb.block _ hlt),h.apart⟩
theorem TB.add {w w2:World} {al m Bt:Nat} {rows:Nat→List Value} {vs:Nat→Value} (h:TB w al m Bt rows vs) (hal:al<Bt) (hBt:Bt≤w.heap.size) {n:Nat} (hn:n<m) {v' l:Value}
  (hs:Stays (fun k=>(vs n).ownBlock=some k) w w2) (hown:w2.ownsRow 0 22 1 v' ((rows n).length+1) (rows n++[l])) (hnew:∀k,v'.ownBlock=some k→(vs n).ownBlock=some k∨w.heap.size≤k) :
  TB (w2.setCell ⟨al,n,none⟩ v') al m Bt (fun k=>if k=n then rows n++[l] else rows k) (fun k=>if k=n then v' else vs k):=by
 have hna:∀j,j<m→∀x,(vs j).ownBlock=some x→Bt≤x∧x<w.heap.size:=fun j hj x e=>(h.own j hj).lt x e
 have hala:¬(vs n).ownBlock=some al:=fun e=>by have:=(hna n hn al e).1;omega
 have hc:∀k,k<m→w2.cell? ⟨al,k,none⟩=some (vs k):=fun k hk=>(hs.cell h.lt hala).trans (h.cell k hk)
 have hv'al:v'.ownBlock≠some al:=fun e=>by
  rcases hnew al e with e2|e2
  ·exact hala e2
  ·have:=h.lt;omega
 refine ⟨?_,fun k hk=>(World.frozen?_setCell _ _ _ _).trans ((hs.frozen h.lt hala).trans (h.fz k hk)),fun k hk=>?_,fun k hk=>?_,fun j k x hj hk hjk e e2=>?_⟩
 ·have:(w2.setCell ⟨al,n,none⟩ v').heap.size=w2.heap.size:=by simp[World.setCell]
  have:=hs.size
  have:=h.lt
  omega
 ·by_cases e:k=n
  ·subst e
   rw[if_pos rfl]
   exact World.cell?_setCell_same _ _ _ (hc k hk)
  ·rw[if_neg e,World.cell?_setCell_other _ _ _ _ (fun e2=>e (by simp only[Addr.mk.injEq,true_and,and_true] at e2;exact e2.symm))]
   exact hc k hk
 ·by_cases e:k=n
  ·subst e
   simp only[↓reduceIte]
   rw[List.length_append,List.length_singleton]
   refine ownsRow_setCell_other (owns_up hown (fun j e=>?_)) (a:=⟨al,k,none⟩) hv'al _
   rcases hnew j e with e2|e2
   ·exact (hna k hk j e2).1
   ·omega
  ·simp only[if_neg e]
   refine ownsRow_setCell_other (owns_keep (h.own k hk) (fun x e2 hlt=>hs.block x hlt (fun e3=>h.apart n k x hn hk (fun e4=>e e4.symm) e3 e2))) (a:=⟨al,n,none⟩) (fun e2=>?_) _
   have:=(hna k hk al e2).1
   omega
 ·by_cases e3:j=n
  ·subst e3
   have e4:¬k=j:=fun e=>hjk e.symm
   rw[if_pos rfl] at e
   rw[if_neg e4] at e2
   rcases hnew x e with e5|e5
   ·exact h.apart j k x hj hk hjk e5 e2
   ·have:=(hna k hk x e2).2;omega
  ·rw[if_neg e3] at e
   by_cases e4:k=n
   ·subst e4
    rw[if_pos rfl] at e2
    rcases hnew x e2 with e5|e5
    ·exact h.apart j k x hj hk hjk e e5
    ·have:=(hna j hj x e).2;omega
   ·rw[if_neg e4] at e2
    exact h.apart j k x hj hk hjk e e2
theorem RC.sure {w:World} {a:Option Addr} {n:Nat} {ls:List (List Int)} (h:RC w a n ls):Sure (fun k=>k<w.heap.size) w (fun w'=>RC w' a n ls):=by
 intro w' hs hb
 refine ⟨h.1,fun k hk=>?_⟩
 obtain ⟨b,off,a',n',c',e,hlt,hc,hi,hn⟩:=h.2 k hk
 refine ⟨b,off,a',n',c',e,Nat.lt_of_lt_of_le hlt hs,(World.cell?_of_block (hb b hlt)).trans hc,⟨hi.1,fun j hj=>?_⟩,hn⟩
 obtain ⟨b2,off2,e2,hlt2,hc2⟩:=hi.2 j hj
 exact ⟨b2,off2,e2,Nat.lt_of_lt_of_le hlt2 hs,(World.cell?_of_block (hb b2 hlt2)).trans hc2⟩
def cutW (w:World) (B:Nat):World:={ w with heap:=w.heap.extract 0 B }
theorem cutW_size {w:World} {B:Nat} (h:B≤w.heap.size):(cutW w B).heap.size=B:=by
 simp[cutW];omega
theorem cutW_below {w:World} {B:Nat} (h:B≤w.heap.size):Below (cutW w B).heap.size (cutW w B) w:=by
 refine ⟨rfl,rfl,rfl,by rw[cutW_size h];exact h,fun k hk=>?_⟩
 rw[cutW_size h] at hk
 simp only[cutW]
 rw[Array.getElem?_extract]
 simp
 omega
theorem cutW_cell {w:World} {B:Nat} (h:B≤w.heap.size) {b o:Nat} (hb:b<B):(cutW w B).cell? ⟨b,o,none⟩=w.cell? ⟨b,o,none⟩ :=
 ((bcell (cutW_below h)).1 b o (by rw[cutW_size h];exact hb)).symm
end
section
open Go Go.RowKit
end
section
open Go Go.RowKit
attribute [local go_sem] over_cell
theorem infoRow:(Tryz.prog.info? 22).map (fun i=>(i.zero,i.size,i.bytes))=some (some (.slice none 0 0),1,24):=by kernel_rfl
theorem cell_one_drew (w:World) (v:Value) (t:TypeId):∀j u,([v]:List Value)[j]?=some u→(w.alloc (.cells #[v] t)).drew.cell? ((⟨w.heap.size,0,none⟩:Addr).add j)=some u:=cell_one_new w v t
theorem owns_drew {w:World} {B:Nat} {e:TypeId} {size:Nat} {v:Value} {n:Nat} {xs:List Value} (h:w.ownsRow B e size v n xs):w.drew.ownsRow B e size v n xs:=h
end
section
open Go Go.RowKit
attribute [local go_sem] over_cell
end
section
open Go Go.RowKit
attribute [local go_sem] over_cell
end
section
open Go Go.RowKit
attribute [local go_sem] over_cell
end
section
open Go Go.RowKit
def val:Nat→List Int→Nat
 | 0,_=>0
 | _+1,[]=>0
 | m+1,x :: P=>x.toNat*257 ^ m+val m P
end
section
open Go Go.RowKit
end
section
open Go Go.RowKit
end
section
open Go Go.RowKit
structure GoodTask (cells:Int) (ls:List (List Int)) (sum:Int) (g:List Int):Prop where
  cells1:1≤cells
  cells2:cells≤256
  lines:ls.length≤128
  sum1:1≤sum
  sum2:sum≤999999999
  len:(g.length:Int)=cells
  some:∀l,l∈ls→0<l.length
  mem:∀l,l∈ls→∀k:Nat,k<l.length→0≤l[k]?.getD 0∧l[k]?.getD 0<cells
  asc:∀l,l∈ls→∀k:Nat,0<k→k<l.length→l[k - 1]?.getD 0<l[k]?.getD 0
  num:∀i:Nat,i<g.length→0≤g[i]?.getD 0∧g[i]?.getD 0≤cells
  apart:∀i j:Nat,i<j→j<g.length→0<g[j]?.getD 0→g[i]?.getD 0≠g[j]?.getD 0
theorem GoodTask.lineLen {cells:Int} {ls:List (List Int)} {sum:Int} {g:List Int} (h:GoodTask cells ls sum g) {l:List Int} (hl:l∈ls):l.length≤1000∧∀x,x∈l→0≤x∧x<cells:=by
  have key:∀k:Nat,k<l.length→(k:Int)≤l[k]?.getD 0:=by
    intro k
    induction k with
    | zero=>intro hk;exact (h.mem l hl 0 hk).1
    | succ k ih =>
      intro hk
      have h1:=ih (by omega)
      have h2:=h.asc l hl (k+1) (by omega) hk
      simp only[Nat.add_sub_cancel] at h2
      omega
  have h0:=h.some l hl
  have h1:=key (l.length - 1) (by omega)
  have h2:=(h.mem l hl (l.length - 1) (by omega)).2
  have h3:=h.cells2
  refine ⟨by omega,fun x hx=>?_⟩
  obtain ⟨k,hk,rfl⟩:=List.getElem_of_mem hx
  have:=h.mem l hl k hk
  rwa [List.getElem?_eq_getElem hk] at this
theorem GoodTask.fine {C:Cst} (h:GoodTask C.cells C.ls C.sum C.g) (hl:C.g.length=C.n'):Fine C where
  len:=hl
  most:=by have:=h.len;have:=h.cells2;omega
  num:=fun k=>by
    by_cases hk:k<C.g.length
    · have:=h.num k hk
      have:=h.cells2
      omega
    · rw[List.getElem?_eq_none (by omega)];decide
  line:=fun l hl2=>by
    have h1:=h.lineLen hl2
    have h2:=h.len
    exact ⟨h1.1,fun x hx=>by have:=h1.2 x hx;omega⟩
theorem GoodTask.step {cells:Int} {ls:List (List Int)} {sum:Int} {g:List Int} (h:GoodTask cells ls sum g) {l:List Int} (hl:l∈ls):∀(j k:Nat),j+k<l.length→l[j]?.getD 0+k≤l[j+k]?.getD 0:=by
  intro j k
  induction k with
  | zero=>intro _;simp
  | succ k ih =>
    intro hk
    have h1:=ih (by omega)
    have h2:=h.asc l hl (j+k+1) (by omega) (by omega)
    simp only[Nat.add_sub_cancel] at h2
    rw[show j+(k+1)=j+k+1 from by omega]
    omega
end
section
open Go Go.RowKit
structure StaysL (L:Nat) (M:Nat→Prop) (w w':World):Prop where
 os:w'.os=w.os
 tape:w'.tape=w.tape
 output:w'.output=w.output
 size:w.heap.size≤w'.heap.size
 block:∀k o,w.heap[k]?=some o→¬M k→(k<L∨o.isCells=true)→w'.heap[k]?=some o
theorem Stays.toL {M:Nat→Prop} {w w':World} (h:Stays M w w') (L:Nat):StaysL L M w w' :=
 ⟨h.os,h.tape,h.output,h.size,fun k _ ho hm _=>(h.block k (Array.getElem?_eq_some_iff.1 ho).1 hm).trans ho⟩
theorem StaysL.alloc (L:Nat) (M:Nat→Prop) (w:World) (o:Obj):StaysL L M w (w.alloc o) :=
 ⟨rfl,rfl,rfl,by simp,fun k o2 h2 _ _=>(Below.heap_alloc w o k (Array.getElem?_eq_some_iff.1 h2).1).trans h2⟩
theorem StaysL.trans {L:Nat} {M:Nat→Prop} {a b c:World} (h:StaysL L M a b) (k:StaysL L M b c):StaysL L M a c :=
 ⟨k.os.trans h.os,k.tape.trans h.tape,k.output.trans h.output,Nat.le_trans h.size k.size,fun i o hi hm hc=>k.block i o (h.block i o hi hm hc) hm hc⟩
theorem StaysL.owns {L:Nat} {M:Nat→Prop} {w w':World} (h:StaysL L M w w') {base:Nat} {e:TypeId} {size:Nat} {v:Value} {n:Nat} {xs:List Value} (ho:w.ownsRow base e size v n xs) (hm:∀k,v.ownBlock=some k→¬M k):w'.ownsRow base e size v n xs:=by
 refine ⟨ho.1,ho.2.imp id ?_⟩
 rintro ⟨g,cap,cur,rfl,hb,hh,r⟩
 exact ⟨g,cap,cur,rfl,hb,h.block g _ hh (hm g rfl) (.inr rfl),r⟩
theorem StaysL.at {L:Nat} {M:Nat→Prop} {w w':World} (h:StaysL L M w w') {b:Nat} {vs:Array Value} {t:TypeId} {r:Nat × Nat} (hb:w.heap[b]?=some (.cells vs t r)) (hm:¬M b):w'.heap[b]?=some (.cells vs t r) :=
 h.block b _ hb hm (.inr rfl)
theorem StaysL.below {L:Nat} {M:Nat→Prop} {w w':World} (h:StaysL L M w w') {B:Nat} {w0:World} (hb:Below B w0 w) (hL:B≤L) (h0:B≤w0.heap.size) (hm:∀k,M k→B≤k):Below B w0 w' :=
 ⟨h.os.trans hb.os,h.tape.trans hb.tape,h.output.trans hb.output,Nat.le_trans hb.size h.size,fun k hk=>by
  have h1:=hb.block k hk
  have h2:k<w0.heap.size:=by omega
  rw[Array.getElem?_eq_getElem h2] at h1 ⊢
  exact h.block k _ h1 (fun e=>by have:=hm k e;omega) (.inl (by omega))⟩
def StableL {β:Type} (L:Nat) (J:β→(Nat→Prop)→World→Prop):Prop :=
 ∀s M M' W W',J s M W→StaysL L M W W'→(∀k,M' k→M k∨W.heap.size≤k)→J s M' W'
def StableM {β:Type} (J:β→(Nat→Prop)→World→Prop):Prop :=
 ∀s M M' W W',J s M W→Stays M W W'→(∀k,M' k→M k∨W.heap.size≤k)→J s M' W'
theorem StableL.m {β:Type} {L:Nat} {J:β→(Nat→Prop)→World→Prop} (h:StableL L J):StableM J:=fun s M M' W W' hj hs hm=>h s M M' W W' hj (hs.toL L) hm
variable {P:Program}
end
section
open Go Go.RowKit
attribute [local go_sem] over_cell
attribute [local go_sem] Oper.semAt_some
theorem wide_fn (f:FuncId):Fence.wide.fn f:=trivial
theorem wide_depth:Fence.wide.depth=none:=rfl
theorem wide_all {o:Option FuncId}:∀f,o=some f→Fence.wide.fn f:=fun _ _=>trivial
def KbS (Im:Nat→Prop) (bx:Nat) (M:Nat→Prop) (k:Nat):Prop:=Im k∨M k∨k=bx
def KpS (Im:Nat→Prop) (bx:Nat) (M:Nat→Prop) (A B:World):Prop:=A.heap.size≤B.heap.size∧∀k,k<A.heap.size→KbS Im bx M k→B.heap[k]?=A.heap[k]?
theorem KpS.trans {Im:Nat→Prop} {bx:Nat} {M:Nat→Prop} {A B C:World} (h:KpS Im bx M A B) (k:KpS Im bx M B C):KpS Im bx M A C :=
 ⟨Nat.le_trans h.1 k.1,fun i hi hk=>(k.2 i (Nat.lt_of_lt_of_le hi h.1) hk).trans (h.2 i hi hk)⟩
theorem KpS.setCell {Im:Nat→Prop} {bx:Nat} {M:Nat→Prop} {W:World} {b i:Nat} (v:Value) (hb:¬KbS Im bx M b):KpS Im bx M W (W.setCell ⟨b,i,none⟩ v) :=
 ⟨(KeepsOthers.setCell W _ v).size,fun k _ hk=>Below.heap_setCell _ _ _ _ (fun e=>hb (by simp only at e;rw[← e];exact hk))⟩
theorem KpS.refl {Im:Nat→Prop} {bx:Nat} {M:Nat→Prop} (W:World):KpS Im bx M W W:=⟨Nat.le_refl _,fun _ _ _=>rfl⟩
theorem KpS.below {Im:Nat→Prop} {bx:Nat} {M:Nat→Prop} {A B:World} (h:Below A.heap.size A B):KpS Im bx M A B:=⟨h.size,fun k hk _=>h.block k hk⟩
def Bun (b bx base:Nat) (Im:Nat→Prop) (C:Cst) (vf:Value) (J:List (Value × List Int)→(Nat→Prop)→World→Prop) (P:List Int) (pre:List (Value × List Int)) (vp:Value) (w:World):Prop :=
 w.cell? ⟨bx,0,none⟩=some (.pointer (some ⟨b,0,none⟩))∧bx<w.heap.size∧b<w.heap.size∧base≤w.heap.size∧¬Mut b vf vp bx∧Hid (SR w b Im C vf vp P)∧Hid (J pre (Mut b vf vp) w)
theorem Bun.below {b bx base:Nat} {Im:Nat→Prop} {C:Cst} {vf:Value} {J:List (Value × List Int)→(Nat→Prop)→World→Prop} {P:List Int} {pre:List (Value × List Int)} {vp:Value} {w w':World} (hJ:StableM J)
  (h:Bun b bx base Im C vf J P pre vp w) (hb:Below w.heap.size w w'):Bun b bx base Im C vf J P pre vp w':=by
 obtain ⟨h1,h2,h3,h4,h5,h6,h7⟩:=h
 have hs:=hb.size
 exact ⟨((bcell hb).1 _ _ h2).trans h1,by omega,by omega,by omega,h5,Lib.hid (h6.out.below hb),Lib.hid (hJ _ _ _ _ _ h7.out (Below.stays hb _) (fun k e => .inl e))⟩
end
section
open Go Go.RowKit Go.Shelf
attribute [local go_sem] over_cell
attribute [local go_sem] Oper.semAt_some
theorem calls_of_marks {P:Program} {f:FuncId} {fn:Func} {c:Code} {args:Array Value} {w:World} {R:Ending→World→Prop}
  (hf:P.funcs[f]?=some fn) (hb:fn.body=some c)
  (h:c.wp P (bodyPostM Fence.wide 0 P fn R) { tmps:=args++Array.replicate (fn.ntmps - args.size) undef,defers:=[] } w):Calls P f args w R :=
 (callsIn_wide (n:=0)).1 (callsIn_of_wp_marks hf hb trivial (wpIn_wide.2 h) rfl)
theorem marks_none {P:Program} {fn:Func} {R:Ending→World→Prop} {a:Act} {w:World} {v:Value}
  (hr:(results fn a.tmps).run P w = .ok v w) (hd:a.defers=[]) (hR:R (.returned v) w):bodyPostM Fence.wide 0 P fn R .ret a w:=by
 show LeavesInM Fence.wide 0 P fn a.tmps R a.defers .returning w
 rw[hd]
 exact ⟨v,hr,hR⟩
theorem marks_one {P:Program} {fn:Func} {R:Ending→World→Prop} {a:Act} {w:World} {D:Nat} {v:Value}
  (hK:w.heap[D]?=some (.deferred (some []))) (hd:a.defers=[{ target := .collected D,args:=#[] }])
  (hr:(results fn a.tmps).run P (w.putObj D (.deferred none)) = .ok v (w.putObj D (.deferred none))) (hR:R (.returned v) (w.putObj D (.deferred none))):bodyPostM Fence.wide 0 P fn R .ret a w:=by
 show LeavesInM Fence.wide 0 P fn a.tmps R a.defers .returning w
 rw[hd]
 exact ⟨by simp,.inl ⟨D,_,rfl,run_takeDeferred hK,v,hr,hR⟩⟩
theorem keepq {W W1:World} {b:Nat} {o:Obj} (hb:Below W.heap.size W W1) (h:W.heap[b]?=some o):W1.heap[b]?=some o:=(hb.block b (Array.getElem?_eq_some_iff.1 h).1).trans h
theorem q_lt {W:World} {b:Nat} {o:Obj} (h:W.heap[b]?=some o):b<W.heap.size:=(Array.getElem?_eq_some_iff.1 h).1
theorem q_cell {W:World} {b:Nat} {vs:Array Value} {t:TypeId} (h:W.heap[b]?=some (.cells vs t (0,0))) (i:Nat):W.cell? ⟨b,i,none⟩=vs[i]?:=by
 simp[World.cell?,h]
theorem q_free {W:World} {b:Nat} {vs:Array Value} {t:TypeId} (h:W.heap[b]?=some (.cells vs t (0,0))) (i:Nat):W.frozen? ⟨b,i,none⟩=false:=by
 simp[World.frozen?,h]
theorem q_set {W:World} {b i:Nat} {vs:Array Value} {t:TypeId} (h:W.heap[b]?=some (.cells vs t (0,0))) (u:Value):(W.setCell ⟨b,i,none⟩ u).heap[b]?=some (.cells (vs.setIfInBounds i u) t (0,0)):=by
 have hlt:=q_lt h
 have h':W.heap[b] = .cells vs t (0,0):=by simpa [Array.getElem?_eq_getElem hlt] using h
 show (W.heap.modify b _)[b]?=_
 rw[Array.getElem?_eq_getElem (by simpa using hlt),Array.getElem_modify_self,h']
 rfl
theorem q_other {W:World} {b b' i:Nat} {o:Obj} (h:W.heap[b]?=some o) (hb:b≠b') (u:Value):(W.setCell ⟨b',i,none⟩ u).heap[b]?=some o :=
 (Below.heap_setCell _ _ _ _ hb).trans h
theorem StaysL.mono {L:Nat} {M M':Nat→Prop} {w w':World} (h:StaysL L M w w') (hm:∀k,M k→M' k):StaysL L M' w w' :=
 ⟨h.os,h.tape,h.output,h.size,fun k o ho hk=>h.block k o ho (fun e=>hk (hm k e))⟩
end
section
open Go Go.RowKit
attribute [local go_sem] over_cell
attribute [local go_sem] Oper.semAt_some
end
section
open Go Go.RowKit Go.Shelf
attribute [local go_sem] over_cell
attribute [local go_sem] Oper.semAt_some
def RowsI (W:World) (M:Nat→Prop) (L:Nat) (v:Value) (pre:List (Value × List Int)):Prop :=
 W.ownsRow L 22 1 v pre.length (pre.map Prod.fst)∧(∀k,v.ownBlock=some k→¬M k) ∧
  ∀x,x∈pre→W.ownsRow L 3 1 x.1 x.2.length (x.2.map (Value.int .i64))∧∀k,x.1.ownBlock=some k→¬M k∧v.ownBlock≠some k
theorem RowsI.nil (W:World) (M:Nat→Prop) (L:Nat):RowsI W M L (.slice none 0 0) [] :=
 ⟨World.ownsRow_nil W L _ 1,fun _ e=>(by cases e),fun _ e=>(by cases e)⟩
theorem RowsI.keep {W W':World} {M M':Nat→Prop} {L L':Nat} {v:Value} {pre:List (Value × List Int)} (h:RowsI W M L v pre) (hs:StaysL L' M W W') (hn:∀k,M' k→M k∨W.heap.size≤k):RowsI W' M' L v pre :=
 ⟨hs.owns h.1 h.2.1,fun k e hm=>(hn k hm).elim (h.2.1 k e) (fun h2=>by have:=(h.1.lt k e).2;omega),
  fun x hx=>⟨hs.owns (h.2.2 x hx).1 (fun k e=>((h.2.2 x hx).2 k e).1),fun k e=>⟨fun hm=>(hn k hm).elim ((h.2.2 x hx).2 k e).1 (fun h2=>by have:=((h.2.2 x hx).1.lt k e).2;omega),((h.2.2 x hx).2 k e).2⟩⟩⟩
theorem RowsI.setCell {W:World} {M:Nat→Prop} {L:Nat} {v:Value} {pre:List (Value × List Int)} (h:RowsI W M L v pre) {b i:Nat} (hb:b<L) (u:Value):RowsI (W.setCell ⟨b,i,none⟩ u) M L v pre :=
 ⟨ownsRow_setCell_other h.1 (a:=⟨b,i,none⟩) (fun e=>by have:=(h.1.lt b e).1;omega) u,h.2.1,
  fun x hx=>⟨ownsRow_setCell_other (h.2.2 x hx).1 (a:=⟨b,i,none⟩) (fun e=>by have:=((h.2.2 x hx).1.lt b e).1;omega) u,(h.2.2 x hx).2⟩⟩
theorem RowsI.append {W W2:World} {M:Nat→Prop} {L:Nat} {v v':Value} {pre:List (Value × List Int)} {x:Value × List Int} (h:RowsI W M L v pre) (hM:∀k,M k→k<W.heap.size)
  (hx:W.ownsRow L 3 1 x.1 x.2.length (x.2.map (Value.int .i64))) (hxm:∀k,x.1.ownBlock=some k→¬M k∧v.ownBlock≠some k)
  (hs:Stays (fun k=>v.ownBlock=some k) W W2) (hown:W2.ownsRow L 22 1 v' (pre.length+1) (pre.map Prod.fst++[x.1])) (hnew:∀k,v'.ownBlock=some k→v.ownBlock=some k∨W.heap.size≤k):RowsI W2 M L v' (pre++[x]):=by
 have hold:∀y,y∈pre++[x]→W.ownsRow L 3 1 y.1 y.2.length (y.2.map (Value.int .i64))∧∀k,y.1.ownBlock=some k→¬M k∧v.ownBlock≠some k:=by
  intro y hy
  rcases List.mem_append.1 hy with hy|hy
  ·exact h.2.2 y hy
  ·rw[List.mem_singleton.1 hy];exact ⟨hx,hxm⟩
 refine ⟨by rw[List.length_append,List.map_append];exact hown,fun k e hm=>?_,fun y hy=>⟨owns_keep (hold y hy).1 (fun k e hlt=>hs.block k hlt ((hold y hy).2 k e).2),fun k e=>⟨((hold y hy).2 k e).1,fun e2=>?_⟩⟩⟩
 ·rcases hnew k e with e2|e2
  ·exact h.2.1 k e2 hm
  ·have:=hM _ hm;omega
 ·rcases hnew k e2 with e3|e3
  ·exact ((hold y hy).2 k e).2 e3
  ·have:=((hold y hy).1.lt _ e).2
   omega
theorem Stays.q {S:Nat→Prop} {W W':World} {b:Nat} {o:Obj} (hs:Stays S W W') (hq:W.heap[b]?=some o) (hb:¬S b):W'.heap[b]?=some o:=(hs.block b (q_lt hq) hb).trans hq
theorem grow_stays {W W2:World} {o:Obj} {row:Option Nat} (hg:(W.alloc o).grownBy W2 row):Stays (fun k=>row=some k) W W2 :=
 (Below.stays ((Below.refl _ W).alloc (Nat.le_refl _) _) _).trans (Stays.grown (S:=fun k=>row=some k) hg (fun _ e=>e)) (fun _ e => .inl e)
theorem RowsI.rc {W:World} {M:Nat→Prop} {L:Nat} {v:Value} {pre:List (Value × List Int)} (h:RowsI W M L v pre) (hn:pre.length≤17592186044416) (hm:∀x,x∈pre→x.2.length≤17592186044416) :
  ∃a c,v = .slice a pre.length c∧RC W a pre.length (pre.map Prod.snd)∧pre.length≤c:=by
 obtain ⟨a,c,rfl⟩:=owns_shape h.1
 refine ⟨a,c,rfl,⟨⟨by rw[List.length_map],hn⟩,fun k hk=>?_⟩,?_⟩
 ·obtain ⟨g,cap,x,hv,hx,hc,_,hg,_⟩:=owns_free (owns_base h.1 (Nat.zero_le _)) k hk
  simp only[Value.slice.injEq] at hv
  obtain ⟨rfl,_,_⟩:=hv
  have hx2:x=(pre[k]'hk).1:=by
   rw[List.getElem?_map,List.getElem?_eq_getElem hk] at hx
   simpa using hx.symm
  have hrow:=(h.2.2 _ (List.getElem_mem hk)).1
  obtain ⟨a9,c9,he9⟩:=owns_shape hrow
  rw[he9] at hrow
  have hic:=IC.of_owns hrow (hm _ (List.getElem_mem hk))
  refine ⟨g,0,a9,_,c9,rfl,hg,by rw[Nat.zero_add,hc,hx2,he9],?_,hic.2⟩
  rw[List.getElem?_map,List.getElem?_eq_getElem hk]
  exact hic.1
 ·rcases h.1.2 with ⟨e,e2⟩|⟨_,_,_,e,_,_,e3,_⟩
  ·simp only[Value.slice.injEq] at e;omega
  ·simp only[Value.slice.injEq] at e;omega
theorem owns_cells {W:World} {base:Nat} {e:TypeId} {size:Nat} {v:Value} {n:Nat} {xs:List Value} (h:W.ownsRow base e size v n xs) {j:Nat} {o:Obj} (hj:v.ownBlock=some j) (ho:W.heap[j]?=some o):o.isCells=true:=by
 rcases h.2 with ⟨e2,_⟩|⟨g,cap,cur,e2,_,hg,_⟩
 ·rw[e2] at hj;cases hj
 ·rw[e2] at hj;cases hj
  rw[hg] at ho;cases ho;rfl
theorem RowsI.base {W:World} {M:Nat→Prop} {L L':Nat} {v:Value} {pre:List (Value × List Int)} (h:RowsI W M L v pre) (hl:L'≤L):RowsI W M L' v pre :=
 ⟨owns_base h.1 hl,h.2.1,fun x hx=>⟨owns_base (h.2.2 x hx).1 hl,(h.2.2 x hx).2⟩⟩
end
section
open Go Go.RowKit Go.Shelf
attribute [local go_sem] over_cell
end
end Go.Proofs.YtpkghjoippcjeaaGreatDoor
