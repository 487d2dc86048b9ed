/- Texts C17 to U5 of this proof, in one file. -/
import Derived.Test.YtmfpdakaeagdpaaGreatW01
import Derived.Below
import Derived.BigFrame
import Derived.BigQuiet
import Derived.Deep.LoopGhost
import Derived.Deep.Quiet
import Derived.Deep.RegionHeld3
import Derived.KernelRfl
import Derived.Laws.BitsAllLaws
import Derived.Lib.Hide
import Derived.Lib.SlKeysI
import Derived.Lib.SliceRun
import Derived.LoopIn
import Derived.LoopNIn
import Derived.Maps.AppendAt
import Derived.Maps.OwnIn
import Derived.OneCell
import Derived.OrdersHeld
import Derived.OrdersIn
import Derived.OwnWalkIn
import Derived.RangeFuncBound
import Derived.RangeFuncBox
import Derived.RangeFuncCalls
import Derived.RangeFuncLeaves
import Derived.RangeFuncNested
import Derived.RangeFuncWrites
import Derived.Shelf.Abstract
import Derived.Shelf.SortM.Plain
import Derived.Still
import Derived.TacticsInMore
import Derived.Test.YtmfpdakaeagdpaaGreatProg
import Derived.WalkKit
import Derived.WalkLawsBesides
import Derived.WalkSpells
namespace Go.Proofs.YtmfpdakaeagdpaaGreat
set_option maxRecDepth 100000
set_option maxHeartbeats 16000000
section
open Go Go.RowKit
theorem run_append_own2 {P:Program} (w:World) (t ty e:TypeId) (i:TypeInfo) (z:Value) (size bytes:Nat) (ht:P.underlying t=some (.slice e)) (hi:P.info? e=some i) (hz:i.zero=some z)
  (hsize:i.size=size) (hby:i.bytes=bytes) (hzs:z.cells.size=size) (hsz:0<size)
  (v:Value) (n:Nat) (xs:List Value) (hown:w.ownsRow 0 e size v n xs)
  (a:Addr) (m c:Nat) (news:List Value) (hl:news.length=m*size) (hnews:∀j u,news[j]?=some u→w.cell? (a.add j)=some u) (h1:∀u∈news,u.oneCell'=true)
  (h63:n+m≤maxLen) (hbytes:(n+m)*bytes≤140737488355328) :
  ∃v' w',(Builtin.append_ #[t,t] ty #[v,.slice (some a) m c]).run P w = .ok v' w'∧w'.ownsRow 0 e size v' (n+m) (xs++news)∧w.grownBy w' v.ownBlock∧(∀k,v'.ownBlock=some k→v.ownBlock=some k∨w.heap.size≤k):=by
 obtain ⟨v',w',hr,h2,h3,_⟩:=run_append_own (P:=P) w 0 t ty e i z size bytes ht hi hz hsize hby hzs hsz v n xs hown a m c news hl hnews h1 h63 hbytes (Nat.zero_le _)
 refine ⟨v',w',hr,h2,h3,?_⟩
 rcases hown.2 with ⟨rfl,rfl⟩|⟨g,cap,cur,rfl,hbg,hg,hnc,hcm,hcs,htake⟩
 ·have hx:xs=[]:=List.eq_nil_of_length_eq_zero (by simpa using hown.1)
  subst hx
  obtain ⟨v2,w2,hr2,h4,_,_⟩:=run_append_own (P:=P) w w.heap.size t ty e i z size bytes ht hi hz hsize hby hzs hsz _ 0 [] (World.ownsRow_nil w _ e size) a m c news hl hnews h1 h63 hbytes (Nat.le_refl _)
  rw[hr] at hr2
  cases hr2
  exact fun k hk => .inr (h4.lt k hk).1
 ·by_cases hroom:n+m≤cap
  ·subst hsize
   have hfit:n*i.size+news.length≤cur.size:=by rw[hl,hcs,← Nat.add_mul];exact Nat.mul_le_mul_right _ hroom
   have hr2:=run_append_room (P:=P) w t ty e i ht hi g n cap cur hg a m c news hl hnews h1 hroom hfit
   rw[hr] at hr2
   cases hr2
   exact fun k hk => .inl hk
  ·subst hsize
   subst hby
   have hsmall:n+m≤9223372036854775807:=by simp only[maxLen] at h63;omega
   have holds:∀j u,xs[j]?=some u→w.cell? ((⟨g,0,none⟩:Addr).add j)=some u:=hown.cells (g:=g) rfl
   have hr2:=run_append_grow (P:=P) w t ty e i z ht hi hz ⟨g,0,none⟩ n cap xs hown.1 holds a m c news hl hnews (by omega) (by omega) (growslice_fits (by omega) hbytes)
   rw[hr] at hr2
   cases hr2
   intro k hk
   simp only[Value.ownBlock,Option.some.injEq] at hk
   exact .inr (by omega)
theorem wpList_append_own2 {P:Program} (w:World) {ops:Array Oper} {rest:List Oper} {o:Oper} {a:Act} {Q:Exit→Act→World→Prop} (hgd:o.guard=none) (s x:Operand) (t:TypeId)
  (ho:o.op = .call { callee := .builtin .append,args:=#[s,x],argTypes:=#[t,t] })
  (e:TypeId) (i:TypeInfo) (z:Value) (size bytes:Nat) (ht:P.underlying t=some (.slice e)) (hi:P.info? e=some i) (hz:i.zero=some z)
  (hsize:i.size=size) (hby:i.bytes=bytes) (hzs:z.cells.size=size) (hsz:0<size)
  (v:Value) (n:Nat) (xs:List Value) (hs:a.eval s=v) (hown:w.ownsRow 0 e size v n xs)
  (ad:Addr) (m c:Nat) (news:List Value) (hx:a.eval x = .slice (some ad) m c) (hl:news.length=m*size) (hnews:∀j u,news[j]?=some u→w.cell? (ad.add j)=some u) (h1:∀u∈news,u.oneCell'=true)
  (h63:n+m≤maxLen) (hbytes:(n+m)*bytes≤140737488355328)
  (h:∀v' w',w'.ownsRow 0 e size v' (n+m) (xs++news)→w.grownBy w' v.ownBlock→(∀k,v'.ownBlock=some k→v.ownBlock=some k∨w.heap.size≤k)→wpList P ops Q rest (a.put o.dst v') w'):wpList P ops Q (o :: rest) a w :=
 wpList_plain hgd fun _ hK=>by
  obtain ⟨v',w',hr,h2,h3,h4⟩:=run_append_own2 (P:=P) w t o.type e i z size bytes ht hi hz hsize hby hzs hsz v n xs hown ad m c news hl hnews h1 h63 hbytes
  unfold Oper.wp execOp
  simp only[ho,resolve,invoke,builtin,Sem.run_bind,Sem.run_pure,Result.andThen_ok,List.map_toArray,List.map_cons,List.map_nil,hs,hx,hr]
  exact hK _ _ (h v' w' h2 h3 h4)
end
section
open Go Go.RowKit
theorem owns_up {w:World} {B:Nat} {e:TypeId} {size:Nat} {v:Value} {n:Nat} {xs:List Value} (h:w.ownsRow 0 e size v n xs) (hb:∀k,v.ownBlock=some k→B≤k):w.ownsRow B e size v n xs :=
 ⟨h.1,h.2.imp id fun ⟨g,cap,cur,a,_,r⟩=>⟨g,cap,cur,a,hb g (by rw[a];rfl),r⟩⟩
def cutW (w:World) (B:Nat):World:={ w with heap:=w.heap.extract 0 B }
theorem cutW_size {w:World} {B:Nat} (h:B≤w.heap.size):(cutW w B).heap.size=B:=by
 simp[cutW];omega
theorem cutW_below {w:World} {B:Nat} (h:B≤w.heap.size):Below (cutW w B).heap.size (cutW w B) w:=by
 refine ⟨rfl,rfl,rfl,by rw[cutW_size h];exact h,fun k hk=>?_⟩
 rw[cutW_size h] at hk
 simp only[cutW]
 rw[Array.getElem?_extract]
 simp
 omega
theorem cutW_cell {w:World} {B:Nat} (h:B≤w.heap.size) {b o:Nat} (hb:b<B):(cutW w B).cell? ⟨b,o,none⟩=w.cell? ⟨b,o,none⟩ :=
 ((bcell (cutW_below h)).1 b o (by rw[cutW_size h];exact hb)).symm
end
section
open Go Go.RowKit
attribute [local go_sem] over_cell
theorem infoRow:(Tryz.prog.info? 22).map (fun i=>(i.zero,i.size,i.bytes))=some (some (.slice none 0 0),1,24):=by kernel_rfl
end
section
open Go Go.RowKit
def val:Nat→List Int→Nat
 | 0,_=>0
 | _+1,[]=>0
 | m+1,x :: P=>x.toNat*257 ^ m+val m P
end
section
open Go Go.RowKit
structure StaysL (L:Nat) (M:Nat→Prop) (w w':World):Prop where
 os:w'.os=w.os
 tape:w'.tape=w.tape
 output:w'.output=w.output
 size:w.heap.size≤w'.heap.size
 block:∀k o,w.heap[k]?=some o→¬M k→(k<L∨o.isCells=true)→w'.heap[k]?=some o
theorem Stays.toL {M:Nat→Prop} {w w':World} (h:Stays M w w') (L:Nat):StaysL L M w w' :=
 ⟨h.os,h.tape,h.output,h.size,fun k _ ho hm _=>(h.block k (Array.getElem?_eq_some_iff.1 ho).1 hm).trans ho⟩
theorem StaysL.putObj {L:Nat} (M:Nat→Prop) {w:World} {l:Nat} {o:Obj} (o':Obj) (hL:L≤l) (hl:w.heap[l]?=some o) (ho:o.isCells=false):StaysL L M w (w.putObj l o') :=
 ⟨rfl,rfl,rfl,by simp,fun k o2 h2 _ hk=>by
  have:k≠l:=by
   rintro rfl
   rw[hl] at h2;cases h2
   rcases hk with h|h
   ·omega
   ·rw[ho] at h;cases h
  exact (World.putObj_heap_other this).trans h2⟩
theorem StaysL.alloc (L:Nat) (M:Nat→Prop) (w:World) (o:Obj):StaysL L M w (w.alloc o) :=
 ⟨rfl,rfl,rfl,by simp,fun k o2 h2 _ _=>(Below.heap_alloc w o k (Array.getElem?_eq_some_iff.1 h2).1).trans h2⟩
theorem StaysL.trans {L:Nat} {M:Nat→Prop} {a b c:World} (h:StaysL L M a b) (k:StaysL L M b c):StaysL L M a c :=
 ⟨k.os.trans h.os,k.tape.trans h.tape,k.output.trans h.output,Nat.le_trans h.size k.size,fun i o hi hm hc=>k.block i o (h.block i o hi hm hc) hm hc⟩
theorem StaysL.owns {L:Nat} {M:Nat→Prop} {w w':World} (h:StaysL L M w w') {base:Nat} {e:TypeId} {size:Nat} {v:Value} {n:Nat} {xs:List Value} (ho:w.ownsRow base e size v n xs) (hm:∀k,v.ownBlock=some k→¬M k):w'.ownsRow base e size v n xs:=by
 refine ⟨ho.1,ho.2.imp id ?_⟩
 rintro ⟨g,cap,cur,rfl,hb,hh,r⟩
 exact ⟨g,cap,cur,rfl,hb,h.block g _ hh (hm g rfl) (.inr rfl),r⟩
theorem StaysL.at {L:Nat} {M:Nat→Prop} {w w':World} (h:StaysL L M w w') {b:Nat} {vs:Array Value} {t:TypeId} {r:Nat × Nat} (hb:w.heap[b]?=some (.cells vs t r)) (hm:¬M b):w'.heap[b]?=some (.cells vs t r) :=
 h.block b _ hb hm (.inr rfl)
theorem StaysL.below {L:Nat} {M:Nat→Prop} {w w':World} (h:StaysL L M w w') {B:Nat} {w0:World} (hb:Below B w0 w) (hL:B≤L) (h0:B≤w0.heap.size) (hm:∀k,M k→B≤k):Below B w0 w' :=
 ⟨h.os.trans hb.os,h.tape.trans hb.tape,h.output.trans hb.output,Nat.le_trans hb.size h.size,fun k hk=>by
  have h1:=hb.block k hk
  have h2:k<w0.heap.size:=by omega
  rw[Array.getElem?_eq_getElem h2] at h1 ⊢
  exact h.block k _ h1 (fun e=>by have:=hm k e;omega) (.inl (by omega))⟩
def StableL {β:Type} (L:Nat) (J:β→(Nat→Prop)→World→Prop):Prop :=
 ∀s M M' W W',J s M W→StaysL L M W W'→(∀k,M' k→M k∨W.heap.size≤k)→J s M' W'
def StableM {β:Type} (J:β→(Nat→Prop)→World→Prop):Prop :=
 ∀s M M' W W',J s M W→Stays M W W'→(∀k,M' k→M k∨W.heap.size≤k)→J s M' W'
theorem StableL.m {β:Type} {L:Nat} {J:β→(Nat→Prop)→World→Prop} (h:StableL L J):StableM J:=fun s M M' W W' hj hs hm=>h s M M' W W' hj (hs.toL L) hm
def ownPostM {α:Type} (Kp:(Nat→Prop)→World→World→Prop) (I:List α→(Nat→Prop)→World→Prop) (Ix:Code→List α→(Nat→Prop)→World→Prop) (xs:List α) (M:Nat→Prop) (W:World):Exit→Act→World→Prop
 | .normal,_,W'=>KeepsOthers W W'∧Kp M W W'∧I xs M W'
 | .ret,_,W'=>KeepsOthers W W'∧Kp M W W'∧Ix .ret xs M W'
 | .exit id,_,W'=>KeepsOthers W W'∧Kp M W W'∧Ix (.exit id) xs M W'
 | .goto t,_,W'=>KeepsOthers W W'∧Kp M W W'∧Ix (.goto t) xs M W'
 | .panic _,_,_=>False
 | .outgrown,_,_=>False
variable {P:Program}
end
section
open Go Go.RowKit
attribute [local go_sem] over_cell
attribute [local go_sem] Oper.semAt_some
theorem wide_fn (f:FuncId):Fence.wide.fn f:=trivial
theorem wide_depth:Fence.wide.depth=none:=rfl
theorem wide_all {o:Option FuncId}:∀f,o=some f→Fence.wide.fn f:=fun _ _=>trivial
end
section
open Go Go.RowKit Go.Shelf
attribute [local go_sem] over_cell
attribute [local go_sem] Oper.semAt_some
theorem calls_of_marks {P:Program} {f:FuncId} {fn:Func} {c:Code} {args:Array Value} {w:World} {R:Ending→World→Prop}
  (hf:P.funcs[f]?=some fn) (hb:fn.body=some c)
  (h:c.wp P (bodyPostM Fence.wide 0 P fn R) { tmps:=args++Array.replicate (fn.ntmps - args.size) undef,defers:=[] } w):Calls P f args w R :=
 (callsIn_wide (n:=0)).1 (callsIn_of_wp_marks hf hb trivial (wpIn_wide.2 h) rfl)
theorem marks_none {P:Program} {fn:Func} {R:Ending→World→Prop} {a:Act} {w:World} {v:Value}
  (hr:(results fn a.tmps).run P w = .ok v w) (hd:a.defers=[]) (hR:R (.returned v) w):bodyPostM Fence.wide 0 P fn R .ret a w:=by
 show LeavesInM Fence.wide 0 P fn a.tmps R a.defers .returning w
 rw[hd]
 exact ⟨v,hr,hR⟩
theorem marks_one {P:Program} {fn:Func} {R:Ending→World→Prop} {a:Act} {w:World} {D:Nat} {v:Value}
  (hK:w.heap[D]?=some (.deferred (some []))) (hd:a.defers=[{ target := .collected D,args:=#[] }])
  (hr:(results fn a.tmps).run P (w.putObj D (.deferred none)) = .ok v (w.putObj D (.deferred none))) (hR:R (.returned v) (w.putObj D (.deferred none))):bodyPostM Fence.wide 0 P fn R .ret a w:=by
 show LeavesInM Fence.wide 0 P fn a.tmps R a.defers .returning w
 rw[hd]
 exact ⟨by simp,.inl ⟨D,_,rfl,run_takeDeferred hK,v,hr,hR⟩⟩
theorem putD_cell {w:World} {D:Nat} (hK:w.heap[D]?=some (.deferred (some []))) (p:Addr):((w.putObj D (.deferred none)).cell? p)=w.cell? p:=by
 simp only[World.cell?]
 by_cases e:p.block=D
 ·rw[e,World.putObj_heap_same (Array.getElem?_eq_some_iff.1 hK).1,hK]
 ·rw[World.putObj_heap_other e]
theorem putD_below {w0 w:World} {D B:Nat} (hb:Below B w0 w) (hD:B≤D):Below B w0 (w.putObj D (.deferred none)) :=
 ⟨hb.os,hb.tape,hb.output,by simpa using hb.size,fun k hk=>(World.putObj_heap_other (by omega)).trans (hb.block k hk)⟩
theorem keepq {W W1:World} {b:Nat} {o:Obj} (hb:Below W.heap.size W W1) (h:W.heap[b]?=some o):W1.heap[b]?=some o:=(hb.block b (Array.getElem?_eq_some_iff.1 h).1).trans h
theorem q_lt {W:World} {b:Nat} {o:Obj} (h:W.heap[b]?=some o):b<W.heap.size:=(Array.getElem?_eq_some_iff.1 h).1
theorem q_cell {W:World} {b:Nat} {vs:Array Value} {t:TypeId} (h:W.heap[b]?=some (.cells vs t (0,0))) (i:Nat):W.cell? ⟨b,i,none⟩=vs[i]?:=by
 simp[World.cell?,h]
theorem q_free {W:World} {b:Nat} {vs:Array Value} {t:TypeId} (h:W.heap[b]?=some (.cells vs t (0,0))) (i:Nat):W.frozen? ⟨b,i,none⟩=false:=by
 simp[World.frozen?,h]
theorem q_set {W:World} {b i:Nat} {vs:Array Value} {t:TypeId} (h:W.heap[b]?=some (.cells vs t (0,0))) (u:Value):(W.setCell ⟨b,i,none⟩ u).heap[b]?=some (.cells (vs.setIfInBounds i u) t (0,0)):=by
 have hlt:=q_lt h
 have h':W.heap[b] = .cells vs t (0,0):=by simpa [Array.getElem?_eq_getElem hlt] using h
 show (W.heap.modify b _)[b]?=_
 rw[Array.getElem?_eq_getElem (by simpa using hlt),Array.getElem_modify_self,h']
 rfl
theorem q_other {W:World} {b b' i:Nat} {o:Obj} (h:W.heap[b]?=some o) (hb:b≠b') (u:Value):(W.setCell ⟨b',i,none⟩ u).heap[b]?=some o :=
 (Below.heap_setCell _ _ _ _ hb).trans h
theorem StaysL.mono {L:Nat} {M M':Nat→Prop} {w w':World} (h:StaysL L M w w') (hm:∀k,M k→M' k):StaysL L M' w w' :=
 ⟨h.os,h.tape,h.output,h.size,fun k o ho hk=>h.block k o ho (fun e=>hk (hm k e))⟩
theorem stable_and {β:Type} {L:Nat} {I J:β→(Nat→Prop)→World→Prop} (h:StableL L I) (k:StableL L J):StableL L (fun s M W=>I s M W∧J s M W) :=
 fun s M M' W W' hj hs hm=>⟨h s M M' W W' hj.1 hs hm,k s M M' W W' hj.2 hs hm⟩
theorem stable_pure {β:Type} {L:Nat} (p:β→Prop):StableL L (fun s _ _=>p s):=fun _ _ _ _ _ h _ _=>h
theorem stable_ex {β γ:Type} {L:Nat} {I:γ→β→(Nat→Prop)→World→Prop} (h:∀x,StableL L (I x)):StableL L (fun s M W=>∃x,I x s M W) :=
 fun s M M' W W' ⟨x,hj⟩ hs hm=>⟨x,h x s M M' W W' hj hs hm⟩
def BoxI (W:World) (M:Nat→Prop) (b:Nat) (vs:Array Value) (t:TypeId):Prop:=W.heap[b]?=some (.cells vs t (0,0))∧¬M b
theorem stable_box {β:Type} {L:Nat} (b:Nat) (f:β→Array Value) (t:TypeId):StableL L (fun s M W=>BoxI W M b (f s) t) :=
 fun _ _ _ _ _ ⟨h,hm⟩ hs hn=>⟨hs.at h hm,fun e=>(hn b e).elim hm (fun h2=>by have:=q_lt h;omega)⟩
theorem stable_size {β:Type} {L n:Nat}:StableL L (fun (_:β) _ W=>n≤W.heap.size):=fun _ _ _ _ _ h hs _=>Nat.le_trans h hs.size
def OldI (B:Nat) (w0 W:World) (M:Nat→Prop):Prop:=Below B w0 W∧∀k,M k→B≤k
theorem stable_old {β:Type} {L B:Nat} {w0:World} (hL:B≤L) (h0:B≤w0.heap.size):StableL L (fun (_:β) M W=>OldI B w0 W M) :=
 fun _ _ _ _ _ ⟨h,hm⟩ hs hn=>⟨hs.below h hL h0 hm,fun k e=>(hn k e).elim (hm k) (fun h2=>by have:=h.size;omega)⟩
end
section
open Go Go.RowKit Go.Shelf
attribute [local go_sem] over_cell
attribute [local go_sem] Oper.semAt_some
def RowsI (W:World) (M:Nat→Prop) (L:Nat) (v:Value) (pre:List (Value × List Int)):Prop :=
 W.ownsRow L 22 1 v pre.length (pre.map Prod.fst)∧(∀k,v.ownBlock=some k→¬M k) ∧
  ∀x,x∈pre→W.ownsRow L 3 1 x.1 x.2.length (x.2.map (Value.int .i64))∧∀k,x.1.ownBlock=some k→¬M k∧v.ownBlock≠some k
theorem RowsI.nil (W:World) (M:Nat→Prop) (L:Nat):RowsI W M L (.slice none 0 0) [] :=
 ⟨World.ownsRow_nil W L _ 1,fun _ e=>(by cases e),fun _ e=>(by cases e)⟩
theorem RowsI.keep {W W':World} {M M':Nat→Prop} {L L':Nat} {v:Value} {pre:List (Value × List Int)} (h:RowsI W M L v pre) (hs:StaysL L' M W W') (hn:∀k,M' k→M k∨W.heap.size≤k):RowsI W' M' L v pre :=
 ⟨hs.owns h.1 h.2.1,fun k e hm=>(hn k hm).elim (h.2.1 k e) (fun h2=>by have:=(h.1.lt k e).2;omega),
  fun x hx=>⟨hs.owns (h.2.2 x hx).1 (fun k e=>((h.2.2 x hx).2 k e).1),fun k e=>⟨fun hm=>(hn k hm).elim ((h.2.2 x hx).2 k e).1 (fun h2=>by have:=((h.2.2 x hx).1.lt k e).2;omega),((h.2.2 x hx).2 k e).2⟩⟩⟩
theorem RowsI.setCell {W:World} {M:Nat→Prop} {L:Nat} {v:Value} {pre:List (Value × List Int)} (h:RowsI W M L v pre) {b i:Nat} (hb:b<L) (u:Value):RowsI (W.setCell ⟨b,i,none⟩ u) M L v pre :=
 ⟨ownsRow_setCell_other h.1 (a:=⟨b,i,none⟩) (fun e=>by have:=(h.1.lt b e).1;omega) u,h.2.1,
  fun x hx=>⟨ownsRow_setCell_other (h.2.2 x hx).1 (a:=⟨b,i,none⟩) (fun e=>by have:=((h.2.2 x hx).1.lt b e).1;omega) u,(h.2.2 x hx).2⟩⟩
theorem RowsI.append {W W2:World} {M:Nat→Prop} {L:Nat} {v v':Value} {pre:List (Value × List Int)} {x:Value × List Int} (h:RowsI W M L v pre) (hM:∀k,M k→k<W.heap.size)
  (hx:W.ownsRow L 3 1 x.1 x.2.length (x.2.map (Value.int .i64))) (hxm:∀k,x.1.ownBlock=some k→¬M k∧v.ownBlock≠some k)
  (hs:Stays (fun k=>v.ownBlock=some k) W W2) (hown:W2.ownsRow L 22 1 v' (pre.length+1) (pre.map Prod.fst++[x.1])) (hnew:∀k,v'.ownBlock=some k→v.ownBlock=some k∨W.heap.size≤k):RowsI W2 M L v' (pre++[x]):=by
 have hold:∀y,y∈pre++[x]→W.ownsRow L 3 1 y.1 y.2.length (y.2.map (Value.int .i64))∧∀k,y.1.ownBlock=some k→¬M k∧v.ownBlock≠some k:=by
  intro y hy
  rcases List.mem_append.1 hy with hy|hy
  ·exact h.2.2 y hy
  ·rw[List.mem_singleton.1 hy];exact ⟨hx,hxm⟩
 refine ⟨by rw[List.length_append,List.map_append];exact hown,fun k e hm=>?_,fun y hy=>⟨owns_keep (hold y hy).1 (fun k e hlt=>hs.block k hlt ((hold y hy).2 k e).2),fun k e=>⟨((hold y hy).2 k e).1,fun e2=>?_⟩⟩⟩
 ·rcases hnew k e with e2|e2
  ·exact h.2.1 k e2 hm
  ·have:=hM _ hm;omega
 ·rcases hnew k e2 with e3|e3
  ·exact ((hold y hy).2 k e).2 e3
  ·have:=((hold y hy).1.lt _ e).2
   omega
theorem Stays.q {S:Nat→Prop} {W W':World} {b:Nat} {o:Obj} (hs:Stays S W W') (hq:W.heap[b]?=some o) (hb:¬S b):W'.heap[b]?=some o:=(hs.block b (q_lt hq) hb).trans hq
theorem grow_stays {W W2:World} {o:Obj} {row:Option Nat} (hg:(W.alloc o).grownBy W2 row):Stays (fun k=>row=some k) W W2 :=
 (Below.stays ((Below.refl _ W).alloc (Nat.le_refl _) _) _).trans (Stays.grown (S:=fun k=>row=some k) hg (fun _ e=>e)) (fun _ e => .inl e)
theorem RowsI.rc {W:World} {M:Nat→Prop} {L:Nat} {v:Value} {pre:List (Value × List Int)} (h:RowsI W M L v pre) (hn:pre.length≤17592186044416) (hm:∀x,x∈pre→x.2.length≤17592186044416) :
  ∃a c,v = .slice a pre.length c∧RC W a pre.length (pre.map Prod.snd)∧pre.length≤c:=by
 obtain ⟨a,c,rfl⟩:=owns_shape h.1
 refine ⟨a,c,rfl,⟨⟨by rw[List.length_map],hn⟩,fun k hk=>?_⟩,?_⟩
 ·obtain ⟨g,cap,x,hv,hx,hc,_,hg,_⟩:=owns_free (owns_base h.1 (Nat.zero_le _)) k hk
  simp only[Value.slice.injEq] at hv
  obtain ⟨rfl,_,_⟩:=hv
  have hx2:x=(pre[k]'hk).1:=by
   rw[List.getElem?_map,List.getElem?_eq_getElem hk] at hx
   simpa using hx.symm
  have hrow:=(h.2.2 _ (List.getElem_mem hk)).1
  obtain ⟨a9,c9,he9⟩:=owns_shape hrow
  rw[he9] at hrow
  have hic:=IC.of_owns hrow (hm _ (List.getElem_mem hk))
  refine ⟨g,0,a9,_,c9,rfl,hg,by rw[Nat.zero_add,hc,hx2,he9],?_,hic.2⟩
  rw[List.getElem?_map,List.getElem?_eq_getElem hk]
  exact hic.1
 ·rcases h.1.2 with ⟨e,e2⟩|⟨_,_,_,e,_,_,e3,_⟩
  ·simp only[Value.slice.injEq] at e;omega
  ·simp only[Value.slice.injEq] at e;omega
theorem owns_cells {W:World} {base:Nat} {e:TypeId} {size:Nat} {v:Value} {n:Nat} {xs:List Value} (h:W.ownsRow base e size v n xs) {j:Nat} {o:Obj} (hj:v.ownBlock=some j) (ho:W.heap[j]?=some o):o.isCells=true:=by
 rcases h.2 with ⟨e2,_⟩|⟨g,cap,cur,e2,_,hg,_⟩
 ·rw[e2] at hj;cases hj
 ·rw[e2] at hj;cases hj
  rw[hg] at ho;cases ho;rfl
end
section
open Go Go.RowKit
theorem tmod_pos (a n:Int) (hn:1≤n) : -n<a.tmod n∧a.tmod n<n:=by
 refine ⟨?_,Int.tmod_lt_of_pos a (by omega)⟩
 have h:=Int.tmod_lt_of_pos (-a) (show 0<n by omega)
 rw[Int.neg_tmod] at h
 omega
theorem mod_val (a n:Int) (hn1:1≤n) (hn2:n≤1000000):(wrap64 (a.tmod n+n)).tmod n=a % n:=by
 obtain ⟨h1,h2⟩:=tmod_pos a n hn1
 have e:wrap64 (a.tmod n+n)=a.tmod n+n:=by unfold wrap64;omega
 rw[e,Int.tmod_eq_emod_of_nonneg (by omega),Int.add_emod_right]
 have h3:=Int.tmod_add_mul_tdiv a n
 conv=>rhs;rw[← h3]
 rw[Int.add_mul_emod_self_left]
theorem mod_c (a n:Int) (w:World) (hn1:1≤n) (hn2:n≤1000000) :
  Calls Tryz.prog 62 #[.int .i64 a,.int .i64 n] w fun e w'=>e = .returned (.int .i64 (a % n))∧w=w':=by
 have hn0:n≠0:=by omega
 have hn00:(n==0)=false:=by simp;omega
 have HN:=Lib.hid hn0
 clear hn0
 go_enter Tryz.func62,Tryz.ntmps62
 go_wp2
 go_ret
 exact ⟨congrArg Ending.returned (congrArg (Value.int IntKind.i64) (mod_val a n hn1 hn2)),rfl⟩
end
section
open Go Go.RowKit
section
variable {P:Program} {ops:Array Oper} {Q:Exit→Act→World→Prop} {md:Region.Mode} {S:World→Prop} {late:Nat→Bool}
theorem wpL_firstW {i:Nat} {oi:Oper} {v:Value} (hi:ops[i]?=some oi) (hsel:∀(j:Nat) (o:Oper) cs b,ops[j]?=some o→o.op ≠ .select cs b)
  (hQ:∀c a w,Q (.panic c) (a.put oi.dst v) w→Q (.panic c) a w) (hl:late i=true) :
  ∀(fuel:Nat) (listed:Array Bool) (a:Act) (w:World),Closed md ops listed →
   (∀j oj,ops[j]?=some oj→j≠i→listed.getD j true=false→(∀e∈oj.after,Region.binds md e=true→e.on≠i)→oi.apart ops oj=true) →
   i∈Region.ready md ops listed→YieldsIf P ops (fun _=>True) oi v a →
   wpL P md ops Q S late fuel (listed.setIfInBounds i true) (a.put oi.dst v) w→wpL P md ops Q S late (fuel+1) listed a w:=by
 intro fuel
 induction fuel with
 | zero =>
  intro listed a w hcl hfree hr hy H
  refine ⟨fun h=>(by rw[h] at hr;cases hr),fun j hj=>?_⟩
  by_cases hji:j=i
  ·subst hji;exact hy.wpOp hi trivial ⟨fun h=>(by rw[hl] at h;cases h),H⟩
  ·have:=ready_mono hj hji
   rw[H.1] at this
   cases this
 | succ fuel ih =>
  intro listed a w hcl hfree hr hy H
  refine ⟨fun h=>(by rw[h] at hr;cases hr),fun j hj=>?_⟩
  by_cases hji:j=i
  ·subst hji;exact hy.wpOp hi trivial ⟨fun h=>(by rw[hl] at h;cases h),H⟩
  ·have h1:=H.2 j (ready_mono hj hji)
   obtain ⟨hjun,oj,hoj,hall⟩:=mem_ready.1 hj
   have hnot:∀e∈oj.after,Region.binds md e=true→e.on≠i:=fun e he hb heq=>by
    have h1:=hall e he hb
    have h0:=(mem_ready.1 hr).1
    rw[heq] at h1
    rcases Nat.lt_or_ge i listed.size with h'|h'
    ·simp[h'] at h0 h1;rw[h0] at h1;cases h1
    ·simp[Array.getElem?_eq_none h'] at h1
   have h2:=wpOp_putIf hoj (hfree j oj hoj hji hjun hnot) (fun cs b=>hsel i oi cs b hi) (fun cs b=>hsel j oj cs b hoj) hQ hy h1
   have hfree':∀k ok,ops[k]?=some ok→k≠i→(listed.setIfInBounds j true).getD k true=false →
     (∀e∈ok.after,Region.binds md e=true→e.on≠i)→oi.apart ops ok=true:=fun k ok hk hki hun hno=>by
    refine hfree k ok hk hki ?_ hno
    by_cases hjk:j=k
    ·subst hjk;exact hjun
    ·rw[getD_set_ne true hjk] at hun;exact hun
   refine wpOp_mono (fun a' w' h3=>⟨h3.2.1,ih (listed.setIfInBounds j true) a' w' (hcl.set hj) hfree' (ready_mono hr (Ne.symm hji)) h3.1 ?_⟩) h2
   rw[Array.setIfInBounds_comm _ _ hji]
   exact h3.2.2
def Has (listed:Array Bool) (pre:List Nat):Prop:=∀p∈pre,listed.getD p false=true
theorem Has.set {listed:Array Bool} {pre:List Nat} (h:Has listed pre) (j:Nat):Has (listed.setIfInBounds j true) pre:=fun p hp=>getD_set_true (h p hp)
theorem wpL_firstP {pre:List Nat} {i:Nat} {oi:Oper} {v:Value} (hi:ops[i]?=some oi) (hsel:∀(j:Nat) (o:Oper) cs b,ops[j]?=some o→o.op ≠ .select cs b)
  (hQ:∀c a w,Q (.panic c) (a.put oi.dst v) w→Q (.panic c) a w)
  (hlate:∀j listed,Has listed pre→late j=true→Closed md ops listed→j∈Region.ready md ops listed→listed.getD i false=true) :
  ∀(fuel:Nat) (listed:Array Bool) (a:Act) (w:World),Has listed pre→Closed md ops listed →
   (∀j oj,ops[j]?=some oj→j≠i→listed.getD j true=false→(∀e∈oj.after,Region.binds md e=true→e.on≠i)→oi.apart ops oj=true) →
   i∈Region.ready md ops listed→YieldsIf P ops S oi v a→S w →
   wpL P md ops Q S late fuel (listed.setIfInBounds i true) (a.put oi.dst v) w→wpL P md ops Q S late (fuel+1) listed a w:=by
 intro fuel
 induction fuel with
 | zero =>
  intro listed a w hp hcl hfree hr hy hS H
  refine ⟨fun h=>(by rw[h] at hr;cases hr),fun j hj=>?_⟩
  by_cases hji:j=i
  ·subst hji;exact hy.wpOp hi hS ⟨fun _=>hS,H⟩
  ·have:=ready_mono hj hji
   rw[H.1] at this
   cases this
 | succ fuel ih =>
  intro listed a w hp hcl hfree hr hy hS H
  refine ⟨fun h=>(by rw[h] at hr;cases hr),fun j hj=>?_⟩
  by_cases hji:j=i
  ·subst hji;exact hy.wpOp hi hS ⟨fun _=>hS,H⟩
  ·have h1:=H.2 j (ready_mono hj hji)
   obtain ⟨hjun,oj,hoj,hall⟩:=mem_ready.1 hj
   have hnot:∀e∈oj.after,Region.binds md e=true→e.on≠i:=fun e he hb heq=>by
    have h1:=hall e he hb
    have h0:=(mem_ready.1 hr).1
    rw[heq] at h1
    rcases Nat.lt_or_ge i listed.size with h'|h'
    ·simp[h'] at h0 h1;rw[h0] at h1;cases h1
    ·simp[Array.getElem?_eq_none h'] at h1
   have hjl:late j=false:=by
    cases hl:late j with
    | false=>rfl
    | true =>
     have h1:=hlate j listed hp hl hcl hj
     have h0:=(mem_ready.1 hr).1
     rcases Nat.lt_or_ge i listed.size with h'|h'
     ·simp[h'] at h0 h1;rw[h0] at h1;cases h1
     ·simp[Array.getElem?_eq_none h'] at h1
   have h2:=wpOp_putIf hoj (hfree j oj hoj hji hjun hnot) (fun cs b=>hsel i oi cs b hi) (fun cs b=>hsel j oj cs b hoj) hQ hy h1
   have hfree':∀k ok,ops[k]?=some ok→k≠i→(listed.setIfInBounds j true).getD k true=false →
     (∀e∈ok.after,Region.binds md e=true→e.on≠i)→oi.apart ops ok=true:=fun k ok hk hki hun hno=>by
    refine hfree k ok hk hki ?_ hno
    by_cases hjk:j=k
    ·subst hjk;exact hjun
    ·rw[getD_set_ne true hjk] at hun;exact hun
   refine wpOp_mono (fun a' w' h3=>⟨h3.2.1,ih (listed.setIfInBounds j true) a' w' (hp.set j) (hcl.set hj) hfree' (ready_mono hr (Ne.symm hji)) h3.1 (h3.2.1 hjl) ?_⟩) h2
   rw[Array.setIfInBounds_comm _ _ hji]
   exact h3.2.2
def wpF (P:Program) (ops:Array Oper) (K:Act→Prop):List Oper→Act→Prop
 | [],a=>K a
 | o :: r,a=>if Region.wanted o (yielded ops a.tmps) then ∃v,(∀w',(execOp a.eval o).run P w' = .ok (.value v) w')∧wpF P ops K r (a.put o.dst v) else wpF P ops K r (a.put o.dst undef)
def pickF (l:List Oper):List Nat→List Oper
 | []=>[]
 | i :: r=>match nthOp l i with
  | some o=>o :: pickF l r
  | none=>[]
def preOk (md:Region.Mode) (ops:Array Oper):List Nat→Array Bool→Bool
 | [],_=>true
 | i :: r,listed=>(Region.ready md ops listed).contains i&&Region.free md ops listed i&&preOk md ops r (listed.setIfInBounds i true)
def preSet:List Nat→Array Bool→Array Bool
 | [],listed=>listed
 | i :: r,listed=>preSet r (listed.setIfInBounds i true)
theorem preSet_has:∀(r:List Nat) (listed:Array Bool),preOk md ops r listed=true→Has (preSet r listed) r∧∀pre,Has listed pre→Has (preSet r listed) pre
 | [],listed,_=>⟨fun p hp=>(by cases hp),fun pre h=>h⟩
 | i :: r,listed,hc=>by
  simp only[preOk,Bool.and_eq_true] at hc
  obtain ⟨⟨hr,hf⟩,hc'⟩:=hc
  have ih:=preSet_has r _ hc'
  have hi:(listed.setIfInBounds i true).getD i false=true:=by
   obtain ⟨h1,oi,hoi,_⟩:=(mem_ready (md:=md) (ops:=ops) (listed:=listed) (j:=i)).1 (by simpa using hr)
   rcases Nat.lt_or_ge i listed.size with h'|h'
   ·simp[h']
   ·simp[Array.getElem?_eq_none h'] at h1
  refine ⟨fun p hp=>?_,fun pre h=>ih.2 pre (h.set i)⟩
  rcases List.mem_cons.1 hp with e|e
  ·subst e
   exact ih.2 [p] (fun q hq=>by obtain rfl:q=p:=(by simpa using hq);exact hi) p (by simp)
  ·exact ih.1 p e
theorem wpL_of_F (hs:Region.noSelect ops=true) (hQ:∀c a d v w,Q (.panic c) (Act.put a d v) w→Q (.panic c) a w) (fuel:Nat) :
  ∀(pre:List Nat) (listed:Array Bool) (a:Act) (w:World),(∀p∈pre,late p=true)→Closed md ops listed→preOk md ops pre listed=true →
   wpF P ops (fun a'=>wpL P md ops Q S late fuel (preSet pre listed) a' w) (pickF ops.toList pre) a→wpL P md ops Q S late (fuel+pre.length) listed a w∧Closed md ops (preSet pre listed)
 | [],listed,a,w,_,hcl,_,h=>⟨h,hcl⟩
 | i :: r,listed,a,w,hl,hcl,hc,h=>by
  simp only[preOk,Bool.and_eq_true] at hc
  obtain ⟨⟨hr,hf⟩,hc'⟩:=hc
  have hr':i∈Region.ready md ops listed:=by simpa using hr
  obtain ⟨oi,hoi⟩:∃oi,ops[i]?=some oi:=by
   obtain ⟨_,oi,h1,_⟩:=(mem_ready (md:=md) (ops:=ops) (listed:=listed) (j:=i)).1 hr'
   exact ⟨oi,h1⟩
  have hp:nthOp ops.toList i=some oi:=by rw[nthOp_eq];simpa using hoi
  simp only[pickF,hp,wpF] at h
  have key:∀v,YieldsIf P ops (fun _=>True) oi v a→wpF P ops (fun a'=>wpL P md ops Q S late fuel (preSet r (listed.setIfInBounds i true)) a' w) (pickF ops.toList r) (a.put oi.dst v)→wpL P md ops Q S late (fuel+(r.length+1)) listed a w∧Closed md ops (preSet (i :: r) listed):=by
   intro v hy hK
   have ih:=wpL_of_F hs hQ fuel r _ _ w (fun p hp=>hl p (by simp[hp])) (hcl.set hr') hc' hK
   exact ⟨wpL_firstW hoi (Region.noSelect_spec hs) (fun c a' w'=>hQ c a' _ _ w') (hl i (by simp)) (fuel+r.length) listed a w hcl (Region.free_spec hoi hf) hr' hy ih.1,ih.2⟩
  by_cases hw:Region.wanted oi (yielded ops a.tmps)=true
  ·rw[if_pos hw] at h
   obtain ⟨v,hv,hK⟩:=h
   exact key v (.inl ⟨hw,fun w' _=>hv w'⟩) hK
  ·rw[if_neg hw] at h
   exact key undef (.inr ⟨by simpa using hw,rfl⟩) h
theorem wpL_of_T (hs:Region.noSelect ops=true) (lt pre:List Nat) (hQ:∀c a d v w,Q (.panic c) (Act.put a d v) w→Q (.panic c) a w) :
  ∀(seq:List (Nat × Nat)) (listed:Array Bool) (a:Act) (w:World),Has listed pre→Closed md ops listed→((∃x∈seq,x.1≤1)→S w) →
   seqOk md ops lt seq listed=true→wpS P ops S Q (pickOps ops.toList seq) a w→wpL P md ops Q S (fun i=>lt.contains i||pre.contains i) seq.length listed a w
 | [],listed,a,w,_,_,_,hc,h=>⟨by simpa [seqOk] using hc,by simpa only[pickOps,wpS] using h⟩
 | (0,i) :: r,listed,a,w,hh,hcl,hS,hc,h=>by
  have hSw:S w:=hS ⟨_,List.mem_cons_self,Nat.zero_le _⟩
  simp only[seqOk,Bool.and_eq_true] at hc
  obtain ⟨⟨⟨⟨hr,hf⟩,hnl⟩,hla⟩,hc'⟩:=hc
  obtain ⟨oi,hoi⟩:∃oi,ops[i]?=some oi:=by
   have:=(mem_ready (md:=md) (ops:=ops) (listed:=listed) (j:=i)).1 (by simpa using hr)
   obtain ⟨_,oi,h1,_⟩:=this
   exact ⟨oi,h1⟩
  have hp:nthOp ops.toList i=some oi:=by rw[nthOp_eq];simpa using hoi
  have hlate:∀j listed,Has listed pre→(lt.contains j||pre.contains j)=true→Closed md ops listed→j∈Region.ready md ops listed→listed.getD i false=true:=by
   intro j listed' hp' hl hcl' hj
   rcases Bool.or_eq_true _ _▸hl with hl|hl
   ·have h1:=List.all_eq_true.1 hla j (by simpa using hl)
    exact closure_listed hcl' _ _ (ready_afters hj) i (by simpa using h1)
   ·have h1:=hp' j (by simpa using hl)
    have h0:=(mem_ready.1 hj).1
    rcases Nat.lt_or_ge j listed'.size with h'|h'
    ·simp[h'] at h0 h1;rw[h0] at h1;cases h1
    ·simp[Array.getElem?_eq_none h'] at h1
  simp only[pickOps,hp,wpS] at h
  have key:∀v,YieldsIf P ops S oi v a→wpS P ops S Q (pickOps ops.toList r) (a.put oi.dst v) w→wpL P md ops Q S (fun i=>lt.contains i||pre.contains i) (r.length+1) listed a w:=by
   intro v hy hK
   exact wpL_firstP (pre:=pre) hoi (Region.noSelect_spec hs) (fun c a' w'=>hQ c a' _ _ w') hlate r.length listed a w hh hcl (Region.free_spec hoi hf) (by simpa using hr) hy hSw
    (wpL_of_T hs lt pre hQ r _ _ w (hh.set i) (hcl.set (by simpa using hr)) (fun _=>hSw) hc' hK)
  by_cases hw:Region.wanted oi (yielded ops a.tmps)=true
  ·rw[if_pos hw] at h
   obtain ⟨v,hv,hK⟩:=h
   exact key v (.inl ⟨hw,hv⟩) hK
  ·rw[if_neg hw] at h
   exact key undef (.inr ⟨by simpa using hw,rfl⟩) h
 | (1,i) :: r,listed,a,w,hh,hcl,hS,hc,h=>by
  have hSw:S w:=hS ⟨_,List.mem_cons_self,Nat.le_refl _⟩
  simp only[seqOk,Bool.and_eq_true,beq_iff_eq] at hc
  obtain ⟨hr,hc'⟩:=hc
  obtain ⟨oi,hoi⟩:∃oi,ops[i]?=some oi:=by
   obtain ⟨_,oi,h1,_⟩:=(mem_ready (md:=md) (ops:=ops) (listed:=listed) (j:=i)).1 (by rw[hr];simp)
   exact ⟨oi,h1⟩
  have hp:nthOp ops.toList i=some oi:=by rw[nthOp_eq];simpa using hoi
  simp only[pickOps,hp,wpS] at h
  refine ⟨fun h0=>absurd (hr▸h0) (by simp),fun j hj=>?_⟩
  rw[hr] at hj
  obtain rfl:j=i:=by simpa using hj
  refine wpOp_of_if hoi ?_
  split
  ·rename_i hw
   rw[if_pos hw] at h
   exact h.imp (Oper.wp_mono fun a' w' hk=>⟨fun _=>hk.1,wpL_of_T hs lt pre hQ r _ a' w' (hh.set j) (hcl.set (by rw[hr];simp)) (fun _=>hk.1) hc' hk.2⟩) id
  ·rename_i hw
   rw[if_neg hw] at h
   exact ⟨fun _=>hSw,wpL_of_T hs lt pre hQ r _ _ w (hh.set j) (hcl.set (by rw[hr];simp)) (fun _=>hSw) hc' h⟩
 | (n+2,i) :: r,listed,a,w,hh,hcl,hS,hc,h=>by
  simp only[seqOk,Bool.and_eq_true,beq_iff_eq] at hc
  obtain ⟨⟨⟨hr,hl⟩,hno⟩,hc'⟩:=hc
  obtain ⟨oi,hoi⟩:∃oi,ops[i]?=some oi:=by
   obtain ⟨_,oi,h1,_⟩:=(mem_ready (md:=md) (ops:=ops) (listed:=listed) (j:=i)).1 (by rw[hr];simp)
   exact ⟨oi,h1⟩
  have hp:nthOp ops.toList i=some oi:=by rw[nthOp_eq];simpa using hoi
  simp only[pickOps,hp,wpS] at h
  refine ⟨fun h0=>absurd (hr▸h0) (by simp),fun j hj=>?_⟩
  rw[hr] at hj
  obtain rfl:j=i:=by simpa using hj
  have hnoz:¬∃x∈r,x.1≤1:=by
   rintro ⟨x,hx,h0⟩
   have:=List.all_eq_true.1 hno x hx
   simp at this
   omega
  refine wpOp_of_if hoi ?_
  split
  ·rename_i hw
   rw[if_pos hw] at h
   exact h.imp (Oper.wp_mono fun a' w' hk=>⟨fun h0=>by rw[show (fun i=>lt.contains i||pre.contains i) j=(lt.contains j||pre.contains j) from rfl,hl] at h0;exact absurd h0 (by simp),wpL_of_T hs lt pre hQ r _ a' w' (hh.set j) (hcl.set (by rw[hr];simp)) (fun hz=>absurd hz hnoz) hc' hk⟩) id
  ·rename_i hw
   rw[if_neg hw] at h
   exact ⟨fun h0=>by rw[show (fun i=>lt.contains i||pre.contains i) j=(lt.contains j||pre.contains j) from rfl,hl] at h0;exact absurd h0 (by simp),wpL_of_T hs lt pre hQ r _ _ w (hh.set j) (hcl.set (by rw[hr];simp)) (fun hz=>absurd hz hnoz) hc' h⟩
theorem wp_region_T {id:Nat} {l:List Oper} {a:Act} {w:World} (S:World→Prop) (pre lt:List Nat) (seq:List (Nat × Nat))
  (hm:P.follows .mixedOrders=true) (hc:(Region.noSelect l.toArray&&decide (seq.length+pre.length≤l.length)&&preOk .any l.toArray pre (Array.replicate l.length false)&&seqOk .any l.toArray lt seq (preSet pre (Array.replicate l.length false)))=true)
  (hS:S w.drew)
  (h:wpF P l.toArray (fun a'=>wpS P l.toArray S (NoPanic Q) (pickOps l seq) a' w.drew) (pickF l pre) a):(Code.region id l.toArray true).wp P Q a w:=by
 refine wp_region_noPanic ?_
 simp only[Bool.and_eq_true,decide_eq_true_eq] at hc
 obtain ⟨⟨⟨hs,hlen⟩,hp⟩,hc⟩:=hc
 refine wp_region_any hm ?_
 obtain ⟨m,hm'⟩:∃m,l.toArray.size=(seq.length+pre.length)+m:=⟨l.length - (seq.length+pre.length),by simp;omega⟩
 rw[hm']
 refine wpAny_more _ _ _ _ _ (wpAny_of_L (S:=S) (late:=fun i=>lt.contains i||pre.contains i) _ _ _ _ ?_)
 have e:Array.replicate (seq.length+pre.length+m) false=Array.replicate l.length false:=by rw[← hm'];simp
 rw[e]
 have hh:=(preSet_has (md := .any) (ops:=l.toArray) pre (Array.replicate l.length false) hp).1
 have hcl0:Closed .any l.toArray (Array.replicate l.length false):=closed_none _
 have hQ:∀c a d v w,NoPanic Q (.panic c) (Act.put a d v) w→NoPanic Q (.panic c) a w:=fun _ _ _ _ _ h=>h
 have hmono:∀(os:List Oper) (a:Act) (K K':Act→Prop),(∀a',K a'→K' a')→wpF P l.toArray K os a→wpF P l.toArray K' os a:=by
  intro os
  induction os with
  | nil=>intro a K K' hk h;exact hk a h
  | cons o r ih =>
   intro a K K' hk h
   simp only[wpF] at h ⊢
   split
   ·rename_i hw
    rw[if_pos hw] at h
    obtain ⟨v,hv,h⟩:=h
    exact ⟨v,hv,ih _ K K' hk h⟩
   ·rename_i hw
    rw[if_neg hw] at h
    exact ih _ K K' hk h
 have hcl:Closed .any l.toArray (preSet pre (Array.replicate l.length false)):=by
  have hgen:∀(pre:List Nat) (listed:Array Bool),Closed .any l.toArray listed→preOk .any l.toArray pre listed=true→Closed .any l.toArray (preSet pre listed):=by
   intro pre
   induction pre with
   | nil=>intro listed h _;exact h
   | cons i r ih =>
    intro listed h hc
    simp only[preOk,Bool.and_eq_true] at hc
    exact ih _ (h.set (by simpa using hc.1.1)) hc.2
  exact hgen pre _ hcl0 hp
 exact (wpL_of_F hs hQ seq.length pre _ a w.drew (fun p hp=>by simp[hp]) hcl0 hp (hmono _ _ _ _ (fun a' h'=>wpL_of_T hs lt pre hQ seq _ a' w.drew hh hcl (fun _=>hS) hc h') h)).1
theorem wpF_quiet {K:Act→Prop} {a:Act} {o:Oper} {r:List Oper} (hp:plainOp o=true) (hw:Region.wanted o (yielded ops a.tmps)=true)
  (h:∀K':Act→Prop,(∀a',wpF P ops K r a'→K' a')→o.quiet P a (fun _=>True) K'):wpF P ops K (o :: r) a:=by
 simp only[wpF,hw,if_true]
 obtain ⟨v,hv,hK⟩:=h (fun a'=>wpF P ops K r a') (fun _ h=>h)
 refine ⟨v,fun w'=>?_,hK⟩
 have hq:=hv w' trivial
 unfold Oper.quietAt at hq
 cases hr:(execOp a.eval o).run P w' with
 | halt x w1=>rw[hr] at hq;exact hq.elim
 | ok n w1 =>
  obtain ⟨u,rfl⟩:=plain_value hp _ hr
  rw[hr] at hq
  obtain ⟨rfl,rfl⟩:=hq
  rfl
theorem wpF_skip {K:Act→Prop} {a:Act} {dst:Option Tmp} {op:Op} {ty:TypeId} {pos:String} {after:Array Edge} {g:Option (Nat × Bool)} {r:List Oper}
  (hw:Region.wanted (Oper.mk dst op ty pos after g) (yielded ops a.tmps)=false)
  (h:∀K':Act→Prop,(∀a',wpF P ops K r a'→K' a')→(Oper.mk dst (.move (.const undef)) ty pos after none).quiet P a (fun _=>True) K'):wpF P ops K (Oper.mk dst op ty pos after g :: r) a:=by
 obtain ⟨v,hv,hK⟩:=h (fun a'=>wpF P ops K r a') (fun _ h=>h)
 have hq:=hv default trivial
 have:v=undef:=by
  simp[Oper.quietAt,execOp,Sem.run_pure,Oper.quietUpon] at hq
  exact hq.symm
 subst this
 simp only[wpF,hw]
 exact hK
theorem wpF_end {K:Act→Prop} {a:Act} (h:K a):wpF P ops K [] a:=h
attribute [irreducible] wpF
end
end
section
open Go Go.RowKit
section
variable {P:Program} {ops:Array Oper} {Q:Exit→Act→World→Prop} {md:Region.Mode} {l0 n:Nat}
theorem upon_to_In {o:Oper} {a:Act} {next:Act→World→Prop} {r:Result Next} (h:o.upon P a next Q r):o.uponIn (Fence.wide.inRound l0) n P a next Q r:=by
 cases r with
 | ok x w =>
  cases x <;> simp only[Oper.upon] at h <;> first|exact h|exact h.elim|skip
  ·exact ⟨fun e=>absurd e (by simp[Fence.wide]),CallsIn.inRound l0 (callsIn_wide.2 h)⟩
  ·refine ⟨fun e=>absurd e (by simp[Fence.wide]),fun c cs _=>?_⟩
   obtain ⟨v,w',hr,hs⟩:=h c cs
   exact ⟨v,w',hr,stepsIn_wide.2 hs⟩
 | halt x w =>
  cases x <;> simp only[Oper.upon] at h <;> first|exact h|exact h.elim
theorem wpOp_to_In (hd:∀(i:Nat) (o:Oper),ops[i]?=some o→∀c,o.op≠Op.defer c) (hlo:¬LetsOut Q) {i:Nat} {K:Act→World→Prop} {a:Act} {w:World} (h:wpOp P ops Q i K a w):wpOpIn (Fence.wide.inRound l0) n P ops Q i K a w:=by
 unfold wpOp at h
 unfold wpOpIn
 cases ho:ops[i]? with
 | none=>rw[ho] at h;exact h
 | some o =>
  rw[ho] at h
  simp only at h ⊢
  split
  ·rename_i hw
   rw[if_pos hw] at h
   rcases h with h|⟨_,h⟩
   ·refine ⟨fun _ _=>trivial,?_⟩
    rw[Oper.semAt_plain _ _ _ (hd i o ho)]
    exact upon_to_In h
   ·exact absurd h hlo
  ·rename_i hw
   rw[if_neg hw] at h
   exact ⟨fun _ _=>trivial,h⟩
theorem wpAny_to_In (hd:∀(i:Nat) (o:Oper),ops[i]?=some o→∀c,o.op≠Op.defer c) (hlo:¬LetsOut Q):∀(fuel:Nat) (listed:Array Bool) (a:Act) (w:World),wpAny P md ops Q fuel listed a w→wpAnyIn (Fence.wide.inRound l0) n P md ops Q fuel listed a w
 | 0,_,_,_,h=>h
 | fuel+1,_,_,_,h=>⟨h.1,fun i hi=>wpOpIn_mono (fun a' w' h'=>wpAny_to_In hd hlo fuel _ a' w' h') (wpOp_to_In hd hlo (h.2 i hi))⟩
def noDefer (l:List Oper):Bool:=l.all fun o=>match o.op with | .defer _=>false|_=>true
theorem wpIn_region_S {id:Nat} {l:List Oper} {a:Act} {w:World} (S:World→Prop) (lt:List Nat) (seq:List (Nat × Nat))
  (hm:P.follows .mixedOrders=true) (hc:(Region.noSelect l.toArray&&decide (seq.length≤l.length)&&seqOk .any l.toArray lt seq (Array.replicate l.length false))=true) (hnd:noDefer l=true) (hlo:∀a w,Q .outgrown a w→False)
  (hS:S w.drew)
  (h:wpS P l.toArray S (NoPanic Q) (pickOps l seq) a w.drew):(Code.region id l.toArray true).wpIn (Fence.wide.inRound l0) n P Q a w:=by
 refine wpIn_mono ?_ NoPanic.imp
 simp only[Bool.and_eq_true,decide_eq_true_eq] at hc
 obtain ⟨⟨hs,hlen⟩,hc⟩:=hc
 refine wpIn_region_any hm (wpAny_to_In ?_ ?_ _ _ _ _ ?_)
 ·intro i o ho c hcc
  have h1:=List.all_eq_true.1 hnd o (by
   have:l[i]?=some o:=by simpa using ho
   exact List.mem_of_getElem? this)
  rw[hcc] at h1
  cases h1
 ·rintro ⟨a',w',hq⟩
  exact hlo a' w' hq
 obtain ⟨m,hm'⟩:∃m,l.toArray.size=seq.length+m:=⟨l.length - seq.length,by simp;omega⟩
 rw[hm']
 refine wpAny_more _ _ _ _ _ (wpAny_of_L (S:=S) (late:=fun i=>lt.contains i) _ _ _ _ ?_)
 have e:Array.replicate (seq.length+m) false=Array.replicate l.length false:=by rw[← hm'];simp
 rw[e]
 exact wpL_of_S hs lt (fun _ _ _ _ _ h=>h) seq _ a w.drew (closed_none _) (fun _=>hS) hc h
end
end
section
open Go Go.RowKit
def hold (o:Obj) (b:Nat) (u:World):World:={ u with heap:=(u.heap.toList.take b++List.replicate (b - u.heap.size) o++o :: u.heap.toList.drop (b+1)).toArray }
theorem hold_heap (o:Obj) (b:Nat) (u:World):(hold o b u).heap[b]?=some o:=by
 simp only[hold,List.getElem?_toArray]
 rw[List.getElem?_append_right (by simp;omega)]
 rw[show b - (u.heap.toList.take b++List.replicate (b - u.heap.size) o).length=0 from by simp;omega]
 rfl
theorem hold_of {o:Obj} {b:Nat} {w:World} (h:w.heap[b]?=some o):w=hold o b w:=by
 have hb:=q_lt h
 cases w with
 | mk hp tp dr os ou =>
  simp only at h hb
  simp only[hold,World.mk.injEq,and_true]
  apply Array.ext_getElem?
  intro k
  have e:∀L:List Obj,L.toArray[k]?=L[k]?:=fun L=>by simp
  rw[e (hp.toList.take b++List.replicate (b - hp.size) o++o :: hp.toList.drop (b+1)),show b - hp.size=0 from by omega,List.replicate_zero,List.append_nil]
  rcases Nat.lt_trichotomy k b with hk|hk|hk
  ·rw[List.getElem?_append_left (by simp;omega),List.getElem?_take,if_pos hk,Array.getElem?_toList]
  ·subst hk
   rw[List.getElem?_append_right (by simp;omega),h,show k - (hp.toList.take k).length=0 from by simp;omega]
   rfl
  ·rw[List.getElem?_append_right (by simp;omega),show k - (hp.toList.take b).length=(k - b - 1)+1 from by simp;omega,List.getElem?_cons_succ,List.getElem?_drop,Array.getElem?_toList]
   congr 1
   omega
theorem hold_c0 (v0 v1 v2:Value) (T:TypeId) (b:Nat) (u:World):(hold (.cells #[v0,v1,v2] T (0,0)) b u).cell? ⟨b,0,none⟩=some v0:=q_cell (hold_heap _ b u) 0
theorem hold_c1 (v0 v1 v2:Value) (T:TypeId) (b:Nat) (u:World):(hold (.cells #[v0,v1,v2] T (0,0)) b u).cell? ⟨b,1,none⟩=some v1:=q_cell (hold_heap _ b u) 1
theorem hold_c2 (v0 v1 v2:Value) (T:TypeId) (b:Nat) (u:World):(hold (.cells #[v0,v1,v2] T (0,0)) b u).cell? ⟨b,2,none⟩=some v2:=q_cell (hold_heap _ b u) 2
end
section
open Go Go.RowKit Go.Shelf Go.Sort
attribute [local go_sem] Oper.semAt_some
def sortA_ren:Go.Shelf.Ren:=⟨fun|5=>164|8=>199|7=>198|19=>213|20=>214|10=>204|11=>205|12=>206|13=>207|14=>208|15=>209|16=>210|17=>211|18=>212|30=>217|31=>218|32=>219|33=>220|34=>221|35=>222|40=>223|n=>n,fun|23=>22|25=>3|3=>3|32=>172|22=>22|0=>0|44=>128|46=>186|4=>4|36=>179|35=>178|41=>94|5=>5|9=>9|53=>187|57=>191|63=>193|64=>194|n=>n,fun|n=>n⟩
theorem sortA:Go.Proofs.SlLaysM.n5 Tryz.prog sortA_ren where
 mixed:=by kernel_rfl
 f5:=⟨Tryz.f164.name,by kernel_rfl,Tryz.func164.trans (congrArg some (by kernel_rfl))⟩
 f7:=⟨Tryz.f198.name,by kernel_rfl,Tryz.func198.trans (congrArg some (by kernel_rfl))⟩
 f8:=Tryz.func199.trans (congrArg some (by kernel_rfl))
 f10:=⟨Tryz.f204.name,by kernel_rfl,Tryz.func204.trans (congrArg some (by kernel_rfl))⟩
 f11:=⟨Tryz.f205.name,by kernel_rfl,Tryz.func205.trans (congrArg some (by kernel_rfl))⟩
 f12:=⟨Tryz.f206.name,by kernel_rfl,Tryz.func206.trans (congrArg some (by kernel_rfl))⟩
 f13:=⟨Tryz.f207.name,by kernel_rfl,Tryz.func207.trans (congrArg some (by kernel_rfl))⟩
 f14:=⟨Tryz.f208.name,by kernel_rfl,Tryz.func208.trans (congrArg some (by kernel_rfl))⟩
 f15:=⟨Tryz.f209.name,by kernel_rfl,Tryz.func209.trans (congrArg some (by kernel_rfl))⟩
 f16:=⟨Tryz.f210.name,by kernel_rfl,Tryz.func210.trans (congrArg some (by kernel_rfl))⟩
 f17:=⟨Tryz.f211.name,by kernel_rfl,Tryz.func211.trans (congrArg some (by kernel_rfl))⟩
 f18:=⟨Tryz.f212.name,by kernel_rfl,Tryz.func212.trans (congrArg some (by kernel_rfl))⟩
 f19:=Tryz.func213.trans (congrArg some (by kernel_rfl))
 f20:=Tryz.func214.trans (congrArg some (by kernel_rfl))
 f30:=⟨Tryz.f217.name,by kernel_rfl,Tryz.func217.trans (congrArg some (by kernel_rfl))⟩
 f31:=Tryz.func218.trans (congrArg some (by kernel_rfl))
 f32:=Tryz.func219.trans (congrArg some (by kernel_rfl))
 f33:=⟨Tryz.f220.name,by kernel_rfl,Tryz.func220.trans (congrArg some (by kernel_rfl))⟩
 f34:=⟨Tryz.f221.name,by kernel_rfl,Tryz.func221.trans (congrArg some (by kernel_rfl))⟩
 f35:=⟨Tryz.f222.name,by kernel_rfl,Tryz.func222.trans (congrArg some (by kernel_rfl))⟩
 f40:=⟨Tryz.f223.name,by kernel_rfl,Tryz.func223.trans (congrArg some (by kernel_rfl))⟩
 t0:=Tryz.underlying0
 a0:=Tryz.isAgg0
 z0:=Tryz.sizeOf0
 v0:=Tryz.zeroValue0
 t3:=Tryz.underlying3
 a3:=Tryz.isAgg3
 z3:=Tryz.sizeOf3
 v3:=Tryz.zeroValue3
 t4:=Tryz.underlying4
 a4:=Tryz.isAgg4
 z4:=Tryz.sizeOf4
 v4:=Tryz.zeroValue4
 t5:=Tryz.underlying5
 a5:=Tryz.isAgg5
 z5:=Tryz.sizeOf5
 v5:=Tryz.zeroValue5
 t9:=Tryz.underlying9
 a9:=Tryz.isAgg9
 z9:=Tryz.sizeOf9
 v9:=Tryz.zeroValue9
 t22:=Tryz.underlying22
 a22:=Tryz.isAgg22
 z22:=Tryz.sizeOf22
 v22:=Tryz.zeroValue22
 t23:=Tryz.underlying22
 a23:=Tryz.isAgg22
 z23:=Tryz.sizeOf22
 v23:=Tryz.zeroValue22
 t25:=Tryz.underlying3
 a25:=Tryz.isAgg3
 z25:=Tryz.sizeOf3
 v25:=Tryz.zeroValue3
 t32:=Tryz.underlying172
 a32:=Tryz.isAgg172
 z32:=Tryz.sizeOf172
 v32:=Tryz.zeroValue172
 t35:=Tryz.underlying178
 a35:=Tryz.isAgg178
 z35:=Tryz.sizeOf178
 v35:=Tryz.zeroValue178
 t36:=Tryz.underlying179
 a36:=Tryz.isAgg179
 z36:=Tryz.sizeOf179
 v36:=Tryz.zeroValue179
 t41:=Tryz.underlying94
 a41:=Tryz.isAgg94
 z41:=Tryz.sizeOf94
 v41:=Tryz.zeroValue94
 t44:=Tryz.underlying128
 a44:=Tryz.isAgg128
 z44:=Tryz.sizeOf128
 v44:=Tryz.zeroValue128
 t46:=Tryz.underlying186
 a46:=Tryz.isAgg186
 z46:=Tryz.sizeOf186
 v46:=Tryz.zeroValue186
 t53:=Tryz.underlying187
 a53:=Tryz.isAgg187
 z53:=Tryz.sizeOf187
 v53:=Tryz.zeroValue187
 t57:=Tryz.underlying191
 a57:=Tryz.isAgg191
 z57:=Tryz.sizeOf191
 v57:=Tryz.zeroValue191
 t63:=Tryz.underlying193
 a63:=Tryz.isAgg193
 z63:=Tryz.sizeOf193
 v63:=Tryz.zeroValue193
 t64:=Tryz.underlying194
 a64:=Tryz.isAgg194
 z64:=Tryz.sizeOf194
 v64:=Tryz.zeroValue194
end
end Go.Proofs.YtmfpdakaeagdpaaGreat
