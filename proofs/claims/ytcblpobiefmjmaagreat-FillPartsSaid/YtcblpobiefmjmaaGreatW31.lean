/- Texts R6 to S1 of this proof, in one file. -/
import Derived.Test.YtcblpobiefmjmaaGreatW23
import Derived.Test.YtcblpobiefmjmaaGreatW30
namespace Go.Proofs.YtcblpobiefmjmaaGreat
set_option maxRecDepth 100000
set_option maxHeartbeats 16000000
section
open Go Go.RowKit
attribute [local go_sem] over_cell
attribute [local go_sem] Oper.semAt_some
theorem store3 {W:World} {b:Nat} {u0 u1 u2 x0 x1 x2:Value} {T:TypeId} (q:W.heap[b]?=some (.cells #[u0,u1,u2] T (0,0))) :
  (((W.setCell ⟨b,0,none⟩ x0).setCell ⟨b,1,none⟩ x1).setCell ⟨b,2,none⟩ x2).heap[b]?=some (.cells #[x0,x1,x2] T (0,0))∧Stays (fun k=>k=b) W (((W.setCell ⟨b,0,none⟩ x0).setCell ⟨b,1,none⟩ x1).setCell ⟨b,2,none⟩ x2) :=
 ⟨q_set (i:=2) (q_set (i:=1) (q_set (i:=0) q x0) x1) x2,
  ((Stays.setCell (S:=fun k=>k=b) W (p:=⟨b,0,none⟩) rfl x0).trans (Stays.setCell (S:=fun k=>k=b) _ (p:=⟨b,1,none⟩) rfl x1) (fun _ e => .inl e)).trans (Stays.setCell (S:=fun k=>k=b) _ (p:=⟨b,2,none⟩) rfl x2) (fun _ e => .inl e)⟩
theorem RowsI.at {W W':World} {L b:Nat} {v:Value} {pre:List (Value × List Int)} (h:RowsI W noB L v pre) (hs:Stays (fun k=>k=b) W W') (hb:b<L):RowsI W' noB L v pre :=
 ⟨owns_keep h.1 (fun k e hl=>hs.block k hl (fun e2=>by have:=(h.1.lt k e).1;omega)),h.2.1,fun x hx=>⟨owns_keep (h.2.2 x hx).1 (fun k e hl=>hs.block k hl (fun e2=>by have:=((h.2.2 x hx).1.lt k e).1;omega)),(h.2.2 x hx).2⟩⟩
theorem PathC.at {W W':World} {L0 L b:Nat} {v:Value} {ax:Option Addr} {nx cx:Nat} {P:List Int} (h:PathC W L0 L v ax nx cx P) (hs:Stays (fun k=>k=b) W W') (h0:L0≤b) (h1:b<L):PathC W' L0 L v ax nx cx P :=
 ⟨⟨h.1.1.stays hs (fun b' o hn e e2=>by have:=(h.2 b' o hn e).1;omega),h.1.2⟩,h.2⟩
end
section
open Go Go.RowKit
theorem owns_src {W:World} {B:Nat} {e:TypeId} {a:Option Addr} {n c m:Nat} {xs:List Value} (h:W.ownsRow B e 1 (.slice a n c) m xs):SrcOk W a n xs∧n=m:=by
 rcases h.2 with ⟨e2,e3⟩|⟨g,cap,cur,e2,_,_,_,_,_,_⟩
 ·simp only[Value.slice.injEq] at e2
  exact ⟨.inr ⟨e2.1,e2.2.1⟩,by omega⟩
 ·simp only[Value.slice.injEq] at e2
  obtain ⟨rfl,rfl,rfl⟩:=e2
  exact ⟨.inl ⟨_,rfl,h.cells (g:=g) rfl⟩,rfl⟩
theorem RowsI.more {W W2:World} {L:Nat} {v v':Value} {pre preM:List (Value × List Int)} (h:RowsI W noB L v pre) (hm:∀x,x∈preM→W.ownsRow L 3 1 x.1 x.2.length (x.2.map (Value.int .i64))∧∀k,x.1.ownBlock=some k→v.ownBlock≠some k)
  (hs:Stays (fun k=>v.ownBlock=some k) W W2) (hown:W2.ownsRow L 25 1 v' (pre.length+preM.length) (pre.map Prod.fst++preM.map Prod.fst)) (hnew:∀k,v'.ownBlock=some k→v.ownBlock=some k∨W.heap.size≤k):RowsI W2 noB L v' (pre++preM):=by
 have hold:∀y,y∈pre++preM→W.ownsRow L 3 1 y.1 y.2.length (y.2.map (Value.int .i64))∧∀k,y.1.ownBlock=some k→v.ownBlock≠some k:=by
  intro y hy
  rcases List.mem_append.1 hy with hy|hy
  ·exact ⟨(h.2.2 y hy).1,fun k e=>((h.2.2 y hy).2 k e).2⟩
  ·exact hm y hy
 refine ⟨by rw[List.length_append,List.map_append];exact hown,fun k _ e=>e,fun y hy=>⟨owns_keep (hold y hy).1 (fun k e hlt=>hs.block k hlt ((hold y hy).2 k e)),fun k e=>⟨fun e=>e,fun e2=>?_⟩⟩⟩
 rcases hnew k e2 with e3|e3
 ·exact (hold y hy).2 k e e3
 ·have:=((hold y hy).1.lt _ e).2
  omega
theorem rows_one {pre:List (Value × List Int)} {W:World} {L:Nat} {v:Value} {M:Nat→Prop} (h:RowsI W M L v pre):∀u∈pre.map Prod.fst,u.oneCell'=true:=by
 intro u hu
 obtain ⟨x,hx,rfl⟩:=List.mem_map.1 hu
 obtain ⟨a,c,e⟩:=owns_shape (h.2.2 x hx).1
 rw[e];rfl
end
section
open Go Go.RowKit
attribute [local go_sem] over_cell
attribute [local go_sem] Oper.semAt_some
end
section
open Go Go.RowKit
theorem wrong_eq {cells:Int} {ls:List (List Int)} {sum:Int} {g:List Int} (G:GoodTask cells ls sum g) {P:List Int} (ho:OkG g P) (hr:Rch (plC ls sum g) P):wrongR ls sum g P=wrongB (plC ls sum g) P:=by
 rw[Bool.eq_iff_iff]
 unfold wrongR wrongB Cst.tbl
 rw[List.any_eq_true,List.any_eq_true]
 constructor
 ·rintro ⟨l,hl,hb⟩
  unfold badLB at hb
  rw[Bool.and_eq_true] at hb
  have h1:=(full_last G ho hl).1 hb.1
  rcases Nat.lt_or_ge (lastO (openL g) l) P.length with h2|h2
  ·have h3:=hr _ h2
   exfalso
   unfold wrongB Cst.tbl at h3
   rw[List.any_eq_false] at h3
   refine h3 l (List.mem_filter.2 ⟨hl,?_⟩) ?_
   ·rw[List.length_take,Nat.min_eq_left (by omega)];exact beq_self_eq_true _
   ·show (sumAt l (fillG g (P.take (lastO (openL g) l))) != sum)=true
    rw[sum_prefix G ho hl (Nat.le_refl _) (by omega)]
    exact hb.2
  ·refine ⟨l,List.mem_filter.2 ⟨hl,?_⟩,hb.2⟩
   have h3:lastO (openL g) l=P.length:=by omega
   show (lastO (openL g) l==P.length)=true
   rw[h3];exact beq_self_eq_true _
 ·rintro ⟨l,hl,hb⟩
  obtain ⟨hl,he⟩:=List.mem_filter.1 hl
  have he2:lastO (openL g) l=P.length:=by
   have he3:lastO (plC ls sum g).O l=P.length:=by simpa using he
   exact he3
  refine ⟨l,hl,?_⟩
  unfold badLB
  rw[(full_last G ho hl).2 (by omega),Bool.true_and]
  exact hb
theorem step_eq {cells:Int} {ls:List (List Int)} {sum:Int} {g:List Int} (G:GoodTask cells ls sum g) {P:List Int} (ho:OkG g P) (hr:Rch (plC ls sum g) P):stpR ls sum g P=nextP (plC ls sum g) P:=by
 have hb:∀R,backP (plC [] 0 g) R=backP (plC ls sum g) R:=fun R=>by
  induction R with
  | nil=>rfl
  | cons x R ih=>unfold backP;rw[ih];rfl
 unfold stpR nextP deadR
 rw[wrong_eq G ho hr,hb]
 have hO:(plC ls sum g).O=openL g:=rfl
 rw[hO]
 by_cases h:(P.length==(openL g).length)=false∧wrongB (plC ls sum g) P=false
 ·rw[if_pos (by rw[h.1,h.2];rfl),if_pos h];rfl
 ·rw[if_neg,if_neg h]
  intro e
  rw[Bool.or_eq_false_iff] at e
  exact h e
theorem found_eq {cells:Int} {ls:List (List Int)} {sum:Int} {g:List Int} (G:GoodTask cells ls sum g) {P:List Int} (ho:OkG g P) (hr:Rch (plC ls sum g) P):foundR ls sum g P=((P.length==(plC ls sum g).O.length)&&!wrongB (plC ls sum g) P):=by
 unfold foundR
 rw[wrong_eq G ho hr]
 rfl
end
end Go.Proofs.YtcblpobiefmjmaaGreat
