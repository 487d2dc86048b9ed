/- Texts I5 to E1 of this proof, in one file. -/
import Derived.Test.YtaadpihbjhachaaGreatW01
import Derived.Test.YtaadpihbjhachaaGreatW02
import Derived.Test.YtaadpihbjhachaaGreatW04
import Derived.Test.YtaadpihbjhachaaGreatW08
import Derived.Test.YtaadpihbjhachaaGreatW09
import Derived.Maps.OwnIn
import Derived.Maps.AppendAt
import Derived.Lib.BitFns
import Derived.Lib.Strings
import Derived.Lib.Small
import Derived.Laws.Bits128
namespace Go.Proofs.YtaadpihbjhachaaGreat
set_option maxRecDepth 100000
set_option maxHeartbeats 16000000
section
open Go Go.RowKit Go.Shelf
attribute [local go_sem] over_cell
attribute [local go_sem] Oper.semAt_some
def RowsI (W:World) (M:Nat→Prop) (L:Nat) (v:Value) (pre:List (Value × List Int)):Prop :=
 W.ownsRow L 25 1 v pre.length (pre.map Prod.fst)∧(∀k,v.ownBlock=some k→¬M k) ∧
  ∀x,x∈pre→W.ownsRow L 3 1 x.1 x.2.length (x.2.map (Value.int .i64))∧∀k,x.1.ownBlock=some k→¬M k∧v.ownBlock≠some k
theorem RowsI.nil (W:World) (M:Nat→Prop) (L:Nat):RowsI W M L (.slice none 0 0) [] :=
 ⟨World.ownsRow_nil W L _ 1,fun _ e=>(by cases e),fun _ e=>(by cases e)⟩
theorem RowsI.keep {W W':World} {M M':Nat→Prop} {L L':Nat} {v:Value} {pre:List (Value × List Int)} (h:RowsI W M L v pre) (hs:StaysL L' M W W') (hn:∀k,M' k→M k∨W.heap.size≤k):RowsI W' M' L v pre :=
 ⟨hs.owns h.1 h.2.1,fun k e hm=>(hn k hm).elim (h.2.1 k e) (fun h2=>by have:=(h.1.lt k e).2;omega),
  fun x hx=>⟨hs.owns (h.2.2 x hx).1 (fun k e=>((h.2.2 x hx).2 k e).1),fun k e=>⟨fun hm=>(hn k hm).elim ((h.2.2 x hx).2 k e).1 (fun h2=>by have:=((h.2.2 x hx).1.lt k e).2;omega),((h.2.2 x hx).2 k e).2⟩⟩⟩
theorem stable_rows {L L':Nat} (v:Value):StableL L' (fun (pre:List (Value × List Int)) M W=>RowsI W M L v pre) :=
 fun _ _ _ _ _ h hs hn=>h.keep hs hn
theorem RowsI.setCell {W:World} {M:Nat→Prop} {L:Nat} {v:Value} {pre:List (Value × List Int)} (h:RowsI W M L v pre) {b i:Nat} (hb:b<L) (u:Value):RowsI (W.setCell ⟨b,i,none⟩ u) M L v pre :=
 ⟨ownsRow_setCell_other h.1 (a:=⟨b,i,none⟩) (fun e=>by have:=(h.1.lt b e).1;omega) u,h.2.1,
  fun x hx=>⟨ownsRow_setCell_other (h.2.2 x hx).1 (a:=⟨b,i,none⟩) (fun e=>by have:=((h.2.2 x hx).1.lt b e).1;omega) u,(h.2.2 x hx).2⟩⟩
theorem RowsI.append {W W2:World} {M:Nat→Prop} {L:Nat} {v v':Value} {pre:List (Value × List Int)} {x:Value × List Int} (h:RowsI W M L v pre) (hM:∀k,M k→k<W.heap.size)
  (hx:W.ownsRow L 3 1 x.1 x.2.length (x.2.map (Value.int .i64))) (hxm:∀k,x.1.ownBlock=some k→¬M k∧v.ownBlock≠some k)
  (hs:Stays (fun k=>v.ownBlock=some k) W W2) (hown:W2.ownsRow L 25 1 v' (pre.length+1) (pre.map Prod.fst++[x.1])) (hnew:∀k,v'.ownBlock=some k→v.ownBlock=some k∨W.heap.size≤k):RowsI W2 M L v' (pre++[x]):=by
 have hold:∀y,y∈pre++[x]→W.ownsRow L 3 1 y.1 y.2.length (y.2.map (Value.int .i64))∧∀k,y.1.ownBlock=some k→¬M k∧v.ownBlock≠some k:=by
  intro y hy
  rcases List.mem_append.1 hy with hy|hy
  ·exact h.2.2 y hy
  ·rw[List.mem_singleton.1 hy];exact ⟨hx,hxm⟩
 refine ⟨by rw[List.length_append,List.map_append];exact hown,fun k e hm=>?_,fun y hy=>⟨owns_keep (hold y hy).1 (fun k e hlt=>hs.block k hlt ((hold y hy).2 k e).2),fun k e=>⟨((hold y hy).2 k e).1,fun e2=>?_⟩⟩⟩
 ·rcases hnew k e with e2|e2
  ·exact h.2.1 k e2 hm
  ·have:=hM _ hm;omega
 ·rcases hnew k e2 with e3|e3
  ·exact ((hold y hy).2 k e).2 e3
  ·have:=((hold y hy).1.lt _ e).2
   omega
theorem Stays.q {S:Nat→Prop} {W W':World} {b:Nat} {o:Obj} (hs:Stays S W W') (hq:W.heap[b]?=some o) (hb:¬S b):W'.heap[b]?=some o:=(hs.block b (q_lt hq) hb).trans hq
theorem grow_stays {W W2:World} {o:Obj} {row:Option Nat} (hg:(W.alloc o).grownBy W2 row):Stays (fun k=>row=some k) W W2 :=
 (Below.stays ((Below.refl _ W).alloc (Nat.le_refl _) _) _).trans (Stays.grown (S:=fun k=>row=some k) hg (fun _ e=>e)) (fun _ e => .inl e)
theorem RowsI.rc {W:World} {M:Nat→Prop} {L:Nat} {v:Value} {pre:List (Value × List Int)} (h:RowsI W M L v pre) (hn:pre.length≤17592186044416) (hm:∀x,x∈pre→x.2.length≤17592186044416) :
  ∃a c,v = .slice a pre.length c∧RC W a pre.length (pre.map Prod.snd)∧pre.length≤c:=by
 obtain ⟨a,c,rfl⟩:=owns_shape h.1
 refine ⟨a,c,rfl,⟨⟨by rw[List.length_map],hn⟩,fun k hk=>?_⟩,?_⟩
 ·obtain ⟨g,cap,x,hv,hx,hc,_,hg,_⟩:=owns_free (owns_base h.1 (Nat.zero_le _)) k hk
  simp only[Value.slice.injEq] at hv
  obtain ⟨rfl,_,_⟩:=hv
  have hx2:x=(pre[k]'hk).1:=by
   rw[List.getElem?_map,List.getElem?_eq_getElem hk] at hx
   simpa using hx.symm
  have hrow:=(h.2.2 _ (List.getElem_mem hk)).1
  obtain ⟨a9,c9,he9⟩:=owns_shape hrow
  rw[he9] at hrow
  have hic:=IC.of_owns hrow (hm _ (List.getElem_mem hk))
  refine ⟨g,0,a9,_,c9,rfl,hg,by rw[Nat.zero_add,hc,hx2,he9],?_,hic.2⟩
  rw[List.getElem?_map,List.getElem?_eq_getElem hk]
  exact hic.1
 ·rcases h.1.2 with ⟨e,e2⟩|⟨_,_,_,e,_,_,e3,_⟩
  ·simp only[Value.slice.injEq] at e;omega
  ·simp only[Value.slice.injEq] at e;omega
theorem owns_cells {W:World} {base:Nat} {e:TypeId} {size:Nat} {v:Value} {n:Nat} {xs:List Value} (h:W.ownsRow base e size v n xs) {j:Nat} {o:Obj} (hj:v.ownBlock=some j) (ho:W.heap[j]?=some o):o.isCells=true:=by
 rcases h.2 with ⟨e2,_⟩|⟨g,cap,cur,e2,_,hg,_⟩
 ·rw[e2] at hj;cases hj
 ·rw[e2] at hj;cases hj
  rw[hg] at ho;cases ho;rfl
theorem visit_len {C:Cst}:∀(k:Nat) (P f:List Int),f∈visit C k P→f.length=C.g.length
 | 0,_,_,h=>by simp[visit] at h
 | k+1,P,f,h=>by
  simp only[visit] at h
  cases hn:nextP C P with
  | none=>rw[hn] at h;simp at h
  | some P' =>
   rw[hn] at h
   simp only at h
   rcases List.mem_append.1 h with h|h
   ·split at h
    ·rw[List.mem_singleton.1 h];exact fillP_len _ _
    ·cases h
   ·exact visit_len k P' f h
theorem sols_len {ls:List (List Int)} {sum:Int} {g P f:List Int} (h:f∈solsL ls sum g P):f.length=g.length:=by
 unfold solsL sols at h
 split at h
 ·split at h
  ·cases h
  ·rw[List.mem_singleton.1 h];exact fillP_len _ _
 ·exact visit_len _ _ _ h
def FewI (B:Nat) (w:World) (L b3 b5:Nat) (most:Int) (pre:List (Value × List Int)) (M:Nat→Prop) (W:World):Prop :=
 OldI B w W M∧BoxI W M b3 #[.int .i64 most] 3∧(∃v,BoxI W M b5 #[v] 22∧RowsI W M L v pre)∧L≤W.heap.size∧(pre.length:Int)<most
theorem fewI_stable {B:Nat} {w:World} {L b3 b5:Nat} {most:Int} {L':Nat} (h1:B≤L') (h2:B≤w.heap.size):StableL L' (FewI B w L b3 b5 most) :=
 stable_and (stable_old h1 h2) (stable_and (stable_box _ _ _) (stable_and (stable_ex fun v=>stable_and (stable_box _ _ _) (stable_rows v)) (stable_and stable_size (stable_pure _))))
def FewX (B:Nat) (w:World) (L b5:Nat) (most:Int) (c:Code) (pre:List (Value × List Int)) (M:Nat→Prop) (W:World):Prop :=
 c = .exit 0∧OldI B w W M∧(∃v,BoxI W M b5 #[v] 22∧RowsI W M L v pre)∧L≤W.heap.size∧(pre.length:Int)=most
theorem fewX_stable {B:Nat} {w:World} {L b5:Nat} {most:Int} {L':Nat} (h1:B≤L') (h2:B≤w.heap.size) (c:Code):StableL L' (FewX B w L b5 most c) :=
 stable_and (stable_pure _) (stable_and (stable_old h1 h2) (stable_and (stable_ex fun v=>stable_and (stable_box _ _ _) (stable_rows v)) (stable_and stable_size (stable_pure _))))
theorem RowsI.base {W:World} {M:Nat→Prop} {L L':Nat} {v:Value} {pre:List (Value × List Int)} (h:RowsI W M L v pre) (hl:L'≤L):RowsI W M L' v pre :=
 ⟨owns_base h.1 hl,h.2.1,fun x hx=>⟨owns_base (h.2.2 x hx).1 hl,(h.2.2 x hx).2⟩⟩
theorem few_r (b bx:Nat) (Im:Nat→Prop) (C:Cst) (vf vp:Value) (P:List Int) (w:World) (h:SR w b Im C vf vp P) (he:Even C) (hx:w.cell? ⟨bx,0,none⟩=some (.pointer (some ⟨b,0,none⟩))) (hbx:bx<w.heap.size) (hnb:¬Mut b vf vp bx)
  (B:Nat) (hB:B≤w.heap.size) (hMB:∀k,Mut b vf vp k→B≤k) (most:Int) (hm1:1≤most) (hm2:most≤1000000) :
  Calls Tryz.prog 67 #[solV bx,.int .i64 most] w fun e w'=>∃v pre,e = .returned v∧RowsI w' (fun _=>False) w.heap.size v pre∧pre.map Prod.snd=(solsL C.ls C.sum C.g P).take most.toNat∧(pre.length:Int)≤most∧Below B w w':=by
 refine calls_of_marks Tryz.func67 rfl ?_
 simp only[Tryz.ntmps67,List.size_toArray,List.length_cons,List.length_nil,Nat.reduceAdd,Nat.reduceSub,Array.replicate_succ,Array.replicate_zero,List.push_toArray,List.append_toArray,List.nil_append,List.cons_append]
 have H:=Lib.hid h
 have HX:=Lib.hid hx
 have HE:=Lib.hid he
 clear h hx he
 go_wp2_with fail
 have fsz:((w.alloc (.cells #[.int .i64 most] 3)).alloc (.cells #[.slice none 0 0] 22)).heap.size=w.heap.size+2:=by simp only[World.size_alloc] <;> omega
 have fB:Below w.heap.size w ((w.alloc (.cells #[.int .i64 most] 3)).alloc (.cells #[.slice none 0 0] 22)):=((Below.refl _ _).alloc (Nat.le_refl _) _).alloc (by simp only[World.size_alloc];omega) _
 have fq0:((w.alloc (.cells #[.int .i64 most] 3)).alloc (.cells #[.slice none 0 0] 22)).heap[w.heap.size]?=some (.cells #[.int .i64 most] 3 (0,0)):=by have h:=World.alloc_heap_new w (.cells #[.int .i64 most] 3);exact (Below.heap_alloc _ _ _ (by simp only[World.size_alloc];omega)).trans (h)
 have fq1:((w.alloc (.cells #[.int .i64 most] 3)).alloc (.cells #[.slice none 0 0] 22)).heap[w.heap.size+1]?=some (.cells #[.slice none 0 0] 22 (0,0)):=by have h:=World.alloc_heap_new (w.alloc (.cells #[.int .i64 most] 3)) (.cells #[.slice none 0 0] 22);simp only[World.size_alloc] at h;exact h
 generalize ((w.alloc (.cells #[.int .i64 most] 3)).alloc (.cells #[.slice none 0 0] 22))=W0 at fsz fB fq0 fq1 ⊢
 have HSZ:=Lib.hid fsz
 have hsz:w.heap.size+1<W0.heap.size:=by omega
 clear fsz
 have hge:∀k,Mut b vf vp k→k<w.heap.size:=fun k hk=>H.out.mutLt hk
 obtain ⟨i0,hi,hz0,hz1,hz2⟩:=info_parts infoRow
 refine wp_range_sol (H.out.below fB) HE.out (((bcell fB).1 _ _ hbx).trans HX.out) (by omega) hnb rfl
  (FewI B w W0.heap.size w.heap.size (w.heap.size+1) most) (FewX B w W0.heap.size (w.heap.size+1) most) ?hI ?hIx ?h0 ?act ?assign ?body ?done ?stop
 case hI=>exact fewI_stable (by omega) hB
 case hIx=>exact fewX_stable (by omega) hB
 case h0=>exact ⟨⟨fB.mono hB,hMB⟩,⟨fq0,fun e=>by have:=hge _ e;omega⟩,⟨_,⟨fq1,fun e=>by have:=hge _ e;omega⟩,RowsI.nil _ _ _⟩,Nat.le_refl _,by simp;omega⟩
 case assign =>
  intro l x W K hK
  gi_wp2
  exact hK
 case body =>
  rintro l pre ⟨xv,xl⟩ M W4 W hI0 hst hnew hgiv
  obtain ⟨⟨hBB4,hM⟩,⟨q34,m3⟩,⟨v,⟨q54,m5⟩,hrow4⟩,hsz4,hle⟩:=hI0
  have q3:=hst.at q34 (fun e=>e)
  have q5:=hst.at q54 (fun e=>e)
  have hrow:=hrow4.keep (hst.mono (M':=M) (fun _ e=>e.elim)) (fun _ e => .inl e)
  have hsz2:=Nat.le_trans hsz4 hst.size
  have hBB:Below B w W:=hst.below hBB4 (by omega) hB (fun _ e=>e.elim)
  have hv4:∀k,v.ownBlock=some k→k<W4.heap.size:=fun k e=>(hrow4.1.lt k e).2
  clear hrow4 q34 q54
  obtain ⟨ax,cx,hxv⟩:=owns_shape hgiv.1
  dsimp only at hxv
  subst hxv
  obtain ⟨av,cv,rfl⟩:=owns_shape hrow.1
  have c3:=q_cell q3 0
  have c5:=q_cell q5 0
  have f5:=q_free q5 0
  have hv3:¬(Value.slice av pre.length cv).ownBlock=some w.heap.size:=fun e=>by have:=(hrow.1.lt _ e).1;omega
  have hv5:¬(Value.slice av pre.length cv).ownBlock=some (w.heap.size+1):=fun e=>by have:=(hrow.1.lt _ e).1;omega
  have hxn:∀k,(Value.slice ax xl.length cx).ownBlock=some k→¬M k∧(Value.slice av pre.length cv).ownBlock≠some k:=fun k e=>⟨fun e2=>hgiv.2.1 k e (.inr (.inl e2)),fun e2=>by have h1:=hv4 k e2;have h2:=hnew k e;omega⟩
  have hfin:∀w1 v',(W.alloc (.cells #[.slice ax xl.length cx] 25)).grownBy w1 (Value.slice av pre.length cv).ownBlock→w1.ownsRow W0.heap.size 25 1 v' (pre.length+1) (pre.map Prod.fst++[.slice ax xl.length cx])→(v'.ownBlock=(Value.slice av pre.length cv).ownBlock∨v'.ownBlock=some (W.alloc (.cells #[.slice ax xl.length cx] 25)).heap.size) →
    KeepsOthers W (w1.setCell ⟨w.heap.size+1,0,none⟩ v')∧KpS Im bx M W (w1.setCell ⟨w.heap.size+1,0,none⟩ v')∧OldI B w (w1.setCell ⟨w.heap.size+1,0,none⟩ v') M∧BoxI (w1.setCell ⟨w.heap.size+1,0,none⟩ v') M w.heap.size #[.int .i64 most] 3∧BoxI (w1.setCell ⟨w.heap.size+1,0,none⟩ v') M (w.heap.size+1) #[v'] 22∧RowsI (w1.setCell ⟨w.heap.size+1,0,none⟩ v') M W0.heap.size v' (pre++[(.slice ax xl.length cx,xl)])∧W0.heap.size≤(w1.setCell ⟨w.heap.size+1,0,none⟩ v').heap.size:=by
   intro w1 v' hgrow hown' hnew'
   have hs2:=grow_stays hgrow
   have q3':=hs2.q q3 hv3
   have q5':=hs2.q q5 hv5
   have hr:=hrow.append hgiv.2.2 hgiv.1 hxn hs2 hown' (fun k e=>hnew'.imp (fun e2=>by rw[← e2];exact e) (fun e2=>by rw[e2] at e;cases e;simp))
   have hset:∀k,k<w1.heap.size→k≠w.heap.size+1→(w1.setCell ⟨w.heap.size+1,0,none⟩ v').heap[k]?=w1.heap[k]?:=fun k _ hk=>Below.heap_setCell _ _ _ _ hk
   have hvB:∀k,(Value.slice av pre.length cv).ownBlock=some k→W0.heap.size≤k:=fun k e=>(hrow.1.lt k e).1
   refine ⟨?_,?_,⟨?_,hM⟩,⟨q_other q3' (by omega) _,m3⟩,⟨q_set q5' _,m5⟩,hr.setCell (by omega) _,?_⟩
   ·refine ((KeepsOthers.alloc W _).trans (KeepsOthers.of_grownBy hgrow ?_)).trans (KeepsOthers.setCell _ _ _)
    intro j o e ho
    exact owns_cells (hrow.1.alloc _) e ho
   ·refine ⟨?_,fun k hk hb=>(hset k (Nat.lt_of_lt_of_le hk hs2.size) ?_).trans (hs2.block k hk ?_)⟩
    ·have:=hs2.size
     have h2:(w1.setCell ⟨w.heap.size+1,0,none⟩ v').heap.size=w1.heap.size:=by simp[World.setCell]
     omega
    ·rintro rfl
     rcases hb with hb|hb|hb
     ·have:=H.out.imLt _ hb;omega
     ·exact m5 hb
     ·omega
    ·intro e
     have:=hvB k e
     rcases hb with hb|hb|hb
     ·have:=H.out.imLt _ hb;omega
     ·exact hrow.2.1 k e hb
     ·omega
   ·refine Below.setCell (p:=⟨w.heap.size+1,0,none⟩) ?_ (by show B≤w.heap.size+1;omega) _
    exact hBB.trans (hs2.below (by have:=hBB.size;omega) (fun k e=>by have:=hvB k e;omega))
   ·have:=hs2.size
    have h2:(w1.setCell ⟨w.heap.size+1,0,none⟩ v').heap.size=w1.heap.size:=by simp[World.setCell]
    omega
  by_cases hb:(pre.length:Int)+1=most
  ·have hb1:(((pre.length:Int)+1)==most)=true:=by simpa using hb
   have HB:=Lib.hid hb
   have HFIN:=Lib.hid hfin
   clear hb hfin
   gi_wp2_with (gi_at_builtin;refine wpListIn_append_own_at _ rfl _ _ 22 rfl W0.heap.size 25 i0 (.slice none 0 0) 1 24 Tryz.underlying22 hi hz0 hz1 hz2 rfl (by decide) _ _ _ rfl (hrow.1.alloc _) ⟨W.heap.size,0,none⟩ 1 1 [.slice ax xl.length cx] rfl rfl (cell_one_new _ _ _) (by simp[Value.oneCell']) (by unfold maxLen;omega) (by omega) (by simp;omega) ?_;intro v' w1 hown' hgrow _ hnew';obtain ⟨av',cv',rfl⟩:=owns_shape hown';have hs2:=grow_stays hgrow;have q3':=hs2.q q3 hv3;have q5':=hs2.q q5 hv5;have c3':=q_cell q3' 0;have c5':=q_cell q5' 0;have f5':=q_free q5' 0)
   obtain ⟨a1,a2,a3,a4,a5,a6,a7⟩:=HFIN.out _ _ hgrow hown' hnew'
   exact ⟨a1,a2,rfl,a3,⟨_,a5,a6⟩,a7,by have:=HB.out;simp;omega⟩
  ·have hb1:(((pre.length:Int)+1)==most)=false:=by simpa using hb
   have HB:=Lib.hid hb
   have HFIN:=Lib.hid hfin
   clear hb hfin
   gi_wp2_with (gi_at_builtin;refine wpListIn_append_own_at _ rfl _ _ 22 rfl W0.heap.size 25 i0 (.slice none 0 0) 1 24 Tryz.underlying22 hi hz0 hz1 hz2 rfl (by decide) _ _ _ rfl (hrow.1.alloc _) ⟨W.heap.size,0,none⟩ 1 1 [.slice ax xl.length cx] rfl rfl (cell_one_new _ _ _) (by simp[Value.oneCell']) (by unfold maxLen;omega) (by omega) (by simp;omega) ?_;intro v' w1 hown' hgrow _ hnew';obtain ⟨av',cv',rfl⟩:=owns_shape hown';have hs2:=grow_stays hgrow;have q3':=hs2.q q3 hv3;have q5':=hs2.q q5 hv5;have c3':=q_cell q3' 0;have c5':=q_cell q5' 0;have f5':=q_free q5' 0)
   obtain ⟨a1,a2,a3,a4,a5,a6,a7⟩:=HFIN.out _ _ hgrow hown' hnew'
   exact ⟨a1,a2,a3,a4,⟨_,a5,a6⟩,a7,by have:=HB.out;simp;omega⟩
 case done =>
  rintro D xs M W hD hS ⟨⟨hBB,hM⟩,⟨q3,m3⟩,⟨v,⟨q5,m5⟩,hrow⟩,hsz2,hle⟩ hK
  have hrow2:=(hrow.keep (StaysL.putObj (L:=0) M (.deferred none) (Nat.zero_le _) hK rfl) (M':=fun _=>False) (fun _ e=>e.elim)).base (L':=w.heap.size) (by omega)
  have c5:=q_cell q5 0
  have HS:=Lib.hid hS
  have HR:=Lib.hid hrow2
  clear hS hrow hrow2
  go_wp2
  refine marks_one (v:=v) hK rfl (by simp[results,Tryz.f67,go_sem]) ⟨v,xs,rfl,HR.out,?_,by omega,putD_below hBB (by omega)⟩
  rw[← HS.out,List.take_of_length_le (by simp;omega)]
 case stop =>
  rintro D c pre M W hD hS _ ⟨rfl,⟨hBB,hM⟩,⟨v,⟨q5,m5⟩,hrow⟩,hsz2,hle⟩ hK
  have hrow2:=(hrow.keep (StaysL.putObj (L:=0) M (.deferred none) (Nat.zero_le _) hK rfl) (M':=fun _=>False) (fun _ e=>e.elim)).base (L':=w.heap.size) (by omega)
  have c5:=q_cell q5 0
  have HS:=Lib.hid hS
  have HR:=Lib.hid hrow2
  have HL:=Lib.hid hle
  clear hS hle hrow hrow2
  go_wp2
  refine marks_one (v:=v) hK rfl (by simp[results,Tryz.f67,go_sem]) ⟨v,pre,rfl,HR.out,?_,by have:=HL.out;omega,putD_below hBB (by omega)⟩
  have h1:=List.prefix_iff_eq_take.1 HS.out
  rw[List.length_map,show pre.length=most.toNat from by have:=HL.out;omega] at h1
  exact h1
theorem few_c (b bx:Nat) (Im:Nat→Prop) (C:Cst) (vf vp:Value) (P:List Int) (w:World) (h:SR w b Im C vf vp P) (he:Even C) (hx:w.cell? ⟨bx,0,none⟩=some (.pointer (some ⟨b,0,none⟩))) (hbx:bx<w.heap.size) (hnb:¬Mut b vf vp bx)
  (B:Nat) (hB:B≤w.heap.size) (hMB:∀k,Mut b vf vp k→B≤k) (most:Int) (hm1:1≤most) (hm2:most≤1000000) :
  Calls Tryz.prog 67 #[solV bx,.int .i64 most] w fun e w'=>∃a n c,e = .returned (.slice a n c)∧RC w' a n ((solsL C.ls C.sum C.g P).take most.toNat)∧n≤c∧Below B w w' :=
 (few_r b bx Im C vf vp P w h he hx hbx hnb B hB hMB most hm1 hm2).mono fun _ w' ⟨v,pre,e,hr,hm,hl,hb⟩=>by
  obtain ⟨a,c,rfl,hrc,hcap⟩:=hr.rc (by omega) (fun x hx=>by
   have h1:x.2∈(solsL C.ls C.sum C.g P).take most.toNat:=by rw[← hm];exact List.mem_map.2 ⟨x,hx,rfl⟩
   have h2:=sols_len (List.mem_of_mem_take h1)
   have h3:=h.fine.len
   have h4:=h.fine.most
   omega)
  rw[hm] at hrc
  exact ⟨a,pre.length,c,e,hrc,hcap,hb⟩
end
section
open Go Go.RowKit Go.Shelf
attribute [local go_sem] over_cell
end
section
open Go Go.RowKit
attribute [local go_sem] over_cell
def cntTo (l g:List Int) (k:Nat):Nat:=((l.take k).filter (fun c=>g[c.toNat]?.getD 0==0)).length
def loU (U:List Int) (m:Nat):Int:=((List.range m).map fun i=>U[i]?.getD 0).sum
def hiU (U:List Int) (m:Nat):Int:=((List.range m).map fun i=>U[U.length - 1 - i]?.getD 0).sum
def lowV (l g U:List Int):Int:=sumAt l g+loU U (cntTo l g l.length)
def highV (l g U:List Int):Int:=sumAt l g+hiU U (cntTo l g l.length)
theorem cntTo_zero (l g:List Int):cntTo l g 0=0:=rfl
theorem cntTo_succ {l g:List Int} {k:Nat} (h:k<l.length):cntTo l g (k+1)=cntTo l g k+(if (g[(l[k]?.getD 0).toNat]?.getD 0==0)=true then 1 else 0):=by
 unfold cntTo
 rw[take_snoc l 0 k h,List.filter_append,List.length_append]
 congr 1
 by_cases e:(g[(l[k]?.getD 0).toNat]?.getD 0==0)=true
 ·rw[if_pos e];simp[e]
 ·rw[if_neg e];simp[e]
theorem cntTo_le (l g:List Int) (k:Nat):cntTo l g k≤k:=by
 have:=List.length_filter_le (fun c:Int=>g[c.toNat]?.getD 0==0) (l.take k)
 rw[List.length_take] at this
 unfold cntTo
 omega
theorem cntTo_mono (l g:List Int) (k:Nat):cntTo l g (k+1)≤cntTo l g l.length:=by
 unfold cntTo
 have e:l.take l.length=l.take (k+1)++l.drop (k+1):=by rw[List.take_append_drop,List.take_length]
 rw[e,List.filter_append,List.length_append]
 exact Nat.le_add_right _ _
theorem loU_succ (U:List Int) (m:Nat):loU U (m+1)=loU U m+U[m]?.getD 0:=by
 unfold loU;rw[List.range_succ,List.map_append,List.sum_append];simp
theorem hiU_succ (U:List Int) (m:Nat):hiU U (m+1)=hiU U m+U[U.length - 1 - m]?.getD 0:=by
 unfold hiU;rw[List.range_succ,List.map_append,List.sum_append];simp
theorem loU_bd {U:List Int} (h:∀k:Nat,0≤U[k]?.getD 0∧U[k]?.getD 0≤256) (m:Nat):0≤loU U m∧loU U m≤m*256:=by
 induction m with
 | zero=>simp[loU]
 | succ m ih=>rw[loU_succ];have:=h m;omega
theorem hiU_bd {U:List Int} (h:∀k:Nat,0≤U[k]?.getD 0∧U[k]?.getD 0≤256) (m:Nat):0≤hiU U m∧hiU U m≤m*256:=by
 induction m with
 | zero=>simp[hiU]
 | succ m ih=>rw[hiU_succ];have:=h (U.length - 1 - m);omega
theorem bounds_c (a:Option Addr) (n c:Nat) (ls:List (List Int)) (cells sum:Int) (a':Option Addr) (n' c':Nat) (g:List Int) (line:Nat) (au:Option Addr) (nu cu:Nat) (U:List Int) (w:World) (h:RC w a n ls) (h':IC w a' n' g) (hu:IC w au nu U)
  (hline:line<n) (hl1:(ls[line]?.getD []).length≤256) (hl2:∀x,x∈ls[line]?.getD []→0≤x∧x<(n':Int)) (hg:∀k:Nat,0≤g[k]?.getD 0∧g[k]?.getD 0≤256) (hU:∀k:Nat,0≤U[k]?.getD 0∧U[k]?.getD 0≤256)
  (hcnt:cntTo (ls[line]?.getD []) g (ls[line]?.getD []).length≤nu) :
  Calls Tryz.prog 126 #[.agg #[.int .i64 cells,.slice a n c,.int .i64 sum,.slice a' n' c'],.int .i64 line,.slice au nu cu] w fun e w'=>e = .returned (.tuple #[.int .i64 (lowV (ls[line]?.getD []) g U),.int .i64 (highV (ls[line]?.getD []) g U)])∧Below w.heap.size w w':=by
 obtain ⟨bl,ol,a1,n1,c1,rfl,hbl,hcl,hil,hnc⟩:=h.2 line hline
 have hB0:Below w.heap.size w (w.alloc (.cells #[.int .i64 cells,.slice (some ⟨bl,ol,none⟩) n c,.int .i64 sum,.slice a' n' c'] 27)):=(Below.refl _ _).alloc (Nat.le_refl _) _
 have hcl0:=((bcell hB0).1 _ (ol+line) hbl).trans hcl
 generalize ls[line]?.getD []=l at *
 have hns:=h.small
 have hn1:=hil.len
 have hnu:=hu.len
 have hus:=hu.small
 have hn's:=h'.small
 have hsum:=Lib.hid (fun W (hb:Below w.heap.size w W)=>sum_c a1 a' n1 n' c1 c' l g W (hil.mono hb) (h'.mono hb) (by omega) (fun k hk=>by
  rw[List.getElem?_eq_getElem (by omega)]
  exact hl2 _ (List.getElem_mem (by omega))) (fun k=>by have:=hg k;omega))
 have hIL:=Lib.hid hil
 have HL2:=Lib.hid hl2
 have HG:=Lib.hid hg
 have HU:=Lib.hid hU
 have HUL:=Lib.hid hnu
 have HCN:=Lib.hid hcnt
 have hs0:=Lib.hid (sumTo_bd (l:=l) (f:=g) (B:=256) hg l.length (Nat.le_refl _))
 have hlowE:Hid (lowV l g U=sumAt l g+loU U (cntTo l g l.length)):=rfl
 have hhighE:Hid (highV l g U=sumAt l g+hiU U (cntTo l g l.length)):=rfl
 have hli:(line:Int)<(n:Int):=by omega
 have hl0:(0:Int)≤(line:Int):=by omega
 clear hg hU hl2 h hB0 hil hnu hcnt
 have hsA:0≤sumAt l g∧sumAt l g≤65536:=by
  have:=hs0.out
  unfold sumTo at this
  rw[List.take_length] at this
  have h2:(l.length:Int)*256≤256*256:=by omega
  omega
 go_enter Tryz.func126,Tryz.ntmps126
 go_wp2
 have hsz:w.heap.size<(w.alloc (.cells #[.int .i64 cells,.slice (some ⟨bl,ol,none⟩) n c,.int .i64 sum,.slice a' n' c'] 27)).heap.size:=by simp
 have hB:Below w.heap.size w (w.alloc (.cells #[.int .i64 cells,.slice (some ⟨bl,ol,none⟩) n c,.int .i64 sum,.slice a' n' c'] 27)):=(Below.refl _ _).alloc (Nat.le_refl _) _
 have x0:(w.alloc (.cells #[.int .i64 cells,.slice (some ⟨bl,ol,none⟩) n c,.int .i64 sum,.slice a' n' c'] 27)).cell? ⟨w.heap.size,0,none⟩=some (.int .i64 cells):=(box_cells w #[.int .i64 cells,.slice (some ⟨bl,ol,none⟩) n c,.int .i64 sum,.slice a' n' c'] 27 0).trans rfl
 have x1:(w.alloc (.cells #[.int .i64 cells,.slice (some ⟨bl,ol,none⟩) n c,.int .i64 sum,.slice a' n' c'] 27)).cell? ⟨w.heap.size,1,none⟩=some (.slice (some ⟨bl,ol,none⟩) n c):=(box_cells w #[.int .i64 cells,.slice (some ⟨bl,ol,none⟩) n c,.int .i64 sum,.slice a' n' c'] 27 1).trans rfl
 have x2:(w.alloc (.cells #[.int .i64 cells,.slice (some ⟨bl,ol,none⟩) n c,.int .i64 sum,.slice a' n' c'] 27)).cell? ⟨w.heap.size,2,none⟩=some (.int .i64 sum):=(box_cells w #[.int .i64 cells,.slice (some ⟨bl,ol,none⟩) n c,.int .i64 sum,.slice a' n' c'] 27 2).trans rfl
 have x3:(w.alloc (.cells #[.int .i64 cells,.slice (some ⟨bl,ol,none⟩) n c,.int .i64 sum,.slice a' n' c'] 27)).cell? ⟨w.heap.size,3,none⟩=some (.slice a' n' c'):=(box_cells w #[.int .i64 cells,.slice (some ⟨bl,ol,none⟩) n c,.int .i64 sum,.slice a' n' c'] 27 3).trans rfl
 generalize (w.alloc (.cells #[.int .i64 cells,.slice (some ⟨bl,ol,none⟩) n c,.int .i64 sum,.slice a' n' c'] 27))=W0 at hsz hB x0 x1 x2 x3 ⊢
 have hcl:W0.cell? ⟨bl,ol+line,none⟩=some (.slice a1 n1 c1):=((bcell hB).1 _ _ hbl).trans ‹w.cell? ⟨bl,ol+line,none⟩=some (.slice a1 n1 c1)›
 have hblW:bl<W0.heap.size:=Nat.lt_of_lt_of_le hbl hB.size
 refine wp_region_S (fun w'=>∃u,w'=over (W0) u) [9,8] [(0,0),(0,1),(0,2),(0,3),(0,4),(0,5),(0,6),(0,7),(2,8),(2,9)] (by kernel_rfl) (by kernel_rfl) (by exact ⟨_,below_over (by repeat (first|assumption|exact Below.refl _ _|refine keep_drew ?_|refine keep_alloc ?_ _|refine keep_trans ?_ (by assumption)))⟩) ?_
 dsimp only[pickOps,nthOp]
 repeat (first|(refine wpS_skip rfl (fun K hK=>?_);go_big_quiet_op;refine hK _ ?_;clear hK K)|(refine wpS_quiet rfl rfl (fun K hK=>?_);go_big_quiet_op;refine hK _ ?_;clear hK K))
 refine wpS_late _ _ _ rfl ?_
 dsimp only[List.map]
 go_wp2_with (go_at_call 145;refine (hsum.out _ (keep_drew hB)).mono ?_;rintro _ w1 ⟨rfl,rfl⟩)
 refine NoPanic.normal ?_
 have H'0:=Lib.hid (h'.mono hB)
 have HU0:=Lib.hid (hu.mono hB)
 have HIL0:=Lib.hid (hIL.out.mono hB)
 have Y0:=Lib.hid x0
 have Y3:=Lib.hid x3
 clear h' hu hcl0
 go_wp2_with fail
 go_loopw [8,9,10,12,30] (fun lo hi nn _ i wr=>∃k:Nat,k≤n1∧i = .int .i64 k∧lo = .int .i64 (sumAt l g+loU U (cntTo l g k))∧hi = .int .i64 (sumAt l g+hiU U (cntTo l g k))∧nn = .int .i64 (cntTo l g k)∧Below W0.heap.size W0 wr) (fun _ _ _ _ i _=>n1 - (intOf i).toNat)
 case atStart=>exact ⟨0,by omega,rfl,by simp[cntTo_zero,loU],by simp[cntTo_zero,hiU],rfl,(Below.refl _ _).drew⟩
 case round =>
  obtain ⟨k,hk,rfl,rfl,rfl,rfl,hbr⟩:=hrel
  have z3:=((bcell hbr).1 _ _ hsz).trans Y3.out
  have hszr:w.heap.size<wr.heap.size:=Nat.lt_of_lt_of_le hsz hbr.size
  have b1:=loU_bd HU.out (cntTo l g k)
  have b2:=hiU_bd HU.out (cntTo l g k)
  have b3:=cntTo_le l g k
  by_cases hlt:k<n1
  ·obtain ⟨bl1,ol1,rfl,hbl1,hcl1⟩:=(HIL0.out.mono hbr).2 k hlt
   have hkl:k<l.length:=by rw[hn1];exact hlt
   have hr:=HL2.out _ (List.getElem_mem hkl)
   obtain ⟨x,hxx⟩:∃x:Nat,l[k]?.getD 0=(x:Int):=⟨(l[k]'hkl).toNat,by rw[List.getElem?_eq_getElem hkl,Option.getD_some];omega⟩
   have hxn:x<n':=by rw[List.getElem?_eq_getElem hkl,Option.getD_some] at hxx;omega
   obtain ⟨bg,og,rfl,hbg,hcg⟩:=(H'0.out.mono hbr).2 x hxn
   have hS:=cntTo_succ (g:=g) hkl
   have hM:=cntTo_mono l g k
   have hN:=HCN.out
   rw[hxx] at hcl1 hS
   rw[Int.toNat_natCast] at hS
   have hxn1:(x:Int)<(n':Int):=by omega
   generalize g[x]?.getD 0=y at hcg hS
   clear hr hxx
   by_cases hy:(y==0)=true
   ·rw[if_pos hy] at hS
    rw[hS] at hM
    have hmu:cntTo l g k<nu:=by omega
    obtain ⟨bu,ou,rfl,hbu,hcu⟩:=(HU0.out.mono hbr).2 _ hmu
    obtain ⟨bu2,ou2,e2,hbu2,hcu2⟩:=(HU0.out.mono hbr).2 (nu - 1 - cntTo l g k) (by omega)
    simp only[Option.some.injEq,Addr.mk.injEq,and_true] at e2
    obtain ⟨rfl,rfl⟩:=e2
    have hSL:=Lib.hid (loU_succ U (cntTo l g k))
    have hSH:=Lib.hid (hiU_succ U (cntTo l g k))
    rw[HUL.out] at hSH
    have hu1:=HU.out (cntTo l g k)
    have hu2:=HU.out (nu - 1 - cntTo l g k)
    generalize U[cntTo l g k]?.getD 0=u1 at hcu hSL hu1
    generalize U[nu - 1 - cntTo l g k]?.getD 0=u2 at hcu2 hSH hu2
    have HS:=Lib.hid hS
    clear hS hM hN
    generalize cntTo l g k=m at *
    have hmi:(m:Int)<(nu:Int):=by omega
    generalize loU U m=lo at *
    generalize hiU U m=hi at *
    go_wp2
    refine wp_region_S (fun w'=>∃u,w'=over (wr) u) [17] [(0,0),(0,1),(0,2),(0,3),(0,4),(0,5),(0,6),(0,7),(0,8),(0,9),(0,10),(0,11),(0,12),(0,13),(0,14),(0,15),(1,16),(2,17)] (by kernel_rfl) (by kernel_rfl) (by exact ⟨_,below_over (by repeat (first|assumption|exact Below.refl _ _|refine keep_drew ?_|refine keep_alloc ?_ _|refine keep_trans ?_ (by assumption)))⟩) ?_
    dsimp only[pickOps,nthOp]
    repeat (first|(refine wpS_skip rfl (fun K hK=>?_);go_big_quiet_op;refine hK _ ?_;clear hK K)|(refine wpS_quiet rfl rfl (fun K hK=>?_);go_big_quiet_op;refine hK _ ?_;clear hK K)|(refine wpS_loud ?_;go_wp2;refine ⟨?_,?_⟩;focus (exact ⟨_,below_over (by repeat (first|assumption|exact Below.refl _ _|refine keep_drew ?_|refine keep_alloc ?_ _|refine keep_trans ?_ (by assumption)))⟩)))
    refine wpS_late _ _ _ rfl ?_
    dsimp only[List.map]
    go_wp2
    refine NoPanic.normal ?_
    go_wp2
    go_roundw
    case rel=>exact ⟨k+1,by omega,by go_num,by rw[HS.out,hSL.out];go_num,by rw[HS.out,hSH.out];go_num,by rw[HS.out];go_num,hbr.drew⟩
    case measure=>simp[intOf];omega
   ·rw[if_neg hy,Nat.add_zero] at hS
    have hy2:(y==0)=false:=by simpa using hy
    have HS:=Lib.hid hS
    clear hS hM hN hy
    go_wp2
    go_roundw
    case rel=>exact ⟨k+1,by omega,by go_num,by rw[HS.out];rfl,by rw[HS.out];rfl,by rw[HS.out];rfl,hbr⟩
    case measure=>simp[intOf];omega
  ·have e:k=n1:=by omega
   subst e
   rw[hn1] at hlowE hhighE
   go_wp2
   go_ret2
   exact ⟨by rw[hlowE.out,hhighE.out];rfl,hB.trans (hbr.mono hB.size)⟩
end
section
open Go Go.RowKit
attribute [local go_sem] over_cell
def twoL (ls:List (List Int)) (sum:Int) (g:List Int):List (List Int):=(solsL ls sum g []).take 2
def uniqE (cells:Int) (ls:List (List Int)) (sum:Int) (g:List Int):Int :=
 if (smallErr cells ls sum g != 0)=true then smallErr cells ls sum g else if (twoL ls sum g).length=0 then 21 else if (twoL ls sum g).length=1 then 0 else 22
def uniqL (cells:Int) (ls:List (List Int)) (sum:Int) (g:List Int):List Int :=
 if (smallErr cells ls sum g != 0)=true then [] else if (twoL ls sum g).length=1 then (twoL ls sum g)[0]?.getD [] else []
theorem small_good {cells:Int} {ls:List (List Int)} {sum:Int} {g:List Int} (h:smallErr cells ls sum g=0):GoodTask cells ls sum g:=by
 refine goodTask ?_
 unfold smallErr at h
 by_cases h1:(taskErr cells ls sum g != 0)=true
 ·rw[if_pos h1] at h;exact h
 ·simpa using h1
theorem IC.nil (w:World):IC w none 0 []:=⟨⟨rfl,by omega⟩,fun k hk=>absurd hk (Nat.not_lt_zero _)⟩
theorem all_few {a:Option Addr} {n c:Nat} {ls:List (List Int)} {cells sum:Int} {a':Option Addr} {n' c':Nat} {g:List Int} {w w5:World} (G:GoodTask cells ls sum g) (h:RC w a n ls) (hcap:n≤c) (h':IC w a' n' g) (hBW:Below w.heap.size w w5) (most:Int) (hm1:1≤most) (hm3:most≤1000000) :
  Calls Tryz.prog 64 #[.agg #[.int .i64 cells,.slice a n c,.int .i64 sum,.slice a' n' c']] w5 fun e w6=>∃bx,e = .returned (solV bx)∧Below w5.heap.size w5 w6 ∧
   Calls Tryz.prog 67 #[solV bx,.int .i64 most] w6 fun e w7=>∃ar nr cr,e = .returned (.slice ar nr cr)∧RC w7 ar nr ((solsL ls sum g []).take most.toNat)∧nr≤cr∧Below w.heap.size w w7:=by
 have hl':=h'.len
 have hl:=h.len
 have hm2:n'≤256:=by have:=G.len;have:=G.cells2;omega
 have hn1:n≤1000000:=by have:=G.lines;omega
 have hOlt:∀k,k<w.heap.size→k<w5.heap.size:=fun k hk=>by have:=hBW.size;omega
 refine (all_c a n c ls cells sum a' n' c' g w5 (h.mono hBW) hcap hn1 (h'.mono hBW) hm2 (fun k hk=>by have:=G.num k (by omega);have:=G.cells2;omega) (fun l hl=>by have h1:=G.lineLen hl;have h2:=G.len;exact ⟨h1.1,fun x hx=>by have:=h1.2 x hx;omega⟩) (fun k=>k<w.heap.size) hOlt (old_lines h hBW)).mono ?_
 rintro _ w6 ⟨bx,b,Im,ao,co,al,cl,vf,rfl,hbx1,hbx2,hbx3,hbx4,hbx5,hbx6,hsr,hb3,hb4,hb5,hb6⟩
 refine ⟨bx,rfl,hb3,?_⟩
 refine (few_c b bx Im _ vf _ [] w6 hsr G.even hbx6 hbx2 (mut0 hbx3 hbx4) w.heap.size (by have:=hBW.size;have:=hb3.size;omega) (mut0_ge (by have:=hBW.size;omega) (fun k e=>by have h1:=hb5 k e;have h2:=hBW.size;omega)) most hm1 hm3).mono ?_
 rintro _ w7 ⟨ar,nr,cr,rfl,hrc,hcr,hbl⟩
 exact ⟨ar,nr,cr,rfl,hrc,hcr,(hBW.trans (hb3.mono (by have:=hBW.size;omega))).trans hbl⟩
theorem unique_c (a:Option Addr) (n c:Nat) (ls:List (List Int)) (cells sum:Int) (a':Option Addr) (n' c':Nat) (g:List Int) (w:World) (h:RC w a n ls) (hcap:n≤c) (h':IC w a' n' g) (hcap':n'≤c') :
  Calls Tryz.prog 30 #[.agg #[.int .i64 cells,.slice a n c,.int .i64 sum,.slice a' n' c']] w fun e w'=>∃ar nr cr,e = .returned (.tuple #[.slice ar nr cr,.int .i64 (uniqE cells ls sum g)])∧IC w' ar nr (uniqL cells ls sum g)∧nr≤cr∧Below w.heap.size w w':=by
 have H:=Lib.hid h
 have H':=Lib.hid h'
 have hE:Hid (uniqE cells ls sum g=if (smallErr cells ls sum g != 0)=true then smallErr cells ls sum g else if (twoL ls sum g).length=0 then 21 else if (twoL ls sum g).length=1 then 0 else 22):=rfl
 have hL:Hid (uniqL cells ls sum g=if (smallErr cells ls sum g != 0)=true then [] else if (twoL ls sum g).length=1 then (twoL ls sum g)[0]?.getD [] else []):=rfl
 go_enter Tryz.func30,Tryz.ntmps30
 go_wp2_with fail
 have hsz:w.heap.size<(w.alloc (.cells #[.int .i64 cells,.slice a n c,.int .i64 sum,.slice a' n' c'] 27)).heap.size:=by simp
 have hB:Below w.heap.size w (w.alloc (.cells #[.int .i64 cells,.slice a n c,.int .i64 sum,.slice a' n' c'] 27)):=(Below.refl _ _).alloc (Nat.le_refl _) _
 have x0:(w.alloc (.cells #[.int .i64 cells,.slice a n c,.int .i64 sum,.slice a' n' c'] 27)).cell? ⟨w.heap.size,0,none⟩=some (.int .i64 cells):=(box_cells w #[.int .i64 cells,.slice a n c,.int .i64 sum,.slice a' n' c'] 27 0).trans rfl
 have x1:(w.alloc (.cells #[.int .i64 cells,.slice a n c,.int .i64 sum,.slice a' n' c'] 27)).cell? ⟨w.heap.size,1,none⟩=some (.slice a n c):=(box_cells w #[.int .i64 cells,.slice a n c,.int .i64 sum,.slice a' n' c'] 27 1).trans rfl
 have x2:(w.alloc (.cells #[.int .i64 cells,.slice a n c,.int .i64 sum,.slice a' n' c'] 27)).cell? ⟨w.heap.size,2,none⟩=some (.int .i64 sum):=(box_cells w #[.int .i64 cells,.slice a n c,.int .i64 sum,.slice a' n' c'] 27 2).trans rfl
 have x3:(w.alloc (.cells #[.int .i64 cells,.slice a n c,.int .i64 sum,.slice a' n' c'] 27)).cell? ⟨w.heap.size,3,none⟩=some (.slice a' n' c'):=(box_cells w #[.int .i64 cells,.slice a n c,.int .i64 sum,.slice a' n' c'] 27 3).trans rfl
 generalize (w.alloc (.cells #[.int .i64 cells,.slice a n c,.int .i64 sum,.slice a' n' c'] 27))=W0 at hsz hB x0 x1 x2 x3 ⊢
 refine (small_c a n c ls cells sum a' n' c' g W0 (h.mono hB) hcap (h'.mono hB) hcap').mono ?_
 rintro _ w1 ⟨rfl,hb1⟩
 clear h h'
 have y0:=((bcell hb1).1 _ _ hsz).trans x0
 have y1:=((bcell hb1).1 _ _ hsz).trans x1
 have y2:=((bcell hb1).1 _ _ hsz).trans x2
 have y3:=((bcell hb1).1 _ _ hsz).trans x3
 clear x0 x1 x2 x3
 have hB1:=hB.trans (hb1.mono hB.size)
 by_cases he:(smallErr cells ls sum g != 0)=true
 ·rw[if_pos he] at hE hL
  have HE:=Lib.hid he
  go_wp2
  go_ret2
  exact ⟨none,0,0,by rw[hE.out];rfl,by rw[hL.out];exact IC.nil _,Nat.le_refl _,hB1⟩
 ·have he0:smallErr cells ls sum g=0:=by simpa using he
  have G:=Lib.hid (small_good he0)
  rw[if_neg he] at hE hL
  rw[he0]
  clear he he0
  have HA:=Lib.hid (all_few (c':=c') G.out H.out hcap H'.out hB1 2 (by decide) (by decide))
  go_wp2_with fail
  refine HA.out.mono ?_
  rintro _ w6 ⟨bx,rfl,hb6,hfew⟩
  have HFEW:=Lib.hid hfew
  clear hfew HA
  go_wp2_with fail
  refine HFEW.out.mono ?_
  rintro _ w7 ⟨ar,nr,cr,rfl,hrc,hcr,hbl⟩
  clear HFEW
  replace hrc:RC w7 ar nr (twoL ls sum g):=hrc
  have hln:=hrc.len
  have h2:nr≤2:=by rw[← hln];unfold twoL;rw[List.length_take];omega
  rw[hln] at hE hL
  clear hln
  rcases (by omega:nr=0∨nr=1∨nr=2) with rfl|rfl|rfl
  ·go_wp2
   go_ret2
   exact ⟨none,0,0,by rw[hE.out];rfl,by rw[hL.out];exact IC.nil _,Nat.le_refl _,hbl⟩
  ·obtain ⟨b,off,a1,n1,c1,rfl,hb,hc,hi,hic⟩:=hrc.2 0 (by omega)
   rw[Nat.add_zero] at hc
   have HI:=Lib.hid hi
   clear hrc hi
   go_wp2
   go_ret2
   exact ⟨a1,n1,c1,by rw[hE.out];rfl,by rw[hL.out];exact HI.out,hic,hbl⟩
  ·clear hrc
   go_wp2
   go_ret2
   exact ⟨none,0,0,by rw[hE.out];rfl,by rw[hL.out];exact IC.nil _,Nat.le_refl _,hbl⟩
end
section
open Go Go.RowKit
attribute [local go_sem] over_cell
theorem GoodTask.nodup {cells:Int} {ls:List (List Int)} {sum:Int} {g:List Int} (h:GoodTask cells ls sum g) {l:List Int} (hl:l∈ls):l.Nodup:=by
 refine List.pairwise_iff_getElem.2 fun i j hi hj hij e=>?_
 have h1:=h.step hl i (j - i) (by omega)
 rw[show i+(j - i)=j from by omega,List.getElem?_eq_getElem hi,List.getElem?_eq_getElem hj] at h1
 simp only[Option.getD_some] at h1
 omega
theorem GoodTask.cnt {cells:Int} {ls:List (List Int)} {sum:Int} {g:List Int} (h:GoodTask cells ls sum g) {l:List Int} (hl:l∈ls):cntTo l g l.length≤(unusedL g).length:=by
 rw[h.even]
 unfold cntTo
 rw[List.take_length]
 refine nodup_le ((h.nodup hl).sublist List.filter_sublist) fun x hx=>?_
 obtain ⟨hx1,hx2⟩:=List.mem_filter.1 hx
 have h1:=(h.lineLen hl).2 x hx1
 have h2:=h.len
 exact mem_open.2 ⟨h1.1,by omega,by simpa using hx2⟩
theorem unused_num {g:List Int} (hn:g.length≤256) (k:Nat):0≤(unusedL g)[k]?.getD 0∧(unusedL g)[k]?.getD 0≤256:=by
 by_cases hk:k<(unusedL g).length
 ·rw[List.getElem?_eq_getElem hk,Option.getD_some]
  have:=mem_unused.1 (List.getElem_mem hk)
  omega
 ·rw[List.getElem?_eq_none (by omega)];decide
theorem GoodTask.num' {cells:Int} {ls:List (List Int)} {sum:Int} {g:List Int} (h:GoodTask cells ls sum g) (k:Nat):0≤g[k]?.getD 0∧g[k]?.getD 0≤256:=by
 by_cases hk:k<g.length
 ·have:=h.num k hk;have:=h.cells2;omega
 ·rw[List.getElem?_eq_none (by omega)];decide
theorem GoodTask.glen {cells:Int} {ls:List (List Int)} {sum:Int} {g:List Int} (h:GoodTask cells ls sum g):g.length≤256:=by
 have:=h.len;have:=h.cells2;omega
theorem bounds_g {cells:Int} {ls:List (List Int)} {sum:Int} {g:List Int} (G:GoodTask cells ls sum g) (a:Option Addr) (n c:Nat) (a':Option Addr) (n' c':Nat) (line:Nat) (au:Option Addr) (nu cu:Nat) (w:World) (h:RC w a n ls) (h':IC w a' n' g) (hu:IC w au nu (unusedL g)) (hline:line<n) :
  Calls Tryz.prog 126 #[.agg #[.int .i64 cells,.slice a n c,.int .i64 sum,.slice a' n' c'],.int .i64 line,.slice au nu cu] w fun e w'=>e = .returned (.tuple #[.int .i64 (lowV (ls[line]?.getD []) g (unusedL g)),.int .i64 (highV (ls[line]?.getD []) g (unusedL g))])∧Below w.heap.size w w':=by
 have hl:ls[line]?.getD []∈ls:=by
  have:line<ls.length:=by rw[h.len];exact hline
  rw[List.getElem?_eq_getElem this];exact List.getElem_mem this
 have h1:=G.lineShort hl
 have h2:=G.cells2
 have h3:=h'.len
 have h4:=G.len
 refine bounds_c a n c ls cells sum a' n' c' g line au nu cu (unusedL g) w h h' hu hline (by omega) (fun x hx=>by have:=(G.lineLen hl).2 x hx;omega) G.num' (unused_num G.glen) ?_
 rw[← hu.len]
 exact G.cnt hl
def beyV (l g:List Int) (sum:Int):Bool:=decide (sum<lowV l g (unusedL g))||decide (highV l g (unusedL g)<sum)
theorem beyond_c {cells:Int} {ls:List (List Int)} {sum:Int} {g:List Int} (G:GoodTask cells ls sum g) (a:Option Addr) (n c:Nat) (a':Option Addr) (n' c':Nat) (line:Nat) (au:Option Addr) (nu cu:Nat) (w:World) (h:RC w a n ls) (h':IC w a' n' g) (hu:IC w au nu (unusedL g)) (hline:line<n) :
  Calls Tryz.prog 148 #[.agg #[.int .i64 cells,.slice a n c,.int .i64 sum,.slice a' n' c'],.int .i64 line,.slice au nu cu] w fun e w'=>e = .returned (.bool (beyV (ls[line]?.getD []) g sum))∧Below w.heap.size w w':=by
 have hE:Hid (beyV (ls[line]?.getD []) g sum=(decide (sum<lowV (ls[line]?.getD []) g (unusedL g))||decide (highV (ls[line]?.getD []) g (unusedL g)<sum))):=rfl
 have HB:=Lib.hid (fun w1 (hb:Below w.heap.size w w1)=>bounds_g G a n c a' n' c' line au nu cu w1 (h.mono hb) (h'.mono hb) (hu.mono hb) hline)
 clear h h' hu G
 generalize lowV (ls[line]?.getD []) g (unusedL g)=lo at hE HB
 generalize highV (ls[line]?.getD []) g (unusedL g)=hi at hE HB
 go_enter Tryz.func148,Tryz.ntmps148
 go_wp2_with fail
 have hsz:w.heap.size<(w.alloc (.cells #[.int .i64 cells,.slice a n c,.int .i64 sum,.slice a' n' c'] 27)).heap.size:=by simp
 have hB:Below w.heap.size w (w.alloc (.cells #[.int .i64 cells,.slice a n c,.int .i64 sum,.slice a' n' c'] 27)):=(Below.refl _ _).alloc (Nat.le_refl _) _
 have x0:(w.alloc (.cells #[.int .i64 cells,.slice a n c,.int .i64 sum,.slice a' n' c'] 27)).cell? ⟨w.heap.size,0,none⟩=some (.int .i64 cells):=(box_cells w #[.int .i64 cells,.slice a n c,.int .i64 sum,.slice a' n' c'] 27 0).trans rfl
 have x1:(w.alloc (.cells #[.int .i64 cells,.slice a n c,.int .i64 sum,.slice a' n' c'] 27)).cell? ⟨w.heap.size,1,none⟩=some (.slice a n c):=(box_cells w #[.int .i64 cells,.slice a n c,.int .i64 sum,.slice a' n' c'] 27 1).trans rfl
 have x2:(w.alloc (.cells #[.int .i64 cells,.slice a n c,.int .i64 sum,.slice a' n' c'] 27)).cell? ⟨w.heap.size,2,none⟩=some (.int .i64 sum):=(box_cells w #[.int .i64 cells,.slice a n c,.int .i64 sum,.slice a' n' c'] 27 2).trans rfl
 have x3:(w.alloc (.cells #[.int .i64 cells,.slice a n c,.int .i64 sum,.slice a' n' c'] 27)).cell? ⟨w.heap.size,3,none⟩=some (.slice a' n' c'):=(box_cells w #[.int .i64 cells,.slice a n c,.int .i64 sum,.slice a' n' c'] 27 3).trans rfl
 generalize (w.alloc (.cells #[.int .i64 cells,.slice a n c,.int .i64 sum,.slice a' n' c'] 27))=W0 at hsz hB x0 x1 x2 x3 ⊢
 refine (HB.out W0 hB).mono ?_
 rintro _ w1 ⟨rfl,hb1⟩
 have y2:=((bcell hb1).1 _ _ hsz).trans x2
 clear x0 x1 x2 x3
 by_cases h1:sum<lo
 ·go_wp2
  go_ret
  exact ⟨ret_bool (by rw[hE.out];simp[h1]),hB.trans (hb1.mono hB.size)⟩
 ·by_cases h2:hi<sum
  ·go_wp2
   go_ret
   exact ⟨ret_bool (by rw[hE.out];simp[h2]),hB.trans (hb1.mono hB.size)⟩
  ·go_wp2
   go_ret
   exact ⟨ret_bool (by rw[hE.out];try simp[h1,h2]),hB.trans (hb1.mono hB.size)⟩
end
section
open Go Go.RowKit
attribute [local go_sem] over_cell
attribute [local go_sem] Oper.semAt_some
def minus (A B:Nat):Nat:=A ^^^ (A &&& B)
end
section
open Go Go.RowKit
attribute [local go_sem] over_cell
attribute [local go_sem] Oper.semAt_some
def greatTo (M:Nat):Nat→Nat
  | 0=>0
  | k+1=>if word M k=0 then greatTo M k else 64*k+Lib.bitLen (word M k)
def greatM (M:Nat):Nat:=greatTo M 4
def elemsTo (M x:Nat):List Int:=((List.range x).filter fun i=>M.testBit i).map fun (i:Nat)=>(i:Int)+1
def elemsM (M:Nat):List Int:=elemsTo M 256
end
section
open Go
def cntB (n x:Nat):Nat:=((List.range n).filter fun i=>x.testBit i).length
def s1 (b:Nat):Nat:=(b / 2 &&& 85)+(b &&& 85)
def f1 (x:Nat):Nat:=(x / 2 &&& 6148914691236517205)+(x &&& 6148914691236517205)
def f2 (x:Nat):Nat:=(x / 4 &&& 3689348814741910323)+(x &&& 3689348814741910323)
def f3 (x:Nat):Nat:=(x / 16+x) &&& 1085102592571150095
def f5 (x:Nat):Nat:=x+x / 65536
end
section
open Go Go.RowKit
def sizeTo (M:Nat):Nat→Nat
 | 0=>0
 | k+1=>sizeTo M k+cntB 64 (word M k)
def sizeM (M:Nat):Nat:=sizeTo M 4
attribute [local go_sem] over_cell
attribute [local go_sem] Oper.semAt_some
end
section
open Go Go.RowKit
attribute [local go_sem] over_cell
attribute [local go_sem] Oper.semAt_some
def onceTo (Ms:List Nat) (k:Nat):Nat:=(Ms.take k).foldl (fun o s=>o ||| s) 0
def twiceTo (Ms:List Nat):Nat→Nat
 | 0=>0
 | k+1=>twiceTo Ms k ||| (onceTo Ms k &&& Ms[k]?.getD 0)
end
section
open Go Go.RowKit
attribute [local go_sem] over_cell
attribute [local go_sem] Oper.semAt_some
theorem setType:Tryz.prog.underlying 148=some (.array 4 146):=by kernel_rfl
theorem run_eq_set (d:Nat) (a0 a1 a2 a3 b0 b1 b2 b3:Int) (w:World) :
  (Op.equalIn (d+1+1) 148 (.agg #[.int .u64 a0,.int .u64 a1,.int .u64 a2,.int .u64 a3]) (.agg #[.int .u64 b0,.int .u64 b1,.int .u64 b2,.int .u64 b3])).run Tryz.prog w = .ok (a0==b0&&(a1==b1&&(a2==b2&&a3==b3))) w:=by
 rw[Op.equalIn]
 simp only[Sem.run_bind,run_underlying setType,Result.andThen_ok]
 simp[go_sem,List.range'_succ]
 by_cases h0:a0=b0
 ·by_cases h1:a1=b1
  ·by_cases h2:a2=b2
   ·by_cases h3:a3=b3
    ·simp[h0,h1,h2,h3]
    ·simp[h0,h1,h2,h3]
   ·simp[h0,h1,h2]
  ·simp[h0,h1]
 ·simp[h0]
def eqM (A B:Nat):Bool:=((word A 0:Nat):Int)==((word B 0:Nat):Int)&&(((word A 1:Nat):Int)==((word B 1:Nat):Int)&&(((word A 2:Nat):Int)==((word B 2:Nat):Int)&&((word A 3:Nat):Int)==((word B 3:Nat):Int)))
theorem run_eq_masks (A B:Nat) (w:World):(Op.equalIn 10000 148 (.agg #[.int .u64 ((word (A) 0:Nat):Int),.int .u64 ((word (A) 1:Nat):Int),.int .u64 ((word (A) 2:Nat):Int),.int .u64 ((word (A) 3:Nat):Int)]) (.agg #[.int .u64 ((word (B) 0:Nat):Int),.int .u64 ((word (B) 1:Nat):Int),.int .u64 ((word (B) 2:Nat):Int),.int .u64 ((word (B) 3:Nat):Int)])).run Tryz.prog w = .ok (eqM A B) w:=run_eq_set 9998 _ _ _ _ _ _ _ _ w
theorem run_eq_zero (A:Nat) (w:World):(Op.equalIn 10000 148 (.agg #[.int .u64 ((word (A) 0:Nat):Int),.int .u64 ((word (A) 1:Nat):Int),.int .u64 ((word (A) 2:Nat):Int),.int .u64 ((word (A) 3:Nat):Int)]) (.agg #[.int .u64 0,.int .u64 0,.int .u64 0,.int .u64 0])).run Tryz.prog w = .ok (eqM A 0) w:=by
 have h:=run_eq_set 9998 ((word A 0:Nat):Int) ((word A 1:Nat):Int) ((word A 2:Nat):Int) ((word A 3:Nat):Int) 0 0 0 0 w
 have e:eqM A 0=(((word A 0:Nat):Int)==0&&(((word A 1:Nat):Int)==0&&(((word A 2:Nat):Int)==0&&((word A 3:Nat):Int)==0))):=by
  have hz:∀q,word 0 q=0:=fun q=>by simp[word]
  unfold eqM
  rw[hz,hz,hz,hz]
  rfl
 rw[e]
 exact h
attribute [local go_sem] run_eq_masks
attribute [local go_sem] run_eq_zero
def fullTo (Ms:List Nat) (k:Nat):Bool:=(Ms.take k).all fun s=>!eqM s 0
def contraB (Ms:List Nat) (M:Nat):Bool:=!eqM (onceTo Ms Ms.length) M||!fullTo Ms Ms.length
end
section
open Go Go.RowKit
attribute [local go_sem] over_cell
end
end Go.Proofs.YtaadpihbjhachaaGreat
