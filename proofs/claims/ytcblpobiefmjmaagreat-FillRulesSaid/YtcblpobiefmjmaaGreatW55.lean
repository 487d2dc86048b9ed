/- Texts A6 to A7 of this proof, in one file. -/
import Derived.Test.YtcblpobiefmjmaaGreatW07
import Derived.Test.YtcblpobiefmjmaaGreatW15
import Derived.Test.YtcblpobiefmjmaaGreatW52
namespace Go.Proofs.YtcblpobiefmjmaaGreat
set_option maxRecDepth 100000
set_option maxHeartbeats 16000000
section
open Go Go.RowKit
attribute [local go_sem] over_cell
attribute [local go_sem] Oper.semAt_some
theorem infoBool:(Tryz.prog.info? 4).map (fun i=>(i.zero,i.size,i.bytes))=some (some (.bool false),1,1):=by kernel_rfl
theorem infoBools:(Tryz.prog.info? 133).map (fun i=>(i.zero,i.size,i.bytes))=some (some (.slice none 0 0),1,24):=by kernel_rfl
def bitsL (r M:Nat):List Value:=(List.range r).map fun j => .bool (decide (0<j)&&M.testBit (j - 1))
def bitsTo (r M m:Nat):List Value:=(List.range r).map fun j => .bool (decide (0<j∧j<m)&&M.testBit (j - 1))
theorem bitsTo_get {r M m k:Nat} (h:k<r):(bitsTo r M m)[k]?=some (.bool (decide (0<k∧k<m)&&M.testBit (k - 1))):=by
 unfold bitsTo;rw[List.getElem?_map,List.getElem?_range h];rfl
theorem bitsL_get {r M k:Nat} (h:k<r):(bitsL r M)[k]?=some (.bool (decide (0<k)&&M.testBit (k - 1))):=by
 unfold bitsL;rw[List.getElem?_map,List.getElem?_range h];rfl
theorem bitsTo_len (r M m:Nat):(bitsTo r M m).length=r:=by simp[bitsTo]
theorem bitsL_len (r M:Nat):(bitsL r M).length=r:=by simp[bitsL]
theorem bitsTo_one (r M:Nat):bitsTo r M 1=List.replicate r (.bool false):=by
 apply List.ext_getElem?
 intro k
 by_cases hk:k<r
 ·rw[bitsTo_get hk,List.getElem?_replicate,if_pos hk,decide_eq_false (by omega)];rfl
 ·rw[List.getElem?_eq_none (by rw[bitsTo_len];omega),List.getElem?_eq_none (by simp;omega)]
theorem bitsTo_set {r M m:Nat} (h1:1≤m):(bitsTo r M m).set m (.bool (M.testBit (m - 1)))=bitsTo r M (m+1):=by
 apply List.ext_getElem?
 intro k
 by_cases hk:k<r
 ·by_cases e:m=k
  ·subst e
   rw[List.getElem?_set_self (by rw[bitsTo_len];exact hk),bitsTo_get hk,decide_eq_true (by omega),Bool.true_and]
  ·rw[List.getElem?_set_ne e,bitsTo_get hk,bitsTo_get hk]
   rw[show decide (0<k∧k<m)=decide (0<k∧k<m+1) from decide_eq_decide.2 (by omega)]
 ·rw[List.getElem?_eq_none (by rw[List.length_set,bitsTo_len];omega),List.getElem?_eq_none (by rw[bitsTo_len];omega)]
theorem bitsTo_full (r M:Nat):bitsTo r M r=bitsL r M:=by
 apply List.ext_getElem?
 intro k
 by_cases hk:k<r
 ·rw[bitsTo_get hk,bitsL_get hk,show decide (0<k∧k<r)=decide (0<k) from decide_eq_decide.2 (by omega)]
 ·rw[List.getElem?_eq_none (by rw[bitsTo_len];omega),List.getElem?_eq_none (by rw[bitsL_len];omega)]
theorem bitsL_clear {r M m:Nat} (h1:1≤m):(bitsL r M).set m (.bool false)=bitsL r (clearBit M (m - 1)):=by
 apply List.ext_getElem?
 intro k
 by_cases hk:k<r
 ·by_cases e:m=k
  ·subst e
   rw[List.getElem?_set_self (by rw[bitsL_len];exact hk),bitsL_get hk,testBit_clear]
   simp
  ·rw[List.getElem?_set_ne e,bitsL_get hk,bitsL_get hk,testBit_clear]
   by_cases h0:0<k
   ·rw[decide_eq_true (show k - 1≠m - 1 by omega),Bool.and_true]
   ·rw[decide_eq_false h0,Bool.false_and,Bool.false_and]
 ·rw[List.getElem?_eq_none (by rw[List.length_set,bitsL_len];omega),List.getElem?_eq_none (by rw[bitsL_len];omega)]
structure OB (w:World) (L:Nat) (v:Value) (r:Nat) (vs:List Value) (Ms:List Nat):Prop where
 own:w.ownsRow L 133 1 v vs.length vs
 len:Ms.length=vs.length
 row:∀k,k<vs.length→∃g c',vs[k]?=some (Value.slice (some ⟨g,0,none⟩) r c')∧w.ownsRow L 4 1 (.slice (some ⟨g,0,none⟩) r c') r (bitsL r (Ms[k]?.getD 0))∧v.ownBlock≠some g
 apart:∀i k g c g' c':Nat,i≠k→vs[i]?=some (Value.slice (some ⟨g,0,none⟩) r c)→vs[k]?=some (Value.slice (some ⟨g',0,none⟩) r c')→g≠g'
theorem OB.nil (w:World) (L r:Nat):OB w L (.slice none 0 0) r [] [] :=
 ⟨World.ownsRow_nil w L _ 1,rfl,fun k hk=>absurd hk (by simp),fun i k g c g' c' _ h _=>by simp at h⟩
theorem OB.below {w w':World} {L:Nat} {v:Value} {r:Nat} {vs:List Value} {Ms:List Nat} (h:OB w L v r vs Ms) (hb:Below w.heap.size w w'):OB w' L v r vs Ms :=
 ⟨owns_keep h.own (fun k _ hl=>hb.block k hl),h.len,fun k hk=>by
  obtain ⟨g,c',e,ho,hn⟩:=h.row k hk
  exact ⟨g,c',e,owns_keep ho (fun k _ hl=>hb.block k hl),hn⟩,h.apart⟩
theorem OB.low {w:World} {L L':Nat} {v:Value} {r:Nat} {vs:List Value} {Ms:List Nat} (h:OB w L v r vs Ms) (hl:L'≤L):OB w L' v r vs Ms :=
 ⟨owns_base h.own hl,h.len,fun k hk=>by
  obtain ⟨g,c',e,ho,hn⟩:=h.row k hk
  exact ⟨g,c',e,owns_base ho hl,hn⟩,h.apart⟩
theorem OB.snoc {w w2:World} {L:Nat} {v v':Value} {r:Nat} {vs:List Value} {Ms:List Nat} (h:OB w L v r vs Ms) {M g c':Nat} (hrow:w.ownsRow L 4 1 (.slice (some ⟨g,0,none⟩) r c') r (bitsL r M)) (hv:v.ownBlock≠some g) (hnew:∀k g' c:Nat,vs[k]?=some (Value.slice (some ⟨g',0,none⟩) r c)→g'≠g)
  (hs:Stays (fun k=>v.ownBlock=some k) w w2) (hown:w2.ownsRow L 133 1 v' (vs.length+1) (vs++[Value.slice (some ⟨g,0,none⟩) r c'])) (hn:∀k,v'.ownBlock=some k→v.ownBlock=some k∨w.heap.size≤k):OB w2 L v' r (vs++[Value.slice (some ⟨g,0,none⟩) r c']) (Ms++[M]):=by
 have hl:(vs++[(.slice (some ⟨g,0,none⟩) r c':Value)]).length=vs.length+1:=by simp
 have key:∀{g9 c9:Nat} {xs:List Value},w.ownsRow L 4 1 (.slice (some ⟨g9,0,none⟩) r c9) r xs→v.ownBlock≠some g9→w2.ownsRow L 4 1 (.slice (some ⟨g9,0,none⟩) r c9) r xs∧v'.ownBlock≠some g9:=by
  intro g9 c9 xs ho hne
  refine ⟨owns_keep ho (fun k e hlt=>hs.block k hlt (fun e2=>by cases e;exact hne e2)),fun e=>?_⟩
  rcases hn _ e with e2|e2
  ·exact hne e2
  ·have:=(ho.lt g9 rfl).2
   omega
 refine ⟨by rw[hl];exact hown,by rw[List.length_append,hl,h.len];rfl,fun k hk=>?_,fun i k g1 c1 g2 c2 hik h1 h2=>?_⟩
 ·rw[hl] at hk
  by_cases hlt:k<vs.length
  ·obtain ⟨g9,c9,e,ho,hne⟩:=h.row k hlt
   refine ⟨g9,c9,by rw[List.getElem?_append_left hlt];exact e,?_⟩
   rw[List.getElem?_append_left (by rw[h.len];exact hlt)]
   exact key ho hne
  ·have e:k=vs.length:=by omega
   subst e
   refine ⟨g,c',by rw[List.getElem?_append_right (Nat.le_refl _),Nat.sub_self];rfl,?_⟩
   rw[List.getElem?_append_right (by rw[h.len];exact Nat.le_refl _),h.len,Nat.sub_self]
   exact key hrow hv
 ·have hbd:∀{j g3 c3:Nat},(vs++[(.slice (some ⟨g,0,none⟩) r c':Value)])[j]?=some (Value.slice (some ⟨g3,0,none⟩) r c3)→(j<vs.length∧vs[j]?=some (Value.slice (some ⟨g3,0,none⟩) r c3))∨(j=vs.length∧g3=g):=by
   intro j g3 c3 hj
   have hjl:=(List.getElem?_eq_some_iff.1 hj).1
   rw[hl] at hjl
   by_cases hlt:j<vs.length
   ·rw[List.getElem?_append_left hlt] at hj
    exact .inl ⟨hlt,hj⟩
   ·have e:j=vs.length:=by omega
    subst e
    rw[List.getElem?_append_right (Nat.le_refl _),Nat.sub_self] at hj
    simp only[List.getElem?_cons_zero,Option.some.injEq,Value.slice.injEq,Addr.mk.injEq,true_and,and_true] at hj
    exact .inr ⟨rfl,hj.1.symm⟩
  rcases hbd h1 with ⟨_,a1⟩|⟨a1,b1⟩
  ·rcases hbd h2 with ⟨_,a2⟩|⟨a2,b2⟩
   ·exact h.apart i k g1 c1 g2 c2 hik a1 a2
   ·rw[b2];exact hnew i g1 c1 a1
  ·rcases hbd h2 with ⟨_,a2⟩|⟨a2,b2⟩
   ·rw[b1];exact fun e=>hnew k g2 c2 a2 e.symm
   ·omega
theorem BR.of_owns {w:World} {B g r c' M:Nat} {e:TypeId} (h:w.ownsRow B e 1 (.slice (some ⟨g,0,none⟩) r c') r (bitsL r M)):BR w (some ⟨g,0,none⟩) r M:=fun j hj=>by
 obtain ⟨g9,c9,x9,e9,hx,hc,_,hlt,_⟩:=owns_free (owns_base h (Nat.zero_le _)) j hj
 cases e9
 rw[bitsL_get hj] at hx
 cases hx
 exact ⟨g,0,rfl,hlt,by rw[Nat.zero_add];exact hc⟩
theorem OB.bs {w:World} {L:Nat} {v:Value} {r:Nat} {vs:List Value} {Ms:List Nat} (h:OB w L v r vs Ms) (hn:vs.length≤256) (h1:1≤r) (hr:r≤257):∃a c,v = .slice a vs.length c∧BS w a vs.length r Ms:=by
 obtain ⟨a,c,rfl⟩:=owns_shape h.own
 refine ⟨a,c,rfl,⟨h.len,hn,h1,hr⟩,fun k hk=>?_⟩
 obtain ⟨g9,c9,x9,e9,hx,hc,_,hlt,_⟩:=owns_free (owns_base h.own (Nat.zero_le _)) k hk
 cases e9
 obtain ⟨g,c',e,ho,_⟩:=h.row k hk
 rw[e] at hx
 cases hx
 obtain ⟨_,_,_,e2,_,_,_,_,hcap⟩:=owns_free (owns_base ho (Nat.zero_le _)) 0 h1
 cases e2
 exact ⟨g9,0,_,c',rfl,hlt,by rw[Nat.zero_add,hc],BR.of_owns ho,hcap⟩
theorem begM_bit {n m:Nat} {x:Int} (hx:0≤x) (h1:1≤m) (hm:m≤n):(begM n x).testBit (m - 1)=((x==0)||(x==(m:Int))):=by
 unfold begM
 by_cases h:0<x
 ·rw[if_pos h,Nat.testBit_two_pow,Bool.eq_iff_iff,Bool.or_eq_true,decide_eq_true_eq,beq_iff_eq,beq_iff_eq]
  omega
 ·have e:x=0:=by omega
  rw[if_neg h,allM_bit,e,decide_eq_true (by omega)]
  rfl
theorem made_false (N:Nat):(madeCells (Value.bool false).cells (N*1)).toList=List.replicate N (.bool false):=by
 apply List.ext_getElem?
 intro i
 by_cases h:i<N
 ·simp[madeCells,h,Value.cells,Nat.mod_one]
 ·simp[madeCells,h]
end
section
open Go Go.RowKit
attribute [local go_sem] over_cell
attribute [local go_sem] Oper.semAt_some
def BegOut (w w':World) (n:Nat) (Ms:List Nat) (e:Ending):Prop:=∃v vs,e = .returned v∧OB w' w.heap.size v (n+1) vs Ms∧vs.length=n∧Below w.heap.size w w'
theorem rbegin_c (a:Option Addr) (n c:Nat) (cells sum:Int) (a':Option Addr) (n' c':Nat) (g:List Int) (w:World) (h':IC w a' n' g) (hn:n'≤256) (hg:∀k,k<n'→0≤g[k]?.getD 0∧g[k]?.getD 0≤(n':Int)) :
  Calls Tryz.prog 75 #[.agg #[.int .i64 cells,.slice a n c,.int .i64 sum,.slice a' n' c']] w fun e w'=>BegOut w w' n' (begL g) e:=by
 obtain ⟨i0,hi,hz0,hz1,hz2⟩:=info_parts infoBool
 obtain ⟨i2,hi2,hy0,hy1,hy2⟩:=info_parts infoBools
 have hgl:=Lib.hid h'.len
 have HG:=Lib.hid hg
 have H':=Lib.hid h'
 have HBF:Hid (begTo g n'=begL g):=by unfold Hid begTo begL;rw[List.take_of_length_le (by rw[h'.len];exact Nat.le_refl _)]
 clear h' hg
 go_enter Tryz.func75,Tryz.ntmps75
 go_wp2_with fail
 have fsz:(w.alloc (.cells #[.int .i64 cells,.slice a n c,.int .i64 sum,.slice a' n' c'] 28)).heap.size=w.heap.size+1:=by simp only[World.size_alloc]
 have fB:Below w.heap.size w (w.alloc (.cells #[.int .i64 cells,.slice a n c,.int .i64 sum,.slice a' n' c'] 28)):=(Below.refl _ _).alloc (Nat.le_refl _) _
 have fq0:(w.alloc (.cells #[.int .i64 cells,.slice a n c,.int .i64 sum,.slice a' n' c'] 28)).heap[w.heap.size]?=some (.cells #[.int .i64 cells,.slice a n c,.int .i64 sum,.slice a' n' c'] 28 (0,0)):=by have h:=World.alloc_heap_new w (.cells #[.int .i64 cells,.slice a n c,.int .i64 sum,.slice a' n' c'] 28);exact h
 generalize (w.alloc (.cells #[.int .i64 cells,.slice a n c,.int .i64 sum,.slice a' n' c'] 28))=W0 at fsz fB fq0 ⊢
 have HQ:=Lib.hid fq0
 have fsz':w.heap.size<W0.heap.size:=by omega
 clear fq0 fsz
 go_loopw [3,4,5,6] (fun ov iv _ _ wr=>∃(k:Nat) (vs:List Value),k≤n'∧iv = .int .i64 k∧vs.length=k∧OB wr W0.heap.size ov (n'+1) vs (begTo g k)∧Below W0.heap.size W0 wr) (fun _ iv _ _ _=>n' - (intOf iv).toNat)
 case atStart=>exact ⟨0,[],by omega,rfl,rfl,OB.nil _ _ _,Below.refl _ _⟩
 case round =>
  obtain ⟨k,vs,hk,rfl,hvl,hob,hbr⟩:=hrel
  have HVL:=Lib.hid hvl
  have hvk:vs.length≤256:=by omega
  clear hvl
  obtain ⟨av,cv,e9⟩:=owns_shape hob.own
  subst e9
  have hBr:=keep_trans fB hbr
  have x3:wr.cell? ⟨w.heap.size,3,none⟩=some (.slice a' n' c'):=q_cell (keepq hbr HQ.out) 3
  have xl:=q_lt (keepq hbr HQ.out)
  by_cases hlt:k<n'
  ·have hki:(k:Int)<(n':Int):=by omega
   have HOB:=Lib.hid hob
   clear hob
   go_wp2_with (refine wpList_make_full _ rfl _ _ 133 rfl wr.heap.size 4 i0 (.bool false) 1 Tryz.underlying133 hi hz0 hz1 _ _ _ _ (n'+1) rfl rfl (by simp) (by simp) (by rw[hz2];omega) (by unfold maxLen;omega) (Nat.le_refl _) ?_;intro W4 hown4 hgr4)
   rw[made_false] at hown4
   have hB4:Below wr.heap.size wr W4:=(Below.refl wr.heap.size wr).grown hgr4 (Nat.le_refl _) (fun k e=>by cases e)
   have hx:=HG.out k hlt
   have HBM:Hid (∀m:Nat,1≤m→m≤n'→(begM n' (g[k]?.getD 0)).testBit (m - 1)=((g[k]?.getD 0==0)||(g[k]?.getD 0==(m:Int)))):=fun m h1 h2=>begM_bit hx.1 h1 h2
   have HBS:Hid (begTo g (k+1)=begTo g k++[begM n' (g[k]?.getD 0)]):=by unfold Hid;rw[begTo_succ (by rw[hgl.out];exact hlt),hgl.out]
   obtain ⟨b5,o5,rfl,hb5,hc5⟩:=(H'.out.mono hBr).2 k hlt
   generalize begM n' (g[k]?.getD 0)=M at HBM HBS
   generalize g[k]?.getD 0=xv at hc5 HBM hx
   rw[← bitsTo_one (n'+1) M] at hown4
   have hsz:=HOB.out.own
   have HV:Hid (∀j,(Value.slice av vs.length cv).ownBlock=some j→W0.heap.size≤j∧j<wr.heap.size):=fun j e=>hsz.lt j e
   have hW0:=hbr.size
   clear hsz hgr4
   go_loopg [6] (n'+1) (fun gk mv wv=>∃m:Nat,gk=n'+2 - m∧1≤m∧m≤n'+1∧mv = .int .i64 m∧wv.ownsRow wr.heap.size 4 1 (.slice (some ⟨wr.heap.size,0,none⟩) (n'+1) (n'+1)) (n'+1) (bitsTo (n'+1) M m)∧Below wr.heap.size wr wv)
   case atStart=>exact ⟨1,by omega,by omega,by omega,rfl,hown4,hB4⟩
   case round =>
    clear hown4 hB4
    obtain ⟨m,rfl,hm1,hm,rfl,hown,hbm⟩:=hrel
    have hBm:=keep_trans hBr hbm
    have y3:wr.cell? ⟨w.heap.size,3,none⟩=some (.slice (some ⟨b5,o5,none⟩) n' c'):=q_cell (keepq (keep_trans hbr hbm) HQ.out) 3
    have yl:=q_lt (keepq (keep_trans hbr hbm) HQ.out)
    have c5:=((bcell hbm).1 b5 _ hb5).trans hc5
    have c5l:=Nat.lt_of_lt_of_le hb5 hbm.size
    by_cases hltm:m<n'+1
    ·have hmi:(m:Int)≤(n':Int):=by omega
     have hmi2:(m:Int)<((n'+1:Nat):Int):=by omega
     obtain ⟨g9,c9,x9,e9,_,hcell9,hfr9,hlt9,hn9⟩:=owns_free (owns_base hown (Nat.zero_le _)) m hltm
     simp only[Value.slice.injEq,Option.some.injEq,Addr.mk.injEq,true_and,and_true] at e9
     obtain ⟨e9,hcap9⟩:=e9
     subst e9
     have hbit:=HBM.out m hm1 (by omega)
     have hnx:=bitsTo_set (r:=n'+1) (M:=M) hm1
     rw[hbit] at hnx
     have HSO:=Lib.hid (owns_set hown m (.bool ((xv==0)||(xv==(m:Int)))))
     rw[hnx] at HSO
     have HSB:Hid (∀u,Below _ _ (wr.setCell ⟨_,m,none⟩ u)):=fun u=>hbm.setCell (p:=⟨_,m,none⟩) (Nat.le_refl _) u
     clear hbit hnx hown HBM hcap9
     by_cases h0:xv=0
     ·have h1:((xv==0)||(xv==(m:Int)))=true:=by rw[h0];rfl
      rw[h1] at HSO
      subst h0
      clear h1
      go_wp2_with fail
      go_roundg (n'+2 - (m+1))
      case measure=>omega
      case rel=>exact ⟨m+1,rfl,by omega,by omega,by go_num,HSO.out,HSB.out _⟩
     ·have h0':((xv:Int)==0)=false:=by simpa using h0
      rw[h0',Bool.false_or] at HSO
      by_cases h1:xv=(m:Int)
      ·have h1':((xv:Int)==(m:Int))=true:=by simpa using h1
       rw[h1'] at HSO
       clear h0 h1
       go_wp2_with fail
       go_roundg (n'+2 - (m+1))
       case measure=>omega
       case rel=>exact ⟨m+1,rfl,by omega,by omega,by go_num,HSO.out,HSB.out _⟩
      ·have h1':((xv:Int)==(m:Int))=false:=by simpa using h1
       rw[h1'] at HSO
       clear h0 h1
       go_wp2_with fail
       go_roundg (n'+2 - (m+1))
       case measure=>omega
       case rel=>exact ⟨m+1,rfl,by omega,by omega,by go_num,HSO.out,HSB.out _⟩
    ·have e:n'+1=m:=by omega
     subst e
     have hmi:¬((n'+1:Nat):Int)≤(n':Int):=by omega
     rw[bitsTo_full] at hown
     have hob2:=HOB.out.below hbm
     have hra:=hob2.own
     have HOW:=Lib.hid hown
     have HO2:=Lib.hid hob2
     clear hown hob2
     go_wp2_with (first|(at_builtin;refine wpList_append_own2 _ rfl _ _ 128 rfl 133 i2 (.slice none 0 0) 1 24 Tryz.underlying128 hi2 hy0 hy1 hy2 rfl (by decide) _ _ _ rfl (owns_base (hra.alloc _) (Nat.zero_le _)) ⟨wr.heap.size,0,none⟩ 1 1 [.slice (some ⟨_,0,none⟩) (n'+1) (n'+1)] rfl rfl (cell_one_new _ _ _) (by simp[Value.oneCell']) (by unfold maxLen;omega) (by omega) ?_))
     intro v' w8 hown' hgrow hnew
     have hs8:=grow_stays hgrow
     have hwsz:=hbm.size
     have hnew2:∀k,v'.ownBlock=some k→(Value.slice av vs.length cv).ownBlock=some k∨wr.heap.size≤k:=fun k e=>(hnew k e).imp id (fun h=>by first|omega|(simp at h;omega))
     have hup:∀k,v'.ownBlock=some k→W0.heap.size≤k:=fun k e=>(hnew2 k e).elim (fun h=>(HV.out k h).1) (fun h=>by omega)
     have hob8:=HO2.out.snoc (M:=M) (owns_base HOW.out hW0) (fun e=>by have:=(HV.out _ e).2;omega) (fun j g' c9 e=>by
      have hj:=(List.getElem?_eq_some_iff.1 e).1
      obtain ⟨g7,c7,e7,ho7,_⟩:=HOB.out.row j hj
      rw[e7] at e
      cases e
      have:=(ho7.lt g' rfl).2
      omega) hs8 (owns_up hown' hup) hnew2
     have hB8:Below W0.heap.size W0 w8:=(keep_trans hbr hbm).trans (hs8.below (by omega) (fun k e=>(HV.out k e).1))
     have HO8:=Lib.hid hob8
     rw[← HBS.out] at HO8
     clear hown' hgrow hnew hob8 hs8 hup
     obtain ⟨a8,c8,e8⟩:=owns_shape HO8.out.own
     subst e8
     go_wp2_with fail
     go_roundw
     case rel=>exact ⟨k+1,_,by omega,by go_num,by rw[List.length_append,HVL.out];rfl,HO8.out,hB8⟩
     case measure=>simp[intOf];omega
  ·have e:n'=k:=by omega
   subst e
   have hki:¬(n':Int)<(n':Int):=by omega
   rw[HBF.out] at hob
   have HOB:=Lib.hid hob
   clear hob
   go_wp2_with fail
   go_ret
   exact ⟨_,vs,rfl,HOB.out.low fB.size,HVL.out,hBr⟩
end
end Go.Proofs.YtcblpobiefmjmaaGreat
