/- Texts Y10 to Y11 of this proof, in one file. -/
import Derived.Test.YtcblpobiefmjmaaGreatW31
import Derived.Test.YtcblpobiefmjmaaGreatW32
import Derived.Test.YtcblpobiefmjmaaGreatW46
import Derived.Test.YtcblpobiefmjmaaGreatW48
namespace Go.Proofs.YtcblpobiefmjmaaGreat
set_option maxRecDepth 100000
set_option maxHeartbeats 16000000
section
open Go Go.RowKit
theorem rest_part {cells:Int} {ls:List (List Int)} {sum:Int} {g:List Int} (G:GoodTask cells ls sum g) (hte:taskErr cells ls sum g=0) (h5:(openL g).length≤5) {T:Nat} (hT:T≤10000) {P:List Int} {t:Int} {d:Bool} (hs:(partS ls sum g T).1=(P,t,d)) :
  frestX cells ls sum g P t d=0∧frestL cells ls sum g P t d=restA ls sum g (P,t,d)∧(partS ls sum g T).2++restA ls sum g (P,t,d)=solsL ls sum g []∧stateErr ls sum g P t d=0∧0≤t∧t≤T∧OkG g P:=by
 obtain ⟨h1,h2,h3,h4,h6⟩:=part_ok G T hT
 rw[hs] at h1 h2 h3 h4 h6
 have hc:=sols_count5 G h5
 have hl:=congrArg List.length h6
 rw[List.length_append] at hl
 have hse:stateE cells ls sum g P t d=0:=by rw[state_te hte];exact h2
 have e1:frestE cells ls sum g P t d=0:=by
  unfold frestE
  rw[hse,decide_eq_false (by omega)]
  rfl
 have ex:frestX cells ls sum g P t d=if d=true then 0 else if 256<(solsL ls sum g P).length then 5 else 0:=by unfold frestX;rw[e1,if_neg (by decide)]
 have el:frestL cells ls sum g P t d=if d=true then [] else if 256<(solsL ls sum g P).length then [] else solsL ls sum g P:=by unfold frestL;rw[e1,if_neg (by decide)]
 refine ⟨?_,?_,h6,h2,h3,h4,h1.ok⟩
 ·rw[ex]
  cases d with
  | true=>rfl
  | false =>
   have hr:restA ls sum g (P,t,false)=solsL ls sum g P:=rfl
   rw[hr] at hl
   rw[if_neg (show ¬256<(solsL ls sum g P).length from by omega)]
   rfl
 ·rw[el]
  cases d with
  | true=>rfl
  | false =>
   have hr:restA ls sum g (P,t,false)=solsL ls sum g P:=rfl
   rw[hr] at hl ⊢
   rw[if_neg (show ¬256<(solsL ls sum g P).length from by omega)]
   rfl
def totTo (X:List Int):Nat→Nat
 | 0=>0
 | k+1=>totTo X k+(X[k]?.getD 0 % 201).toNat
theorem totTo_le (X:List Int):∀k,totTo X k≤200*k
 | 0=>Nat.le_refl _
 | k+1=>by
  have:=totTo_le X k
  simp only[totTo]
  omega
end
section
open Go Go.RowKit
def RV (w:World) (vs:List Value) (xss:List (List Int)):Prop:=vs.length=xss.length∧∀k,k<vs.length→∃a n c,vs[k]?=some (.slice a n c)∧IC w a n (xss[k]?.getD [])∧n≤c
theorem RV.mono {w w':World} {vs:List Value} {xss:List (List Int)} (h:RV w vs xss) (hb:Below w.heap.size w w'):RV w' vs xss :=
 ⟨h.1,fun k hk=>by
  obtain ⟨a,n,c,e,hi,hc⟩:=h.2 k hk
  exact ⟨a,n,c,e,hi.mono hb,hc⟩⟩
theorem RV.one {w:World} {vs:List Value} {xss:List (List Int)} (h:RV w vs xss):∀u∈vs,u.oneCell'=true:=by
 intro u hu
 obtain ⟨k,hk,e⟩:=List.getElem_of_mem hu
 obtain ⟨a,n,c,e2,_⟩:=h.2 k hk
 rw[List.getElem?_eq_getElem hk,e] at e2
 cases e2
 rfl
theorem RV.app {w:World} {vs vs':List Value} {xss xss':List (List Int)} (h:RV w vs xss) (h':RV w vs' xss'):RV w (vs++vs') (xss++xss'):=by
 refine ⟨by rw[List.length_append,List.length_append,h.1,h'.1],fun k hk=>?_⟩
 rw[List.length_append] at hk
 by_cases hl:k<vs.length
 ·obtain ⟨a,n,c,e,hi,hc⟩:=h.2 k hl
  refine ⟨a,n,c,by rw[List.getElem?_append_left hl];exact e,?_,hc⟩
  rw[List.getElem?_append_left (by rw[← h.1];exact hl)]
  exact hi
 ·obtain ⟨a,n,c,e,hi,hc⟩:=h'.2 (k - vs.length) (by omega)
  refine ⟨a,n,c,by rw[List.getElem?_append_right (by omega)];exact e,?_,hc⟩
  rw[List.getElem?_append_right (by rw[← h.1];omega),← h.1]
  exact hi
theorem RowsI.rv {W:World} {M:Nat→Prop} {L:Nat} {v:Value} {pre:List (Value × List Int)} (h:RowsI W M L v pre) (hm:∀x,x∈pre→x.2.length≤17592186044416):RV W (pre.map Prod.fst) (pre.map Prod.snd):=by
 refine ⟨by rw[List.length_map,List.length_map],fun k hk=>?_⟩
 rw[List.length_map] at hk
 have hrow:=(h.2.2 _ (List.getElem_mem hk)).1
 obtain ⟨a9,c9,he9⟩:=owns_shape hrow
 rw[he9] at hrow
 have hic:=IC.of_owns hrow (hm _ (List.getElem_mem hk))
 refine ⟨a9,_,c9,by rw[List.getElem?_map,List.getElem?_eq_getElem hk,Option.map_some,he9],?_,hic.2⟩
 rw[List.getElem?_map,List.getElem?_eq_getElem hk]
 exact hic.1
theorem rc_vals {w:World} {a:Option Addr} {n:Nat} {xss:List (List Int)} (h:RC w a n xss):∃vs,SrcOk w a n vs∧RV w vs xss∧vs.length=n:=by
 cases n with
 | zero =>
  have hx:xss=[]:=List.eq_nil_of_length_eq_zero h.len
  subst hx
  refine ⟨[],?_,⟨rfl,fun k hk=>absurd hk (by simp)⟩,rfl⟩
  cases a with
  | none=>exact .inr ⟨rfl,rfl⟩
  | some p=>exact .inl ⟨p,rfl,fun j u hu=>by simp at hu⟩
 | succ n =>
  obtain ⟨b,off,_,_,_,rfl,_⟩:=h.2 0 (by omega)
  refine ⟨(List.range (n+1)).map fun k=>(w.cell? ⟨b,off+k,none⟩).getD undef,.inl ⟨_,rfl,fun j u hu=>?_⟩,⟨by simp[h.len],fun k hk=>?_⟩,by simp⟩
  ·have hj:j<n+1:=by
    have:=(List.getElem?_eq_some_iff.1 hu).1
    simpa using this
   obtain ⟨b2,off2,a',n',c',e,_,hc,_⟩:=h.2 j hj
   cases e
   rw[List.getElem?_map,List.getElem?_range hj,Option.map_some] at hu
   have hadd:((⟨b,off,none⟩:Addr).add j)=⟨b,off+j,none⟩:=by unfold Addr.add;split <;> simp_all
   rw[hadd,hc]
   rw[hc] at hu
   exact hu
  ·have hj:k<n+1:=by simpa using hk
   obtain ⟨b2,off2,a',n',c',e,_,hc,hi,hcap⟩:=h.2 k hj
   cases e
   refine ⟨a',n',c',?_,hi,hcap⟩
   rw[List.getElem?_map,List.getElem?_range hj,Option.map_some,hc]
   rfl
theorem rc_of_rv {w:World} {B n c m:Nat} {a:Option Addr} {e:TypeId} {vs:List Value} {xss:List (List Int)} (h:w.ownsRow B e 1 (.slice a n c) m vs) (hv:RV w vs xss) (hn:m≤17592186044416):RC w a n xss∧n≤c:=by
 have hl:=h.1
 rcases h.2 with ⟨e2,e3⟩|⟨g,cap,cur,e2,_,_,e5,_⟩
 ·simp only[Value.slice.injEq] at e2
  obtain ⟨rfl,rfl,rfl⟩:=e2
  exact ⟨⟨⟨by rw[← hv.1];omega,by omega⟩,fun k hk=>absurd hk (by omega)⟩,Nat.le_refl _⟩
 ·have e9:=e2
  simp only[Value.slice.injEq] at e9
  obtain ⟨rfl,rfl,rfl⟩:=e9
  refine ⟨⟨⟨by rw[← hv.1];omega,hn⟩,fun k hk=>?_⟩,e5⟩
  obtain ⟨g2,cap2,x,hv2,hx,hc,_,hg,_⟩:=owns_free (owns_base h (Nat.zero_le _)) k hk
  cases hv2
  obtain ⟨a',n',c',e6,hi,hcap⟩:=hv.2 k (by omega)
  rw[hx] at e6
  cases e6
  exact ⟨g,0,a',n',c',rfl,hg,by rw[Nat.zero_add,hc],hi,hcap⟩
theorem cell_lt {w:World} {p:Addr} {v:Value} (h:w.cell? p=some v):p.block<w.heap.size:=by
 apply Classical.byContradiction
 intro hn
 have e:w.heap[p.block]?=none:=Array.getElem?_eq_none (by omega)
 unfold World.cell? at h
 rw[e] at h
 cases h
theorem SrcOk.mono {w w':World} {a:Option Addr} {m:Nat} {news:List Value} (h:SrcOk w a m news) (hb:Below w.heap.size w w'):SrcOk w' a m news:=by
 rcases h with ⟨p,rfl,h⟩|h
 ·exact .inl ⟨p,rfl,fun j u hj=>by
   have h1:=h j u hj
   rw[← h1]
   exact hb.cell (cell_lt h1)⟩
 ·exact .inr h
theorem wpList_open {P:Program} {ops:Array Oper} {Q:Exit→Act→World→Prop} {a:Act} {w:World} {rest:List Oper} {dst:Option Tmp} {op:Op} {ty:TypeId} {pos:String} {after:Array Edge} {g:Option (Nat × Bool)} (hw:Region.wanted (Oper.mk dst op ty pos after g) (yielded ops a.tmps)=true) (h:wpList P ops Q (Oper.mk dst op ty pos after none :: rest) a w):wpList P ops Q (Oper.mk dst op ty pos after g :: rest) a w:=by
 simp only[wpList] at h ⊢
 rw[if_pos hw]
 rw[if_pos (by simp[Region.wanted])] at h
 exact h
theorem sameT_self (A:List (List Int)):sameT A A=true:=by simp[sameT]
end
end Go.Proofs.YtcblpobiefmjmaaGreat
