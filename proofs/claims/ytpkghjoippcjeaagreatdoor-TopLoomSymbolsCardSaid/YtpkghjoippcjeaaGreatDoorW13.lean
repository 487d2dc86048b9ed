/- Texts R0 to S1 of this proof, in one file. -/
import Derived.Test.YtpkghjoippcjeaaGreatDoorW02
import Derived.Test.YtpkghjoippcjeaaGreatDoorW03
import Derived.Test.YtpkghjoippcjeaaGreatDoorW04
import Derived.Test.YtpkghjoippcjeaaGreatDoorW08
namespace Go.Proofs.YtpkghjoippcjeaaGreatDoor
set_option maxRecDepth 100000
set_option maxHeartbeats 16000000
section
open Go Go.RowKit
theorem run_append_nothing {P:Program} (w:World) (t ty e:TypeId) (i:TypeInfo) (ht:P.underlying t=some (.slice e)) (hi:P.info? e=some i) (b:Option Addr) (n cap c:Nat) (h:n≤cap) :
  (Builtin.append_ #[t,t] ty #[.slice b n cap,.slice none 0 c]).run P w = .ok (.slice b n cap) w:=by
 cases b with
 | none=>simp[Builtin.append_,run_underlying ht,sizeOf,typeInfo,hi,Builtin.lenOf,Builtin.firstCells,h]
 | some a=>simp[Builtin.append_,run_underlying ht,sizeOf,typeInfo,hi,Builtin.lenOf,Builtin.firstCells,h,storeCells]
def SrcOk (w:World) (ad:Option Addr) (m:Nat) (news:List Value):Prop:=(∃p,ad=some p∧∀j u,news[j]?=some u→w.cell? (p.add j)=some u)∨(ad=none∧m=0)
theorem wpList_append_any {P:Program} (w:World) {ops:Array Oper} {rest:List Oper} {o:Oper} {a:Act} {Q:Exit→Act→World→Prop} (hgd:o.guard=none) (s x:Operand) (t:TypeId)
  (ho:o.op = .call { callee := .builtin .append,args:=#[s,x],argTypes:=#[t,t] })
  (B:Nat) (e:TypeId) (i:TypeInfo) (z:Value) (bytes:Nat) (ht:P.underlying t=some (.slice e)) (hi:P.info? e=some i) (hz:i.zero=some z)
  (hsize:i.size=1) (hby:i.bytes=bytes) (hzs:z.cells.size=1)
  (v:Value) (n:Nat) (xs:List Value) (hs:a.eval s=v) (hown:w.ownsRow B e 1 v n xs) (hB:B≤w.heap.size)
  (ad:Option Addr) (m c:Nat) (news:List Value) (hx:a.eval x = .slice ad m c) (hl:news.length=m) (hnews:SrcOk w ad m news) (h1:∀u∈news,u.oneCell'=true)
  (h63:n+m≤maxLen) (hbytes:(n+m)*bytes≤140737488355328)
  (h:∀v' w',w'.ownsRow B e 1 v' (n+m) (xs++news)→Stays (fun k=>v.ownBlock=some k) w w'→(∀k,v'.ownBlock=some k→v.ownBlock=some k∨w.heap.size≤k)→wpList P ops Q rest (a.put o.dst v') w'):wpList P ops Q (o :: rest) a w:=by
 rcases hnews with ⟨p,rfl,hn⟩|⟨rfl,rfl⟩
 ·refine wpList_append_own2 w hgd s x t ho e i z 1 bytes ht hi hz hsize hby hzs (by decide) v n xs hs (owns_base hown (Nat.zero_le _)) p m c news hx (by omega) hn h1 h63 hbytes ?_
  intro v' w' ho' hg hk
  refine h v' w' ?_ (Stays.grown hg (fun k e=>e)) hk
  refine ⟨ho'.1,ho'.2.imp id ?_⟩
  rintro ⟨g,cap,cur,rfl,_,r⟩
  refine ⟨g,cap,cur,rfl,?_,r⟩
  rcases hk g rfl with e|e
  ·exact (hown.lt g e).1
  ·omega
 ·have hn:news=[]:=List.eq_nil_of_length_eq_zero hl
  subst hn
  obtain ⟨b,cap,hv,hcap⟩:∃b cap,v = .slice b n cap∧n≤cap:=by
   rcases hown.2 with ⟨h2,h3⟩|⟨g,cap,cur,h2,_,_,h3,_⟩
   ·exact ⟨none,0,by rw[h2,h3],by omega⟩
   ·exact ⟨_,cap,h2,h3⟩
  refine wpList_plain hgd fun _ hK=>?_
  have hr:=run_append_nothing (P:=P) w t o.type e i ht hi b n cap c hcap
  unfold Oper.wp execOp
  simp only[ho,resolve,invoke,builtin,Sem.run_bind,Sem.run_pure,Result.andThen_ok,List.map_toArray,List.map_cons,List.map_nil,hs,hv,hx,hr]
  refine hK _ _ ?_
  rw[← hv]
  exact h v w (by simpa using hown) (Stays.refl _ _) (fun k e => .inl e)
theorem IC.stays {S:Nat→Prop} {W W':World} {a:Option Addr} {n:Nat} {xs:List Int} (h:IC W a n xs) (hs:Stays S W W') (hn:∀b o,0<n→a=some ⟨b,o,none⟩→¬S b):IC W' a n xs :=
 ⟨h.1,fun k hk=>by
  obtain ⟨b,off,e,hlt,hc⟩:=h.2 k hk
  exact ⟨b,off,e,Nat.lt_of_lt_of_le hlt hs.size,(hs.cell hlt (hn b off (by omega) e)).trans hc⟩⟩
def noB:Nat→Prop:=fun _=>False
theorem RowsI.below {W W':World} {L:Nat} {v:Value} {pre:List (Value × List Int)} (h:RowsI W noB L v pre) (hb:Below W.heap.size W W'):RowsI W' noB L v pre :=
 ⟨owns_keep h.1 (fun k _ hl=>hb.block k hl),h.2.1,fun x hx=>⟨owns_keep (h.2.2 x hx).1 (fun k _ hl=>hb.block k hl),(h.2.2 x hx).2⟩⟩
def RV (w:World) (vs:List Value) (xss:List (List Int)):Prop:=vs.length=xss.length∧∀k,k<vs.length→∃a n c,vs[k]?=some (.slice a n c)∧IC w a n (xss[k]?.getD [])∧n≤c
theorem RV.mono {w w':World} {vs:List Value} {xss:List (List Int)} (h:RV w vs xss) (hb:Below w.heap.size w w'):RV w' vs xss :=
 ⟨h.1,fun k hk=>by
  obtain ⟨a,n,c,e,hi,hc⟩:=h.2 k hk
  exact ⟨a,n,c,e,hi.mono hb,hc⟩⟩
theorem RV.one {w:World} {vs:List Value} {xss:List (List Int)} (h:RV w vs xss):∀u∈vs,u.oneCell'=true:=by
 intro u hu
 obtain ⟨k,hk,e⟩:=List.getElem_of_mem hu
 obtain ⟨a,n,c,e2,_⟩:=h.2 k hk
 rw[List.getElem?_eq_getElem hk,e] at e2
 cases e2
 rfl
theorem RV.app {w:World} {vs vs':List Value} {xss xss':List (List Int)} (h:RV w vs xss) (h':RV w vs' xss'):RV w (vs++vs') (xss++xss'):=by
 refine ⟨by rw[List.length_append,List.length_append,h.1,h'.1],fun k hk=>?_⟩
 rw[List.length_append] at hk
 by_cases hl:k<vs.length
 ·obtain ⟨a,n,c,e,hi,hc⟩:=h.2 k hl
  refine ⟨a,n,c,by rw[List.getElem?_append_left hl];exact e,?_,hc⟩
  rw[List.getElem?_append_left (by rw[← h.1];exact hl)]
  exact hi
 ·obtain ⟨a,n,c,e,hi,hc⟩:=h'.2 (k - vs.length) (by omega)
  refine ⟨a,n,c,by rw[List.getElem?_append_right (by omega)];exact e,?_,hc⟩
  rw[List.getElem?_append_right (by rw[← h.1];omega),← h.1]
  exact hi
theorem rc_vals {w:World} {a:Option Addr} {n:Nat} {xss:List (List Int)} (h:RC w a n xss):∃vs,SrcOk w a n vs∧RV w vs xss∧vs.length=n:=by
 cases n with
 | zero =>
  have hx:xss=[]:=List.eq_nil_of_length_eq_zero h.len
  subst hx
  refine ⟨[],?_,⟨rfl,fun k hk=>absurd hk (by simp)⟩,rfl⟩
  cases a with
  | none=>exact .inr ⟨rfl,rfl⟩
  | some p=>exact .inl ⟨p,rfl,fun j u hu=>by simp at hu⟩
 | succ n =>
  obtain ⟨b,off,_,_,_,rfl,_⟩:=h.2 0 (by omega)
  refine ⟨(List.range (n+1)).map fun k=>(w.cell? ⟨b,off+k,none⟩).getD undef,.inl ⟨_,rfl,fun j u hu=>?_⟩,⟨by simp[h.len],fun k hk=>?_⟩,by simp⟩
  ·have hj:j<n+1:=by
    have:=(List.getElem?_eq_some_iff.1 hu).1
    simpa using this
   obtain ⟨b2,off2,a',n',c',e,_,hc,_⟩:=h.2 j hj
   cases e
   rw[List.getElem?_map,List.getElem?_range hj,Option.map_some] at hu
   have hadd:((⟨b,off,none⟩:Addr).add j)=⟨b,off+j,none⟩:=by unfold Addr.add;split <;> simp_all
   rw[hadd,hc]
   rw[hc] at hu
   exact hu
  ·have hj:k<n+1:=by simpa using hk
   obtain ⟨b2,off2,a',n',c',e,_,hc,hi,hcap⟩:=h.2 k hj
   cases e
   refine ⟨a',n',c',?_,hi,hcap⟩
   rw[List.getElem?_map,List.getElem?_range hj,Option.map_some,hc]
   rfl
theorem rc_of_rv {w:World} {B n c m:Nat} {a:Option Addr} {e:TypeId} {vs:List Value} {xss:List (List Int)} (h:w.ownsRow B e 1 (.slice a n c) m vs) (hv:RV w vs xss) (hn:m≤17592186044416):RC w a n xss∧n≤c:=by
 have hl:=h.1
 rcases h.2 with ⟨e2,e3⟩|⟨g,cap,cur,e2,_,_,e5,_⟩
 ·simp only[Value.slice.injEq] at e2
  obtain ⟨rfl,rfl,rfl⟩:=e2
  exact ⟨⟨⟨by rw[← hv.1];omega,by omega⟩,fun k hk=>absurd hk (by omega)⟩,Nat.le_refl _⟩
 ·have e9:=e2
  simp only[Value.slice.injEq] at e9
  obtain ⟨rfl,rfl,rfl⟩:=e9
  refine ⟨⟨⟨by rw[← hv.1];omega,hn⟩,fun k hk=>?_⟩,e5⟩
  obtain ⟨g2,cap2,x,hv2,hx,hc,_,hg,_⟩:=owns_free (owns_base h (Nat.zero_le _)) k hk
  cases hv2
  obtain ⟨a',n',c',e6,hi,hcap⟩:=hv.2 k (by omega)
  rw[hx] at e6
  cases e6
  exact ⟨g,0,a',n',c',rfl,hg,by rw[Nat.zero_add,hc],hi,hcap⟩
theorem cell_lt {w:World} {p:Addr} {v:Value} (h:w.cell? p=some v):p.block<w.heap.size:=by
 apply Classical.byContradiction
 intro hn
 have e:w.heap[p.block]?=none:=Array.getElem?_eq_none (by omega)
 unfold World.cell? at h
 rw[e] at h
 cases h
theorem SrcOk.mono {w w':World} {a:Option Addr} {m:Nat} {news:List Value} (h:SrcOk w a m news) (hb:Below w.heap.size w w'):SrcOk w' a m news:=by
 rcases h with ⟨p,rfl,h⟩|h
 ·exact .inl ⟨p,rfl,fun j u hj=>by
   have h1:=h j u hj
   rw[← h1]
   exact hb.cell (cell_lt h1)⟩
 ·exact .inr h
end
end Go.Proofs.YtpkghjoippcjeaaGreatDoor
