/- Texts H10 to H13 of this proof, in one file. -/
import Derived.Test.YtaadpihbjhachaaGreatW07
import Derived.Test.YtaadpihbjhachaaGreatW10
import Derived.Test.YtaadpihbjhachaaGreatW11
import Derived.Deep.CutBlock
import Derived.Deep.CutRange
import Derived.Laws.EntriesVeiled
namespace Go.Proofs.YtaadpihbjhachaaGreat
set_option maxRecDepth 100000
set_option maxHeartbeats 16000000
section
open Go Go.RowKit
structure Nd where
 kind:ByteArray
 cell:Int
 line:Int
 number:Int
 kids:Int
def kLine:ByteArray:=⟨#[108,105,110,101]⟩
def kCell:ByteArray:=⟨#[99,101,108,108]⟩
def kNumber:ByteArray:=⟨#[110,117,109,98,101,114]⟩
def isK (s k:ByteArray):Bool:=s.toList==k.toList
def ndV (n:Nd):Value := .agg #[.string n.kind,.int .i64 n.cell,.int .i64 n.line,.int .i64 n.number,.int .i64 n.kids]
def ndA (n:Nd):List Value:=[.string n.kind,.int .i64 n.cell,.int .i64 n.line,.int .i64 n.number,.int .i64 n.kids]
def ndsL:List Nd→List Value
 | []=>[]
 | n :: r=>ndA n++ndsL r
theorem ndsL_len:∀T:List Nd,(ndsL T).length=T.length*5
 | []=>rfl
 | n :: r=>by
  have:=ndsL_len r
  simp only[ndsL,List.length_append,this,List.length_cons,ndA]
  simp;omega
theorem ndsL_append:∀(T S:List Nd),ndsL (T++S)=ndsL T++ndsL S
 | [],S=>by simp[ndsL]
 | _ :: r,S=>by simp[ndsL,ndsL_append r S]
theorem ndsL_get:∀(T:List Nd) (k q:Nat) (n:Nd),T[k]?=some n→q<5→(ndsL T)[k*5+q]?=(ndA n)[q]?
 | m :: r,0,q,n,h,hq=>by
  simp only[List.getElem?_cons_zero,Option.some.injEq] at h
  subst h
  simp only[ndsL]
  rw[List.getElem?_append_left (by simp[ndA];omega)]
  simp
 | m :: r,k+1,q,n,h,hq=>by
  simp only[ndsL]
  rw[List.getElem?_append_right (by simp[ndA];omega),show (k+1)*5+q - (ndA m).length=k*5+q from by simp[ndA];omega,ndsL_get r k q n (by simpa using h) hq]
def TC (w:World) (a:Option Addr) (n:Nat) (T:List Nd):Prop :=
 (T.length=n∧n≤4398046511104)∧∀k d,T[k]?=some d→∃b off,a=some ⟨b,off,none⟩∧b<w.heap.size∧w.cell? ⟨b,off+k*5,none⟩=some (.string d.kind)∧w.cell? ⟨b,off+k*5+1,none⟩=some (.int .i64 d.cell)∧w.cell? ⟨b,off+k*5+2,none⟩=some (.int .i64 d.line)∧w.cell? ⟨b,off+k*5+3,none⟩=some (.int .i64 d.number)∧w.cell? ⟨b,off+k*5+4,none⟩=some (.int .i64 d.kids)
theorem TC.mono {w w':World} {a:Option Addr} {n:Nat} {T:List Nd} (h:TC w a n T) (hb:Below w.heap.size w w'):TC w' a n T :=
 ⟨h.1,fun k d hk=>by
  obtain ⟨b,off,e,hlt,c0,c1,c2,c3,c4⟩:=h.2 k d hk
  exact ⟨b,off,e,Nat.lt_of_lt_of_le hlt hb.size,((bcell hb).1 b _ hlt).trans c0,((bcell hb).1 b _ hlt).trans c1,((bcell hb).1 b _ hlt).trans c2,((bcell hb).1 b _ hlt).trans c3,((bcell hb).1 b _ hlt).trans c4⟩⟩
def kidsN (g:List Int) (d:Nd):List (Int × Int) :=
 if isK d.kind kCell=true then (unusedL g).map fun x=>(d.cell,x) else if isK d.kind kNumber=true then (openL g).map fun c=>(c,d.number) else []
def fineN (g:List Int) (d:Nd):Bool :=
 if isK d.kind kCell=true then d.line==0&&d.number==0&&decide (0≤d.cell)&&decide (d.cell<g.length)&&g[d.cell.toNat]?.getD 0==0
 else if isK d.kind kNumber=true then d.line==0&&d.cell==0&&decide (1≤d.number)&&decide (d.number≤g.length)&&!hasB g d.number else false
def okN (g:List Int) (d:Nd):Bool:=fineN g d&&((kidsN g d).length:Int)==d.kids
def lineOk (ls:List (List Int)) (sum:Int) (g:List Int) (d:Nd):Bool :=
 d.cell==0&&d.number==0&&d.kids==0&&decide (0≤d.line)&&decide (d.line<ls.length)&&beyV (ls[d.line.toNat]?.getD []) g sum
def kidsR (f:List Int→List Nd→Option (List Nd)) (g:List Int):List (Int × Int)→List Nd→Option (List Nd)
 | [],T=>some T
 | k :: r,T=>match f (g.set k.1.toNat k.2) T with
  | none=>none
  | some T'=>kidsR f g r T'
def refT (ls:List (List Int)) (sum:Int):Nat→List Int→List Nd→Option (List Nd)
 | 0,_,_=>none
 | _+1,_,[]=>none
 | f+1,g,d :: T =>
  if isK d.kind kLine=true then (if lineOk ls sum g d=true then some T else none)
  else if okN g d=true then kidsR (refT ls sum f) g (kidsN g d) T else none
theorem kidsR_le {f:List Int→List Nd→Option (List Nd)} (hf:∀g T T',f g T=some T'→T'.length≤T.length) (g:List Int):∀(ks:List (Int × Int)) (T T':List Nd),kidsR f g ks T=some T'→T'.length≤T.length
 | [],T,T',h=>by simp only[kidsR,Option.some.injEq] at h;subst h;exact Nat.le_refl _
 | k :: r,T,T',h=>by
  simp only[kidsR] at h
  cases h1:f (g.set k.1.toNat k.2) T with
  | none=>rw[h1] at h;cases h
  | some T1 =>
   rw[h1] at h
   have:=hf _ _ _ h1
   have:=kidsR_le hf g r T1 T' h
   omega
theorem refT_lt (ls:List (List Int)) (sum:Int):∀(f:Nat) (g:List Int) (T T':List Nd),refT ls sum f g T=some T'→T'.length<T.length
 | 0,_,_,_,h=>by cases h
 | _+1,_,[],_,h=>by cases h
 | f+1,g,d :: T,T',h=>by
  simp only[refT] at h
  simp only[List.length_cons]
  split at h
  ·split at h
   ·cases h;omega
   ·cases h
  ·split at h
   ·have:=kidsR_le (fun g T T' e=>Nat.le_of_lt (refT_lt ls sum f g T T' e)) g _ _ _ h
    omega
   ·cases h
theorem kidsR_congr {f f':List Int→List Nd→Option (List Nd)} (hle:∀g T T',f g T=some T'→T'.length≤T.length) {m:Nat} (hf:∀g T,T.length≤m→f g T=f' g T) (g:List Int):∀(ks:List (Int × Int)) (T:List Nd),T.length≤m→kidsR f g ks T=kidsR f' g ks T
 | [],_,_=>rfl
 | k :: r,T,h=>by
  simp only[kidsR]
  rw[← hf _ T h]
  cases h1:f (g.set k.1.toNat k.2) T with
  | none=>rfl
  | some T1 =>
   have:=hle _ _ _ h1
   exact kidsR_congr hle hf g r T1 (by omega)
theorem refT_fuel (ls:List (List Int)) (sum:Int):∀(f f':Nat) (g:List Int) (T:List Nd),T.length<f→T.length<f'→refT ls sum f g T=refT ls sum f' g T
 | 0,_,_,_,h,_=>by omega
 | _+1,0,_,_,_,h=>by omega
 | f+1,f'+1,g,[],_,_=>rfl
 | f+1,f'+1,g,d :: T,h,h'=>by
  simp only[List.length_cons] at h h'
  simp only[refT]
  split
  ·rfl
  ·split
   ·exact kidsR_congr (fun g T T' e=>Nat.le_of_lt (refT_lt ls sum f g T T' e)) (m:=T.length) (fun g2 T2 h2=>refT_fuel ls sum f f' g2 T2 (by omega) (by omega)) g _ T (Nat.le_refl _)
   ·rfl
def provesT (ls:List (List Int)) (sum:Int) (g:List Int) (T:List Nd):Bool:=match refT ls sum (T.length+1) g T with
 | some []=>true
 | _=>false
def madeT (ls:List (List Int)) (sum:Int):Nat→List Int→List Nd
 | 0,_=>[]
 | f+1,g =>
  if 0≤tightLine ls g sum then [⟨kLine,0,tightLine ls g sum,0,0⟩]
  else ⟨kCell,tightCell ls g sum,0,0,(unusedL g).length⟩ :: (unusedL g).flatMap fun x=>madeT ls sum f (g.set (tightCell ls g sum).toNat x)
end
section
open Go Go.RowKit
attribute [local go_sem] over_cell
attribute [local go_sem] Oper.semAt_some
end
section
open Go Go.RowKit Go.Shelf
attribute [local go_sem] over_cell
attribute [local go_sem] Oper.semAt_some
end
section
open Go Go.RowKit
attribute [local go_sem] over_cell
attribute [local go_sem] Oper.semAt_some
theorem infoNode:(Tryz.prog.info? 104).map (fun i=>(i.zero,i.size,i.bytes))=some (some (.agg #[.string ⟨#[]⟩,.int .i64 0,.int .i64 0,.int .i64 0,.int .i64 0]),5,48):=by kernel_rfl
theorem not_hasB {g:List Int} {x:Int} (h:hasB g x=false) (i:Nat) (hi:i<g.length):g[i]?.getD 0≠x:=by
 intro e
 rw[List.getElem?_eq_getElem hi,Option.getD_some] at e
 have:hasB g x=true:=by unfold hasB;rw[List.contains_iff_mem,← e];exact List.getElem_mem hi
 rw[h] at this
 cases this
theorem set_get (g:List Int) (k i:Nat) (x:Int) (hk:k<g.length):(g.set k x)[i]?.getD 0=if i=k then x else g[i]?.getD 0:=by
 by_cases e:i=k
 ·subst e;rw[List.getElem?_set_self hk,if_pos rfl];rfl
 ·rw[List.getElem?_set_ne (fun h=>e h.symm),if_neg e]
theorem GoodTask.put {cells:Int} {ls:List (List Int)} {sum:Int} {g:List Int} (h:GoodTask cells ls sum g) {k:Nat} {x:Int} (hk:k<g.length) (hx:x∈unusedL g):GoodTask cells ls sum (g.set k x):=by
 have hu:=mem_unused.1 hx
 have hl:=h.len
 refine ⟨h.cells1,h.cells2,h.lines,h.sum1,h.sum2,by rw[List.length_set];exact hl,h.some,h.mem,h.asc,fun i hi=>?_,fun i j hij hj hp=>?_⟩
 ·rw[List.length_set] at hi
  rw[set_get g k i x hk]
  split
  ·omega
  ·exact h.num i hi
 ·rw[List.length_set] at hj
  rw[set_get g k i x hk,set_get g k j x hk]
  rw[set_get g k j x hk] at hp
  by_cases e1:i=k
  ·rw[if_pos e1]
   rw[if_neg (by omega)]
   exact fun e=>not_hasB hu.2.2 j hj e.symm
  ·rw[if_neg e1]
   by_cases e2:j=k
   ·rw[if_pos e2];exact not_hasB hu.2.2 i (by omega)
   ·rw[if_neg e2] at hp ⊢
    exact h.apart i j hij hj hp
def okTB (ls:List (List Int)) (sum:Int):Nat→List Int→Bool
 | 0,_=>false
 | f+1,g=>decide (0≤tightLine ls g sum) ||
  (decide (0≤tightCell ls g sum)&&decide (tightCell ls g sum<g.length)&&g[(tightCell ls g sum).toNat]?.getD 0==0&&(unusedL g).all fun x=>okTB ls sum f (g.set (tightCell ls g sum).toNat x))
structure RF (w:World) (L bt bo br gb cg:Nat) (cells:Int) (a:Option Addr) (n c:Nat) (sum:Int) (n':Nat) (g:List Int) (v:Value) (T:List Nd):Prop where
 qt:w.heap[bt]?=some (.cells #[.int .i64 cells,.slice a n c,.int .i64 sum,.slice (some ⟨gb,0,none⟩) n' cg] 27 (0,0))
 qo:w.heap[bo]?=some (.cells #[v] 44 (0,0))
 qr:w.heap[br]?=some (.cells #[.func (Fn.func 72) #[] #[.pointer (some ⟨bt,0,none⟩),.pointer (some ⟨bo,0,none⟩),.pointer (some ⟨br,0,none⟩)]] 1 (0,0))
 og:w.ownsRow 0 3 1 (.slice (some ⟨gb,0,none⟩) n' cg) n' (g.map (Value.int .i64))
 ov:w.ownsRow L 104 5 v T.length (ndsL T)
 lt:bt<L∧bo<L∧br<L
 ne:bo≠bt∧bo≠br
 nv:v.ownBlock≠some gb
 gne:gb≠bt∧gb≠bo∧gb≠br
theorem RF.keep {w w':World} {L bt bo br gb cg:Nat} {cells:Int} {a:Option Addr} {n c:Nat} {sum:Int} {n':Nat} {g:List Int} {v:Value} {T:List Nd} (h:RF w L bt bo br gb cg cells a n c sum n' g v T) (hb:Below w.heap.size w w'):RF w' L bt bo br gb cg cells a n c sum n' g v T :=
 ⟨keepq hb h.qt,keepq hb h.qo,keepq hb h.qr,owns_keep h.og (fun i _ hl=>hb.block i hl),owns_keep h.ov (fun i _ hl=>hb.block i hl),h.lt,h.ne,h.nv,h.gne⟩
theorem RF.len {w:World} {L bt bo br gb cg:Nat} {cells:Int} {a:Option Addr} {n c:Nat} {sum:Int} {n':Nat} {g:List Int} {v:Value} {T:List Nd} (h:RF w L bt bo br gb cg cells a n c sum n' g v T):g.length=n':=by
 have:=h.og.1
 rw[List.length_map] at this
 omega
theorem RF.put {w:World} {L bt bo br gb cg:Nat} {cells:Int} {a:Option Addr} {n c:Nat} {sum:Int} {n':Nat} {g:List Int} {v:Value} {T:List Nd} (h:RF w L bt bo br gb cg cells a n c sum n' g v T) (k:Nat) (x:Int):RF (w.setCell ⟨gb,k,none⟩ (.int .i64 x)) L bt bo br gb cg cells a n c sum n' (g.set k x) v T :=
 ⟨q_other h.qt (Ne.symm h.gne.1) _,q_other h.qo (Ne.symm h.gne.2.1) _,q_other h.qr (Ne.symm h.gne.2.2) _,by rw[List.map_set];exact owns_set h.og k _,owns_keep h.ov (fun i e _=>Below.heap_setCell _ _ _ _ (fun e2=>h.nv (by rw[e];simp at e2;rw[e2]))),h.lt,h.ne,h.nv,h.gne⟩
theorem RF.node {w w2:World} {L bt bo br gb cg:Nat} {cells:Int} {a:Option Addr} {n c:Nat} {sum:Int} {n':Nat} {g:List Int} {v v':Value} {T:List Nd} {d:Nd} (h:RF w L bt bo br gb cg cells a n c sum n' g v T)
  (hs:Stays (fun k=>v.ownBlock=some k) w w2) (hown:w2.ownsRow 0 104 5 v' (T.length+1) (ndsL T++ndA d)) (hnew:∀k,v'.ownBlock=some k→v.ownBlock=some k∨w.heap.size≤k) (hL:L≤w.heap.size) :
  RF (w2.setCell ⟨bo,0,none⟩ v') L bt bo br gb cg cells a n c sum n' g v' (T++[d]):=by
 have hg:=h.gne
 have h1:=h.lt
 have hge:∀k,v.ownBlock=some k→L≤k:=fun k e=>owns_ge h.ov e
 have hgl:gb<w.heap.size:=(h.og.lt gb rfl).2
 refine ⟨q_other (stays_q hs h.qt (fun e=>by have:=hge _ e;omega)) (Ne.symm h.ne.1) _,?_,q_other (stays_q hs h.qr (fun e=>by have:=hge _ e;omega)) (Ne.symm h.ne.2) _,
  owns_keep (owns_keep h.og (fun i e hl=>hs.block i hl (fun e2=>by simp only[Value.ownBlock,Option.some.injEq] at e;exact h.nv (by rw[e2,e])))) (fun i e _=>Below.heap_setCell _ _ _ _ (fun e2=>by simp only[Value.ownBlock,Option.some.injEq] at e;simp at e2;omega)),?_,h1,h.ne,?_,h.gne⟩
 ·have:=q_set (i:=0) (stays_q hs h.qo (fun e=>by have:=hge _ e;omega)) v'
  simpa using this
 ·rw[List.length_append,ndsL_append]
  simp only[List.length_cons,List.length_nil,ndsL,List.append_nil]
  refine owns_keep (owns_up hown (fun k e=>(hnew k e).elim (hge k) (fun e2=>by omega))) (fun i e _=>Below.heap_setCell _ _ _ _ (fun e2=>?_))
  have:=(hnew i e).elim (hge i) (fun e2=>by omega)
  simp at e2
  omega
 ·intro e
  rcases hnew gb e with e2|e2
  ·exact h.nv e2
  ·omega
theorem cell_new5 (w:World) (x0 x1 x2 x3 x4:Value) (T:TypeId):∀j u,[x0,x1,x2,x3,x4][j]?=some u→(w.alloc (.cells #[x0,x1,x2,x3,x4] T)).cell? ((⟨w.heap.size,0,none⟩:Addr).add j)=some u:=by
 intro j u hj
 have h:=box_cells w #[x0,x1,x2,x3,x4] T j
 have hj2:(#[x0,x1,x2,x3,x4]:Array Value)[j]?=some u:=by simpa using hj
 rw[hj2] at h
 rw[← h]
 unfold Addr.add
 split
 ·rename_i e;subst e;rfl
 ·simp
theorem flat_take {α:Type} (F:Int→List α) (l:List Int) (k:Nat):((l.take k).flatMap F).length≤(l.flatMap F).length:=by
 have h:l.flatMap F=(l.take k).flatMap F++(l.drop k).flatMap F:=by rw[← List.flatMap_append,List.take_append_drop]
 rw[h,List.length_append]
 omega
theorem flat_snoc {α:Type} (F:Int→List α) (l:List Int) (k:Nat) (hk:k<l.length):(l.take (k+1)).flatMap F=(l.take k).flatMap F++F (l[k]?.getD 0):=by
 rw[take_snoc l 0 k hk,List.flatMap_append]
 simp
theorem set_back {g:List Int} {k:Nat} (h:g[k]?.getD 0=0):g.set k 0=g:=by
 apply List.ext_getElem?
 intro i
 by_cases e:k=i
 ·subst e
  by_cases hl:k<g.length
  ·rw[List.getElem?_set_self hl,List.getElem?_eq_getElem hl]
   rw[List.getElem?_eq_getElem hl] at h
   exact congrArg some h.symm
  ·rw[List.getElem?_eq_none (by rw[List.length_set];omega),List.getElem?_eq_none (by omega)]
 ·rw[List.getElem?_set_ne e]
def MF (bo gb:Nat) (v:Value) (k:Nat):Prop:=k=bo∨k=gb∨v.ownBlock=some k
theorem ref1_c {cells:Int} {ls:List (List Int)} {sum:Int} (w0:World) (L bt bo br gb cg:Nat) (a:Option Addr) (n c n':Nat) (hrc:RC w0 a n ls) (hL0:w0.heap.size≤bt∧w0.heap.size≤bo∧w0.heap.size≤gb):∀(f:Nat) (g:List Int) (v:Value) (T:List Nd) (w:World),RF w L bt bo br gb cg cells a n c sum n' g v T→GoodTask cells ls sum g→Below w0.heap.size w0 w→L≤w.heap.size→okTB ls sum f g=true→T.length+(madeT ls sum f g).length≤1000000000000 →
  Calls Tryz.prog 72 #[.pointer (some ⟨bt,0,none⟩),.pointer (some ⟨bo,0,none⟩),.pointer (some ⟨br,0,none⟩)] w fun e w'=>e = .returned (.tuple #[])∧∃v',RF w' L bt bo br gb cg cells a n c sum n' g v' (T++madeT ls sum f g)∧Stays (MF bo gb v) w w'∧∀k,v'.ownBlock=some k→v.ownBlock=some k∨w.heap.size≤k:=by
 intro f
 induction f with
 | zero=>intro g v T w _ _ _ _ h;simp[okTB] at h
 | succ f ih =>
  intro g v T w hrf hG hB0 hLw hok hbig
  obtain ⟨i0,hi,hz0,hzz,hz2⟩:=info_parts infoNode
  have HIH:=Lib.hid ih
  have HRF:=Lib.hid hrf
  have HG:=Lib.hid hG
  have hMT:Hid (madeT ls sum (f+1) g=if 0≤tightLine ls g sum then [⟨kLine,0,tightLine ls g sum,0,0⟩] else ⟨kCell,tightCell ls g sum,0,0,(unusedL g).length⟩ :: (unusedL g).flatMap fun x=>madeT ls sum f (g.set (tightCell ls g sum).toNat x)):=rfl
  have hOK:Hid ((decide (0≤tightLine ls g sum) ||
  (decide (0≤tightCell ls g sum)&&decide (tightCell ls g sum<g.length)&&g[(tightCell ls g sum).toNat]?.getD 0==0&&(unusedL g).all fun x=>okTB ls sum f (g.set (tightCell ls g sum).toNat x)))=true):=hok
  obtain ⟨av,cv,rfl⟩:=owns_slice4 hrf.ov
  have hgl:=hrf.len
  have hn2:n'≤256:=by have:=hG.glen;omega
  have hic:IC w (some ⟨gb,0,none⟩) n' g:=by
   have hog:=hrf.og
   rw[← hgl] at hog
   have:=(IC.of_owns hog (by omega)).1
   rw[hgl] at this
   exact this
  have x0:w.cell? ⟨bt,0,none⟩=some (.int .i64 cells):=q_cell hrf.qt 0
  have x1:w.cell? ⟨bt,1,none⟩=some (.slice a n c):=q_cell hrf.qt 1
  have x2:w.cell? ⟨bt,2,none⟩=some (.int .i64 sum):=q_cell hrf.qt 2
  have x3:w.cell? ⟨bt,3,none⟩=some (.slice (some ⟨gb,0,none⟩) n' cg):=q_cell hrf.qt 3
  have hbt:=q_lt hrf.qt
  clear ih hrf hG hok
  go_enter Tryz.func72,Tryz.ntmps72
  go_wp2_with fail
  refine (unused_c (.slice a n c) cells sum (some ⟨gb,0,none⟩) n' cg g w hic hn2 (fun k hk=>HG.out.num' k)).mono ?_
  rintro _ w1 ⟨vu,rfl,hownu,hb1⟩
  obtain ⟨au,cu,rfl⟩:=owns_shape hownu
  have HU1:=Lib.hid hownu
  have hul:(unusedL g).length≤256:=by have:=unusedTo_len g g.length;have:=HG.out.glen;unfold unusedL;omega
  have hicu:=(IC.of_owns hownu (by omega)).1
  have HRF1:=Lib.hid (HRF.out.keep hb1)
  have HIC1:=Lib.hid (hic.mono hb1)
  have hB1:=hB0.trans (hb1.mono hB0.size)
  have y0:w1.cell? ⟨bt,0,none⟩=some (.int .i64 cells):=q_cell HRF1.out.qt 0
  have y1:w1.cell? ⟨bt,1,none⟩=some (.slice a n c):=q_cell HRF1.out.qt 1
  have y2:w1.cell? ⟨bt,2,none⟩=some (.int .i64 sum):=q_cell HRF1.out.qt 2
  have y3:w1.cell? ⟨bt,3,none⟩=some (.slice (some ⟨gb,0,none⟩) n' cg):=q_cell HRF1.out.qt 3
  have hbt1:=q_lt HRF1.out.qt
  have HTI:=Lib.hid (tight_c HG.out a n c (some ⟨gb,0,none⟩) n' cg au (unusedL g).length cu w1 (hrc.mono hB1) HIC1.out hicu)
  clear x0 x1 x2 x3 hbt hownu hicu hic
  go_wp2_with fail
  refine HTI.out.mono ?_
  rintro _ w2 ⟨rfl,hb2⟩
  clear y0 y1 y2 y3 hbt1 HTI
  obtain ⟨line,hline⟩:∃x,tightLine ls g sum=x:=⟨_,rfl⟩
  obtain ⟨cell,hcell⟩:∃x,tightCell ls g sum=x:=⟨_,rfl⟩
  rw[hline,hcell] at hMT hOK
  rw[hline,hcell]
  have HRF2:=Lib.hid (HRF1.out.keep hb2)
  have hb12:=hb1.trans (hb2.mono hb1.size)
  have c0:w2.cell? ⟨bo,0,none⟩=some (.slice av T.length cv):=q_cell HRF2.out.qo 0
  have f0:=q_free HRF2.out.qo 0
  have hbo:=q_lt HRF2.out.qo
  have hov:=owns_base HRF2.out.ov (Nat.zero_le _)
  clear hline hcell
  by_cases hl:0≤line
  ·have hM1:Hid (madeT ls sum (f+1) g=[⟨kLine,0,line,0,0⟩]):=by unfold Hid;rw[hMT.out,if_pos hl]
   have hbig2:T.length+1≤1000000000000:=by rw[hM1.out] at hbig;simpa using hbig
   have hge:line≥0:=hl
   clear hbig
   go_wp2_with (first|(at_builtin;refine wpList_append_own2 _ rfl _ _ 44 rfl 104 i0 (.agg #[.string ⟨#[]⟩,.int .i64 0,.int .i64 0,.int .i64 0,.int .i64 0]) 5 48 Tryz.underlying44 hi hz0 hzz hz2 rfl (by decide) _ _ _ rfl (hov.alloc _) ⟨w2.heap.size,0,none⟩ 1 1 [.string ⟨#[108,105,110,101]⟩,.int .i64 0,.int .i64 line,.int .i64 0,.int .i64 0] rfl rfl (cell_new5 _ _ _ _ _ _ _) (by simp[Value.oneCell']) (by unfold maxLen;omega) (by omega) ?_))
   intro v' w3 hown' hgrow hnew
   have hs3:=grow_s0 hgrow
   have hnew2:∀k,v'.ownBlock=some k→(Value.slice av T.length cv).ownBlock=some k∨w2.heap.size≤k:=fun k e=>(hnew k e).imp id (fun h=>by first|omega|(simp at h;omega))
   have HFIN:=Lib.hid (HRF2.out.node (d:=⟨kLine,0,line,0,0⟩) hs3 hown' hnew2 (by have:=hb12.size;omega))
   have hq3:=stays_q hs3 HRF2.out.qo (fun e=>by have:=owns_ge HRF2.out.ov e;have:=HRF2.out.lt;omega)
   have c3:=q_cell hq3 0
   have f3:=q_free hq3 0
   have HN2:=Lib.hid hnew2
   have HS3:=Lib.hid hs3
   obtain ⟨av3,cv3,rfl⟩:=owns_slice4 hown'
   clear hown' hgrow hnew hnew2 hs3 c0 f0 hov
   go_wp2_with fail
   refine bodyPost_ret (v := .tuple #[]) (by simp[results,Tryz.f72,go_sem]) rfl ?_
   refine ⟨rfl,_,by rw[hM1.out];exact HFIN.out,?_,fun k e=>(HN2.out k e).imp id (fun h=>by have:=hb12.size;omega)⟩
   exact ((Below.stays hb12 _).trans (HS3.out.mono (T:=MF bo gb (Value.slice av T.length cv)) (fun k e => .inr (.inr e))) (fun _ e => .inl e)).trans (Stays.setCell (S:=fun k=>k=bo) w3 (p:=⟨bo,0,none⟩) rfl _) (fun _ e => .inl (.inl e))
  ·have hM1:Hid (madeT ls sum (f+1) g=⟨kCell,cell,0,0,(unusedL g).length⟩ :: (unusedL g).flatMap fun x=>madeT ls sum f (g.set cell.toNat x)):=by unfold Hid;rw[hMT.out,if_neg hl]
   have hok2:=hOK.out
   rw[decide_eq_false hl,Bool.false_or] at hok2
   simp only[Bool.and_eq_true,decide_eq_true_eq,beq_iff_eq,List.all_eq_true] at hok2
   obtain ⟨⟨⟨ho1,ho2⟩,ho3⟩,ho4⟩:=hok2
   obtain ⟨cc,rfl⟩:∃cc:Nat,cell=(cc:Int):=⟨cell.toNat,by omega⟩
   rw[Int.toNat_natCast] at ho3 ho4
   have HO4:=Lib.hid ho4
   have HO3:=Lib.hid ho3
   have hcc:cc<n':=by omega
   rw[Int.toNat_natCast] at hM1
   have hbig2:T.length+1≤1000000000000:=by rw[hM1.out] at hbig;simp only[List.length_cons] at hbig;omega
   have hge:¬line≥0:=hl
   have HBIG:=Lib.hid hbig
   clear hbig ho1 ho2 ho3 ho4 hOK
   go_wp2_with (first|(at_builtin;refine wpList_append_own2 _ rfl _ _ 44 rfl 104 i0 (.agg #[.string ⟨#[]⟩,.int .i64 0,.int .i64 0,.int .i64 0,.int .i64 0]) 5 48 Tryz.underlying44 hi hz0 hzz hz2 rfl (by decide) _ _ _ rfl (hov.alloc _) ⟨w2.heap.size,0,none⟩ 1 1 [.string ⟨#[99,101,108,108]⟩,.int .i64 (cc:Int),.int .i64 0,.int .i64 0,.int .i64 ((unusedL g).length:Int)] rfl rfl (cell_new5 _ _ _ _ _ _ _) (by simp[Value.oneCell']) (by unfold maxLen;omega) (by omega) ?_))
   intro v' w3 hown' hgrow hnew
   have hs3:=grow_s0 hgrow
   have hnew2:∀k,v'.ownBlock=some k→(Value.slice av T.length cv).ownBlock=some k∨w2.heap.size≤k:=fun k e=>(hnew k e).imp id (fun h=>by first|omega|(simp at h;omega))
   have HFIN:=Lib.hid (HRF2.out.node (d:=⟨kCell,cc,0,0,(unusedL g).length⟩) hs3 hown' hnew2 (by have:=hb12.size;omega))
   have hq3:=stays_q hs3 HRF2.out.qo (fun e=>by have:=owns_ge HRF2.out.ov e;have:=HRF2.out.lt;omega)
   have c3:=q_cell hq3 0
   have f3:=q_free hq3 0
   have hbo3:=q_lt hq3
   have HN2:=Lib.hid hnew2
   have HS3:=Lib.hid hs3
   have hz12:=hb12.size
   have HSA:Hid (Stays (MF bo gb (Value.slice av T.length cv)) w (w3.setCell ⟨bo,0,none⟩ v')):=((Below.stays hb12 _).trans (HS3.out.mono (T:=MF bo gb (Value.slice av T.length cv)) (fun k e => .inr (.inr e))) (fun _ e => .inl e)).trans (Stays.setCell (S:=fun k=>k=bo) w3 (p:=⟨bo,0,none⟩) rfl _) (fun _ e => .inl (.inl e))
   have HVA:Hid (∀k,v'.ownBlock=some k→(Value.slice av T.length cv).ownBlock=some k∨w.heap.size≤k):=fun k e=>(HN2.out k e).imp id (fun h=>by omega)
   obtain ⟨av3,cv3,rfl⟩:=owns_slice4 hown'
   have hzz3:w2.heap.size≤w3.heap.size:=hs3.size
   have HUA:Hid ((w3.setCell ⟨bo,0,none⟩ (.slice av3 (T.length+1) cv3)).ownsRow w.heap.size 3 1 (.slice au (unusedL g).length cu) (unusedL g).length ((unusedL g).map (Value.int .i64))):=by
    refine owns_keep HU1.out (fun i e hl=>?_)
    have h1:=owns_ge HU1.out e
    have h2:=(HRF.out.og.lt gb rfl).2
    refine (Below.heap_setCell _ _ _ _ (fun e2=>by have:=q_lt HRF.out.qo;simp at e2;omega)).trans ((hs3.block i (by have:=hb2.size;omega) (fun e2=>by have:=(HRF.out.ov.lt i e2).2;omega)).trans (hb2.block i hl))
   clear hown' hgrow hnew hnew2 hs3 c0 f0 hov
   go_wp2_with fail
   generalize (w3.setCell ⟨bo,0,none⟩ (.slice av3 (T.length+1) cv3))=w4 at HFIN HSA HUA ⊢
   have HAU:Hid (∀k,(Value.slice au (unusedL g).length cu).ownBlock=some k→(Value.slice av3 (T.length+1) cv3).ownBlock≠some k):=fun k e e2=>by
    have h1:=owns_ge HU1.out e
    have h2:=(HU1.out.lt k e).2
    rcases HN2.out k e2 with h3|h3
    ·have:=(HRF.out.ov.lt k h3).2;omega
    ·have:=hb2.size;omega
   go_loopw [7,32] (fun _ i wr=>∃(j:Nat) (vj:Value) (gj:List Int),j≤(unusedL g).length∧i = .int .i64 j∧Hid (RF wr L bt bo br gb cg cells a n c sum n' gj vj (T++⟨kCell,cc,0,0,(unusedL g).length⟩ :: ((unusedL g).take j).flatMap fun x=>madeT ls sum f (g.set cc x)))∧Hid (∀x,gj.set cc x=g.set cc x)∧Hid (Stays (MF bo gb (Value.slice av T.length cv)) w wr)∧Hid (∀k,vj.ownBlock=some k→(Value.slice av T.length cv).ownBlock=some k∨w.heap.size≤k)∧Hid (wr.ownsRow w.heap.size 3 1 (.slice au (unusedL g).length cu) (unusedL g).length ((unusedL g).map (Value.int .i64)))∧Hid (∀k,(Value.slice au (unusedL g).length cu).ownBlock=some k→vj.ownBlock≠some k)) (fun _ i _=>(unusedL g).length - (intOf i).toNat)
   case atStart =>
    exact ⟨0,_,g,by omega,rfl,by unfold Hid;simpa using HFIN.out,fun _=>rfl,HSA.out,HVA.out,HUA.out,HAU.out⟩
   case round =>
    obtain ⟨j,vj,gj,hj,rfl,hrf,hset,hst,hvj,hu,hau⟩:=hrel
    have hggb:=HRF.out.gne
    have x3:wr.cell? ⟨bt,3,none⟩=some (.slice (some ⟨gb,0,none⟩) n' cg):=q_cell hrf.out.qt 3
    have hbt:=q_lt hrf.out.qt
    obtain ⟨g9,cap9,x9,hv9,_,hc9,hf9,hg9,_⟩:=owns_free hrf.out.og cc hcc
    simp only[Value.slice.injEq,Option.some.injEq,Addr.mk.injEq,true_and,and_true] at hv9
    obtain ⟨rfl,hcap9⟩:=hv9
    clear hcap9
    have hci:(cc:Int)<(n':Int):=by omega
    by_cases hlt:j<(unusedL g).length
    ·have hicu:=(IC.of_owns hu.out (by omega)).1
     obtain ⟨bu,ou,rfl,hbu,hcu⟩:=hicu.2 j hlt
     have hji:(j:Int)<((unusedL g).length:Int):=by omega
     have hxm:(unusedL g)[j]?.getD 0∈unusedL g:=by rw[List.getElem?_eq_getElem hlt];exact List.getElem_mem hlt
     have HFS:=Lib.hid (flat_snoc (fun x=>madeT ls sum f (g.set cc x)) (unusedL g) j hlt)
     have HFT:=Lib.hid (flat_take (fun x=>madeT ls sum f (g.set cc x)) (unusedL g) (j+1))
     have HXM:=Lib.hid hxm
     have HX4:=Lib.hid (HO4.out _ hxm)
     clear hxm hicu
     obtain ⟨x,hx⟩:∃x,(unusedL g)[j]?.getD 0=x:=⟨_,rfl⟩
     rw[hx] at hcu HFS HXM HX4
     clear hx
     have HRP:=Lib.hid (hrf.out.put cc x)
     rw[hset.out x] at HRP
     have fb:wr.cell? ⟨br,0,none⟩=some (.func (Fn.func 72) #[] #[.pointer (some ⟨bt,0,none⟩),.pointer (some ⟨bo,0,none⟩),.pointer (some ⟨br,0,none⟩)]):=q_cell hrf.out.qr 0
     have hbr9:=q_lt hrf.out.qr
     have hlts:=HRF.out.lt
     have hne1:¬gb=br:=hggb.2.2
     have hne2:¬br=gb:=Ne.symm hggb.2.2
     go_wp2_with fail
     have hsP:Stays (fun k=>k=gb) wr (wr.setCell ⟨gb,cc,none⟩ (.int .i64 x)):=Stays.setCell (S:=fun k=>k=gb) wr (p:=⟨gb,cc,none⟩) rfl _
     have HSP:=Lib.hid hsP
     have hww:w.heap.size≤wr.heap.size:=hst.out.size
     have hwl:w0.heap.size≤w.heap.size:=hB0.size
     have hB0r:Below w0.heap.size w0 (wr.setCell ⟨gb,cc,none⟩ (.int .i64 x)):=hB0.trans (((hst.out.below (B:=w0.heap.size) hwl (fun k e=>by
      rcases e with e|e|e
      ·omega
      ·omega
      ·have:=owns_ge HRF.out.ov e;omega)).trans (hsP.below (B:=w0.heap.size) (by omega) (fun k e=>by omega))))
     refine (HIH.out (g.set cc x) vj _ _ HRP.out (HG.out.put (by omega) HXM.out) hB0r (by have:=hsP.size;omega) HX4.out (by
      have h1:=HBIG.out
      rw[hM1.out] at h1
      have h2:=HFT.out
      rw[HFS.out] at h2
      simp only[List.length_append,List.length_cons] at h1 h2 ⊢
      omega)).mono ?_
     rintro _ w6 ⟨rfl,v6,hrf6,hst6,hv6⟩
     have hsz6:=hsP.size
     have HRF6:Hid (RF w6 L bt bo br gb cg cells a n c sum n' (g.set cc x) v6 (T++⟨kCell,cc,0,0,(unusedL g).length⟩ :: ((unusedL g).take (j+1)).flatMap fun x=>madeT ls sum f (g.set cc x))):=by
      unfold Hid
      rw[HFS.out]
      simpa using hrf6
     have HS6:Hid (Stays (MF bo gb (Value.slice av T.length cv)) w w6):=(hst.out.trans (hsP.mono (T:=MF bo gb (Value.slice av T.length cv)) (fun k e => .inr (.inl e))) (fun _ e => .inl e)).trans hst6 (fun k e=>by
      rcases e with e|e|e
      ·exact .inl (.inl e)
      ·exact .inl (.inr (.inl e))
      ·exact (hvj.out k e).imp (fun h => .inr (.inr h)) id)
     have HV6:Hid (∀k,v6.ownBlock=some k→(Value.slice av T.length cv).ownBlock=some k∨w.heap.size≤k):=fun k e=>(hv6 k e).elim (fun h=>hvj.out k h) (fun h => .inr (by omega))
     have HU6:Hid (w6.ownsRow w.heap.size 3 1 (.slice (some ⟨bu,ou,none⟩) (unusedL g).length cu) (unusedL g).length ((unusedL g).map (Value.int .i64))):=by
      refine owns_keep hu.out (fun i e hl=>?_)
      have h1:=owns_ge hu.out e
      have h2:=(HRF.out.og.lt gb rfl).2
      have h3:=q_lt HRF.out.qo
      refine (hst6.block i (by omega) (fun e2=>?_)).trans (hsP.block i hl (by omega))
      rcases e2 with e2|e2|e2
      ·omega
      ·omega
      ·exact hau.out i e e2
     have HA6:Hid (∀k,(Value.slice (some ⟨bu,ou,none⟩) (unusedL g).length cu).ownBlock=some k→v6.ownBlock≠some k):=fun k e e2=>(hv6 k e2).elim (fun h=>hau.out k e h) (fun h=>by have:=(hu.out.lt k e).2;omega)
     clear hrf6 hst6 hv6 hsP
     go_wp2_with fail
     go_roundw
     case rel=>exact ⟨j+1,v6,g.set cc x,by omega,by go_num,HRF6.out,fun y=>by rw[List.set_set],HS6.out,HV6.out,HU6.out,HA6.out⟩
     case measure=>simp[intOf];omega
    ·have e:j=(unusedL g).length:=by omega
     subst e
     have HRP:=Lib.hid (hrf.out.put cc 0)
     rw[hset.out 0,set_back HO3.out,List.take_length,← hM1.out] at HRP
     go_wp2_with fail
     go_end0
     exact ⟨rfl,vj,HRP.out,hst.out.trans (Stays.setCell (S:=MF bo gb (Value.slice av T.length cv)) wr (p:=⟨gb,cc,none⟩) (.inr (.inl rfl)) _) (fun _ e => .inl e),hvj.out⟩
end
end Go.Proofs.YtaadpihbjhachaaGreat
