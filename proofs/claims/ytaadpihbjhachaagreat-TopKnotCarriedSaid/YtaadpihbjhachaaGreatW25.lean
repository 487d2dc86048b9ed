/- Texts B16 to B18 of this proof, in one file. -/
import Derived.Test.YtaadpihbjhachaaGreatW13
import Derived.Test.YtaadpihbjhachaaGreatW18
import Derived.Test.YtaadpihbjhachaaGreatW20
import Derived.Lib.AppendZeros
namespace Go.Proofs.YtaadpihbjhachaaGreat
set_option maxRecDepth 100000
set_option maxHeartbeats 16000000
section
open Go Go.RowKit
def kidO (c:Bool) (us:List Int):List Int:=if c=true then us.reverse else us
theorem kidO_mem {c:Bool} {us:List Int} {x:Int}:x∈kidO c us↔x∈us:=by unfold kidO;split <;> simp
theorem kidO_len (c:Bool) (us:List Int):(kidO c us).length=us.length:=by unfold kidO;split <;> simp
theorem cmN_cmN (c:Bool) (N x:Int):cmN c N (cmN c N x)=x:=by
 unfold cmN
 cases c with
 | false=>rfl
 | true=>simp only[if_true];omega
theorem cgN_cmN {c:Bool} {N x:Int} (h:0<x):cgN c N x=cmN c N x:=by
 unfold cgN cmN
 rw[decide_eq_true h,Bool.and_true]
theorem cgN_zero (c:Bool) (N:Int):cgN c N 0=0:=by unfold cgN;simp
theorem unused_asc (g:List Int):(unusedL g).Pairwise (·<·):=by
 unfold unusedL unusedTo
 rw[List.pairwise_map]
 exact (List.pairwise_lt_range.filter _).imp (fun h=>by omega)
theorem movG_at {c:Bool} {p g:List Int} (hp:PermP p) (hpl:p.length=g.length) {i:Nat} (hi:i<g.length):(movG c p g)[(p[i]?.getD 0).toNat]?.getD 0=cgN c g.length (g[i]?.getD 0):=by
 unfold movG
 rw[movL_at hp (by rw[List.length_map];exact hpl) (i:=i) (by rw[List.length_map];exact hi)]
 exact map_get hi
theorem asc_ext {l m:List Int} (hl:l.Pairwise (·<·)) (hm:m.Pairwise (·<·)) (h:∀y,y∈l↔y∈m):l=m:=by
 have h1:l.Nodup:=hl.imp fun h=>Int.ne_of_lt h
 have h2:m.Nodup:=hm.imp fun h=>Int.ne_of_lt h
 exact List.Perm.eq_of_pairwise (le:=(·≤·)) (fun a b _ _ h1 h2=>Int.le_antisymm h1 h2) (hl.imp fun h=>Int.le_of_lt h) (hm.imp fun h=>Int.le_of_lt h) ((List.perm_ext_iff_of_nodup h1 h2).2 h)
theorem moved_unused {c:Bool} {p g:List Int} (hp:PermP p) (hpl:p.length=g.length) (hg:∀i,i<g.length→0≤g[i]?.getD 0∧g[i]?.getD 0≤(g.length:Int)):unusedL (movG c p g)=(kidO c (unusedL g)).map (cmN c g.length):=by
 refine asc_ext (unused_asc _) ?_ (fun y=>?_)
 ·rw[List.pairwise_map]
  unfold kidO
  cases c with
  | false=>exact unused_asc g
  | true =>
   rw[if_pos rfl,List.pairwise_reverse]
   exact (unused_asc g).imp fun h=>by unfold cmN;rw[if_pos rfl,if_pos rfl];omega
 ·rw[List.mem_map]
  constructor
  ·intro hy
   obtain ⟨h1,h2,h3⟩:=mem_unused.1 hy
   rw[movG_len] at h2
   refine ⟨cmN c g.length y,kidO_mem.2 (mem_unused.2 ⟨by unfold cmN;split <;> omega,by unfold cmN;split <;> omega,?_⟩),cmN_cmN _ _ _⟩
   cases hb:hasB g (cmN c g.length y) with
   | false=>rfl
   | true =>
    obtain ⟨i,hi,e⟩:=List.getElem_of_mem (hasB_iff.1 hb)
    have e1:g[i]?.getD 0=cmN c g.length y:=by rw[List.getElem?_eq_getElem hi];exact e
    have h4:=movG_at (c:=c) hp hpl hi
    rw[e1,cgN_cmN (by unfold cmN;split <;> omega),cmN_cmN] at h4
    have h5:=hp.num i (by omega)
    exact absurd h4 (not_hasB h3 (p[i]?.getD 0).toNat (by rw[movG_len];omega))
  ·rintro ⟨x,hx,rfl⟩
   obtain ⟨h1,h2,h3⟩:=mem_unused.1 (kidO_mem.1 hx)
   refine mem_unused.2 ⟨by unfold cmN;split <;> omega,by rw[movG_len];unfold cmN;split <;> omega,?_⟩
   cases hb:hasB (movG c p g) (cmN c g.length x) with
   | false=>rfl
   | true =>
    obtain ⟨j,hj,e⟩:=List.getElem_of_mem (hasB_iff.1 hb)
    rw[movG_len] at hj
    obtain ⟨i,hi,_,e2⟩:=movG_from (c:=c) hp hpl hj
    rw[List.getElem?_eq_getElem (by rw[movG_len];exact hj),Option.getD_some,e] at e2
    have hgi:=hg i hi
    have hpos:0<g[i]?.getD 0:=by
     rcases Int.lt_or_le 0 (g[i]?.getD 0) with h4|h4
     ·exact h4
     ·have h0:g[i]?.getD 0=0:=by omega
      rw[h0,cgN_zero] at e2
      unfold cmN at e2
      split at e2 <;> omega
    rw[cgN_cmN hpos] at e2
    exact absurd (cmN_inj e2).symm (not_hasB h3 i hi)
theorem zero_perm {p l g:List Int} {c:Bool} (hp:PermP p) (hpl:p.length=g.length) (hg:∀i,i<g.length→0≤g[i]?.getD 0∧g[i]?.getD 0≤(g.length:Int)) (hb:∀x,x∈l→0≤x∧x<(p.length:Int)) :
  cntTo (lineI p l) (movG c p g) (lineI p l).length=cntTo l g l.length:=by
 unfold cntTo
 rw[List.take_length,List.take_length]
 have h1:(lineI p l).Perm (l.map fun c=>p[c.toNat]?.getD 0):=List.mergeSort_perm _ _
 rw[(h1.filter _).length_eq,List.filter_map,List.length_map]
 congr 1
 apply List.filter_congr
 intro x hx
 have h2:=hb x hx
 simp only[Function.comp]
 rw[movG_at hp hpl (i:=x.toNat) (by omega)]
 have h3:=hg x.toNat (by omega)
 rw[Bool.eq_iff_iff,beq_iff_eq,beq_iff_eq]
 constructor
 ·intro e
  rcases Int.lt_or_le 0 (g[x.toNat]?.getD 0) with h4|h4
  ·rw[cgN_cmN h4] at e
   unfold cmN at e
   split at e <;> omega
  ·omega
 ·intro e;rw[e,cgN_zero]
theorem sum_cg {N:Int} {g:List Int} (hg:∀i,i<g.length→0≤g[i]?.getD 0):∀{l:List Int},(∀x,x∈l→0≤x∧x<(g.length:Int)) →
  sumAt l (g.map (cgN true N))+sumAt l g+((l.filter fun c=>g[c.toNat]?.getD 0==0).length:Int)*(N+1)=(l.length:Int)*(N+1):=by
 intro l h
 rw[sumAt_map,sumAt_map]
 induction l with
 | nil=>simp
 | cons a l ih =>
  have ha:=h a List.mem_cons_self
  have hga:=hg a.toNat (by omega)
  have ih2:=ih (fun x hx=>h x (List.mem_cons_of_mem _ hx))
  simp only[List.map_cons,List.sum_cons]
  rw[map_get (by omega)]
  have e1:((l.length+1:Nat):Int)*(N+1)=(l.length:Int)*(N+1)+(N+1):=by rw[Int.natCast_add,Int.add_mul];omega
  rw[List.length_cons,e1]
  by_cases h0:g[a.toNat]?.getD 0=0
  ·rw[List.filter_cons_of_pos (by simpa using h0),List.length_cons,h0,cgN_zero]
   have e2:(((l.filter fun c=>g[c.toNat]?.getD 0==0).length+1:Nat):Int)*(N+1)=((l.filter fun c=>g[c.toNat]?.getD 0==0).length:Int)*(N+1)+(N+1):=by rw[Int.natCast_add,Int.add_mul];omega
   rw[e2]
   omega
  ·rw[List.filter_cons_of_neg (by simpa using h0),cgN_cmN (by omega)]
   unfold cmN
   rw[if_pos rfl]
   omega
theorem rev_get {U:List Int} {N:Int} {k:Nat} (hk:k<U.length):((U.reverse).map (cmN true N))[k]?.getD 0=N+1 - U[U.length - 1 - k]?.getD 0:=by
 rw[map_get (by rw[List.length_reverse];exact hk),List.getElem?_reverse hk]
 unfold cmN
 rw[if_pos rfl]
theorem lo_rev {U:List Int} {N:Int}:∀k,k≤U.length→loU ((U.reverse).map (cmN true N)) k+hiU U k=(k:Int)*(N+1)
 | 0,_=>by simp[loU,hiU]
 | k+1,hk=>by
  have ih:=lo_rev (U:=U) (N:=N) k (by omega)
  unfold loU hiU at ih ⊢
  rw[List.range_succ,List.map_append,List.map_append,List.sum_append_int,List.sum_append_int]
  simp only[List.map_cons,List.map_nil,List.sum_cons,List.sum_nil]
  rw[rev_get (by omega)]
  have e2:((k+1:Nat):Int)*(N+1)=(k:Int)*(N+1)+(N+1):=by rw[Int.natCast_add,Int.add_mul];omega
  rw[e2]
  omega
theorem hi_rev {U:List Int} {N:Int}:∀k,k≤U.length→hiU ((U.reverse).map (cmN true N)) k+loU U k=(k:Int)*(N+1)
 | 0,_=>by simp[loU,hiU]
 | k+1,hk=>by
  have ih:=hi_rev (U:=U) (N:=N) k (by omega)
  unfold loU hiU at ih ⊢
  rw[List.range_succ,List.map_append,List.map_append,List.sum_append_int,List.sum_append_int]
  simp only[List.map_cons,List.map_nil,List.sum_cons,List.sum_nil,List.length_map,List.length_reverse] at ih ⊢
  rw[rev_get (by omega),show U.length - 1 - (U.length - 1 - k)=k by omega]
  have e2:((k+1:Nat):Int)*(N+1)=(k:Int)*(N+1)+(N+1):=by rw[Int.natCast_add,Int.add_mul];omega
  rw[e2]
  omega
theorem moved_bey {cells:Int} {ls:List (List Int)} {sum:Int} {g:List Int} (G:GoodTask cells ls sum g) {p:List Int} (hp:PermP p) (hpl:p.length=g.length) {c:Bool} {n:Int} {l:List Int} (hl:l∈ls) (hn:c=true→(l.length:Int)=n) :
  beyV (lineI p l) (movG c p g) (cmS c g.length n sum)=beyV l g sum:=by
 have hg:∀i,i<g.length→0≤g[i]?.getD 0∧g[i]?.getD 0≤(g.length:Int):=fun i hi=>by have:=G.num i hi;have:=G.len;omega
 have hb:∀x,x∈l→0≤x∧x<(p.length:Int):=fun x hx=>by have:=G.bnd hl x hx;have:=G.len;omega
 have hz:=zero_perm (c:=c) hp hpl hg hb
 have hcn:=G.cnt hl
 have hU:=moved_unused (c:=c) hp hpl hg
 have hsm:sumAt (lineI p l) (movG c p g)=sumAt l (g.map (cgN c g.length)):=by
  unfold movG
  exact sumAt_line hp (by rw[List.length_map];exact hpl) hb
 unfold beyV lowV highV
 rw[hz,hU,hsm]
 cases c with
 | false =>
  have e1:(kidO false (unusedL g)).map (cmN false g.length)=unusedL g:=by
   unfold kidO
   rw[if_neg (by decide)]
   conv=>rhs;rw[← List.map_id (unusedL g)]
   exact List.map_congr_left fun x _=>rfl
  have e2:g.map (cgN false g.length)=g:=by
   conv=>rhs;rw[← List.map_id g]
   exact List.map_congr_left fun x _=>rfl
  rw[e1,e2]
  rfl
 | true =>
  have e1:(kidO true (unusedL g)).map (cmN true g.length)=((unusedL g).reverse).map (cmN true g.length):=rfl
  rw[e1]
  have h1:=sum_cg (N:=(g.length:Int)) (fun i hi=>(hg i hi).1) (l:=l) (fun x hx=>by have:=hb x hx;omega)
  have h2:=lo_rev (U:=unusedL g) (N:=(g.length:Int)) _ hcn
  have h3:=hi_rev (U:=unusedL g) (N:=(g.length:Int)) _ hcn
  have e3:(l.filter fun c=>g[c.toNat]?.getD 0==0).length=cntTo l g l.length:=by unfold cntTo;rw[List.take_length]
  rw[e3] at h1
  unfold cmS
  rw[if_pos rfl,← hn rfl]
  generalize (cntTo l g l.length:Nat)=k at *
  generalize (k:Int)*((g.length:Int)+1)=K at *
  generalize (l.length:Int)*((g.length:Int)+1)=L at *
  generalize sumAt l (g.map (cgN true g.length))=a at *
  generalize sumAt l g=b at *
  generalize loU ((unusedL g).reverse.map (cmN true g.length)) k=u1 at *
  generalize hiU ((unusedL g).reverse.map (cmN true g.length)) k=u2 at *
  generalize loU (unusedL g) k=u3 at *
  generalize hiU (unusedL g) k=u4 at *
  rw[Bool.or_comm]
  congr 1
  ·exact decide_eq_decide.2 (by omega)
  ·exact decide_eq_decide.2 (by omega)
theorem movG_set {c:Bool} {p g:List Int} (hp:PermP p) (hpl:p.length=g.length) {k:Nat} (hk:k<g.length) {x:Int} (hx:0<x):movG c p (g.set k x)=(movG c p g).set (p[k]?.getD 0).toNat (cmN c g.length x):=by
 have hkp:=hp.num k (by omega)
 refine get_ext (by rw[movG_len,List.length_set,List.length_set,movG_len]) fun j hj=>?_
 rw[movG_len,List.length_set] at hj
 obtain ⟨i,hi,e1,e2⟩:=movG_from (c:=c) (f:=g.set k x) hp (by rw[List.length_set];exact hpl) (j:=j) (by rw[List.length_set];exact hj)
 rw[List.length_set] at hi e2
 rw[e2,set_get g k i x hk,set_get (movG c p g) _ j _ (by rw[movG_len];omega)]
 by_cases e:i=k
 ·subst e
  rw[if_pos rfl,if_pos (by rw[e1];omega),cgN_cmN hx]
 ·rw[if_neg e,if_neg (fun h=>e (hp.inj i k (by omega) (by omega) (by omega)))]
  have h3:=movG_at (c:=c) hp hpl hi
  rw[e1,Int.toNat_natCast] at h3
  exact h3.symm
def movT (ls:List (List Int)) (sum:Int) (c:Bool) (p:List Int):Nat→List Int→List Nd
 | 0,_=>[]
 | f+1,g =>
  if 0≤tightLine ls g sum then [⟨kLine,0,tightLine ls g sum,0,0⟩]
  else ⟨kCell,p[(tightCell ls g sum).toNat]?.getD 0,0,0,(unusedL g).length⟩ :: (kidO c (unusedL g)).flatMap fun x=>movT ls sum c p f (g.set (tightCell ls g sum).toNat x)
theorem flat_perm {α:Type} (F H:Int→List α):∀l:List Int,(∀x,x∈l→(F x).length=(H x).length)→(l.flatMap F).length=(l.flatMap H).length
 | [],_=>rfl
 | x :: l,h=>by
  rw[List.flatMap_cons,List.flatMap_cons,List.length_append,List.length_append,h x List.mem_cons_self,flat_perm F H l (fun y hy=>h y (List.mem_cons_of_mem _ hy))]
theorem kidO_flat {α:Type} (c:Bool) (F:Int→List α) (us:List Int):((kidO c us).flatMap F).length=(us.flatMap F).length:=by
 have h:(kidO c us).Perm us:=by unfold kidO;split;exact List.reverse_perm us;exact List.Perm.refl _
 exact (h.flatMap_right F).length_eq
theorem movT_len (ls:List (List Int)) (sum:Int) (c:Bool) (p:List Int):∀(f:Nat) (g:List Int),(movT ls sum c p f g).length=(madeT ls sum f g).length
 | 0,_=>rfl
 | f+1,g=>by
  simp only[movT,madeT]
  split
  ·rfl
  ·rw[List.length_cons,List.length_cons,kidO_flat]
   rw[flat_perm _ _ _ (fun x _=>movT_len ls sum c p f (g.set (tightCell ls g sum).toNat x))]
theorem moved_tree {cells:Int} {ls:List (List Int)} {sum:Int} {p:List Int} (hp:PermP p) {c:Bool} {n:Int} (hn:c=true→∀l,l∈ls→(l.length:Int)=n):∀(m:Nat) (g:List Int),p.length=g.length→GoodTask cells ls sum g→(openL g).length=m→(∀f,¬SolF ls sum g f) →
  (∀d,d∈movT ls sum c p (m+1) g→nodeBad g.length d=0)∧∀F,m+1≤F→∀R,refT (ls.map (lineI p)) (cmS c g.length n sum) F (movG c p g) (movT ls sum c p (m+1) g++R)=some R
 | m,g,hpl,G,hm,hns=>by
  have hgl:=G.len
  by_cases ht:0≤tightLine ls g sum
  ·obtain ⟨h1,h2⟩:=tight_line ht
   simp only[movT]
   rw[if_pos ht]
   refine ⟨fun d hd=>?_,fun F hF R=>?_⟩
   ·rw[List.mem_singleton.1 hd]
    unfold nodeBad
    have:kindB kLine=true:=by unfold kindB;rw[kind_vals.1];rfl
    simp only[this]
    rw[decide_eq_false (by decide),decide_eq_false (by omega)]
    rfl
   ·obtain ⟨f,rfl⟩:∃f,F=f+1:=⟨F - 1,by omega⟩
    simp only[List.cons_append,List.nil_append,refT]
    rw[if_pos kind_vals.1,if_pos]
    unfold lineOk
    have hk:(tightLine ls g sum).toNat<ls.length:=by omega
    have hmem:ls[(tightLine ls g sum).toNat]?.getD []∈ls:=by rw[List.getElem?_eq_getElem hk];exact List.getElem_mem hk
    have e3:(ls.map (lineI p))[(tightLine ls g sum).toNat]?.getD []=lineI p (ls[(tightLine ls g sum).toNat]?.getD []):=by
     rw[List.getElem?_map,List.getElem?_eq_getElem hk];rfl
    have e4:beyV ((ls.map (lineI p))[(tightLine ls g sum).toNat]?.getD []) (movG c p g) (cmS c g.length n sum)=true:=by
     rw[e3,moved_bey G hp hpl hmem (fun e=>hn e _ hmem)]
     exact h2
    simp only[BEq.rfl,Bool.true_and]
    rw[decide_eq_true ht,List.length_map,decide_eq_true h1,e4]
    rfl
  ·obtain ⟨h1,h2⟩:=tight_no ht
   have h0:0<(openL g).length:=by
    rcases Nat.eq_zero_or_pos (openL g).length with h0|h0
    ·exact absurd (full_sol G h0 h1) (hns g)
    ·exact h0
   have hmo:=tightTo_open G h0 ls.length (Nat.le_refl _)
   rw[← h2] at hmo
   obtain ⟨hc0,hc1,hc2⟩:=mem_open.1 hmo
   obtain ⟨k,hk⟩:∃k:Nat,tightCell ls g sum=(k:Int):=⟨(tightCell ls g sum).toNat,by omega⟩
   rw[hk] at hc1 hc2
   rw[Int.toNat_natCast] at hc2
   have hcl:k<g.length:=by omega
   have hkp:=hp.num k (by omega)
   obtain ⟨m,rfl⟩:∃q,m=q+1:=⟨m - 1,by omega⟩
   have hU:(unusedL g).length=m+1:=by rw[G.even,hm]
   have hgn:∀i,i<g.length→0≤g[i]?.getD 0∧g[i]?.getD 0≤(g.length:Int):=fun i hi=>by have:=G.num i hi;omega
   have hkid:∀x,x∈unusedL g→(∀d,d∈movT ls sum c p (m+1) (g.set k x)→nodeBad (g.set k x).length d=0)∧∀F,m+1≤F→∀R,refT (ls.map (lineI p)) (cmS c (g.set k x).length n sum) F (movG c p (g.set k x)) (movT ls sum c p (m+1) (g.set k x)++R)=some R:=by
    intro x hx
    have hx1:=mem_unused.1 hx
    have h5:=openL_set (x:=x) hcl hc2 (by omega)
    exact moved_tree hp hn m (g.set k x) (by rw[List.length_set];exact hpl) (G.put hcl hx) (by omega) (fun f hf=>hns f (hf.less hc2))
   have emd:movT ls sum c p (m+1+1) g=⟨kCell,p[(tightCell ls g sum).toNat]?.getD 0,0,0,(unusedL g).length⟩ :: (kidO c (unusedL g)).flatMap fun x=>movT ls sum c p (m+1) (g.set (tightCell ls g sum).toNat x):=by
    show (if 0≤tightLine ls g sum then _ else _)=_
    rw[if_neg ht]
   rw[hk] at emd
   rw[Int.toNat_natCast] at emd
   rw[emd]
   refine ⟨fun d hd=>?_,fun F hF R=>?_⟩
   ·rcases List.mem_cons.1 hd with rfl|hd
    ·unfold nodeBad
     have:kindB kCell=true:=by unfold kindB;rw[kind_vals.2.2];simp
     simp only[this]
     have hle:(unusedL g).length≤g.length:=unusedTo_len g g.length
     rw[decide_eq_false (by omega),decide_eq_false (by omega)]
     rfl
    ·obtain ⟨x,hx,hd⟩:=List.mem_flatMap.1 hd
     have:=(hkid x (kidO_mem.1 hx)).1 d hd
     rwa [List.length_set] at this
   ·obtain ⟨f,rfl⟩:∃f,F=f+1:=⟨F - 1,by omega⟩
    simp only[List.cons_append,refT]
    have hfc:=fine_cell (g:=movG c p g) (d:=⟨kCell,p[k]?.getD 0,0,0,((unusedL g).length:Int)⟩) kind_vals.2.2
    have hmu:=moved_unused (c:=c) hp hpl hgn
    have hml:(unusedL (movG c p g)).length=(unusedL g).length:=by rw[hmu,List.length_map,kidO_len]
    have hat:=movG_at (c:=c) hp hpl hcl
    have hc2':g[k]?.getD 0=0:=by simpa using hc2
    rw[hc2',cgN_zero] at hat
    rw[if_neg (by rw[kind_vals.2.1];decide),if_pos,hfc.2]
    ·have e5:(kidO c (unusedL g)).flatMap (fun x=>movT ls sum c p (m+1) (g.set k x))=(unusedL (movG c p g)).flatMap fun y=>movT ls sum c p (m+1) (g.set k (cmN c g.length y)):=by
      rw[hmu,List.flatMap_map]
      congr 1
      funext x
      rw[cmN_cmN]
     rw[e5]
     have e6:(fun x:Int=>(p[k]?.getD 0,x))=fun x=>(((p[k]?.getD 0).toNat:Int),x):=by
      funext x
      rw[Int.toNat_of_nonneg (by omega)]
     simp only[e6]
     refine kids_flat (unusedL (movG c p g)) R (fun y hy R=>?_)
     rw[hmu,List.mem_map] at hy
     obtain ⟨x,hx,rfl⟩:=hy
     have hx2:=kidO_mem.1 hx
     have h6:=(hkid x hx2).2 f (by omega) R
     rw[List.length_set,movG_set hp hpl hcl (by have:=mem_unused.1 hx2;omega)] at h6
     rw[cmN_cmN]
     exact h6
    ·unfold okN
     rw[hfc.1,hfc.2,List.length_map,hml]
     simp only[BEq.rfl,Bool.true_and,Bool.and_true]
     rw[decide_eq_true (by omega:(0:Int)≤p[k]?.getD 0),decide_eq_true (by rw[movG_len];omega:p[k]?.getD 0<((movG c p g).length:Int)),hat]
     rfl
termination_by m=>m
theorem moved_all {cells:Int} {ls:List (List Int)} {sum:Int} {g:List Int} (G:GoodTask cells ls sum g) (h6:(openL g).length≤6) (hns:(solsL ls sum g []).length=0) {p:List Int} (hp:PermP p) (hpl:p.length=g.length) {c:Bool} {n:Int} (hn:c=true→∀l,l∈ls→(l.length:Int)=n) :
  (movT ls sum c p ((openL g).length+1) g).length≤1957∧treeErr g.length (movT ls sum c p ((openL g).length+1) g)=0∧provesT (ls.map (lineI p)) (cmS c g.length n sum) (movG c p g) (movT ls sum c p ((openL g).length+1) g)=true:=by
 obtain ⟨_,hl,_,_⟩:=made_all G h6 hns rfl
 rw[← movT_len ls sum c p] at hl
 obtain ⟨h3,h4⟩:=moved_tree hp hn (openL g).length g hpl G rfl ((no_sols G).1 hns)
 generalize movT ls sum c p ((openL g).length+1) g=T at hl h3 h4 ⊢
 refine ⟨hl,?_,?_⟩
 ·unfold treeErr
  rw[if_neg (by omega)]
  refine errs_none (fun k hk=>?_)
  unfold ndAt
  rw[List.getElem?_eq_getElem hk]
  exact h3 _ (List.getElem_mem hk)
 ·have h5:=h4 (T.length+1+(openL g).length+1) (by omega) []
  rw[List.append_nil] at h5
  rw[refT_fuel _ _ _ (T.length+1) (movG c p g) T (by omega) (by omega)] at h5
  rw[proves_some h5]
  rfl
end
section
open Go Go.RowKit
def partL (c:Bool) (N:Int) (us:List Int) (F:Int→List Nd) (i:Nat):List Nd:=(us.filter fun x=>cmN c N x==(i:Int)).flatMap F
def partsL (c:Bool) (N:Nat) (us:List Int) (F:Int→List Nd):List (List Nd):=(List.range (N+1)).map (partL c N us F)
theorem partsL_len (c:Bool) (N:Nat) (us:List Int) (F:Int→List Nd):(partsL c N us F).length=N+1:=by unfold partsL;simp
theorem parts_nil (c:Bool) (N:Nat) (F:Int→List Nd):partsL c N [] F=List.replicate (N+1) []:=by
 unfold partsL partL
 simp[List.map_const']
theorem parts_set {c:Bool} {N:Nat} {us:List Int} {F:Int→List Nd} {j:Nat} (hj:j<us.length) (hn:us.Nodup) (hb:∀x,x∈us→1≤x∧x≤(N:Int)) :
  (partsL c N (us.take j) F).set (cmN c N (us[j]?.getD 0)).toNat (F (us[j]?.getD 0))=partsL c N (us.take (j+1)) F:=by
 have hx:us[j]?.getD 0∈us:=by rw[List.getElem?_eq_getElem hj];exact List.getElem_mem hj
 have hbx:=hb _ hx
 have hne:∀y,y∈us.take j→y≠us[j]?.getD 0:=by
  intro y hy e
  obtain ⟨i,hi,e2⟩:=List.getElem_of_mem hy
  rw[List.length_take] at hi
  rw[List.getElem_take] at e2
  rw[List.getElem?_eq_getElem hj,Option.getD_some] at e
  have h2:=List.pairwise_iff_getElem.1 hn i j (by omega) hj (by omega)
  exact h2 (by rw[e2,e])
 rw[take_snoc us 0 j hj]
 generalize us[j]?.getD 0=x at hx hbx hne ⊢
 have hk:0≤cmN c N x∧cmN c N x≤(N:Int):=by unfold cmN;split <;> omega
 refine List.ext_getElem (by rw[List.length_set,partsL_len,partsL_len]) fun i h1 h2=>?_
 rw[partsL_len] at h2
 rw[List.getElem_set]
 simp only[partsL,List.getElem_map,List.getElem_range]
 unfold partL
 rw[List.filter_append,List.flatMap_append]
 by_cases e:(cmN c N x).toNat=i
 ·rw[if_pos e]
  have e1:(us.take j).filter (fun y=>cmN c N y==(i:Int))=[]:=by
   rw[List.filter_eq_nil_iff]
   intro y hy h
   refine hne y hy (cmN_inj (c:=c) (N:=N) ?_)
   have:cmN c N y=(i:Int):=by simpa using h
   omega
  have e2:(cmN c N x==(i:Int))=true:=by rw[beq_iff_eq];omega
  have e3:[x].filter (fun y=>cmN c N y==(i:Int))=[x]:=by simp only[List.filter,e2]
  rw[e1,e3]
  simp
 ·rw[if_neg e]
  have e2:¬(cmN c N x==(i:Int))=true:=by rw[beq_iff_eq];omega
  have e3:[x].filter (fun y=>cmN c N y==(i:Int))=[]:=by simp only[List.filter,Bool.eq_false_iff.2 e2]
  rw[e3]
  simp
theorem asc_split {c:Bool} {N:Int} {F:Int→List Nd} {us:List Int} (ha:us.Pairwise fun x y=>cmN c N x<cmN c N y) (hb:∀x,x∈us→0≤cmN c N x):∀M:Nat,(List.range M).flatMap (partL c N us F)=(us.filter fun x=>decide (cmN c N x<(M:Int))).flatMap F
 | 0=>by
  have:us.filter (fun x=>decide (cmN c N x<((0:Nat):Int)))=[]:=by
   rw[List.filter_eq_nil_iff]
   intro x hx h
   have:=hb x hx
   have h:=of_decide_eq_true h
   omega
  rw[this];rfl
 | M+1=>by
  rw[List.range_succ,List.flatMap_append,asc_split ha hb M]
  have:us.filter (fun x=>decide (cmN c N x<((M+1:Nat):Int)))=us.filter (fun x=>decide (cmN c N x<(M:Int)))++us.filter (fun x=>cmN c N x==(M:Int)):=by
   clear hb
   induction us with
   | nil=>rfl
   | cons x us ih =>
    obtain ⟨h1,h2⟩:=List.pairwise_cons.1 ha
    have ih:=ih h2
    rcases Int.lt_trichotomy (cmN c N x) (M:Int) with h|h|h
    ·rw[List.filter_cons_of_pos (by simp;omega),List.filter_cons_of_pos (by simpa using h),List.filter_cons_of_neg (by simp;omega),ih];rfl
    ·have e:us.filter (fun x=>decide (cmN c N x<(M:Int)))=[]:=by
      rw[List.filter_eq_nil_iff]
      intro y hy h3
      have:=h1 y hy
      have h3:=of_decide_eq_true h3
      omega
     rw[List.filter_cons_of_pos (by simp;omega),List.filter_cons_of_neg (by simp;omega),List.filter_cons_of_pos (by simpa using h),ih,e];rfl
    ·rw[List.filter_cons_of_neg (by simp;omega),List.filter_cons_of_neg (by simp;omega),List.filter_cons_of_neg (by simp;omega),ih]
  rw[this,List.flatMap_append]
  congr 1
  simp[partL]
theorem filter_perm_flat {F:Int→List Nd} {c:Bool} {N:Int} (us:List Int) (i:Nat) (hn:us.Pairwise fun x y=>x<y):partL c N us F i=partL c N (kidO c us) F i:=by
 unfold partL kidO
 split
 ·next h =>
  subst h
  have:(us.filter fun x=>cmN true N x==(i:Int)).length≤1:=by
   have h1:(us.filter fun x=>cmN true N x==(i:Int)).Pairwise (fun x y=>x<y):=hn.filter _
   generalize hL:us.filter (fun x=>cmN true N x==(i:Int))=L at h1
   match L,h1 with
   | [],_=>simp
   | [x],_=>simp
   | x :: y :: r,h1 =>
    have hx:x∈us.filter (fun x=>cmN true N x==(i:Int)):=by rw[hL];simp
    have hy:y∈us.filter (fun x=>cmN true N x==(i:Int)):=by rw[hL];simp
    have ex:cmN true N x=(i:Int):=by simpa using (List.mem_filter.1 hx).2
    have ey:cmN true N y=(i:Int):=by simpa using (List.mem_filter.1 hy).2
    have:=cmN_inj (ex.trans ey.symm)
    have:=(List.pairwise_cons.1 h1).1 y (by simp)
    omega
  rw[List.filter_reverse]
  generalize us.filter (fun x=>cmN true N x==(i:Int))=L at this
  match L,this with
  | [],_=>rfl
  | [x],_=>rfl
  | _ :: _ :: _,h=>simp at h
 ·rfl
theorem parts_all {c:Bool} {N:Nat} {us:List Int} {F:Int→List Nd} (ha:us.Pairwise fun x y=>x<y) (hb:∀x,x∈us→1≤x∧x≤(N:Int)):(partsL c N us F).flatten=(kidO c us).flatMap F:=by
 unfold partsL
 rw[← List.flatMap_def]
 have e:(List.range (N+1)).flatMap (partL c N us F)=(List.range (N+1)).flatMap (partL c N (kidO c us) F):=by
  congr 1
  funext i
  exact filter_perm_flat us i ha
 rw[e,asc_split]
 ·congr 1
  rw[List.filter_eq_self]
  intro x hx
  have:=hb x (kidO_mem.1 hx)
  rw[decide_eq_true_eq]
  unfold cmN;split <;> omega
 ·unfold kidO
  split
  ·next h=>subst h;rw[List.pairwise_reverse];exact ha.imp fun h=>by unfold cmN;simp only[if_true];omega
  ·next h=>exact ha.imp fun h2=>by unfold cmN;rw[if_neg h,if_neg h];exact h2
 ·intro x hx
  have:=hb x (kidO_mem.1 hx)
  unfold cmN;split <;> omega
end
section
open Go Go.RowKit
attribute [local go_sem] over_cell
attribute [local go_sem] Oper.semAt_some
theorem wpList_append_anyN {P:Program} (w:World) {ops:Array Oper} {rest:List Oper} {o:Oper} {a:Act} {Q:Exit→Act→World→Prop} (hgd:o.guard=none) (s x:Operand) (t:TypeId)
  (ho:o.op = .call { callee := .builtin .append,args:=#[s,x],argTypes:=#[t,t] })
  (B:Nat) (e:TypeId) (i:TypeInfo) (z:Value) (size bytes:Nat) (ht:P.underlying t=some (.slice e)) (hi:P.info? e=some i) (hz:i.zero=some z)
  (hsize:i.size=size) (hby:i.bytes=bytes) (hzs:z.cells.size=size) (hsz:0<size)
  (v:Value) (n:Nat) (xs:List Value) (hs:a.eval s=v) (hown:w.ownsRow B e size v n xs) (hB:B≤w.heap.size)
  (ad:Option Addr) (m c:Nat) (news:List Value) (hx:a.eval x = .slice ad m c) (hl:news.length=m*size) (hnews:SrcOk w ad m news) (h1:∀u∈news,u.oneCell'=true)
  (h63:n+m≤maxLen) (hbytes:(n+m)*bytes≤140737488355328)
  (h:∀v' w',w'.ownsRow B e size v' (n+m) (xs++news)→Stays (fun k=>v.ownBlock=some k) w w'→(∀k,v'.ownBlock=some k→v.ownBlock=some k∨w.heap.size≤k)→wpList P ops Q rest (a.put o.dst v') w'):wpList P ops Q (o :: rest) a w:=by
 rcases hnews with ⟨p,rfl,hn⟩|⟨rfl,rfl⟩
 ·refine wpList_append_own2 w hgd s x t ho e i z size bytes ht hi hz hsize hby hzs hsz v n xs hs (owns_base hown (Nat.zero_le _)) p m c news hx hl hn h1 h63 hbytes ?_
  intro v' w' ho' hg hk
  refine h v' w' ?_ (Stays.grown hg (fun k e=>e)) hk
  refine ⟨ho'.1,ho'.2.imp id ?_⟩
  rintro ⟨g,cap,cur,rfl,_,r⟩
  refine ⟨g,cap,cur,rfl,?_,r⟩
  rcases hk g rfl with e|e
  ·exact owns_ge hown e
  ·omega
 ·have hn:news=[]:=List.eq_nil_of_length_eq_zero (by rw[hl,Nat.zero_mul])
  subst hn
  obtain ⟨b,cap,hv,hcap⟩:∃b cap,v = .slice b n cap∧n≤cap:=by
   rcases hown.2 with ⟨h2,h3⟩|⟨g,cap,cur,h2,_,_,h3,_⟩
   ·exact ⟨none,0,by rw[h2,h3],by omega⟩
   ·exact ⟨_,cap,h2,h3⟩
  refine wpList_plain hgd fun _ hK=>?_
  have hr:=run_append_nothing (P:=P) w t o.type e i ht hi b n cap c hcap
  unfold Oper.wp execOp
  simp only[ho,resolve,invoke,builtin,Sem.run_bind,Sem.run_pure,Result.andThen_ok,List.map_toArray,List.map_cons,List.map_nil,hs,hv,hx,hr]
  refine hK _ _ ?_
  rw[← hv]
  exact h v w (by simpa using hown) (Stays.refl _ _) (fun k e => .inl e)
theorem TC.src {w:World} {a:Option Addr} {n:Nat} {T:List Nd} (h:TC w a n T):SrcOk w a n (ndsL T):=by
 cases a with
 | none =>
  refine .inr ⟨rfl,?_⟩
  rcases Nat.eq_zero_or_pos n with e|e
  ·exact e
  ·have hl:=h.1.1
   obtain ⟨_,_,e2,_⟩:=h.2 0 (T[0]'(by omega)) (List.getElem?_eq_getElem _)
   cases e2
 | some p =>
  refine .inl ⟨p,rfl,fun j u hj=>?_⟩
  have hlt:=(List.getElem?_eq_some_iff.1 hj).1
  rw[ndsL_len] at hlt
  have hk:j / 5<T.length:=by omega
  obtain ⟨b,off,e,_,c0,c1,c2,c3,c4⟩:=h.2 (j / 5) (T[j / 5]) (List.getElem?_eq_getElem hk)
  cases e
  have hg:=ndsL_get T (j / 5) (j % 5) (T[j / 5]) (List.getElem?_eq_getElem hk) (by omega)
  rw[show j / 5*5+j % 5=j from by omega,hj] at hg
  have hadd:((⟨b,off,none⟩:Addr).add j)=⟨b,off+j / 5*5+j % 5,none⟩:=by unfold Addr.add;split <;> simp_all <;> omega
  rw[hadd]
  have h5:j % 5<5:=by omega
  generalize j % 5=q at h5 hg ⊢
  match q,h5 with
  | 0,_=>rw[hg];exact c0
  | 1,_=>rw[hg];exact c1
  | 2,_=>rw[hg];exact c2
  | 3,_=>rw[hg];exact c3
  | 4,_=>rw[hg];exact c4
theorem ndsL_one:∀T:List Nd,∀u∈ndsL T,u.oneCell'=true
 | [],u,h=>by simp[ndsL] at h
 | d :: T,u,h=>by
  simp only[ndsL,List.mem_append] at h
  rcases h with h|h
  ·simp only[ndA,List.mem_cons,List.not_mem_nil,or_false] at h
   rcases h with rfl|rfl|rfl|rfl|rfl <;> rfl
  ·exact ndsL_one T u h
def NC (w:World) (a:Option Addr) (n:Nat) (Ts:List (List Nd)):Prop :=
 (Ts.length=n∧n≤1000)∧∀k,k<n→∃b off a' n' c',a=some ⟨b,off,none⟩∧b<w.heap.size∧w.cell? ⟨b,off+k,none⟩=some (.slice a' n' c')∧TC w a' n' (Ts[k]?.getD [])∧n'≤c'
theorem NC.mono {w w':World} {a:Option Addr} {n:Nat} {Ts:List (List Nd)} (h:NC w a n Ts) (hb:Below w.heap.size w w'):NC w' a n Ts :=
 ⟨h.1,fun k hk=>by
  obtain ⟨b,off,a',n',c',e,hlt,hc,hi⟩:=h.2 k hk
  exact ⟨b,off,a',n',c',e,Nat.lt_of_lt_of_le hlt hb.size,((bcell hb).1 b _ hlt).trans hc,hi.1.mono hb,hi.2⟩⟩
theorem zeros_len (m:Nat):(Builtin.zeroCells #[.string ⟨#[]⟩,.int .i64 0,.int .i64 0,.int .i64 0,.int .i64 0] m).size=m*5:=by
 simp[Builtin.zeroCells]
theorem ngrow_c (m:Nat) (w:World) (hm:m≤1000000) :
  Calls Tryz.prog 213 #[.slice none 0 0,.int .i64 (m:Int)] w fun e w'=>∃v,e = .returned v∧w'.ownsRow w.heap.size 104 5 v 0 []∧Below w.heap.size w w':=by
 obtain ⟨i0,hi,hz0,hzz,hz2⟩:∃i0,Tryz.prog.info? 104=some i0∧i0.zero=some (.agg #[.string ⟨#[]⟩,.int .i64 0,.int .i64 0,.int .i64 0,.int .i64 0])∧i0.size=5∧i0.bytes=48:=by
  have h:=infoNode
  cases hi:Tryz.prog.info? 104 with
  | none=>rw[hi] at h;cases h
  | some i0 =>
   rw[hi] at h
   simp only[Option.map_some,Option.some.injEq,Prod.mk.injEq] at h
   exact ⟨i0,rfl,h.1,h.2.1,h.2.2⟩
 have h1:¬((m:Int)<0):=by omega
 by_cases h0:m=0
 ·subst h0
  go_enter Tryz.func213,Tryz.ntmps213
  go_wp2
  go_ret
  exact ⟨_,rfl,World.ownsRow_nil _ _ _ _,Below.refl _ _⟩
 ·have hpos:(m:Int)>0:=by omega
  have hr:=Go.Lib.run_append_nil_zeros (P:=Tryz.prog) w 44 3 44 104 i0 (.agg #[.string ⟨#[]⟩,.int .i64 0,.int .i64 0,.int .i64 0,.int .i64 0]) .i64 .i64 Tryz.underlying44 Tryz.underlying3 hi hz0 m (by omega) (by omega) (by omega) (by rw[hz2];omega)
  go_enter Tryz.func213,Tryz.ntmps213
  go_wp2_with (at_builtin;refine Lib.wpList_append_run _ rfl _ _ _ _ rfl _ _ rfl rfl _ _ hr ?_)
  go_ret
  refine ⟨_,rfl,⟨rfl,.inr ⟨w.heap.size,grownCap w m 0 104,_,rfl,Nat.le_refl _,World.alloc_heap_new _ _,Nat.zero_le _,?_,?_,rfl⟩⟩,((Below.refl _ _).drew.alloc (Nat.le_refl _) _)⟩
  ·exact grownCap_le_maxLen _ _ _ _ (by unfold maxLen;omega)
  ·have:=grownCap_ge w m 0 104;rw[Array.size_append,zeros_len,zeros_len];omega
def catN (Ts:List (List Nd)) (k:Nat):List Nd:=(Ts.take k).flatten
theorem catN_succ {Ts:List (List Nd)} {k:Nat} (h:k<Ts.length):catN Ts (k+1)=catN Ts k++Ts[k]?.getD []:=by
 unfold catN
 rw[take_snoc Ts [] k h,List.flatten_append,List.flatten_singleton]
theorem catN_le (Ts:List (List Nd)) (k:Nat):(catN Ts k).length≤Ts.flatten.length:=by
 unfold catN
 conv=>rhs;rw[← List.take_append_drop k Ts,List.flatten_append,List.length_append]
 omega
theorem nconcat_c (a:Option Addr) (n c:Nat) (Ts:List (List Nd)) (w:World) (h:NC w a n Ts) (hT:Ts.flatten.length≤1000000) :
  Calls Tryz.prog 152 #[.slice a n c] w fun e w'=>∃v,e = .returned v∧w'.ownsRow w.heap.size 104 5 v Ts.flatten.length (ndsL Ts.flatten)∧Below w.heap.size w w':=by
 obtain ⟨i0,hi,hz0,hzz,hz2⟩:∃i0,Tryz.prog.info? 104=some i0∧i0.zero=some (.agg #[.string ⟨#[]⟩,.int .i64 0,.int .i64 0,.int .i64 0,.int .i64 0])∧i0.size=5∧i0.bytes=48:=by
  have h:=infoNode
  cases hi:Tryz.prog.info? 104 with
  | none=>rw[hi] at h;cases h
  | some i0 =>
   rw[hi] at h
   simp only[Option.map_some,Option.some.injEq,Prod.mk.injEq] at h
   exact ⟨i0,rfl,h.1,h.2.1,h.2.2⟩
 have H:=Lib.hid h
 have hn:=h.1.2
 have hll:=Lib.hid h.1.1
 have HS:Hid (∀k,k<n→catN Ts (k+1)=catN Ts k++Ts[k]?.getD []):=fun k hk=>catN_succ (by rw[h.1.1];exact hk)
 have HE:Hid (catN Ts n=Ts.flatten):=by unfold Hid catN;rw[← h.1.1,List.take_length]
 have HB:Hid (∀k,(catN Ts k).length≤1000000):=fun k=>Nat.le_trans (catN_le Ts k) hT
 have H0:Hid (catN Ts 0=[]):=rfl
 generalize Ts.flatten=F at HE hT ⊢
 generalize hcat:catN Ts=C at HS HE HB H0
 clear hcat h
 go_enter Tryz.func152,Tryz.ntmps152
 go_wp2
 go_loop [3,5,11] (fun s _ i=>∃k:Nat,k≤n∧i = .int .i64 k∧s = .int .i64 ((C k).length:Int)) (fun _ _ i=>n - (intOf i).toNat)
 case atStart=>exact ⟨0,by omega,rfl,by rw[H0.out];rfl⟩
 case round =>
  obtain ⟨k,hk,rfl,rfl⟩:=hrel
  have hbk:=HB.out k
  by_cases hlt:k<n
  ·obtain ⟨b,off,a',n',c',rfl,hbb,hc,ht,_⟩:=H.out.2 k hlt
   have hS:=Lib.hid (HS.out k hlt)
   have htl:=ht.1.1
   have hbk1:=HB.out (k+1)
   have hL:Hid ((C (k+1)).length=(C k).length+n'):=by unfold Hid;rw[hS.out,List.length_append,htl]
   rw[hL.out] at hbk1
   generalize (C k).length=t at hbk hbk1 hL ⊢
   clear hS htl ht
   have hneg:¬((t:Int)+(n':Int)<0):=by omega
   go_wp2
   go_round
   case rel=>exact ⟨k+1,by omega,by go_num,by rw[hL.out];go_num⟩
   case measure=>simp[intOf];omega
  ·have e:k=n:=by omega
   subst e
   have HG:=Lib.hid (ngrow_c (C k).length w hbk)
   rw[HE.out] at hbk HG ⊢
   generalize hFl:F.length=fl at hbk HG ⊢
   have HFl:=Lib.hid hFl
   clear hFl
   go_wp2_with fail
   refine HG.out.mono ?_
   rintro _ w1 ⟨v1,rfl,hown1,hb1⟩
   have HO1:=Lib.hid hown1
   have hz1:=hb1.size
   clear hown1 HG
   go_wp2_with fail
   go_loopw [6,8,27] (fun ov _ iv wr=>∃(j:Nat),j≤k∧iv = .int .i64 j∧wr.ownsRow w.heap.size 104 5 ov (C j).length (ndsL (C j))∧Below w.heap.size w wr) (fun _ _ iv _=>k - (intOf iv).toNat)
   case atStart=>exact ⟨0,by omega,rfl,by rw[H0.out];exact HO1.out,hb1⟩
   case round =>
    obtain ⟨j,hj,rfl,hown,hbr⟩:=hrel
    have hszr:=hbr.size
    have hbj:=HB.out j
    by_cases hlt2:j<k
    ·have hji:(j:Int)<(k:Int):=by omega
     obtain ⟨b,off,a',n',c',rfl,hbb,hc,ht,_⟩:=(H.out.mono hbr).2 j hlt2
     have hS:=Lib.hid (HS.out j hlt2)
     have hbj1:=HB.out (j+1)
     have htl:=Lib.hid ht.1.1
     have hL:Hid ((C (j+1)).length=(C j).length+n'):=by unfold Hid;rw[hS.out,List.length_append,htl.out]
     have hND:Hid (ndsL (C (j+1))=ndsL (C j)++ndsL (Ts[j]?.getD [])):=by unfold Hid;rw[hS.out,ndsL_append]
     have HSRC:=Lib.hid ht.src
     have HNL:Hid ((ndsL (Ts[j]?.getD [])).length=n'*5):=by unfold Hid;rw[ndsL_len,htl.out]
     have hone:=ndsL_one (Ts[j]?.getD [])
     rw[hL.out] at hbj1
     generalize ndsL (Ts[j]?.getD [])=nws at hND HSRC HNL hone
     generalize ndsL (C j)=olds at hown hND
     generalize (C j).length=t at hbj hbj1 hL hown
     obtain ⟨ao,co,rfl⟩:=owns_slice4 hown
     clear ht
     go_wp2_with (first|(at_builtin;refine wpList_append_anyN _ rfl _ _ 44 rfl w.heap.size 104 i0 (.agg #[.string ⟨#[]⟩,.int .i64 0,.int .i64 0,.int .i64 0,.int .i64 0]) 5 48 Tryz.underlying44 hi hz0 hzz hz2 rfl (by decide) _ _ _ rfl hown hszr _ _ _ nws rfl HNL.out HSRC.out hone (by unfold maxLen;omega) (by omega) ?_;intro v5 w5 hown5 hst5 _;have hb5:Below w.heap.size w w5:=hbr.trans (hst5.below hszr (fun k e=>owns_ge hown e));rw[← hND.out,← hL.out] at hown5;have HO:=Lib.hid hown5;clear hown5 hown))
     go_roundw
     case rel=>exact ⟨j+1,by omega,by go_num,HO.out,hb5⟩
     case measure=>simp[intOf];omega
    ·have hji:¬(j:Int)<(k:Int):=by omega
     have e:j=k:=by omega
     subst e
     rw[HE.out] at hown
     have HO:=Lib.hid hown
     clear hown
     go_wp2_with fail
     go_ret
     exact ⟨_,rfl,by rw[← HFl.out];exact HO.out,hbr⟩
end
end Go.Proofs.YtaadpihbjhachaaGreat
