/- Texts B16 to B17 of this proof, in one file. -/
import Derived.Test.YtaadpihbjhachaaGreatW27
import Derived.Test.YtaadpihbjhachaaGreatW62
namespace Go.Proofs.YtaadpihbjhachaaGreat
set_option maxRecDepth 100000
set_option maxHeartbeats 16000000
section
open Go Go.RowKit
def kidO (c:Bool) (us:List Int):List Int:=if c=true then us.reverse else us
theorem kidO_mem {c:Bool} {us:List Int} {x:Int}:x∈kidO c us↔x∈us:=by unfold kidO;split <;> simp
theorem kidO_len (c:Bool) (us:List Int):(kidO c us).length=us.length:=by unfold kidO;split <;> simp
theorem cmN_cmN (c:Bool) (N x:Int):cmN c N (cmN c N x)=x:=by
 unfold cmN
 cases c with
 | false=>rfl
 | true=>simp only[if_true];omega
theorem cgN_cmN {c:Bool} {N x:Int} (h:0<x):cgN c N x=cmN c N x:=by
 unfold cgN cmN
 rw[decide_eq_true h,Bool.and_true]
theorem cgN_zero (c:Bool) (N:Int):cgN c N 0=0:=by unfold cgN;simp
theorem unused_asc (g:List Int):(zh g).Pairwise (·<·):=by
 unfold zh jy
 rw[List.pairwise_map]
 exact (List.pairwise_lt_range.filter _).imp (fun h=>by omega)
theorem movG_at {c:Bool} {p g:List Int} (hp:PermP p) (hpl:p.length=g.length) {i:Nat} (hi:i<g.length):(jU c p g)[(p[i]?.getD 0).toNat]?.getD 0=cgN c g.length (g[i]?.getD 0):=by
 unfold jU
 rw[movL_at hp (by rw[List.length_map];exact hpl) (i:=i) (by rw[List.length_map];exact hi)]
 exact map_get hi
theorem asc_ext {l m:List Int} (hl:l.Pairwise (·<·)) (hm:m.Pairwise (·<·)) (h:∀y,y∈l↔y∈m):l=m:=by
 have h1:l.Nodup:=hl.imp fun h=>Int.ne_of_lt h
 have h2:m.Nodup:=hm.imp fun h=>Int.ne_of_lt h
 exact List.Perm.eq_of_pairwise (le:=(·≤·)) (fun a b _ _ h1 h2=>Int.le_antisymm h1 h2) (hl.imp fun h=>Int.le_of_lt h) (hm.imp fun h=>Int.le_of_lt h) ((List.perm_ext_iff_of_nodup h1 h2).2 h)
theorem moved_unused {c:Bool} {p g:List Int} (hp:PermP p) (hpl:p.length=g.length) (hg:∀i,i<g.length→0≤g[i]?.getD 0∧g[i]?.getD 0≤(g.length:Int)):zh (jU c p g)=(kidO c (zh g)).map (cmN c g.length):=by
 refine asc_ext (unused_asc _) ?_ (fun y=>?_)
 ·rw[List.pairwise_map]
  unfold kidO
  cases c with
  | false=>exact unused_asc g
  | true =>
   rw[if_pos rfl,List.pairwise_reverse]
   exact (unused_asc g).imp fun h=>by unfold cmN;rw[if_pos rfl,if_pos rfl];omega
 ·rw[List.mem_map]
  constructor
  ·intro hy
   obtain ⟨h1,h2,h3⟩:=zT.1 hy
   rw[jl] at h2
   refine ⟨cmN c g.length y,kidO_mem.2 (zT.2 ⟨by unfold cmN;split <;> omega,by unfold cmN;split <;> omega,?_⟩),cmN_cmN _ _ _⟩
   cases hb:zY g (cmN c g.length y) with
   | false=>rfl
   | true =>
    obtain ⟨i,hi,e⟩:=List.getElem_of_mem (js.1 hb)
    have e1:g[i]?.getD 0=cmN c g.length y:=by rw[List.getElem?_eq_getElem hi];exact e
    have h4:=movG_at (c:=c) hp hpl hi
    rw[e1,cgN_cmN (by unfold cmN;split <;> omega),cmN_cmN] at h4
    have h5:=hp.num i (by omega)
    exact absurd h4 (not_hasB h3 (p[i]?.getD 0).toNat (by rw[jl];omega))
  ·rintro ⟨x,hx,rfl⟩
   obtain ⟨h1,h2,h3⟩:=zT.1 (kidO_mem.1 hx)
   refine zT.2 ⟨by unfold cmN;split <;> omega,by rw[jl];unfold cmN;split <;> omega,?_⟩
   cases hb:zY (jU c p g) (cmN c g.length x) with
   | false=>rfl
   | true =>
    obtain ⟨j,hj,e⟩:=List.getElem_of_mem (js.1 hb)
    rw[jl] at hj
    obtain ⟨i,hi,_,e2⟩:=kg (c:=c) hp hpl hj
    rw[List.getElem?_eq_getElem (by rw[jl];exact hj),Option.getD_some,e] at e2
    have hgi:=hg i hi
    have hpos:0<g[i]?.getD 0:=by
     rcases Int.lt_or_le 0 (g[i]?.getD 0) with h4|h4
     ·exact h4
     ·have h0:g[i]?.getD 0=0:=by omega
      rw[h0,cgN_zero] at e2
      unfold cmN at e2
      split at e2 <;> omega
    rw[cgN_cmN hpos] at e2
    exact absurd (cmN_inj e2).symm (not_hasB h3 i hi)
theorem zero_perm {p l g:List Int} {c:Bool} (hp:PermP p) (hpl:p.length=g.length) (hg:∀i,i<g.length→0≤g[i]?.getD 0∧g[i]?.getD 0≤(g.length:Int)) (hb:∀x,x∈l→0≤x∧x<(p.length:Int)) :
  jz (jb p l) (jU c p g) (jb p l).length=jz l g l.length:=by
 unfold jz
 rw[List.take_length,List.take_length]
 have h1:(jb p l).Perm (l.map fun c=>p[c.toNat]?.getD 0):=List.mergeSort_perm _ _
 rw[(h1.filter _).length_eq,List.filter_map,List.length_map]
 congr 1
 apply List.filter_congr
 intro x hx
 have h2:=hb x hx
 simp only[Function.comp]
 rw[movG_at hp hpl (i:=x.toNat) (by omega)]
 have h3:=hg x.toNat (by omega)
 rw[Bool.eq_iff_iff,beq_iff_eq,beq_iff_eq]
 constructor
 ·intro e
  rcases Int.lt_or_le 0 (g[x.toNat]?.getD 0) with h4|h4
  ·rw[cgN_cmN h4] at e
   unfold cmN at e
   split at e <;> omega
  ·omega
 ·intro e;rw[e,cgN_zero]
theorem sum_cg {N:Int} {g:List Int} (hg:∀i,i<g.length→0≤g[i]?.getD 0):∀{l:List Int},(∀x,x∈l→0≤x∧x<(g.length:Int)) →
  jm l (g.map (cgN true N))+jm l g+((l.filter fun c=>g[c.toNat]?.getD 0==0).length:Int)*(N+1)=(l.length:Int)*(N+1):=by
 intro l h
 rw[sumAt_map,sumAt_map]
 induction l with
 | nil=>simp
 | cons a l ih =>
  have ha:=h a List.mem_cons_self
  have hga:=hg a.toNat (by omega)
  have ih2:=ih (fun x hx=>h x (List.mem_cons_of_mem _ hx))
  simp only[List.map_cons,List.sum_cons]
  rw[map_get (by omega)]
  have e1:((l.length+1:Nat):Int)*(N+1)=(l.length:Int)*(N+1)+(N+1):=by rw[Int.natCast_add,Int.add_mul];omega
  rw[List.length_cons,e1]
  by_cases h0:g[a.toNat]?.getD 0=0
  ·rw[List.filter_cons_of_pos (by simpa using h0),List.length_cons,h0,cgN_zero]
   have e2:(((l.filter fun c=>g[c.toNat]?.getD 0==0).length+1:Nat):Int)*(N+1)=((l.filter fun c=>g[c.toNat]?.getD 0==0).length:Int)*(N+1)+(N+1):=by rw[Int.natCast_add,Int.add_mul];omega
   rw[e2]
   omega
  ·rw[List.filter_cons_of_neg (by simpa using h0),cgN_cmN (by omega)]
   unfold cmN
   rw[if_pos rfl]
   omega
theorem rev_get {U:List Int} {N:Int} {k:Nat} (hk:k<U.length):((U.reverse).map (cmN true N))[k]?.getD 0=N+1 - U[U.length - 1 - k]?.getD 0:=by
 rw[map_get (by rw[List.length_reverse];exact hk),List.getElem?_reverse hk]
 unfold cmN
 rw[if_pos rfl]
theorem lo_rev {U:List Int} {N:Int}:∀k,k≤U.length→loU ((U.reverse).map (cmN true N)) k+hiU U k=(k:Int)*(N+1)
 | 0,_=>by simp[loU,hiU]
 | k+1,hk=>by
  have ih:=lo_rev (U:=U) (N:=N) k (by omega)
  unfold loU hiU at ih ⊢
  rw[List.range_succ,List.map_append,List.map_append,List.sum_append_int,List.sum_append_int]
  simp only[List.map_cons,List.map_nil,List.sum_cons,List.sum_nil]
  rw[rev_get (by omega)]
  have e2:((k+1:Nat):Int)*(N+1)=(k:Int)*(N+1)+(N+1):=by rw[Int.natCast_add,Int.add_mul];omega
  rw[e2]
  omega
theorem hi_rev {U:List Int} {N:Int}:∀k,k≤U.length→hiU ((U.reverse).map (cmN true N)) k+loU U k=(k:Int)*(N+1)
 | 0,_=>by simp[loU,hiU]
 | k+1,hk=>by
  have ih:=hi_rev (U:=U) (N:=N) k (by omega)
  unfold loU hiU at ih ⊢
  rw[List.range_succ,List.map_append,List.map_append,List.sum_append_int,List.sum_append_int]
  simp only[List.map_cons,List.map_nil,List.sum_cons,List.sum_nil,List.length_map,List.length_reverse] at ih ⊢
  rw[rev_get (by omega),show U.length - 1 - (U.length - 1 - k)=k by omega]
  have e2:((k+1:Nat):Int)*(N+1)=(k:Int)*(N+1)+(N+1):=by rw[Int.natCast_add,Int.add_mul];omega
  rw[e2]
  omega
theorem moved_bey {cells:Int} {ls:List (List Int)} {sum:Int} {g:List Int} (G:GoodTask cells ls sum g) {p:List Int} (hp:PermP p) (hpl:p.length=g.length) {c:Bool} {n:Int} {l:List Int} (hl:l∈ls) (hn:c=true→(l.length:Int)=n) :
  beyV (jb p l) (jU c p g) (cmS c g.length n sum)=beyV l g sum:=by
 have hg:∀i,i<g.length→0≤g[i]?.getD 0∧g[i]?.getD 0≤(g.length:Int):=fun i hi=>by have:=G.num i hi;have:=G.len;omega
 have hb:∀x,x∈l→0≤x∧x<(p.length:Int):=fun x hx=>by have:=G.bnd hl x hx;have:=G.len;omega
 have hz:=zero_perm (c:=c) hp hpl hg hb
 have hcn:=G.cnt hl
 have hU:=moved_unused (c:=c) hp hpl hg
 have hsm:jm (jb p l) (jU c p g)=jm l (g.map (cgN c g.length)):=by
  unfold jU
  exact sumAt_line hp (by rw[List.length_map];exact hpl) hb
 unfold beyV lowV highV
 rw[hz,hU,hsm]
 cases c with
 | false =>
  have e1:(kidO false (zh g)).map (cmN false g.length)=zh g:=by
   unfold kidO
   rw[if_neg (by decide)]
   conv=>rhs;rw[← List.map_id (zh g)]
   exact List.map_congr_left fun x _=>rfl
  have e2:g.map (cgN false g.length)=g:=by
   conv=>rhs;rw[← List.map_id g]
   exact List.map_congr_left fun x _=>rfl
  rw[e1,e2]
  rfl
 | true =>
  have e1:(kidO true (zh g)).map (cmN true g.length)=((zh g).reverse).map (cmN true g.length):=rfl
  rw[e1]
  have h1:=sum_cg (N:=(g.length:Int)) (fun i hi=>(hg i hi).1) (l:=l) (fun x hx=>by have:=hb x hx;omega)
  have h2:=lo_rev (U:=zh g) (N:=(g.length:Int)) _ hcn
  have h3:=hi_rev (U:=zh g) (N:=(g.length:Int)) _ hcn
  have e3:(l.filter fun c=>g[c.toNat]?.getD 0==0).length=jz l g l.length:=by unfold jz;rw[List.take_length]
  rw[e3] at h1
  unfold cmS
  rw[if_pos rfl,← hn rfl]
  generalize (jz l g l.length:Nat)=k at *
  generalize (k:Int)*((g.length:Int)+1)=K at *
  generalize (l.length:Int)*((g.length:Int)+1)=L at *
  generalize jm l (g.map (cgN true g.length))=a at *
  generalize jm l g=b at *
  generalize loU ((zh g).reverse.map (cmN true g.length)) k=u1 at *
  generalize hiU ((zh g).reverse.map (cmN true g.length)) k=u2 at *
  generalize loU (zh g) k=u3 at *
  generalize hiU (zh g) k=u4 at *
  rw[Bool.or_comm]
  congr 1
  ·exact decide_eq_decide.2 (by omega)
  ·exact decide_eq_decide.2 (by omega)
theorem movG_set {c:Bool} {p g:List Int} (hp:PermP p) (hpl:p.length=g.length) {k:Nat} (hk:k<g.length) {x:Int} (hx:0<x):jU c p (g.set k x)=(jU c p g).set (p[k]?.getD 0).toNat (cmN c g.length x):=by
 have hkp:=hp.num k (by omega)
 refine get_ext (by rw[jl,List.length_set,List.length_set,jl]) fun j hj=>?_
 rw[jl,List.length_set] at hj
 obtain ⟨i,hi,e1,e2⟩:=kg (c:=c) (f:=g.set k x) hp (by rw[List.length_set];exact hpl) (j:=j) (by rw[List.length_set];exact hj)
 rw[List.length_set] at hi e2
 rw[e2,set_get g k i x hk,set_get (jU c p g) _ j _ (by rw[jl];omega)]
 by_cases e:i=k
 ·subst e
  rw[if_pos rfl,if_pos (by rw[e1];omega),cgN_cmN hx]
 ·rw[if_neg e,if_neg (fun h=>e (hp.inj i k (by omega) (by omega) (by omega)))]
  have h3:=movG_at (c:=c) hp hpl hi
  rw[e1,Int.toNat_natCast] at h3
  exact h3.symm
def qC (ls:List (List Int)) (sum:Int) (c:Bool) (p:List Int):Nat→List Int→List Nd
 | 0,_=>[]
 | f+1,g =>
  if 0≤zV ls g sum then [⟨kLine,0,zV ls g sum,0,0⟩]
  else ⟨kCell,p[(zQ ls g sum).toNat]?.getD 0,0,0,(zh g).length⟩ :: (kidO c (zh g)).flatMap fun x=>qC ls sum c p f (g.set (zQ ls g sum).toNat x)
theorem flat_perm {α:Type} (F H:Int→List α):∀l:List Int,(∀x,x∈l→(F x).length=(H x).length)→(l.flatMap F).length=(l.flatMap H).length
 | [],_=>rfl
 | x :: l,h=>by
  rw[List.flatMap_cons,List.flatMap_cons,List.length_append,List.length_append,h x List.mem_cons_self,flat_perm F H l (fun y hy=>h y (List.mem_cons_of_mem _ hy))]
theorem kidO_flat {α:Type} (c:Bool) (F:Int→List α) (us:List Int):((kidO c us).flatMap F).length=(us.flatMap F).length:=by
 have h:(kidO c us).Perm us:=by unfold kidO;split;exact List.reverse_perm us;exact List.Perm.refl _
 exact (h.flatMap_right F).length_eq
theorem movT_len (ls:List (List Int)) (sum:Int) (c:Bool) (p:List Int):∀(f:Nat) (g:List Int),(qC ls sum c p f g).length=(ji ls sum f g).length
 | 0,_=>rfl
 | f+1,g=>by
  simp only[qC,ji]
  split
  ·rfl
  ·rw[List.length_cons,List.length_cons,kidO_flat]
   rw[flat_perm _ _ _ (fun x _=>movT_len ls sum c p f (g.set (zQ ls g sum).toNat x))]
theorem moved_tree {cells:Int} {ls:List (List Int)} {sum:Int} {p:List Int} (hp:PermP p) {c:Bool} {n:Int} (hn:c=true→∀l,l∈ls→(l.length:Int)=n):∀(m:Nat) (g:List Int),p.length=g.length→GoodTask cells ls sum g→(zj g).length=m→(∀f,¬SolF ls sum g f) →
  (∀d,d∈qC ls sum c p (m+1) g→jx g.length d=0)∧∀F,m+1≤F→∀R,jr (ls.map (jb p)) (cmS c g.length n sum) F (jU c p g) (qC ls sum c p (m+1) g++R)=some R
 | m,g,hpl,G,hm,hns=>by
  have hgl:=G.len
  by_cases ht:0≤zV ls g sum
  ·obtain ⟨h1,h2⟩:=tight_line ht
   simp only[qC]
   rw[if_pos ht]
   refine ⟨fun d hd=>?_,fun F hF R=>?_⟩
   ·rw[List.mem_singleton.1 hd]
    unfold jx
    have:qm kLine=true:=by unfold qm;rw[jQ.1];rfl
    simp only[this]
    rw[decide_eq_false (by decide),decide_eq_false (by omega)]
    rfl
   ·obtain ⟨f,rfl⟩:∃f,F=f+1:=⟨F - 1,by omega⟩
    simp only[List.cons_append,List.nil_append,jr]
    rw[if_pos jQ.1,if_pos]
    unfold jO
    have hk:(zV ls g sum).toNat<ls.length:=by omega
    have hmem:ls[(zV ls g sum).toNat]?.getD []∈ls:=by rw[List.getElem?_eq_getElem hk];exact List.getElem_mem hk
    have e3:(ls.map (jb p))[(zV ls g sum).toNat]?.getD []=jb p (ls[(zV ls g sum).toNat]?.getD []):=by
     rw[List.getElem?_map,List.getElem?_eq_getElem hk];rfl
    have e4:beyV ((ls.map (jb p))[(zV ls g sum).toNat]?.getD []) (jU c p g) (cmS c g.length n sum)=true:=by
     rw[e3,moved_bey G hp hpl hmem (fun e=>hn e _ hmem)]
     exact h2
    simp only[BEq.rfl,Bool.true_and]
    rw[decide_eq_true ht,List.length_map,decide_eq_true h1,e4]
    rfl
  ·obtain ⟨h1,h2⟩:=tight_no ht
   have h0:0<(zj g).length:=by
    rcases Nat.eq_zero_or_pos (zj g).length with h0|h0
    ·exact absurd (full_sol G h0 h1) (hns g)
    ·exact h0
   have hmo:=tightTo_open G h0 ls.length (Nat.le_refl _)
   rw[← h2] at hmo
   obtain ⟨hc0,hc1,hc2⟩:=jN.1 hmo
   obtain ⟨k,hk⟩:∃k:Nat,zQ ls g sum=(k:Int):=⟨(zQ ls g sum).toNat,by omega⟩
   rw[hk] at hc1 hc2
   rw[Int.toNat_natCast] at hc2
   have hcl:k<g.length:=by omega
   have hkp:=hp.num k (by omega)
   obtain ⟨m,rfl⟩:∃q,m=q+1:=⟨m - 1,by omega⟩
   have hU:(zh g).length=m+1:=by rw[G.even,hm]
   have hgn:∀i,i<g.length→0≤g[i]?.getD 0∧g[i]?.getD 0≤(g.length:Int):=fun i hi=>by have:=G.num i hi;omega
   have hkid:∀x,x∈zh g→(∀d,d∈qC ls sum c p (m+1) (g.set k x)→jx (g.set k x).length d=0)∧∀F,m+1≤F→∀R,jr (ls.map (jb p)) (cmS c (g.set k x).length n sum) F (jU c p (g.set k x)) (qC ls sum c p (m+1) (g.set k x)++R)=some R:=by
    intro x hx
    have hx1:=zT.1 hx
    have h5:=openL_set (x:=x) hcl hc2 (by omega)
    exact moved_tree hp hn m (g.set k x) (by rw[List.length_set];exact hpl) (G.put hcl hx) (by omega) (fun f hf=>hns f (hf.less hc2))
   have emd:qC ls sum c p (m+1+1) g=⟨kCell,p[(zQ ls g sum).toNat]?.getD 0,0,0,(zh g).length⟩ :: (kidO c (zh g)).flatMap fun x=>qC ls sum c p (m+1) (g.set (zQ ls g sum).toNat x):=by
    show (if 0≤zV ls g sum then _ else _)=_
    rw[if_neg ht]
   rw[hk] at emd
   rw[Int.toNat_natCast] at emd
   rw[emd]
   refine ⟨fun d hd=>?_,fun F hF R=>?_⟩
   ·rcases List.mem_cons.1 hd with rfl|hd
    ·unfold jx
     have:qm kCell=true:=by unfold qm;rw[jQ.2.2];simp
     simp only[this]
     have hle:(zh g).length≤g.length:=jd g g.length
     rw[decide_eq_false (by omega),decide_eq_false (by omega)]
     rfl
    ·obtain ⟨x,hx,hd⟩:=List.mem_flatMap.1 hd
     have:=(hkid x (kidO_mem.1 hx)).1 d hd
     rwa [List.length_set] at this
   ·obtain ⟨f,rfl⟩:∃f,F=f+1:=⟨F - 1,by omega⟩
    simp only[List.cons_append,jr]
    have hfc:=fine_cell (g:=jU c p g) (d:=⟨kCell,p[k]?.getD 0,0,0,((zh g).length:Int)⟩) jQ.2.2
    have hmu:=moved_unused (c:=c) hp hpl hgn
    have hml:(zh (jU c p g)).length=(zh g).length:=by rw[hmu,List.length_map,kidO_len]
    have hat:=movG_at (c:=c) hp hpl hcl
    have hc2':g[k]?.getD 0=0:=by simpa using hc2
    rw[hc2',cgN_zero] at hat
    rw[if_neg (by rw[jQ.2.1];decide),if_pos,hfc.2]
    ·have e5:(kidO c (zh g)).flatMap (fun x=>qC ls sum c p (m+1) (g.set k x))=(zh (jU c p g)).flatMap fun y=>qC ls sum c p (m+1) (g.set k (cmN c g.length y)):=by
      rw[hmu,List.flatMap_map]
      congr 1
      funext x
      rw[cmN_cmN]
     rw[e5]
     have e6:(fun x:Int=>(p[k]?.getD 0,x))=fun x=>(((p[k]?.getD 0).toNat:Int),x):=by
      funext x
      rw[Int.toNat_of_nonneg (by omega)]
     simp only[e6]
     refine kids_flat (zh (jU c p g)) R (fun y hy R=>?_)
     rw[hmu,List.mem_map] at hy
     obtain ⟨x,hx,rfl⟩:=hy
     have hx2:=kidO_mem.1 hx
     have h6:=(hkid x hx2).2 f (by omega) R
     rw[List.length_set,movG_set hp hpl hcl (by have:=zT.1 hx2;omega)] at h6
     rw[cmN_cmN]
     exact h6
    ·unfold okN
     rw[hfc.1,hfc.2,List.length_map,hml]
     simp only[BEq.rfl,Bool.true_and,Bool.and_true]
     rw[decide_eq_true (by omega:(0:Int)≤p[k]?.getD 0),decide_eq_true (by rw[jl];omega:p[k]?.getD 0<((jU c p g).length:Int)),hat]
     rfl
termination_by m=>m
theorem moved_all {cells:Int} {ls:List (List Int)} {sum:Int} {g:List Int} (G:GoodTask cells ls sum g) (h6:(zj g).length≤6) (hns:(jk ls sum g []).length=0) {p:List Int} (hp:PermP p) (hpl:p.length=g.length) {c:Bool} {n:Int} (hn:c=true→∀l,l∈ls→(l.length:Int)=n) :
  (qC ls sum c p ((zj g).length+1) g).length≤1957∧jD g.length (qC ls sum c p ((zj g).length+1) g)=0∧qa (ls.map (jb p)) (cmS c g.length n sum) (jU c p g) (qC ls sum c p ((zj g).length+1) g)=true:=by
 obtain ⟨_,hl,_,_⟩:=made_all G h6 hns rfl
 rw[← movT_len ls sum c p] at hl
 obtain ⟨h3,h4⟩:=moved_tree hp hn (zj g).length g hpl G rfl ((no_sols G).1 hns)
 generalize qC ls sum c p ((zj g).length+1) g=T at hl h3 h4 ⊢
 refine ⟨hl,?_,?_⟩
 ·unfold jD
  rw[if_neg (by omega)]
  refine ju (fun k hk=>?_)
  unfold ndAt
  rw[List.getElem?_eq_getElem hk]
  exact h3 _ (List.getElem_mem hk)
 ·have h5:=h4 (T.length+1+(zj g).length+1) (by omega) []
  rw[List.append_nil] at h5
  rw[refT_fuel _ _ _ (T.length+1) (jU c p g) T (by omega) (by omega)] at h5
  rw[proves_some h5]
  rfl
end
section
open Go Go.RowKit
def partL (c:Bool) (N:Int) (us:List Int) (F:Int→List Nd) (i:Nat):List Nd:=(us.filter fun x=>cmN c N x==(i:Int)).flatMap F
def qV (c:Bool) (N:Nat) (us:List Int) (F:Int→List Nd):List (List Nd):=(List.range (N+1)).map (partL c N us F)
theorem partsL_len (c:Bool) (N:Nat) (us:List Int) (F:Int→List Nd):(qV c N us F).length=N+1:=by unfold qV;simp
theorem parts_nil (c:Bool) (N:Nat) (F:Int→List Nd):qV c N [] F=List.replicate (N+1) []:=by
 unfold qV partL
 simp[List.map_const']
theorem parts_set {c:Bool} {N:Nat} {us:List Int} {F:Int→List Nd} {j:Nat} (hj:j<us.length) (hn:us.Nodup) (hb:∀x,x∈us→1≤x∧x≤(N:Int)) :
  (qV c N (us.take j) F).set (cmN c N (us[j]?.getD 0)).toNat (F (us[j]?.getD 0))=qV c N (us.take (j+1)) F:=by
 have hx:us[j]?.getD 0∈us:=by rw[List.getElem?_eq_getElem hj];exact List.getElem_mem hj
 have hbx:=hb _ hx
 have hne:∀y,y∈us.take j→y≠us[j]?.getD 0:=by
  intro y hy e
  obtain ⟨i,hi,e2⟩:=List.getElem_of_mem hy
  rw[List.length_take] at hi
  rw[List.getElem_take] at e2
  rw[List.getElem?_eq_getElem hj,Option.getD_some] at e
  have h2:=List.pairwise_iff_getElem.1 hn i j (by omega) hj (by omega)
  exact h2 (by rw[e2,e])
 rw[zP us 0 j hj]
 generalize us[j]?.getD 0=x at hx hbx hne ⊢
 have hk:0≤cmN c N x∧cmN c N x≤(N:Int):=by unfold cmN;split <;> omega
 refine List.ext_getElem (by rw[List.length_set,partsL_len,partsL_len]) fun i h1 h2=>?_
 rw[partsL_len] at h2
 rw[List.getElem_set]
 simp only[qV,List.getElem_map,List.getElem_range]
 unfold partL
 rw[List.filter_append,List.flatMap_append]
 by_cases e:(cmN c N x).toNat=i
 ·rw[if_pos e]
  have e1:(us.take j).filter (fun y=>cmN c N y==(i:Int))=[]:=by
   rw[List.filter_eq_nil_iff]
   intro y hy h
   refine hne y hy (cmN_inj (c:=c) (N:=N) ?_)
   have:cmN c N y=(i:Int):=by simpa using h
   omega
  have e2:(cmN c N x==(i:Int))=true:=by rw[beq_iff_eq];omega
  have e3:[x].filter (fun y=>cmN c N y==(i:Int))=[x]:=by simp only[List.filter,e2]
  rw[e1,e3]
  simp
 ·rw[if_neg e]
  have e2:¬(cmN c N x==(i:Int))=true:=by rw[beq_iff_eq];omega
  have e3:[x].filter (fun y=>cmN c N y==(i:Int))=[]:=by simp only[List.filter,Bool.eq_false_iff.2 e2]
  rw[e3]
  simp
theorem asc_split {c:Bool} {N:Int} {F:Int→List Nd} {us:List Int} (ha:us.Pairwise fun x y=>cmN c N x<cmN c N y) (hb:∀x,x∈us→0≤cmN c N x):∀M:Nat,(List.range M).flatMap (partL c N us F)=(us.filter fun x=>decide (cmN c N x<(M:Int))).flatMap F
 | 0=>by
  have:us.filter (fun x=>decide (cmN c N x<((0:Nat):Int)))=[]:=by
   rw[List.filter_eq_nil_iff]
   intro x hx h
   have:=hb x hx
   have h:=of_decide_eq_true h
   omega
  rw[this];rfl
 | M+1=>by
  rw[List.range_succ,List.flatMap_append,asc_split ha hb M]
  have:us.filter (fun x=>decide (cmN c N x<((M+1:Nat):Int)))=us.filter (fun x=>decide (cmN c N x<(M:Int)))++us.filter (fun x=>cmN c N x==(M:Int)):=by
   clear hb
   induction us with
   | nil=>rfl
   | cons x us ih =>
    obtain ⟨h1,h2⟩:=List.pairwise_cons.1 ha
    have ih:=ih h2
    rcases Int.lt_trichotomy (cmN c N x) (M:Int) with h|h|h
    ·rw[List.filter_cons_of_pos (by simp;omega),List.filter_cons_of_pos (by simpa using h),List.filter_cons_of_neg (by simp;omega),ih];rfl
    ·have e:us.filter (fun x=>decide (cmN c N x<(M:Int)))=[]:=by
      rw[List.filter_eq_nil_iff]
      intro y hy h3
      have:=h1 y hy
      have h3:=of_decide_eq_true h3
      omega
     rw[List.filter_cons_of_pos (by simp;omega),List.filter_cons_of_neg (by simp;omega),List.filter_cons_of_pos (by simpa using h),ih,e];rfl
    ·rw[List.filter_cons_of_neg (by simp;omega),List.filter_cons_of_neg (by simp;omega),List.filter_cons_of_neg (by simp;omega),ih]
  rw[this,List.flatMap_append]
  congr 1
  simp[partL]
theorem filter_perm_flat {F:Int→List Nd} {c:Bool} {N:Int} (us:List Int) (i:Nat) (hn:us.Pairwise fun x y=>x<y):partL c N us F i=partL c N (kidO c us) F i:=by
 unfold partL kidO
 split
 ·next h =>
  subst h
  have:(us.filter fun x=>cmN true N x==(i:Int)).length≤1:=by
   have h1:(us.filter fun x=>cmN true N x==(i:Int)).Pairwise (fun x y=>x<y):=hn.filter _
   generalize hL:us.filter (fun x=>cmN true N x==(i:Int))=L at h1
   match L,h1 with
   | [],_=>simp
   | [x],_=>simp
   | x :: y :: r,h1 =>
    have hx:x∈us.filter (fun x=>cmN true N x==(i:Int)):=by rw[hL];simp
    have hy:y∈us.filter (fun x=>cmN true N x==(i:Int)):=by rw[hL];simp
    have ex:cmN true N x=(i:Int):=by simpa using (List.mem_filter.1 hx).2
    have ey:cmN true N y=(i:Int):=by simpa using (List.mem_filter.1 hy).2
    have:=cmN_inj (ex.trans ey.symm)
    have:=(List.pairwise_cons.1 h1).1 y (by simp)
    omega
  rw[List.filter_reverse]
  generalize us.filter (fun x=>cmN true N x==(i:Int))=L at this
  match L,this with
  | [],_=>rfl
  | [x],_=>rfl
  | _ :: _ :: _,h=>simp at h
 ·rfl
theorem parts_all {c:Bool} {N:Nat} {us:List Int} {F:Int→List Nd} (ha:us.Pairwise fun x y=>x<y) (hb:∀x,x∈us→1≤x∧x≤(N:Int)):(qV c N us F).flatten=(kidO c us).flatMap F:=by
 unfold qV
 rw[← List.flatMap_def]
 have e:(List.range (N+1)).flatMap (partL c N us F)=(List.range (N+1)).flatMap (partL c N (kidO c us) F):=by
  congr 1
  funext i
  exact filter_perm_flat us i ha
 rw[e,asc_split]
 ·congr 1
  rw[List.filter_eq_self]
  intro x hx
  have:=hb x (kidO_mem.1 hx)
  rw[decide_eq_true_eq]
  unfold cmN;split <;> omega
 ·unfold kidO
  split
  ·next h=>subst h;rw[List.pairwise_reverse];exact ha.imp fun h=>by unfold cmN;simp only[if_true];omega
  ·next h=>exact ha.imp fun h2=>by unfold cmN;rw[if_neg h,if_neg h];exact h2
 ·intro x hx
  have:=hb x (kidO_mem.1 hx)
  unfold cmN;split <;> omega
end
end Go.Proofs.YtaadpihbjhachaaGreat
