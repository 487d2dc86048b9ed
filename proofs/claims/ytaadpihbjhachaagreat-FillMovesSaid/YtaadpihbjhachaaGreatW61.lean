/- Texts J1 to B3 of this proof, in one file. -/
import Derived.Test.YtaadpihbjhachaaGreatW01
import Derived.Test.YtaadpihbjhachaaGreatW39
import Derived.Test.YtaadpihbjhachaaGreatW59
namespace Go.Proofs.YtaadpihbjhachaaGreat
set_option maxRecDepth 100000
set_option maxHeartbeats 16000000
section
end
section
def putAll (ps:List (Nat × Int)) (l:List Int):List Int:=ps.foldl (fun l p=>l.set p.1 p.2) l
theorem putAll_len {ps:List (Nat × Int)} {l:List Int}:(putAll ps l).length=l.length:=by
 unfold putAll
 induction ps generalizing l with
 | nil=>rfl
 | cons p ps ih=>rw[List.foldl_cons,ih,List.length_set]
theorem putAll_snoc {ps:List (Nat × Int)} {p:Nat × Int} {l:List Int}:putAll (ps++[p]) l=(putAll ps l).set p.1 p.2:=by
 unfold putAll
 rw[List.foldl_append]
 rfl
theorem putAll_get:∀{ps:List (Nat × Int)} {a:List Int} {p:Nat × Int},(ps.map (·.1)).Nodup→p∈ps→p.1<a.length→(putAll ps a)[p.1]?=some p.2:=by
 intro ps
 induction ps with
 | nil=>intro a p _ h;cases h
 | cons q ps ih =>
  intro a p hn hp hl
  rw[List.map_cons,List.nodup_cons] at hn
  show (putAll ps (a.set q.1 q.2))[p.1]?=some p.2
  rcases List.mem_cons.1 hp with rfl|hp
  ·have hno:∀{qs:List (Nat × Int)} {b:List Int},p.1 ∉ qs.map (·.1)→(putAll qs b)[p.1]?=b[p.1]?:=by
    intro qs
    induction qs with
    | nil=>intro b _;rfl
    | cons r qs ih2 =>
     intro b h
     rw[List.map_cons,List.mem_cons] at h
     show (putAll qs (b.set r.1 r.2))[p.1]?=b[p.1]?
     rw[ih2 (fun h2=>h (Or.inr h2)),List.getElem?_set,if_neg (fun e=>h (Or.inl e.symm))]
   rw[hno hn.1,List.getElem?_set,if_pos rfl,if_pos hl]
  ·exact ih hn.2 hp (by rw[List.length_set];exact hl)
end
section
open Go Go.RowKit
def badP (p:List Int) (k:Nat):Bool:=decide (p[k]?.getD 0<0)||(decide ((p.length:Int)≤p[k]?.getD 0)||zY (p.take k) (p[k]?.getD 0))
def permB (p:List Int):Bool:=!(List.range p.length).any (badP p)
def jX (p:List Int):Int:=if 256<p.length then 5 else if permB p=true then 0 else 14
theorem permB_miss {p:List Int} {k:Nat} (hk:k<p.length) (h:badP p k=true):permB p=false:=by
 unfold permB
 rw[Bool.not_eq_false',List.any_eq_true]
 exact ⟨k,by simpa using hk,h⟩
theorem permB_end {p:List Int} (h:∀k,k<p.length→badP p k=false):permB p=true:=by
 unfold permB
 rw[Bool.not_eq_true',List.any_eq_false]
 intro k hk
 rw[h k (by simpa using hk)]
 decide
structure PermP (p:List Int):Prop where
 num:∀k,k<p.length→0≤p[k]?.getD 0∧p[k]?.getD 0<(p.length:Int)
 inj:∀i j,i<p.length→j<p.length→p[i]?.getD 0=p[j]?.getD 0→i=j
theorem perm_of {p:List Int} (h:permB p=true):PermP p:=by
 have hb:∀k,k<p.length→badP p k=false:=fun k hk=>by
  unfold permB at h
  rw[Bool.not_eq_true',List.any_eq_false] at h
  have:=h k (by simpa using hk)
  simpa using this
 have ha:∀i j,i<j→j<p.length→p[i]?.getD 0≠p[j]?.getD 0:=fun i j hij hj e=>by
  have h2:=hb j hj
  unfold badP at h2
  simp only[Bool.or_eq_false_iff] at h2
  have h3:zY (p.take j) (p[j]?.getD 0)=true:=by
   unfold zY
   rw[List.contains_iff_mem,← e,List.getElem?_eq_getElem (by omega)]
   exact List.mem_take_iff_getElem.2 ⟨i,by omega,rfl⟩
  rw[h3] at h2
  exact absurd h2.2.2 (by decide)
 refine ⟨fun k hk=>?_,fun i j hi hj e=>?_⟩
 ·have h2:=hb k hk
  unfold badP at h2
  simp only[Bool.or_eq_false_iff,decide_eq_false_iff_not] at h2
  omega
 ·rcases Nat.lt_trichotomy i j with h1|h1|h1
  ·exact absurd e (ha i j h1 hj)
  ·exact h1
  ·exact absurd e.symm (ha j i h1 hi)
theorem perm_ok {p:List Int} (h:jX p=0):p.length≤256∧PermP p:=by
 unfold jX at h
 by_cases h1:256<p.length
 ·rw[if_pos h1] at h;cases h
 ·rw[if_neg h1] at h
  by_cases h2:permB p=true
  ·exact ⟨by omega,perm_of h2⟩
  ·rw[if_neg h2] at h;cases h
theorem onto_of {α:Type} [BEq α] [LawfulBEq α]:∀(l1 l2:List α),l1.Nodup→(∀x,x∈l1→x∈l2)→l2.length≤l1.length→∀y,y∈l2→y∈l1
 | [],l2,_,_,hl,y,hy=>by
  have:l2=[]:=List.eq_nil_of_length_eq_zero (by simpa using hl)
  rw[this] at hy
  exact hy
 | a :: l1,l2,hn,hs,hl,y,hy=>by
  rw[List.nodup_cons] at hn
  by_cases e:y=a
  ·rw[e];exact List.mem_cons_self
  ·refine List.mem_cons_of_mem _ (onto_of l1 (l2.erase a) hn.2 (fun x hx=>?_) ?_ y ((List.mem_erase_of_ne e).2 hy))
   ·exact (List.mem_erase_of_ne (fun e2=>hn.1 (by rw[← e2];exact hx))).2 (hs x (List.mem_cons_of_mem _ hx))
   ·rw[List.length_erase_of_mem (hs a List.mem_cons_self)]
    simp only[List.length_cons] at hl
    omega
theorem nodup_leG {α:Type} [BEq α] [LawfulBEq α]:∀{l m:List α},l.Nodup→(∀x,x∈l→x∈m)→l.length≤m.length
 | [],m,_,_=>Nat.zero_le _
 | x :: l,m,hn,hs=>by
  rw[List.nodup_cons] at hn
  have hx:=hs x List.mem_cons_self
  have h:=nodup_leG (m:=m.erase x) hn.2 (fun y hy=>(List.mem_erase_of_ne (fun e=>hn.1 (by rw[← e];exact hy))).2 (hs y (List.mem_cons_of_mem _ hy)))
  have h2:=List.length_erase_of_mem hx
  have h3:=List.length_pos_of_mem hx
  simp only[List.length_cons]
  omega
theorem get_mem {l:List Int} {i:Nat} (h:i<l.length):l[i]?.getD 0∈l:=by rw[List.getElem?_eq_getElem h];exact List.getElem_mem h
theorem PermP.nodup {p:List Int} (h:PermP p):p.Nodup:=by
 unfold List.Nodup
 rw[List.pairwise_iff_getElem]
 intro i j hi hj hij e
 have:=h.inj i j hi hj (by rw[List.getElem?_eq_getElem hi,List.getElem?_eq_getElem hj,e])
 omega
theorem PermP.onto {p:List Int} (h:PermP p) {j:Nat} (hj:j<p.length):∃i,i<p.length∧p[i]?.getD 0=(j:Int):=by
 have h1:=onto_of p ((List.range p.length).map fun (i:Nat)=>(i:Int)) h.nodup (fun x hx=>by
  obtain ⟨i,hi,e⟩:=List.getElem_of_mem hx
  have h2:=h.num i hi
  rw[List.getElem?_eq_getElem hi,Option.getD_some,e] at h2
  exact List.mem_map.2 ⟨x.toNat,List.mem_range.2 (by omega),by omega⟩) (by simp) (j:Int) (List.mem_map.2 ⟨j,List.mem_range.2 hj,rfl⟩)
 obtain ⟨i,hi,e⟩:=List.getElem_of_mem h1
 exact ⟨i,hi,by rw[List.getElem?_eq_getElem hi];exact e⟩
def kf (p vs:List Int) (k:Nat):List Int:=putAll ((List.range k).map fun i=>((p[i]?.getD 0).toNat,vs[i]?.getD 0)) (List.replicate vs.length 0)
def movL (p vs:List Int):List Int:=kf p vs vs.length
theorem movTo_zero (p vs:List Int):kf p vs 0=List.replicate vs.length 0:=rfl
theorem movTo_succ (p vs:List Int) (k:Nat):kf p vs (k+1)=(kf p vs k).set (p[k]?.getD 0).toNat (vs[k]?.getD 0):=by
 unfold kf
 rw[List.range_succ,List.map_append]
 exact putAll_snoc
theorem movTo_len (p vs:List Int) (k:Nat):(kf p vs k).length=vs.length:=by unfold kf;rw[putAll_len,List.length_replicate]
theorem movL_len (p vs:List Int):(movL p vs).length=vs.length:=movTo_len p vs _
theorem movL_at {p vs:List Int} (hp:PermP p) (hl:p.length=vs.length) {i:Nat} (hi:i<vs.length):(movL p vs)[(p[i]?.getD 0).toNat]?.getD 0=vs[i]?.getD 0:=by
 unfold movL kf
 have h1:=hp.num i (by omega)
 have h:=putAll_get (ps:=(List.range vs.length).map fun i=>((p[i]?.getD 0).toNat,vs[i]?.getD 0)) (a:=List.replicate vs.length 0) (p:=((p[i]?.getD 0).toNat,vs[i]?.getD 0)) (by
  rw[List.map_map]
  unfold List.Nodup
  rw[List.pairwise_map]
  refine List.Pairwise.imp_of_mem ?_ List.pairwise_lt_range
  intro a b ha hb hab e
  rw[List.mem_range] at ha hb
  have h2:=hp.num a (by omega)
  have h3:=hp.num b (by omega)
  simp only[Function.comp] at e
  have:=hp.inj a b (by omega) (by omega) (by omega)
  omega) (List.mem_map.2 ⟨i,List.mem_range.2 hi,rfl⟩) (by rw[List.length_replicate];show (p[i]?.getD 0).toNat<_;omega)
 simp only at h
 rw[h]
 rfl
theorem movL_from {p vs:List Int} (hp:PermP p) (hl:p.length=vs.length) {j:Nat} (hj:j<vs.length):∃i,i<vs.length∧p[i]?.getD 0=(j:Int)∧(movL p vs)[j]?.getD 0=vs[i]?.getD 0:=by
 obtain ⟨i,hi,e⟩:=hp.onto (j:=j) (by omega)
 refine ⟨i,by omega,e,?_⟩
 have h:=movL_at hp hl (i:=i) (by omega)
 rw[e,Int.toNat_natCast] at h
 exact h
def jb (p l:List Int):List Int:=srt (l.map fun c=>p[c.toNat]?.getD 0)
theorem lineI_len (p l:List Int):(jb p l).length=l.length:=by unfold jb;rw[srt_len,List.length_map]
theorem lineI_mem {p l:List Int} {y:Int}:y∈jb p l↔∃x,x∈l∧p[x.toNat]?.getD 0=y:=by
 unfold jb
 rw[srt_mem,List.mem_map]
theorem perm_sum {l m:List Int} (h:l.Perm m):l.sum=m.sum:=by
 induction h with
 | nil=>rfl
 | cons x _ ih=>rw[List.sum_cons,List.sum_cons,ih]
 | swap x y l=>simp only[List.sum_cons];omega
 | trans _ _ h1 h2=>exact h1.trans h2
theorem sumAt_map (l f:List Int):jm l f=(l.map fun c=>f[c.toNat]?.getD 0).sum:=by
 unfold jm
 generalize (l.map fun c=>f[c.toNat]?.getD 0)=xs
 rw[List.sum_eq_foldl]
theorem sumAt_line {p l f:List Int} (hp:PermP p) (hl:p.length=f.length) (hb:∀x,x∈l→0≤x∧x<(p.length:Int)):jm (jb p l) (movL p f)=jm l f:=by
 rw[sumAt_map,sumAt_map]
 have h1:((jb p l).map fun c=>(movL p f)[c.toNat]?.getD 0).Perm ((l.map fun c=>p[c.toNat]?.getD 0).map fun c=>(movL p f)[c.toNat]?.getD 0):=(List.mergeSort_perm _ _).map _
 rw[perm_sum h1,List.map_map]
 congr 1
 apply List.map_congr_left
 intro x hx
 have h2:=hb x hx
 simp only[Function.comp]
 exact movL_at hp hl (by omega)
end
end Go.Proofs.YtaadpihbjhachaaGreat
