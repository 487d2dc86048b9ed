/- Texts S2 to S4 of this proof, in one file. -/
import Derived.Test.YtaadpihbjhachaaGreatW16
import Derived.Test.YtaadpihbjhachaaGreatW17
import Derived.Test.YtaadpihbjhachaaGreatW18
import Derived.Test.YtaadpihbjhachaaGreatW23
import Derived.Test.YtaadpihbjhachaaGreatW26
namespace Go.Proofs.YtaadpihbjhachaaGreat
set_option maxRecDepth 100000
set_option maxHeartbeats 16000000
section
open Go Go.RowKit
structure SolF (ls:List (List Int)) (sum:Int) (g f:List Int):Prop where
 len:f.length=g.length
 num:∀i,i<f.length→1≤f[i]?.getD 0∧f[i]?.getD 0≤(g.length:Int)
 inj:∀i j,i<f.length→j<f.length→f[i]?.getD 0=f[j]?.getD 0→i=j
 ext:∀i,i<g.length→g[i]?.getD 0≠0→f[i]?.getD 0=g[i]?.getD 0
 line:∀l,l∈ls→sumAt l f=sum
theorem open_at {g:List Int} {i:Nat} (hi:i<g.length) (h0:g[i]?.getD 0=0):∃k,k<(openL g).length∧(openL g)[k]?.getD 0=(i:Int):=by
 have hm:(i:Int)∈openL g:=mem_open.2 ⟨by omega,by omega,by simpa using h0⟩
 obtain ⟨k,hk,e⟩:=List.getElem_of_mem hm
 exact ⟨k,hk,by rw[List.getElem?_eq_getElem hk];exact e⟩
theorem given_mem {g:List Int} {i:Nat} (hi:i<g.length):g[i]?.getD 0∈g:=by
 rw[List.getElem?_eq_getElem hi];exact List.getElem_mem hi
theorem solF_of {cells:Int} {ls:List (List Int)} {sum:Int} {g:List Int} (G:GoodTask cells ls sum g) {S:List Int} (h:SolP (gC cells ls sum g) S):SolF ls sum g (fillG g S):=by
 have ho:OkG g S:=⟨h.ok.1,h.ok.2,h.ok.3⟩
 have hl:S.length=(openL g).length:=h.len
 have hgl:=G.len
 have hval:∀i,i<g.length→(g[i]?.getD 0≠0∧(fillG g S)[i]?.getD 0=g[i]?.getD 0)∨(g[i]?.getD 0=0∧∃k,k<S.length∧(openL g)[k]?.getD 0=(i:Int)∧(fillG g S)[i]?.getD 0=S[k]?.getD 0∧S[k]?.getD 0∈S∧S[k]?.getD 0∈unusedL g):=by
  intro i hi
  by_cases h0:g[i]?.getD 0=0
  ·obtain ⟨k,hk,e⟩:=open_at hi h0
   have h2:=fillG_open g S (by omega) k hk
   rw[e,Int.toNat_natCast] at h2
   have hm:=given_mem (g:=S) (i:=k) (by omega)
   exact .inr ⟨h0,k,by omega,e,h2,hm,ho.2 _ hm⟩
  ·exact .inl ⟨h0,fillG_given g S i h0⟩
 refine ⟨fillG_len g S,fun i hi=>?_,fun i j hi hj e=>?_,fun i _ h0=>fillG_given g S i h0,fun l hml=>?_⟩
 ·rw[fillG_len] at hi
  rcases hval i hi with ⟨h0,e⟩|⟨_,k,_,_,e,_,hu⟩
  ·rw[e];have:=G.num i hi;omega
  ·rw[e];have:=mem_unused.1 hu;omega
 ·rw[fillG_len] at hi hj
  rcases hval i hi with ⟨h0,e1⟩|⟨h0,k,hk,ho1,e1,_,hu⟩
  ·rcases hval j hj with ⟨h0',e2⟩|⟨_,k',_,_,e2,_,hu'⟩
   ·rw[e1,e2] at e
    have hi1:=G.num i hi
    have hj1:=G.num j hj
    rcases Nat.lt_trichotomy i j with h3|h3|h3
    ·exact absurd e (G.apart i j h3 hj (by omega))
    ·exact h3
    ·exact absurd e.symm (G.apart j i h3 hi (by omega))
   ·rw[e1,e2] at e
    have:=(mem_unused.1 hu').2.2
    rw[← e] at this
    exact absurd (hasB_iff.2 (given_mem hi)) (by rw[this];decide)
  ·rcases hval j hj with ⟨h0',e2⟩|⟨_,k',hk',ho2,e2,_,_⟩
   ·rw[e1,e2] at e
    have:=(mem_unused.1 hu).2.2
    rw[e] at this
    exact absurd (hasB_iff.2 (given_mem hj)) (by rw[this];decide)
   ·rw[e1,e2,List.getElem?_eq_getElem hk,List.getElem?_eq_getElem hk'] at e
    have h5:=(List.getElem_inj ho.3).1 (by simpa using e)
    subst h5
    rw[ho1] at ho2
    omega
 ·have hk:lastO (openL g) l≤S.length:=by
   unfold lastO
   rw[lastN_le]
   intro i hi _
   omega
  have h2:=h.right (lastO (openL g) l) (by show _≤(openL g).length;omega)
  unfold wrongB Cst.tbl at h2
  rw[List.any_eq_false] at h2
  have h3:=h2 l (List.mem_filter.2 ⟨hml,by
   rw[List.length_take,Nat.min_eq_left hk]
   exact beq_self_eq_true _⟩)
  have h4:sumAt l (fillG g (S.take (lastO (openL g) l)))=sum:=by
   have h5:sumAt l (fillP (gC cells ls sum g) (S.take (lastO (openL g) l)))=(gC cells ls sum g).sum:=by simpa using h3
   exact h5
  rw[← sum_prefix G ho hml (Nat.le_refl _) hk]
  exact h4
def pathF (g f:List Int):List Int:=(openL g).map fun c=>f[c.toNat]?.getD 0
theorem pathF_at {g f:List Int} {k:Nat} (hk:k<(openL g).length):(pathF g f)[k]?.getD 0=f[((openL g)[k]?.getD 0).toNat]?.getD 0:=by
 unfold pathF
 rw[List.getElem?_map,List.getElem?_eq_getElem hk]
 rfl
theorem solF_path {cells:Int} {ls:List (List Int)} {sum:Int} {g:List Int} (G:GoodTask cells ls sum g) {f:List Int} (h:SolF ls sum g f):SolP (gC cells ls sum g) (pathF g f)∧fillG g (pathF g f)=f:=by
 have hl:(pathF g f).length=(openL g).length:=by unfold pathF;rw[List.length_map]
 have hfl:=h.len
 have hu:∀k,k<(openL g).length→(pathF g f)[k]?.getD 0∈unusedL g:=by
  intro k hk
  obtain ⟨x,hx,hxl,hx0⟩:=open_lt hk
  rw[pathF_at hk,hx,Int.toNat_natCast]
  have hn:=h.num x (by omega)
  refine mem_unused.2 ⟨by omega,by omega,?_⟩
  rw[Bool.eq_false_iff]
  intro hb
  obtain ⟨i,hi,e⟩:=List.getElem_of_mem (hasB_iff.1 hb)
  have e2:g[i]?.getD 0=f[x]?.getD 0:=by rw[List.getElem?_eq_getElem hi];exact e
  have h3:=h.ext i hi (by rw[e2];omega)
  have h4:=h.inj i x (by omega) (by omega) (h3.trans e2)
  subst h4
  rw[hx0] at e2
  omega
 have ho:OkG g (pathF g f):=by
  refine ⟨by show (pathF g f).length≤(openL g).length;omega,fun x hx=>?_,?_⟩
  ·obtain ⟨k,hk,e⟩:=List.getElem_of_mem hx
   have:=hu k (by omega)
   rw[List.getElem?_eq_getElem hk,Option.getD_some,e] at this
   exact this
  ·unfold List.Nodup
   rw[List.pairwise_iff_getElem]
   intro i j hi hj hij e
   obtain ⟨x,hx,hxl,_⟩:=open_lt (g:=g) (k:=i) (by omega)
   obtain ⟨y,hy,hyl,_⟩:=open_lt (g:=g) (k:=j) (by omega)
   have e1:=pathF_at (g:=g) (f:=f) (k:=i) (by omega)
   have e2:=pathF_at (g:=g) (f:=f) (k:=j) (by omega)
   rw[hx,Int.toNat_natCast,List.getElem?_eq_getElem hi,Option.getD_some] at e1
   rw[hy,Int.toNat_natCast,List.getElem?_eq_getElem hj,Option.getD_some] at e2
   have h3:=h.inj x y (by omega) (by omega) (by rw[← e1,← e2,e])
   subst h3
   have hi2:i<(openL g).length:=by omega
   have hj2:j<(openL g).length:=by omega
   rw[List.getElem?_eq_getElem hi2] at hx
   rw[List.getElem?_eq_getElem hj2] at hy
   have h5:(openL g)[i]=(openL g)[j]:=by simpa using hx.trans hy.symm
   have:=(List.getElem_inj (open_nodup g)).1 h5
   omega
 have hfill:fillG g (pathF g f)=f:=by
  apply List.ext_getElem
  ·rw[fillG_len,hfl]
  ·intro i h1 h2
   have hi:i<g.length:=by omega
   have key:(fillG g (pathF g f))[i]?.getD 0=f[i]?.getD 0:=by
    by_cases h0:g[i]?.getD 0=0
    ·obtain ⟨k,hk,e⟩:=open_at hi h0
     have h3:=fillG_open g (pathF g f) (by omega) k hk
     rw[pathF_at hk,e,Int.toNat_natCast] at h3
     exact h3
    ·rw[fillG_given g _ i h0,h.ext i hi h0]
   rw[List.getElem?_eq_getElem h1,List.getElem?_eq_getElem h2] at key
   simpa using key
 refine ⟨⟨⟨ho.1,ho.2,ho.3⟩,hl,fun k hk=>?_⟩,hfill⟩
 have hk':k≤(openL g).length:=hk
 unfold wrongB Cst.tbl
 rw[List.any_eq_false]
 intro l hm
 obtain ⟨hml,he⟩:=List.mem_filter.1 hm
 rw[List.length_take,Nat.min_eq_left (by omega)] at he
 have he2:lastO (openL g) l=k:=by
  have he3:lastO (gC cells ls sum g).O l=k:=by simpa using he
  exact he3
 have h3:=sum_prefix G ho hml (Nat.le_of_eq he2) (by omega)
 show ¬((sumAt l (fillG g ((pathF g f).take k)) != sum)=true)
 rw[h3,hfill,h.line l hml]
 simp
theorem mem_sols {cells:Int} {ls:List (List Int)} {sum:Int} {g:List Int} (G:GoodTask cells ls sum g) {f:List Int}:f∈solsL ls sum g []↔SolF ls sum g f:=by
 have e:solsL ls sum g []=sols (gC cells ls sum g) []:=(sols_pl (gC cells ls sum g) []).symm
 have hO:(gC cells ls sum g).O.length=(openL g).length:=rfl
 have hok0:OkP (gC cells ls sum g) []:=⟨by simp,fun x hx=>(by cases hx),List.nodup_nil⟩
 rw[e]
 unfold sols
 by_cases h0:(gC cells ls sum g).O.length=0
 ·rw[if_pos h0]
  by_cases hw:wrongB (gC cells ls sum g) []=true
  ·rw[if_pos hw]
   constructor
   ·intro h;cases h
   ·intro h
    obtain ⟨h1,_⟩:=solF_path G h
    have h2:=h1.right 0 (Nat.zero_le _)
    rw[List.take_zero,hw] at h2
    cases h2
  ·rw[if_neg hw]
   have hw':wrongB (gC cells ls sum g) []=false:=by simpa using hw
   constructor
   ·intro h
    rw[List.mem_singleton.1 h]
    refine solF_of G ⟨hok0,by rw[h0];rfl,fun k hk=>?_⟩
    rw[List.take_nil];exact hw'
   ·intro h
    obtain ⟨h1,h2⟩:=solF_path G h
    have h3:pathF g f=[]:=List.eq_nil_of_length_eq_zero (by rw[h1.len];exact h0)
    rw[h3] at h2
    rw[List.mem_singleton]
    exact h2.symm
 ·rw[if_neg h0]
  constructor
  ·intro h
   obtain ⟨S,h1,h2,_⟩:=found_sound (gC_even G) (gC_fine G) _ [] rfl hok0 (fun k hk=>absurd hk (Nat.not_lt_zero _)) f h
   rw[h2]
   exact solF_of G h1
  ·intro h
   obtain ⟨h1,h2⟩:=solF_path G h
   have h3:=found_mem (gC_even G) (gC_fine G) h1 _ [] rfl hok0 (.inl ⟨List.nil_prefix,fun e2=>by have:=h1.len;rw[← e2] at this;exact h0 this.symm⟩)
   rw[fillP_G] at h3
   have e3:(gC cells ls sum g).g=g:=rfl
   rw[e3,h2] at h3
   exact h3
theorem SolF.less {ls:List (List Int)} {sum:Int} {g f:List Int} {k:Nat} {x:Int} (hg:g[k]?.getD 0=0) (h:SolF ls sum (g.set k x) f):SolF ls sum g f:=by
 have hl:=h.len
 rw[List.length_set] at hl
 refine ⟨hl,fun i hi=>by have:=h.num i hi;rwa [List.length_set] at this,h.inj,fun i hi h0=>?_,h.line⟩
 have hne:i≠k:=fun e=>h0 (by rw[e];exact hg)
 have:=h.ext i (by rw[List.length_set];exact hi) (by rw[List.getElem?_set_ne (Ne.symm hne)];exact h0)
 rwa [List.getElem?_set_ne (Ne.symm hne)] at this
end
section
open Go Go.RowKit
theorem openTo_set {g:List Int} {c:Nat} {x:Int} (hc:c<g.length) (h0:g[c]?.getD 0=0) (hx:x≠0):∀n,(openTo g n).length=(openTo (g.set c x) n).length+(if c<n then 1 else 0)
 | 0=>by simp[openTo]
 | n+1=>by
  have ih:=openTo_set hc h0 hx n
  by_cases e:n=c
  ·subst e
   rw[openTo_hit (by simpa using h0),openTo_miss (by rw[List.getElem?_set_self hc];simpa using hx),List.length_append,ih]
   simp
  ·have h1:(g.set c x)[n]?.getD 0=g[n]?.getD 0:=by rw[List.getElem?_set_ne (Ne.symm e)]
   cases h2:(g[n]?.getD 0==0) with
   | true =>
    rw[openTo_hit h2,openTo_hit (by rw[h1];exact h2),List.length_append,List.length_append,ih]
    simp only[List.length_cons,List.length_nil]
    by_cases h3:c<n
    ·rw[if_pos h3,if_pos (by omega)]
    ·rw[if_neg h3,if_neg (by omega)]
   | false =>
    rw[openTo_miss h2,openTo_miss (by rw[h1];exact h2),ih]
    by_cases h3:c<n
    ·rw[if_pos h3,if_pos (by omega)]
    ·rw[if_neg h3,if_neg (by omega)]
theorem openL_set {g:List Int} {c:Nat} {x:Int} (hc:c<g.length) (h0:g[c]?.getD 0=0) (hx:x≠0):(openL g).length=(openL (g.set c x)).length+1:=by
 have:=openTo_set hc h0 hx g.length
 rw[if_pos hc] at this
 unfold openL
 rw[List.length_set]
 exact this
def mB:Nat→Nat
 | 0=>1
 | n+1=>1+(n+1)*mB n
termination_by n=>n
end
end Go.Proofs.YtaadpihbjhachaaGreat
