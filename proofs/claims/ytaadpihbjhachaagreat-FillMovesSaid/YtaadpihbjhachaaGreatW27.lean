/- Texts S2 to S4 of this proof, in one file. -/
import Derived.Test.YtaadpihbjhachaaGreatW16
import Derived.Test.YtaadpihbjhachaaGreatW17
import Derived.Test.YtaadpihbjhachaaGreatW18
import Derived.Test.YtaadpihbjhachaaGreatW23
import Derived.Test.YtaadpihbjhachaaGreatW26
namespace Go.Proofs.YtaadpihbjhachaaGreat
set_option maxRecDepth 100000
set_option maxHeartbeats 16000000
section
open Go Go.RowKit
structure SolF (ls:List (List Int)) (sum:Int) (g f:List Int):Prop where
 len:f.length=g.length
 num:∀i,i<f.length→1≤f[i]?.getD 0∧f[i]?.getD 0≤(g.length:Int)
 inj:∀i j,i<f.length→j<f.length→f[i]?.getD 0=f[j]?.getD 0→i=j
 ext:∀i,i<g.length→g[i]?.getD 0≠0→f[i]?.getD 0=g[i]?.getD 0
 line:∀l,l∈ls→jm l f=sum
theorem open_at {g:List Int} {i:Nat} (hi:i<g.length) (h0:g[i]?.getD 0=0):∃k,k<(zj g).length∧(zj g)[k]?.getD 0=(i:Int):=by
 have hm:(i:Int)∈zj g:=jN.2 ⟨by omega,by omega,by simpa using h0⟩
 obtain ⟨k,hk,e⟩:=List.getElem_of_mem hm
 exact ⟨k,hk,by rw[List.getElem?_eq_getElem hk];exact e⟩
theorem given_mem {g:List Int} {i:Nat} (hi:i<g.length):g[i]?.getD 0∈g:=by
 rw[List.getElem?_eq_getElem hi];exact List.getElem_mem hi
theorem solF_of {cells:Int} {ls:List (List Int)} {sum:Int} {g:List Int} (G:GoodTask cells ls sum g) {S:List Int} (h:SolP (gC cells ls sum g) S):SolF ls sum g (kh g S):=by
 have ho:OkG g S:=⟨h.ok.1,h.ok.2,h.ok.3⟩
 have hl:S.length=(zj g).length:=h.len
 have hgl:=G.len
 have hval:∀i,i<g.length→(g[i]?.getD 0≠0∧(kh g S)[i]?.getD 0=g[i]?.getD 0)∨(g[i]?.getD 0=0∧∃k,k<S.length∧(zj g)[k]?.getD 0=(i:Int)∧(kh g S)[i]?.getD 0=S[k]?.getD 0∧S[k]?.getD 0∈S∧S[k]?.getD 0∈zh g):=by
  intro i hi
  by_cases h0:g[i]?.getD 0=0
  ·obtain ⟨k,hk,e⟩:=open_at hi h0
   have h2:=fillG_open g S (by omega) k hk
   rw[e,Int.toNat_natCast] at h2
   have hm:=given_mem (g:=S) (i:=k) (by omega)
   exact .inr ⟨h0,k,by omega,e,h2,hm,ho.2 _ hm⟩
  ·exact .inl ⟨h0,fillG_given g S i h0⟩
 refine ⟨fillG_len g S,fun i hi=>?_,fun i j hi hj e=>?_,fun i _ h0=>fillG_given g S i h0,fun l hml=>?_⟩
 ·rw[fillG_len] at hi
  rcases hval i hi with ⟨h0,e⟩|⟨_,k,_,_,e,_,hu⟩
  ·rw[e];have:=G.num i hi;omega
  ·rw[e];have:=zT.1 hu;omega
 ·rw[fillG_len] at hi hj
  rcases hval i hi with ⟨h0,e1⟩|⟨h0,k,hk,ho1,e1,_,hu⟩
  ·rcases hval j hj with ⟨h0',e2⟩|⟨_,k',_,_,e2,_,hu'⟩
   ·rw[e1,e2] at e
    have hi1:=G.num i hi
    have hj1:=G.num j hj
    rcases Nat.lt_trichotomy i j with h3|h3|h3
    ·exact absurd e (G.apart i j h3 hj (by omega))
    ·exact h3
    ·exact absurd e.symm (G.apart j i h3 hi (by omega))
   ·rw[e1,e2] at e
    have:=(zT.1 hu').2.2
    rw[← e] at this
    exact absurd (js.2 (given_mem hi)) (by rw[this];decide)
  ·rcases hval j hj with ⟨h0',e2⟩|⟨_,k',hk',ho2,e2,_,_⟩
   ·rw[e1,e2] at e
    have:=(zT.1 hu).2.2
    rw[e] at this
    exact absurd (js.2 (given_mem hj)) (by rw[this];decide)
   ·rw[e1,e2,List.getElem?_eq_getElem hk,List.getElem?_eq_getElem hk'] at e
    have h5:=(List.getElem_inj ho.3).1 (by simpa using e)
    subst h5
    rw[ho1] at ho2
    omega
 ·have hk:qU (zj g) l≤S.length:=by
   unfold qU
   rw[lastN_le]
   intro i hi _
   omega
  have h2:=h.right (qU (zj g) l) (by show _≤(zj g).length;omega)
  unfold jE Cst.tbl at h2
  rw[List.any_eq_false] at h2
  have h3:=h2 l (List.mem_filter.2 ⟨hml,by
   rw[List.length_take,Nat.min_eq_left hk]
   exact beq_self_eq_true _⟩)
  have h4:jm l (kh g (S.take (qU (zj g) l)))=sum:=by
   have h5:jm l (jc (gC cells ls sum g) (S.take (qU (zj g) l)))=(gC cells ls sum g).sum:=by simpa using h3
   exact h5
  rw[← sum_prefix G ho hml (Nat.le_refl _) hk]
  exact h4
def pathF (g f:List Int):List Int:=(zj g).map fun c=>f[c.toNat]?.getD 0
theorem pathF_at {g f:List Int} {k:Nat} (hk:k<(zj g).length):(pathF g f)[k]?.getD 0=f[((zj g)[k]?.getD 0).toNat]?.getD 0:=by
 unfold pathF
 rw[List.getElem?_map,List.getElem?_eq_getElem hk]
 rfl
theorem solF_path {cells:Int} {ls:List (List Int)} {sum:Int} {g:List Int} (G:GoodTask cells ls sum g) {f:List Int} (h:SolF ls sum g f):SolP (gC cells ls sum g) (pathF g f)∧kh g (pathF g f)=f:=by
 have hl:(pathF g f).length=(zj g).length:=by unfold pathF;rw[List.length_map]
 have hfl:=h.len
 have hu:∀k,k<(zj g).length→(pathF g f)[k]?.getD 0∈zh g:=by
  intro k hk
  obtain ⟨x,hx,hxl,hx0⟩:=open_lt hk
  rw[pathF_at hk,hx,Int.toNat_natCast]
  have hn:=h.num x (by omega)
  refine zT.2 ⟨by omega,by omega,?_⟩
  rw[Bool.eq_false_iff]
  intro hb
  obtain ⟨i,hi,e⟩:=List.getElem_of_mem (js.1 hb)
  have e2:g[i]?.getD 0=f[x]?.getD 0:=by rw[List.getElem?_eq_getElem hi];exact e
  have h3:=h.ext i hi (by rw[e2];omega)
  have h4:=h.inj i x (by omega) (by omega) (h3.trans e2)
  subst h4
  rw[hx0] at e2
  omega
 have ho:OkG g (pathF g f):=by
  refine ⟨by show (pathF g f).length≤(zj g).length;omega,fun x hx=>?_,?_⟩
  ·obtain ⟨k,hk,e⟩:=List.getElem_of_mem hx
   have:=hu k (by omega)
   rw[List.getElem?_eq_getElem hk,Option.getD_some,e] at this
   exact this
  ·unfold List.Nodup
   rw[List.pairwise_iff_getElem]
   intro i j hi hj hij e
   obtain ⟨x,hx,hxl,_⟩:=open_lt (g:=g) (k:=i) (by omega)
   obtain ⟨y,hy,hyl,_⟩:=open_lt (g:=g) (k:=j) (by omega)
   have e1:=pathF_at (g:=g) (f:=f) (k:=i) (by omega)
   have e2:=pathF_at (g:=g) (f:=f) (k:=j) (by omega)
   rw[hx,Int.toNat_natCast,List.getElem?_eq_getElem hi,Option.getD_some] at e1
   rw[hy,Int.toNat_natCast,List.getElem?_eq_getElem hj,Option.getD_some] at e2
   have h3:=h.inj x y (by omega) (by omega) (by rw[← e1,← e2,e])
   subst h3
   have hi2:i<(zj g).length:=by omega
   have hj2:j<(zj g).length:=by omega
   rw[List.getElem?_eq_getElem hi2] at hx
   rw[List.getElem?_eq_getElem hj2] at hy
   have h5:(zj g)[i]=(zj g)[j]:=by simpa using hx.trans hy.symm
   have:=(List.getElem_inj (open_nodup g)).1 h5
   omega
 have hfill:kh g (pathF g f)=f:=by
  apply List.ext_getElem
  ·rw[fillG_len,hfl]
  ·intro i h1 h2
   have hi:i<g.length:=by omega
   have key:(kh g (pathF g f))[i]?.getD 0=f[i]?.getD 0:=by
    by_cases h0:g[i]?.getD 0=0
    ·obtain ⟨k,hk,e⟩:=open_at hi h0
     have h3:=fillG_open g (pathF g f) (by omega) k hk
     rw[pathF_at hk,e,Int.toNat_natCast] at h3
     exact h3
    ·rw[fillG_given g _ i h0,h.ext i hi h0]
   rw[List.getElem?_eq_getElem h1,List.getElem?_eq_getElem h2] at key
   simpa using key
 refine ⟨⟨⟨ho.1,ho.2,ho.3⟩,hl,fun k hk=>?_⟩,hfill⟩
 have hk':k≤(zj g).length:=hk
 unfold jE Cst.tbl
 rw[List.any_eq_false]
 intro l hm
 obtain ⟨hml,he⟩:=List.mem_filter.1 hm
 rw[List.length_take,Nat.min_eq_left (by omega)] at he
 have he2:qU (zj g) l=k:=by
  have he3:qU (gC cells ls sum g).O l=k:=by simpa using he
  exact he3
 have h3:=sum_prefix G ho hml (Nat.le_of_eq he2) (by omega)
 show ¬((jm l (kh g ((pathF g f).take k)) != sum)=true)
 rw[h3,hfill,h.line l hml]
 simp
theorem mem_sols {cells:Int} {ls:List (List Int)} {sum:Int} {g:List Int} (G:GoodTask cells ls sum g) {f:List Int}:f∈jk ls sum g []↔SolF ls sum g f:=by
 have e:jk ls sum g []=sols (gC cells ls sum g) []:=(sols_pl (gC cells ls sum g) []).symm
 have hO:(gC cells ls sum g).O.length=(zj g).length:=rfl
 have hok0:OkP (gC cells ls sum g) []:=⟨by simp,fun x hx=>(by cases hx),List.nodup_nil⟩
 rw[e]
 unfold sols
 by_cases h0:(gC cells ls sum g).O.length=0
 ·rw[if_pos h0]
  by_cases hw:jE (gC cells ls sum g) []=true
  ·rw[if_pos hw]
   constructor
   ·intro h;cases h
   ·intro h
    obtain ⟨h1,_⟩:=solF_path G h
    have h2:=h1.right 0 (Nat.zero_le _)
    rw[List.take_zero,hw] at h2
    cases h2
  ·rw[if_neg hw]
   have hw':jE (gC cells ls sum g) []=false:=by simpa using hw
   constructor
   ·intro h
    rw[List.mem_singleton.1 h]
    refine solF_of G ⟨hok0,by rw[h0];rfl,fun k hk=>?_⟩
    rw[List.take_nil];exact hw'
   ·intro h
    obtain ⟨h1,h2⟩:=solF_path G h
    have h3:pathF g f=[]:=List.eq_nil_of_length_eq_zero (by rw[h1.len];exact h0)
    rw[h3] at h2
    rw[List.mem_singleton]
    exact h2.symm
 ·rw[if_neg h0]
  constructor
  ·intro h
   obtain ⟨S,h1,h2,_⟩:=found_sound (gC_even G) (gC_fine G) _ [] rfl hok0 (fun k hk=>absurd hk (Nat.not_lt_zero _)) f h
   rw[h2]
   exact solF_of G h1
  ·intro h
   obtain ⟨h1,h2⟩:=solF_path G h
   have h3:=found_mem (gC_even G) (gC_fine G) h1 _ [] rfl hok0 (.inl ⟨List.nil_prefix,fun e2=>by have:=h1.len;rw[← e2] at this;exact h0 this.symm⟩)
   rw[fillP_G] at h3
   have e3:(gC cells ls sum g).g=g:=rfl
   rw[e3,h2] at h3
   exact h3
theorem no_sols {cells:Int} {ls:List (List Int)} {sum:Int} {g:List Int} (G:GoodTask cells ls sum g):(jk ls sum g []).length=0↔∀f,¬SolF ls sum g f:=by
 constructor
 ·intro h f hf
  have:=(mem_sols G).2 hf
  rw[List.eq_nil_of_length_eq_zero h] at this
  cases this
 ·intro h
  rcases Nat.eq_zero_or_pos (jk ls sum g []).length with h1|h1
  ·exact h1
  ·exact absurd ((mem_sols G).1 (List.getElem_mem h1)) (h _)
theorem SolF.less {ls:List (List Int)} {sum:Int} {g f:List Int} {k:Nat} {x:Int} (hg:g[k]?.getD 0=0) (h:SolF ls sum (g.set k x) f):SolF ls sum g f:=by
 have hl:=h.len
 rw[List.length_set] at hl
 refine ⟨hl,fun i hi=>by have:=h.num i hi;rwa [List.length_set] at this,h.inj,fun i hi h0=>?_,h.line⟩
 have hne:i≠k:=fun e=>h0 (by rw[e];exact hg)
 have:=h.ext i (by rw[List.length_set];exact hi) (by rw[List.getElem?_set_ne (Ne.symm hne)];exact h0)
 rwa [List.getElem?_set_ne (Ne.symm hne)] at this
end
section
open Go Go.RowKit
theorem openTo_set {g:List Int} {c:Nat} {x:Int} (hc:c<g.length) (h0:g[c]?.getD 0=0) (hx:x≠0):∀n,(jM g n).length=(jM (g.set c x) n).length+(if c<n then 1 else 0)
 | 0=>by simp[jM]
 | n+1=>by
  have ih:=openTo_set hc h0 hx n
  by_cases e:n=c
  ·subst e
   rw[openTo_hit (by simpa using h0),openTo_miss (by rw[List.getElem?_set_self hc];simpa using hx),List.length_append,ih]
   simp
  ·have h1:(g.set c x)[n]?.getD 0=g[n]?.getD 0:=by rw[List.getElem?_set_ne (Ne.symm e)]
   cases h2:(g[n]?.getD 0==0) with
   | true =>
    rw[openTo_hit h2,openTo_hit (by rw[h1];exact h2),List.length_append,List.length_append,ih]
    simp only[List.length_cons,List.length_nil]
    by_cases h3:c<n
    ·rw[if_pos h3,if_pos (by omega)]
    ·rw[if_neg h3,if_neg (by omega)]
   | false =>
    rw[openTo_miss h2,openTo_miss (by rw[h1];exact h2),ih]
    by_cases h3:c<n
    ·rw[if_pos h3,if_pos (by omega)]
    ·rw[if_neg h3,if_neg (by omega)]
theorem openL_set {g:List Int} {c:Nat} {x:Int} (hc:c<g.length) (h0:g[c]?.getD 0=0) (hx:x≠0):(zj g).length=(zj (g.set c x)).length+1:=by
 have:=openTo_set hc h0 hx g.length
 rw[if_pos hc] at this
 unfold zj
 rw[List.length_set]
 exact this
theorem tight_line {ls:List (List Int)} {g:List Int} {sum:Int} (h:0≤zV ls g sum):zV ls g sum<ls.length∧beyV (ls[(zV ls g sum).toNat]?.getD []) g sum=true:=by
 unfold zV at h ⊢
 cases e:(List.range ls.length).find? (fun k=>beyV (ls[k]?.getD []) g sum) with
 | none=>rw[e] at h;exact absurd h (by decide)
 | some k =>
  have h1:=List.find?_some e
  have h2:=List.mem_range.1 (List.mem_of_find?_eq_some e)
  simp only[Int.toNat_natCast]
  exact ⟨by omega,h1⟩
theorem tight_no {ls:List (List Int)} {g:List Int} {sum:Int} (h:¬0≤zV ls g sum):(∀l,l∈ls→beyV l g sum=false)∧zQ ls g sum=(jZ ls g ls.length).2:=by
 have h1:∀j,j<ls.length→beyV (ls[j]?.getD []) g sum=false:=by
  unfold zV at h
  cases e:(List.range ls.length).find? (fun k=>beyV (ls[k]?.getD []) g sum) with
  | none =>
   rw[List.find?_range_eq_none] at e
   intro j hj
   simpa using e j hj
  | some k=>rw[e] at h;exact absurd (by show (0:Int)≤(k:Int);omega) h
 refine ⟨fun l hl=>?_,(tight_none h1).2⟩
 obtain ⟨j,hj,rfl⟩:=List.getElem_of_mem hl
 have:=h1 j hj
 rwa [List.getElem?_eq_getElem hj] at this
theorem tightTo_open {cells:Int} {ls:List (List Int)} {sum:Int} {g:List Int} (G:GoodTask cells ls sum g) (h0:0<(zj g).length):∀k,k≤ls.length→(jZ ls g k).2∈zj g
 | 0,_=>by
  unfold jZ
  rw[List.getElem?_eq_getElem h0]
  exact List.getElem_mem h0
 | k+1,hk=>by
  have ih:=tightTo_open G h0 k (by omega)
  unfold jZ
  split
  ·rename_i h
   have hkl:k<ls.length:=by omega
   rw[List.getElem?_eq_getElem hkl,Option.getD_some] at h ⊢
   obtain ⟨h1,_⟩:=h
   generalize hl:ls[k]=l at h1 ⊢
   have hm:l∈ls:=by rw[← hl];exact List.getElem_mem hkl
   have hx:(qA l g l.length)[0]?.getD 0∈qA l g l.length:=by
    rw[List.getElem?_eq_getElem h1];exact List.getElem_mem h1
   show (qA l g l.length)[0]?.getD 0∈zj g
   generalize (qA l g l.length)[0]?.getD 0=y at hx ⊢
   unfold qA at hx
   obtain ⟨hy,he⟩:=List.mem_filter.1 hx
   rw[List.take_length] at hy
   have hr:=(G.lineLen hm).2 y hy
   have:=G.len
   exact jN.2 ⟨hr.1,by omega,by simpa using he⟩
  ·exact ih
theorem full_sol {cells:Int} {ls:List (List Int)} {sum:Int} {g:List Int} (G:GoodTask cells ls sum g) (h0:(zj g).length=0) (hb:∀l,l∈ls→beyV l g sum=false):SolF ls sum g g:=by
 have hgl:=G.len
 have hnz:∀i,i<g.length→g[i]?.getD 0≠0:=fun i hi e=>by
  obtain ⟨k,hk,_⟩:=open_at hi e
  omega
 refine ⟨rfl,fun i hi=>?_,fun i j hi hj e=>?_,fun i hi h=>rfl,fun l hl=>?_⟩
 ·have:=G.num i hi
  have:=hnz i hi
  omega
 ·have hi1:=G.num i hi
  have hj1:=G.num j hj
  have:=hnz i hi
  have:=hnz j hj
  rcases Nat.lt_trichotomy i j with h3|h3|h3
  ·exact absurd e (G.apart i j h3 hj (by omega))
  ·exact h3
  ·exact absurd e.symm (G.apart j i h3 hi (by omega))
 ·have h1:=hb l hl
  have hc:jz l g l.length=0:=by
   unfold jz
   rw[List.take_length]
   apply List.length_eq_zero_iff.2
   rw[List.filter_eq_nil_iff]
   intro c hc2
   have hr:=(G.lineLen hl).2 c hc2
   have:=hnz c.toNat (by omega)
   simpa using this
  unfold beyV lowV highV at h1
  rw[hc] at h1
  simp only[loU,hiU,List.range_zero,List.map_nil,List.sum_nil,Int.add_zero,Bool.or_eq_false_iff,decide_eq_false_iff_not] at h1
  omega
def mB:Nat→Nat
 | 0=>1
 | n+1=>1+(n+1)*mB n
theorem flat_len {α:Type} (F:Int→List α) (M:Nat):∀l:List Int,(∀x,x∈l→(F x).length≤M)→(l.flatMap F).length≤l.length*M
 | [],_=>by simp
 | x :: l,h=>by
  have h1:=h x List.mem_cons_self
  have h2:=flat_len F M l (fun y hy=>h y (List.mem_cons_of_mem _ hy))
  rw[List.flatMap_cons,List.length_append,List.length_cons,Nat.succ_mul]
  omega
theorem kids_flat {F:List Int→List Nd→Option (List Nd)} {g:List Int} {c:Nat} {M:Int→List Nd}:∀(us:List Int) (R:List Nd),(∀x,x∈us→∀R,F (g.set c x) (M x++R)=some R)→jP F g (us.map fun x=>((c:Int),x)) (us.flatMap M++R)=some R
 | [],R,_=>by simp[jP]
 | x :: us,R,h=>by
  simp only[List.map_cons,jP,List.flatMap_cons,Int.toNat_natCast]
  rw[List.append_assoc,h x List.mem_cons_self]
  exact kids_flat us R (fun y hy=>h y (List.mem_cons_of_mem _ hy))
theorem jQ:isK kLine kLine=true∧isK kCell kLine=false∧isK kCell kCell=true:=by
 unfold isK kLine kCell
 simp
theorem made_good {cells:Int} {ls:List (List Int)} {sum:Int}:∀(n:Nat) (g:List Int),GoodTask cells ls sum g→(zj g).length=n→(∀f,¬SolF ls sum g f) →
  okTB ls sum (n+1) g=true∧(ji ls sum (n+1) g).length≤mB n∧(∀d,d∈ji ls sum (n+1) g→jx g.length d=0)∧∀F,n+1≤F→∀R,jr ls sum F g (ji ls sum (n+1) g++R)=some R
 | n,g,G,hn,hns=>by
  have hgl:=G.len
  by_cases ht:0≤zV ls g sum
  ·obtain ⟨h1,h2⟩:=tight_line ht
   simp only[okTB,ji]
   rw[if_pos ht,decide_eq_true ht]
   refine ⟨rfl,?_,fun d hd=>?_,fun F hF R=>?_⟩
   ·cases n <;> simp[mB]
   ·rw[List.mem_singleton.1 hd]
    unfold jx
    have:qm kLine=true:=by unfold qm;rw[jQ.1];rfl
    simp only[this]
    rw[decide_eq_false (by decide),decide_eq_false (by omega)]
    rfl
   ·obtain ⟨f,rfl⟩:∃f,F=f+1:=⟨F - 1,by omega⟩
    simp only[List.cons_append,List.nil_append,jr]
    rw[if_pos jQ.1,if_pos]
    unfold jO
    simp only[BEq.rfl,Bool.true_and]
    rw[decide_eq_true ht,decide_eq_true h1,h2]
    rfl
  ·obtain ⟨h1,h2⟩:=tight_no ht
   have h0:0<(zj g).length:=by
    rcases Nat.eq_zero_or_pos (zj g).length with h0|h0
    ·exact absurd (full_sol G h0 h1) (hns g)
    ·exact h0
   have hm:=tightTo_open G h0 ls.length (Nat.le_refl _)
   rw[← h2] at hm
   obtain ⟨hc0,hc1,hc2⟩:=jN.1 hm
   obtain ⟨c,hc⟩:∃c:Nat,zQ ls g sum=(c:Int):=⟨(zQ ls g sum).toNat,by omega⟩
   rw[hc] at hc1 hc2
   rw[Int.toNat_natCast] at hc2
   have hcl:c<g.length:=by omega
   obtain ⟨m,rfl⟩:∃m,n=m+1:=⟨n - 1,by omega⟩
   have hU:(zh g).length=m+1:=by rw[G.even,hn]
   have hkid:∀x,x∈zh g→okTB ls sum (m+1) (g.set c x)=true∧(ji ls sum (m+1) (g.set c x)).length≤mB m∧(∀d,d∈ji ls sum (m+1) (g.set c x)→jx (g.set c x).length d=0)∧∀F,m+1≤F→∀R,jr ls sum F (g.set c x) (ji ls sum (m+1) (g.set c x)++R)=some R:=by
    intro x hx
    have hx1:=zT.1 hx
    have h5:=openL_set (x:=x) hcl hc2 (by omega)
    exact made_good m (g.set c x) (G.put hcl hx) (by omega) (fun f hf=>hns f (hf.less hc2))
   have eok:okTB ls sum (m+1+1) g=(decide (0≤zV ls g sum)||(decide (0≤zQ ls g sum)&&decide (zQ ls g sum<g.length)&&g[(zQ ls g sum).toNat]?.getD 0==0&&(zh g).all fun x=>okTB ls sum (m+1) (g.set (zQ ls g sum).toNat x))):=rfl
   have emd:ji ls sum (m+1+1) g=⟨kCell,zQ ls g sum,0,0,(zh g).length⟩ :: (zh g).flatMap fun x=>ji ls sum (m+1) (g.set (zQ ls g sum).toNat x):=by
    show (if 0≤zV ls g sum then _ else _)=_
    rw[if_neg ht]
   rw[hc] at eok emd
   rw[Int.toNat_natCast] at eok emd
   rw[eok,emd]
   refine ⟨?_,?_,fun d hd=>?_,fun F hF R=>?_⟩
   ·rw[decide_eq_true (by omega:(0:Int)≤(c:Int)),decide_eq_true hc1,hc2,List.all_eq_true.2 (fun x hx=>(hkid x hx).1)]
    simp
   ·rw[List.length_cons]
    have:=flat_len (fun x=>ji ls sum (m+1) (g.set c x)) (mB m) (zh g) (fun x hx=>(hkid x hx).2.1)
    rw[hU] at this
    simp only[mB]
    omega
   ·rcases List.mem_cons.1 hd with rfl|hd
    ·unfold jx
     have:qm kCell=true:=by unfold qm;rw[jQ.2.2];simp
     simp only[this]
     have hle:(zh g).length≤g.length:=jd g g.length
     rw[decide_eq_false (by omega),decide_eq_false (by omega)]
     rfl
    ·obtain ⟨x,hx,hd⟩:=List.mem_flatMap.1 hd
     have:=(hkid x hx).2.2.1 d hd
     rwa [List.length_set] at this
   ·obtain ⟨f,rfl⟩:∃f,F=f+1:=⟨F - 1,by omega⟩
    simp only[List.cons_append,jr]
    have hfc:=fine_cell (g:=g) (d:=⟨kCell,(c:Int),0,0,((zh g).length:Int)⟩) jQ.2.2
    rw[if_neg (by rw[jQ.2.1];decide),if_pos,hfc.2]
    ·exact kids_flat (zh g) R (fun x hx R=>(hkid x hx).2.2.2 f (by omega) R)
    ·unfold okN
     rw[hfc.1,hfc.2,List.length_map]
     simp only[BEq.rfl,Bool.true_and,Int.toNat_natCast]
     rw[decide_eq_true (by omega:(0:Int)≤(c:Int)),decide_eq_true hc1,hc2]
     rfl
termination_by n=>n
end
section
open Go Go.RowKit
theorem made_all {cells:Int} {ls:List (List Int)} {sum:Int} {g:List Int} (G:GoodTask cells ls sum g) (h6:(zj g).length≤6) (hns:(jk ls sum g []).length=0) {T:List Nd} (hT:ji ls sum ((zj g).length+1) g=T) :
  okTB ls sum ((zj g).length+1) g=true∧T.length≤1957∧jD g.length T=0∧qa ls sum g T=true:=by
 obtain ⟨h1,h2,h3,h4⟩:=made_good (zj g).length g G rfl ((no_sols G).1 hns)
 rw[hT] at h2 h3 h4
 have hm:mB (zj g).length≤1957:=by
  have:∀n,n≤6→mB n≤1957:=by decide
  exact this _ h6
 refine ⟨h1,by omega,?_,?_⟩
 ·unfold jD
  rw[if_neg (by omega)]
  refine ju (fun k hk=>?_)
  unfold ndAt
  rw[List.getElem?_eq_getElem hk]
  exact h3 _ (List.getElem_mem hk)
 ·have h5:=h4 (T.length+1+(zj g).length+1) (by omega) []
  rw[List.append_nil] at h5
  rw[refT_fuel ls sum _ (T.length+1) g T (by omega) (by omega)] at h5
  rw[proves_some h5]
  rfl
end
end Go.Proofs.YtaadpihbjhachaaGreat
