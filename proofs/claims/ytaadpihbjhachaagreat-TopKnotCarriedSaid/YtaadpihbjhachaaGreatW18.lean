/- Texts S0 to A10 of this proof, in one file. -/
import Derived.Test.YtaadpihbjhachaaGreatW01
import Derived.Test.YtaadpihbjhachaaGreatW03
import Derived.Test.YtaadpihbjhachaaGreatW05
import Derived.Test.YtaadpihbjhachaaGreatW08
import Derived.Test.YtaadpihbjhachaaGreatW09
import Derived.Test.YtaadpihbjhachaaGreatW10
import Derived.Test.YtaadpihbjhachaaGreatW11
import Derived.Test.YtaadpihbjhachaaGreatW12
import Derived.Test.YtaadpihbjhachaaGreatW14
import Derived.Test.YtaadpihbjhachaaGreatW15
import Derived.Test.YtaadpihbjhachaaGreatW16
import Derived.Test.YtaadpihbjhachaaGreatW17
import Derived.Below
import Derived.ChangeArms
import Derived.Deep.CutBlock
import Derived.Deep.CutRange
namespace Go.Proofs.YtaadpihbjhachaaGreat
set_option maxRecDepth 100000
set_option maxHeartbeats 16000000
section
open Go Go.RowKit
theorem lastN_le (O l:List Int) (m:Nat):∀n,(List.range n).foldl (fun m i=>if hasB l (O[i]?.getD 0)=true then i+1 else m) 0≤m↔∀i,i<n→hasB l (O[i]?.getD 0)=true→i+1≤m
 | 0=>by simp
 | n+1=>by
  rw[List.range_succ,List.foldl_append]
  simp only[List.foldl_cons,List.foldl_nil]
  by_cases h:hasB l (O[n]?.getD 0)=true
  ·rw[if_pos h]
   constructor
   ·intro h1 i hi _;omega
   ·intro h1;exact h1 n (by omega) h
  ·rw[if_neg h,lastN_le O l m n]
   constructor
   ·intro h1 i hi h2
    by_cases e:i=n
    ·subst e;exact absurd h2 h
    ·exact h1 i (by omega) h2
   ·intro h1 i hi h2;exact h1 i (by omega) h2
theorem fillG_openT (g P:List Int) (hP:P.length≤(openL g).length):∀n,n≤P.length→∀i,i<(openL g).length→(fillG g (P.take n))[((openL g)[i]?.getD 0).toNat]?.getD 0=(P.take n)[i]?.getD 0
 | 0,_,i,hi=>by
  obtain ⟨x,h1,_,h3⟩:=open_lt hi
  rw[List.take_zero]
  have e:fillG g []=g:=by unfold fillG;rw[List.zip_nil_right];rfl
  rw[e,h1,Int.toNat_natCast,h3];rfl
 | n+1,hn,i,hi=>by
  have ih:=fillG_openT g P hP n (by omega) i hi
  have hl:(P.take n).length=n:=by rw[List.length_take];omega
  rw[take_snoc P 0 n (by omega),fillG_snoc g _ _ (by rw[hl];omega),hl]
  obtain ⟨x,h1,h2,_⟩:=open_lt (g:=g) (k:=n) (by omega)
  obtain ⟨y,k1,_,_⟩:=open_lt hi
  rw[h1,Int.toNat_natCast]
  by_cases e:i=n
  ·subst e
   rw[h1,Int.toNat_natCast,List.getElem?_set_self (by rw[fillG_len];exact h2),List.getElem?_append_right (by omega),hl]
   simp
  ·have hne:x≠y:=by
    intro e2
    have hn':n<(openL g).length:=by omega
    rw[List.getElem?_eq_getElem hi] at k1
    rw[List.getElem?_eq_getElem hn'] at h1
    simp only[Option.getD_some] at k1 h1
    have h5:(openL g)[i]=(openL g)[n]:=by rw[k1,h1,e2]
    exact e ((List.getElem_inj (open_nodup g)).1 h5)
   rw[k1,Int.toNat_natCast,List.getElem?_set_ne hne]
   rw[k1,Int.toNat_natCast] at ih
   rw[ih]
   rcases Nat.lt_or_ge i n with h6|h6
   ·rw[List.getElem?_append_left (by omega)]
   ·rw[List.getElem?_eq_none (by omega),List.getElem?_eq_none (by simp;omega)]
theorem fillG_open (g P:List Int) (hP:P.length≤(openL g).length) (i:Nat) (hi:i<(openL g).length):(fillG g P)[((openL g)[i]?.getD 0).toNat]?.getD 0=P[i]?.getD 0:=by
 have:=fillG_openT g P hP P.length (Nat.le_refl _) i hi
 rwa [List.take_length] at this
theorem zip_fst {α β:Type} {x:α × β}:∀{O:List α} {P:List β},x∈O.zip P→x.1∈O
 | [],_,h=>by simp at h
 | _ :: _,[],h=>by simp at h
 | o :: O,p :: P,h=>by
  rw[List.zip_cons_cons,List.mem_cons] at h
  rcases h with h|h
  ·rw[h];exact List.mem_cons_self
  ·exact List.mem_cons_of_mem _ (zip_fst h)
theorem fillG_given (g P:List Int) (c:Nat) (h:g[c]?.getD 0≠0):(fillG g P)[c]?.getD 0=g[c]?.getD 0:=by
 unfold fillG
 rw[foldl_set_other]
 intro x hx e
 have h1:=mem_open.1 (zip_fst hx)
 rw[e] at h1
 exact h h1.2.2
theorem sum_prefix {cells:Int} {ls:List (List Int)} {sum:Int} {g:List Int} (G:GoodTask cells ls sum g) {P:List Int} (ho:OkG g P) {l:List Int} (hl:l∈ls) {k:Nat} (hk:lastO (openL g) l≤k) (hkp:k≤P.length):sumAt l (fillG g (P.take k))=sumAt l (fillG g P):=by
 unfold sumAt
 congr 1
 apply List.map_congr_left
 intro c hc
 have hr:=(G.lineLen hl).2 c hc
 have hgl:=G.len
 have hpl:=ho.len
 by_cases hg:g[c.toNat]?.getD 0=0
 ·have hm:c∈openL g:=mem_open.2 ⟨hr.1,by omega,hg⟩
  obtain ⟨i,hi,e⟩:=List.getElem_of_mem hm
  have e2:(openL g)[i]?.getD 0=c:=by rw[List.getElem?_eq_getElem hi];exact e
  have h1:=fillG_open g (P.take k) (by rw[List.length_take];omega) i hi
  have h2:=fillG_open g P hpl i hi
  rw[e2] at h1 h2
  have h3:i+1≤k:=by
   unfold lastO at hk
   exact (lastN_le _ _ _ _).1 hk i hi (by rw[e2];exact hasB_iff.2 hc)
  rw[h1,h2,List.getElem?_take,if_pos (by omega)]
 ·rw[fillG_given g _ _ hg,fillG_given g _ _ hg]
end
section
open Go Go.RowKit
attribute [local go_sem] over_cell
attribute [local go_sem] Oper.semAt_some
theorem IC.other {w:World} {b o n b' i:Nat} {xs:List Int} (h:IC w (some ⟨b,o,none⟩) n xs) (hb:b≠b') (v:Value):IC (w.setCell ⟨b',i,none⟩ v) (some ⟨b,o,none⟩) n xs :=
 ⟨h.1,fun k hk=>by
  obtain ⟨b2,off,e,hlt,hc⟩:=h.2 k hk
  cases e
  exact ⟨b,o,rfl,by simpa using hlt,(World.cell?_of_block (Below.heap_setCell _ _ _ _ hb)).trans hc⟩⟩
end
section
open Go Go.RowKit
attribute [local go_sem] over_cell
attribute [local go_sem] Oper.semAt_some
end
section
open Go Go.RowKit
section
variable {P:Program} {ops:Array Oper} {Q:Exit→Act→World→Prop} {md:Region.Mode} {S:World→Prop}
theorem loud_step (hs:Region.noSelect ops=true) (lt:List Nat) (hQ:∀c a d v w,Q (.panic c) (Act.put a d v) w→Q (.panic c) a w) {i:Nat} {t:List (Nat × Nat)} {listed:Array Bool} {a:Act} {w:World}
  (hcl:Closed md ops listed) (hS:S w) (hr:i∈Region.ready md ops listed) (hc:seqOk md ops lt t (listed.setIfInBounds i true)=true) (h:wpS P ops S Q (pickOps ops.toList ((1,i) :: t)) a w) :
  wpOp P ops Q i (fun a' w'=>(lt.contains i=false→S w')∧wpL P md ops Q S (fun i=>lt.contains i) t.length (listed.setIfInBounds i true) a' w') a w:=by
 obtain ⟨oi,hoi⟩:∃oi,ops[i]?=some oi:=by
  obtain ⟨_,oi,h1,_⟩:=(mem_ready (md:=md) (ops:=ops) (listed:=listed) (j:=i)).1 hr
  exact ⟨oi,h1⟩
 have hp:nthOp ops.toList i=some oi:=by rw[nthOp_eq];simpa using hoi
 simp only[pickOps,hp,wpS] at h
 refine wpOp_of_if hoi ?_
 split
 ·rename_i hw
  rw[if_pos hw] at h
  exact h.imp (Oper.wp_mono fun a' w' hk=>⟨fun _=>hk.1,wpL_of_S hs lt hQ t _ a' w' (hcl.set hr) (fun _=>hk.1) hc hk.2⟩) id
 ·rename_i hw
  rw[if_neg hw] at h
  exact ⟨fun _=>hS,wpL_of_S hs lt hQ t _ _ w (hcl.set hr) (fun _=>hS) hc h⟩
end
end
section
open Go Go.RowKit
attribute [local go_sem] over_cell
attribute [local go_sem] Oper.semAt_some
end
section
open Go Go.RowKit
attribute [local go_sem] over_cell
attribute [local go_sem] Oper.semAt_some
theorem proves_some {ls:List (List Int)} {sum:Int} {g:List Int} {T R:List Nd} (h:refT ls sum (T.length+1) g T=some R):provesT ls sum g T=decide (R=[]):=by
 unfold provesT
 rw[h]
 cases R <;> simp
end
section
open Go Go.RowKit
structure SolF (ls:List (List Int)) (sum:Int) (g f:List Int):Prop where
 len:f.length=g.length
 num:∀i,i<f.length→1≤f[i]?.getD 0∧f[i]?.getD 0≤(g.length:Int)
 inj:∀i j,i<f.length→j<f.length→f[i]?.getD 0=f[j]?.getD 0→i=j
 ext:∀i,i<g.length→g[i]?.getD 0≠0→f[i]?.getD 0=g[i]?.getD 0
 line:∀l,l∈ls→sumAt l f=sum
theorem open_at {g:List Int} {i:Nat} (hi:i<g.length) (h0:g[i]?.getD 0=0):∃k,k<(openL g).length∧(openL g)[k]?.getD 0=(i:Int):=by
 have hm:(i:Int)∈openL g:=mem_open.2 ⟨by omega,by omega,by simpa using h0⟩
 obtain ⟨k,hk,e⟩:=List.getElem_of_mem hm
 exact ⟨k,hk,by rw[List.getElem?_eq_getElem hk];exact e⟩
theorem given_mem {g:List Int} {i:Nat} (hi:i<g.length):g[i]?.getD 0∈g:=by
 rw[List.getElem?_eq_getElem hi];exact List.getElem_mem hi
theorem solF_of {cells:Int} {ls:List (List Int)} {sum:Int} {g:List Int} (G:GoodTask cells ls sum g) {S:List Int} (h:SolP (gC cells ls sum g) S):SolF ls sum g (fillG g S):=by
 have ho:OkG g S:=⟨h.ok.1,h.ok.2,h.ok.3⟩
 have hl:S.length=(openL g).length:=h.len
 have hgl:=G.len
 have hval:∀i,i<g.length→(g[i]?.getD 0≠0∧(fillG g S)[i]?.getD 0=g[i]?.getD 0)∨(g[i]?.getD 0=0∧∃k,k<S.length∧(openL g)[k]?.getD 0=(i:Int)∧(fillG g S)[i]?.getD 0=S[k]?.getD 0∧S[k]?.getD 0∈S∧S[k]?.getD 0∈unusedL g):=by
  intro i hi
  by_cases h0:g[i]?.getD 0=0
  ·obtain ⟨k,hk,e⟩:=open_at hi h0
   have h2:=fillG_open g S (by omega) k hk
   rw[e,Int.toNat_natCast] at h2
   have hm:=given_mem (g:=S) (i:=k) (by omega)
   exact .inr ⟨h0,k,by omega,e,h2,hm,ho.2 _ hm⟩
  ·exact .inl ⟨h0,fillG_given g S i h0⟩
 refine ⟨fillG_len g S,fun i hi=>?_,fun i j hi hj e=>?_,fun i _ h0=>fillG_given g S i h0,fun l hml=>?_⟩
 ·rw[fillG_len] at hi
  rcases hval i hi with ⟨h0,e⟩|⟨_,k,_,_,e,_,hu⟩
  ·rw[e];have:=G.num i hi;omega
  ·rw[e];have:=mem_unused.1 hu;omega
 ·rw[fillG_len] at hi hj
  rcases hval i hi with ⟨h0,e1⟩|⟨h0,k,hk,ho1,e1,_,hu⟩
  ·rcases hval j hj with ⟨h0',e2⟩|⟨_,k',_,_,e2,_,hu'⟩
   ·rw[e1,e2] at e
    have hi1:=G.num i hi
    have hj1:=G.num j hj
    rcases Nat.lt_trichotomy i j with h3|h3|h3
    ·exact absurd e (G.apart i j h3 hj (by omega))
    ·exact h3
    ·exact absurd e.symm (G.apart j i h3 hi (by omega))
   ·rw[e1,e2] at e
    have:=(mem_unused.1 hu').2.2
    rw[← e] at this
    exact absurd (hasB_iff.2 (given_mem hi)) (by rw[this];decide)
  ·rcases hval j hj with ⟨h0',e2⟩|⟨_,k',hk',ho2,e2,_,_⟩
   ·rw[e1,e2] at e
    have:=(mem_unused.1 hu).2.2
    rw[e] at this
    exact absurd (hasB_iff.2 (given_mem hj)) (by rw[this];decide)
   ·rw[e1,e2,List.getElem?_eq_getElem hk,List.getElem?_eq_getElem hk'] at e
    have h5:=(List.getElem_inj ho.3).1 (by simpa using e)
    subst h5
    rw[ho1] at ho2
    omega
 ·have hk:lastO (openL g) l≤S.length:=by
   unfold lastO
   rw[lastN_le]
   intro i hi _
   omega
  have h2:=h.right (lastO (openL g) l) (by show _≤(openL g).length;omega)
  unfold wrongB Cst.tbl at h2
  rw[List.any_eq_false] at h2
  have h3:=h2 l (List.mem_filter.2 ⟨hml,by
   rw[List.length_take,Nat.min_eq_left hk]
   exact beq_self_eq_true _⟩)
  have h4:sumAt l (fillG g (S.take (lastO (openL g) l)))=sum:=by
   have h5:sumAt l (fillP (gC cells ls sum g) (S.take (lastO (openL g) l)))=(gC cells ls sum g).sum:=by simpa using h3
   exact h5
  rw[← sum_prefix G ho hml (Nat.le_refl _) hk]
  exact h4
def pathF (g f:List Int):List Int:=(openL g).map fun c=>f[c.toNat]?.getD 0
theorem pathF_at {g f:List Int} {k:Nat} (hk:k<(openL g).length):(pathF g f)[k]?.getD 0=f[((openL g)[k]?.getD 0).toNat]?.getD 0:=by
 unfold pathF
 rw[List.getElem?_map,List.getElem?_eq_getElem hk]
 rfl
theorem solF_path {cells:Int} {ls:List (List Int)} {sum:Int} {g:List Int} (G:GoodTask cells ls sum g) {f:List Int} (h:SolF ls sum g f):SolP (gC cells ls sum g) (pathF g f)∧fillG g (pathF g f)=f:=by
 have hl:(pathF g f).length=(openL g).length:=by unfold pathF;rw[List.length_map]
 have hfl:=h.len
 have hu:∀k,k<(openL g).length→(pathF g f)[k]?.getD 0∈unusedL g:=by
  intro k hk
  obtain ⟨x,hx,hxl,hx0⟩:=open_lt hk
  rw[pathF_at hk,hx,Int.toNat_natCast]
  have hn:=h.num x (by omega)
  refine mem_unused.2 ⟨by omega,by omega,?_⟩
  rw[Bool.eq_false_iff]
  intro hb
  obtain ⟨i,hi,e⟩:=List.getElem_of_mem (hasB_iff.1 hb)
  have e2:g[i]?.getD 0=f[x]?.getD 0:=by rw[List.getElem?_eq_getElem hi];exact e
  have h3:=h.ext i hi (by rw[e2];omega)
  have h4:=h.inj i x (by omega) (by omega) (h3.trans e2)
  subst h4
  rw[hx0] at e2
  omega
 have ho:OkG g (pathF g f):=by
  refine ⟨by show (pathF g f).length≤(openL g).length;omega,fun x hx=>?_,?_⟩
  ·obtain ⟨k,hk,e⟩:=List.getElem_of_mem hx
   have:=hu k (by omega)
   rw[List.getElem?_eq_getElem hk,Option.getD_some,e] at this
   exact this
  ·unfold List.Nodup
   rw[List.pairwise_iff_getElem]
   intro i j hi hj hij e
   obtain ⟨x,hx,hxl,_⟩:=open_lt (g:=g) (k:=i) (by omega)
   obtain ⟨y,hy,hyl,_⟩:=open_lt (g:=g) (k:=j) (by omega)
   have e1:=pathF_at (g:=g) (f:=f) (k:=i) (by omega)
   have e2:=pathF_at (g:=g) (f:=f) (k:=j) (by omega)
   rw[hx,Int.toNat_natCast,List.getElem?_eq_getElem hi,Option.getD_some] at e1
   rw[hy,Int.toNat_natCast,List.getElem?_eq_getElem hj,Option.getD_some] at e2
   have h3:=h.inj x y (by omega) (by omega) (by rw[← e1,← e2,e])
   subst h3
   have hi2:i<(openL g).length:=by omega
   have hj2:j<(openL g).length:=by omega
   rw[List.getElem?_eq_getElem hi2] at hx
   rw[List.getElem?_eq_getElem hj2] at hy
   have h5:(openL g)[i]=(openL g)[j]:=by simpa using hx.trans hy.symm
   have:=(List.getElem_inj (open_nodup g)).1 h5
   omega
 have hfill:fillG g (pathF g f)=f:=by
  apply List.ext_getElem
  ·rw[fillG_len,hfl]
  ·intro i h1 h2
   have hi:i<g.length:=by omega
   have key:(fillG g (pathF g f))[i]?.getD 0=f[i]?.getD 0:=by
    by_cases h0:g[i]?.getD 0=0
    ·obtain ⟨k,hk,e⟩:=open_at hi h0
     have h3:=fillG_open g (pathF g f) (by omega) k hk
     rw[pathF_at hk,e,Int.toNat_natCast] at h3
     exact h3
    ·rw[fillG_given g _ i h0,h.ext i hi h0]
   rw[List.getElem?_eq_getElem h1,List.getElem?_eq_getElem h2] at key
   simpa using key
 refine ⟨⟨⟨ho.1,ho.2,ho.3⟩,hl,fun k hk=>?_⟩,hfill⟩
 have hk':k≤(openL g).length:=hk
 unfold wrongB Cst.tbl
 rw[List.any_eq_false]
 intro l hm
 obtain ⟨hml,he⟩:=List.mem_filter.1 hm
 rw[List.length_take,Nat.min_eq_left (by omega)] at he
 have he2:lastO (openL g) l=k:=by
  have he3:lastO (gC cells ls sum g).O l=k:=by simpa using he
  exact he3
 have h3:=sum_prefix G ho hml (Nat.le_of_eq he2) (by omega)
 show ¬((sumAt l (fillG g ((pathF g f).take k)) != sum)=true)
 rw[h3,hfill,h.line l hml]
 simp
theorem mem_sols {cells:Int} {ls:List (List Int)} {sum:Int} {g:List Int} (G:GoodTask cells ls sum g) {f:List Int}:f∈solsL ls sum g []↔SolF ls sum g f:=by
 have e:solsL ls sum g []=sols (gC cells ls sum g) []:=(sols_pl (gC cells ls sum g) []).symm
 have hO:(gC cells ls sum g).O.length=(openL g).length:=rfl
 have hok0:OkP (gC cells ls sum g) []:=⟨by simp,fun x hx=>(by cases hx),List.nodup_nil⟩
 rw[e]
 unfold sols
 by_cases h0:(gC cells ls sum g).O.length=0
 ·rw[if_pos h0]
  by_cases hw:wrongB (gC cells ls sum g) []=true
  ·rw[if_pos hw]
   constructor
   ·intro h;cases h
   ·intro h
    obtain ⟨h1,_⟩:=solF_path G h
    have h2:=h1.right 0 (Nat.zero_le _)
    rw[List.take_zero,hw] at h2
    cases h2
  ·rw[if_neg hw]
   have hw':wrongB (gC cells ls sum g) []=false:=by simpa using hw
   constructor
   ·intro h
    rw[List.mem_singleton.1 h]
    refine solF_of G ⟨hok0,by rw[h0];rfl,fun k hk=>?_⟩
    rw[List.take_nil];exact hw'
   ·intro h
    obtain ⟨h1,h2⟩:=solF_path G h
    have h3:pathF g f=[]:=List.eq_nil_of_length_eq_zero (by rw[h1.len];exact h0)
    rw[h3] at h2
    rw[List.mem_singleton]
    exact h2.symm
 ·rw[if_neg h0]
  constructor
  ·intro h
   obtain ⟨S,h1,h2,_⟩:=found_sound (gC_even G) (gC_fine G) _ [] rfl hok0 (fun k hk=>absurd hk (Nat.not_lt_zero _)) f h
   rw[h2]
   exact solF_of G h1
  ·intro h
   obtain ⟨h1,h2⟩:=solF_path G h
   have h3:=found_mem (gC_even G) (gC_fine G) h1 _ [] rfl hok0 (.inl ⟨List.nil_prefix,fun e2=>by have:=h1.len;rw[← e2] at this;exact h0 this.symm⟩)
   rw[fillP_G] at h3
   have e3:(gC cells ls sum g).g=g:=rfl
   rw[e3,h2] at h3
   exact h3
theorem no_sols {cells:Int} {ls:List (List Int)} {sum:Int} {g:List Int} (G:GoodTask cells ls sum g):(solsL ls sum g []).length=0↔∀f,¬SolF ls sum g f:=by
 constructor
 ·intro h f hf
  have:=(mem_sols G).2 hf
  rw[List.eq_nil_of_length_eq_zero h] at this
  cases this
 ·intro h
  rcases Nat.eq_zero_or_pos (solsL ls sum g []).length with h1|h1
  ·exact h1
  ·exact absurd ((mem_sols G).1 (List.getElem_mem h1)) (h _)
theorem SolF.less {ls:List (List Int)} {sum:Int} {g f:List Int} {k:Nat} {x:Int} (hg:g[k]?.getD 0=0) (h:SolF ls sum (g.set k x) f):SolF ls sum g f:=by
 have hl:=h.len
 rw[List.length_set] at hl
 refine ⟨hl,fun i hi=>by have:=h.num i hi;rwa [List.length_set] at this,h.inj,fun i hi h0=>?_,h.line⟩
 have hne:i≠k:=fun e=>h0 (by rw[e];exact hg)
 have:=h.ext i (by rw[List.length_set];exact hi) (by rw[List.getElem?_set_ne (Ne.symm hne)];exact h0)
 rwa [List.getElem?_set_ne (Ne.symm hne)] at this
end
section
open Go Go.RowKit
theorem openTo_set {g:List Int} {c:Nat} {x:Int} (hc:c<g.length) (h0:g[c]?.getD 0=0) (hx:x≠0):∀n,(openTo g n).length=(openTo (g.set c x) n).length+(if c<n then 1 else 0)
 | 0=>by simp[openTo]
 | n+1=>by
  have ih:=openTo_set hc h0 hx n
  by_cases e:n=c
  ·subst e
   rw[openTo_hit (by simpa using h0),openTo_miss (by rw[List.getElem?_set_self hc];simpa using hx),List.length_append,ih]
   simp
  ·have h1:(g.set c x)[n]?.getD 0=g[n]?.getD 0:=by rw[List.getElem?_set_ne (Ne.symm e)]
   cases h2:(g[n]?.getD 0==0) with
   | true =>
    rw[openTo_hit h2,openTo_hit (by rw[h1];exact h2),List.length_append,List.length_append,ih]
    simp only[List.length_cons,List.length_nil]
    by_cases h3:c<n
    ·rw[if_pos h3,if_pos (by omega)]
    ·rw[if_neg h3,if_neg (by omega)]
   | false =>
    rw[openTo_miss h2,openTo_miss (by rw[h1];exact h2),ih]
    by_cases h3:c<n
    ·rw[if_pos h3,if_pos (by omega)]
    ·rw[if_neg h3,if_neg (by omega)]
theorem openL_set {g:List Int} {c:Nat} {x:Int} (hc:c<g.length) (h0:g[c]?.getD 0=0) (hx:x≠0):(openL g).length=(openL (g.set c x)).length+1:=by
 have:=openTo_set hc h0 hx g.length
 rw[if_pos hc] at this
 unfold openL
 rw[List.length_set]
 exact this
theorem tight_line {ls:List (List Int)} {g:List Int} {sum:Int} (h:0≤tightLine ls g sum):tightLine ls g sum<ls.length∧beyV (ls[(tightLine ls g sum).toNat]?.getD []) g sum=true:=by
 unfold tightLine at h ⊢
 cases e:(List.range ls.length).find? (fun k=>beyV (ls[k]?.getD []) g sum) with
 | none=>rw[e] at h;exact absurd h (by decide)
 | some k =>
  have h1:=List.find?_some e
  have h2:=List.mem_range.1 (List.mem_of_find?_eq_some e)
  simp only[Int.toNat_natCast]
  exact ⟨by omega,h1⟩
theorem tight_no {ls:List (List Int)} {g:List Int} {sum:Int} (h:¬0≤tightLine ls g sum):(∀l,l∈ls→beyV l g sum=false)∧tightCell ls g sum=(tightTo ls g ls.length).2:=by
 have h1:∀j,j<ls.length→beyV (ls[j]?.getD []) g sum=false:=by
  unfold tightLine at h
  cases e:(List.range ls.length).find? (fun k=>beyV (ls[k]?.getD []) g sum) with
  | none =>
   rw[List.find?_range_eq_none] at e
   intro j hj
   simpa using e j hj
  | some k=>rw[e] at h;exact absurd (by show (0:Int)≤(k:Int);omega) h
 refine ⟨fun l hl=>?_,(tight_none h1).2⟩
 obtain ⟨j,hj,rfl⟩:=List.getElem_of_mem hl
 have:=h1 j hj
 rwa [List.getElem?_eq_getElem hj] at this
theorem tightTo_open {cells:Int} {ls:List (List Int)} {sum:Int} {g:List Int} (G:GoodTask cells ls sum g) (h0:0<(openL g).length):∀k,k≤ls.length→(tightTo ls g k).2∈openL g
 | 0,_=>by
  unfold tightTo
  rw[List.getElem?_eq_getElem h0]
  exact List.getElem_mem h0
 | k+1,hk=>by
  have ih:=tightTo_open G h0 k (by omega)
  unfold tightTo
  split
  ·rename_i h
   have hkl:k<ls.length:=by omega
   rw[List.getElem?_eq_getElem hkl,Option.getD_some] at h ⊢
   obtain ⟨h1,_⟩:=h
   generalize hl:ls[k]=l at h1 ⊢
   have hm:l∈ls:=by rw[← hl];exact List.getElem_mem hkl
   have hx:(ownTo l g l.length)[0]?.getD 0∈ownTo l g l.length:=by
    rw[List.getElem?_eq_getElem h1];exact List.getElem_mem h1
   show (ownTo l g l.length)[0]?.getD 0∈openL g
   generalize (ownTo l g l.length)[0]?.getD 0=y at hx ⊢
   unfold ownTo at hx
   obtain ⟨hy,he⟩:=List.mem_filter.1 hx
   rw[List.take_length] at hy
   have hr:=(G.lineLen hm).2 y hy
   have:=G.len
   exact mem_open.2 ⟨hr.1,by omega,by simpa using he⟩
  ·exact ih
theorem full_sol {cells:Int} {ls:List (List Int)} {sum:Int} {g:List Int} (G:GoodTask cells ls sum g) (h0:(openL g).length=0) (hb:∀l,l∈ls→beyV l g sum=false):SolF ls sum g g:=by
 have hgl:=G.len
 have hnz:∀i,i<g.length→g[i]?.getD 0≠0:=fun i hi e=>by
  obtain ⟨k,hk,_⟩:=open_at hi e
  omega
 refine ⟨rfl,fun i hi=>?_,fun i j hi hj e=>?_,fun i hi h=>rfl,fun l hl=>?_⟩
 ·have:=G.num i hi
  have:=hnz i hi
  omega
 ·have hi1:=G.num i hi
  have hj1:=G.num j hj
  have:=hnz i hi
  have:=hnz j hj
  rcases Nat.lt_trichotomy i j with h3|h3|h3
  ·exact absurd e (G.apart i j h3 hj (by omega))
  ·exact h3
  ·exact absurd e.symm (G.apart j i h3 hi (by omega))
 ·have h1:=hb l hl
  have hc:cntTo l g l.length=0:=by
   unfold cntTo
   rw[List.take_length]
   apply List.length_eq_zero_iff.2
   rw[List.filter_eq_nil_iff]
   intro c hc2
   have hr:=(G.lineLen hl).2 c hc2
   have:=hnz c.toNat (by omega)
   simpa using this
  unfold beyV lowV highV at h1
  rw[hc] at h1
  simp only[loU,hiU,List.range_zero,List.map_nil,List.sum_nil,Int.add_zero,Bool.or_eq_false_iff,decide_eq_false_iff_not] at h1
  omega
def mB:Nat→Nat
 | 0=>1
 | n+1=>1+(n+1)*mB n
theorem flat_len {α:Type} (F:Int→List α) (M:Nat):∀l:List Int,(∀x,x∈l→(F x).length≤M)→(l.flatMap F).length≤l.length*M
 | [],_=>by simp
 | x :: l,h=>by
  have h1:=h x List.mem_cons_self
  have h2:=flat_len F M l (fun y hy=>h y (List.mem_cons_of_mem _ hy))
  rw[List.flatMap_cons,List.length_append,List.length_cons,Nat.succ_mul]
  omega
theorem kids_flat {F:List Int→List Nd→Option (List Nd)} {g:List Int} {c:Nat} {M:Int→List Nd}:∀(us:List Int) (R:List Nd),(∀x,x∈us→∀R,F (g.set c x) (M x++R)=some R)→kidsR F g (us.map fun x=>((c:Int),x)) (us.flatMap M++R)=some R
 | [],R,_=>by simp[kidsR]
 | x :: us,R,h=>by
  simp only[List.map_cons,kidsR,List.flatMap_cons,Int.toNat_natCast]
  rw[List.append_assoc,h x List.mem_cons_self]
  exact kids_flat us R (fun y hy=>h y (List.mem_cons_of_mem _ hy))
theorem kind_vals:isK kLine kLine=true∧isK kCell kLine=false∧isK kCell kCell=true:=by
 unfold isK kLine kCell
 simp
theorem made_good {cells:Int} {ls:List (List Int)} {sum:Int}:∀(n:Nat) (g:List Int),GoodTask cells ls sum g→(openL g).length=n→(∀f,¬SolF ls sum g f) →
  okTB ls sum (n+1) g=true∧(madeT ls sum (n+1) g).length≤mB n∧(∀d,d∈madeT ls sum (n+1) g→nodeBad g.length d=0)∧∀F,n+1≤F→∀R,refT ls sum F g (madeT ls sum (n+1) g++R)=some R
 | n,g,G,hn,hns=>by
  have hgl:=G.len
  by_cases ht:0≤tightLine ls g sum
  ·obtain ⟨h1,h2⟩:=tight_line ht
   simp only[okTB,madeT]
   rw[if_pos ht,decide_eq_true ht]
   refine ⟨rfl,?_,fun d hd=>?_,fun F hF R=>?_⟩
   ·cases n <;> simp[mB]
   ·rw[List.mem_singleton.1 hd]
    unfold nodeBad
    have:kindB kLine=true:=by unfold kindB;rw[kind_vals.1];rfl
    simp only[this]
    rw[decide_eq_false (by decide),decide_eq_false (by omega)]
    rfl
   ·obtain ⟨f,rfl⟩:∃f,F=f+1:=⟨F - 1,by omega⟩
    simp only[List.cons_append,List.nil_append,refT]
    rw[if_pos kind_vals.1,if_pos]
    unfold lineOk
    simp only[BEq.rfl,Bool.true_and]
    rw[decide_eq_true ht,decide_eq_true h1,h2]
    rfl
  ·obtain ⟨h1,h2⟩:=tight_no ht
   have h0:0<(openL g).length:=by
    rcases Nat.eq_zero_or_pos (openL g).length with h0|h0
    ·exact absurd (full_sol G h0 h1) (hns g)
    ·exact h0
   have hm:=tightTo_open G h0 ls.length (Nat.le_refl _)
   rw[← h2] at hm
   obtain ⟨hc0,hc1,hc2⟩:=mem_open.1 hm
   obtain ⟨c,hc⟩:∃c:Nat,tightCell ls g sum=(c:Int):=⟨(tightCell ls g sum).toNat,by omega⟩
   rw[hc] at hc1 hc2
   rw[Int.toNat_natCast] at hc2
   have hcl:c<g.length:=by omega
   obtain ⟨m,rfl⟩:∃m,n=m+1:=⟨n - 1,by omega⟩
   have hU:(unusedL g).length=m+1:=by rw[G.even,hn]
   have hkid:∀x,x∈unusedL g→okTB ls sum (m+1) (g.set c x)=true∧(madeT ls sum (m+1) (g.set c x)).length≤mB m∧(∀d,d∈madeT ls sum (m+1) (g.set c x)→nodeBad (g.set c x).length d=0)∧∀F,m+1≤F→∀R,refT ls sum F (g.set c x) (madeT ls sum (m+1) (g.set c x)++R)=some R:=by
    intro x hx
    have hx1:=mem_unused.1 hx
    have h5:=openL_set (x:=x) hcl hc2 (by omega)
    exact made_good m (g.set c x) (G.put hcl hx) (by omega) (fun f hf=>hns f (hf.less hc2))
   have eok:okTB ls sum (m+1+1) g=(decide (0≤tightLine ls g sum)||(decide (0≤tightCell ls g sum)&&decide (tightCell ls g sum<g.length)&&g[(tightCell ls g sum).toNat]?.getD 0==0&&(unusedL g).all fun x=>okTB ls sum (m+1) (g.set (tightCell ls g sum).toNat x))):=rfl
   have emd:madeT ls sum (m+1+1) g=⟨kCell,tightCell ls g sum,0,0,(unusedL g).length⟩ :: (unusedL g).flatMap fun x=>madeT ls sum (m+1) (g.set (tightCell ls g sum).toNat x):=by
    show (if 0≤tightLine ls g sum then _ else _)=_
    rw[if_neg ht]
   rw[hc] at eok emd
   rw[Int.toNat_natCast] at eok emd
   rw[eok,emd]
   refine ⟨?_,?_,fun d hd=>?_,fun F hF R=>?_⟩
   ·rw[decide_eq_true (by omega:(0:Int)≤(c:Int)),decide_eq_true hc1,hc2,List.all_eq_true.2 (fun x hx=>(hkid x hx).1)]
    simp
   ·rw[List.length_cons]
    have:=flat_len (fun x=>madeT ls sum (m+1) (g.set c x)) (mB m) (unusedL g) (fun x hx=>(hkid x hx).2.1)
    rw[hU] at this
    simp only[mB]
    omega
   ·rcases List.mem_cons.1 hd with rfl|hd
    ·unfold nodeBad
     have:kindB kCell=true:=by unfold kindB;rw[kind_vals.2.2];simp
     simp only[this]
     have hle:(unusedL g).length≤g.length:=unusedTo_len g g.length
     rw[decide_eq_false (by omega),decide_eq_false (by omega)]
     rfl
    ·obtain ⟨x,hx,hd⟩:=List.mem_flatMap.1 hd
     have:=(hkid x hx).2.2.1 d hd
     rwa [List.length_set] at this
   ·obtain ⟨f,rfl⟩:∃f,F=f+1:=⟨F - 1,by omega⟩
    simp only[List.cons_append,refT]
    have hfc:=fine_cell (g:=g) (d:=⟨kCell,(c:Int),0,0,((unusedL g).length:Int)⟩) kind_vals.2.2
    rw[if_neg (by rw[kind_vals.2.1];decide),if_pos,hfc.2]
    ·exact kids_flat (unusedL g) R (fun x hx R=>(hkid x hx).2.2.2 f (by omega) R)
    ·unfold okN
     rw[hfc.1,hfc.2,List.length_map]
     simp only[BEq.rfl,Bool.true_and,Int.toNat_natCast]
     rw[decide_eq_true (by omega:(0:Int)≤(c:Int)),decide_eq_true hc1,hc2]
     rfl
termination_by n=>n
end
section
open Go Go.RowKit
theorem made_all {cells:Int} {ls:List (List Int)} {sum:Int} {g:List Int} (G:GoodTask cells ls sum g) (h6:(openL g).length≤6) (hns:(solsL ls sum g []).length=0) {T:List Nd} (hT:madeT ls sum ((openL g).length+1) g=T) :
  okTB ls sum ((openL g).length+1) g=true∧T.length≤1957∧treeErr g.length T=0∧provesT ls sum g T=true:=by
 obtain ⟨h1,h2,h3,h4⟩:=made_good (openL g).length g G rfl ((no_sols G).1 hns)
 rw[hT] at h2 h3 h4
 have hm:mB (openL g).length≤1957:=by
  have:∀n,n≤6→mB n≤1957:=by decide
  exact this _ h6
 refine ⟨h1,by omega,?_,?_⟩
 ·unfold treeErr
  rw[if_neg (by omega)]
  refine errs_none (fun k hk=>?_)
  unfold ndAt
  rw[List.getElem?_eq_getElem hk]
  exact h3 _ (List.getElem_mem hk)
 ·have h5:=h4 (T.length+1+(openL g).length+1) (by omega) []
  rw[List.append_nil] at h5
  rw[refT_fuel ls sum _ (T.length+1) g T (by omega) (by omega)] at h5
  rw[proves_some h5]
  rfl
end
section
def Lx (f g:List Int):Prop:=∃k:Nat,(∀j:Nat,j<k→f[j]?.getD 0=g[j]?.getD 0)∧f[k]?.getD 0<g[k]?.getD 0
theorem Lx.irr (f:List Int):¬Lx f f:=fun ⟨_,_,h⟩=>by omega
end
section
open Go Go.RowKit
theorem val_lx:∀(m:Nat) (P S:List Int),P.length=m→S.length=m→(∀z,z∈P→0≤z∧z≤256)→(∀z,z∈S→0≤z∧z≤256)→val m P<val m S→Lx P S
 | 0,_,_,_,_,_,_,h=>by simp[val] at h
 | m+1,[],_,h1,_,_,_,_=>by simp at h1
 | m+1,_ :: _,[],_,h2,_,_,_=>by simp at h2
 | m+1,x :: P,y :: S,h1,h2,hP,hS,h=>by
  simp only[val] at h
  have a1:=val_lt m P (fun z hz=>(hP z (List.mem_cons_of_mem _ hz)).2)
  have a2:=val_lt m S (fun z hz=>(hS z (List.mem_cons_of_mem _ hz)).2)
  have hx:=hP x List.mem_cons_self
  have hy:=hS y List.mem_cons_self
  rcases Int.lt_trichotomy x y with e|e|e
  ·exact ⟨0,fun j hj=>by omega,by simpa using e⟩
  ·subst e
   obtain ⟨k,k1,k2⟩:=val_lx m P S (by simpa using h1) (by simpa using h2) (fun z hz=>hP z (List.mem_cons_of_mem _ hz)) (fun z hz=>hS z (List.mem_cons_of_mem _ hz)) (by omega)
   refine ⟨k+1,fun j hj=>?_,by simpa using k2⟩
   cases j with
   | zero=>rfl
   | succ j=>simpa using k1 j (by omega)
  ·have:(y.toNat+1)*257 ^ m≤x.toNat*257 ^ m:=Nat.mul_le_mul_right _ (by omega)
   rw[Nat.add_mul] at this
   omega
theorem open_sorted (g:List Int):(openL g).Pairwise (·<·):=by
 unfold openL openTo
 refine List.Pairwise.map _ (fun a b h=>?_) (List.Pairwise.filter _ List.pairwise_lt_range)
 omega
theorem open_lt2 {C:Cst} {i j:Nat} (hi:i<j) (hj:j<C.O.length):(C.O[i]'(by omega)).toNat<(C.O[j]).toNat:=by
 have h1:=List.pairwise_iff_getElem.1 (open_sorted C.g) i j (by show i<C.O.length;omega) hj hi
 have h2:=mem_open.1 (show C.O[i]'(by omega)∈openL C.g from List.getElem_mem (by show i<C.O.length;omega))
 have h3:=mem_open.1 (show C.O[j]∈openL C.g from List.getElem_mem hj)
 show (C.O[i]'(by omega)).toNat<_
 have:C.O[i]'(by omega)<C.O[j]:=h1
 omega
theorem fillP_same {C:Cst} {P:List Int} {j:Nat} (h:∀(i:Nat) (hi:i<C.O.length),i<P.length→(C.O[i]).toNat≠j):(fillP C P)[j]?=C.g[j]?:=by
 unfold fillP
 refine foldl_set_other _ _ (fun x hx e=>?_) _
 have h1:=zip_fst_take hx
 obtain ⟨i,hi,e2⟩:=List.getElem_of_mem h1
 rw[List.length_take] at hi
 rw[List.getElem_take] at e2
 exact h i (by omega) (by omega) (by rw[e2];exact e)
theorem fillP_at {C:Cst} (S:List Int):∀(m:Nat) (_:m≤S.length) (hm2:m≤C.O.length) (k:Nat) (hk:k<m),(fillP C (S.take m))[(C.O[k]'(by omega)).toNat]?=some (S[k]?.getD 0)
 | 0,_,_,k,hk=>by omega
 | m+1,h1,h2,k,hk=>by
  have hl:(S.take m).length=m:=by rw[List.length_take];omega
  rw[take_snoc S 0 m (by omega),fillP_snoc _ _ _ (by rw[hl];omega)]
  have hm:=mem_open.1 (show C.O[m]'(by omega)∈openL C.g from List.getElem_mem (by show m<C.O.length;omega))
  rcases Nat.lt_or_ge k m with h3|h3
  ·have hne:=open_lt2 (C:=C) h3 (by omega)
   rw[List.getElem?_set_ne]
   ·exact fillP_at S m (by omega) (by omega) k h3
   ·simp only[hl];omega
  ·have:k=m:=by omega
   subst this
   simp only[hl]
   rw[List.getElem?_set_self]
   rw[fillP_len]
   omega
theorem fillP_full {C:Cst} {S:List Int} (h:S.length=C.O.length) (k:Nat) (hk:k<C.O.length):(fillP C S)[(C.O[k]).toNat]?=some (S[k]?.getD 0):=by
 have:=fillP_at (C:=C) S S.length (Nat.le_refl _) (by omega) k (by omega)
 rwa [List.take_length] at this
theorem lx_fill {C:Cst} {P S:List Int} (hP:P.length=C.O.length) (hS:S.length=C.O.length) (h:Lx P S):Lx (fillP C P) (fillP C S):=by
 obtain ⟨k,h1,h2⟩:=h
 have hk:k<C.O.length:=by
  refine Nat.lt_of_not_le fun hle=>?_
  rw[List.getElem?_eq_none (by omega),List.getElem?_eq_none (by omega)] at h2
  exact absurd h2 (by simp)
 refine ⟨(C.O[k]).toNat,fun j hj=>?_,?_⟩
 ·by_cases e:∃(i:Nat) (hi:i<C.O.length),(C.O[i]).toNat=j
  ·obtain ⟨i,hi,rfl⟩:=e
   have hik:i<k:=by
    refine Nat.lt_of_not_le fun hle=>?_
    rcases Nat.lt_or_ge k i with h3|h3
    ·have:=open_lt2 (C:=C) h3 hi;omega
    ·have:i=k:=by omega
     subst this;omega
   rw[fillP_full hP i hi,fillP_full hS i hi,Option.getD_some,Option.getD_some]
   exact h1 i hik
  ·rw[fillP_same (fun i hi _ e2=>e ⟨i,hi,e2⟩),fillP_same (fun i hi _ e2=>e ⟨i,hi,e2⟩)]
 ·rw[fillP_full hP k hk,fillP_full hS k hk,Option.getD_some,Option.getD_some]
  exact h2
theorem ok_num {C:Cst} {P:List Int} (hf:Fine C) (ho:OkP C P):∀z,z∈P→0≤z∧z≤256:=fun z hz=>by
 have:=mem_unused.1 (ho.num z hz)
 have:=hf.len
 have:=hf.most
 omega
theorem found_sorted {C:Cst} (he:Even C) (hf:Fine C):∀(n:Nat) (P:List Int),fuelP C P=n→OkP C P→Rch C P→(found C P).Pairwise Lx:=by
 intro n
 induction n using Nat.strongRecOn with
 | _ n ih =>
  intro P hn ho hr
  rw[found_step he hf ho]
  cases hP:nextP C P with
  | none=>exact List.Pairwise.nil
  | some P' =>
   simp only
   have hlt:=fuelP_lt he hf ho hP
   have hok:=nextP_ok he hf ho hP
   have hr':=rch_next hr hP
   have htail:=ih (fuelP C P') (by omega) P' rfl hok hr'
   split
   ·rename_i hc
    have hl:P'.length=C.O.length:=by simpa using hc.1
    refine List.pairwise_append.2 ⟨List.pairwise_singleton _ _,htail,fun a ha b hb=>?_⟩
    rw[List.mem_singleton.1 ha]
    obtain ⟨S,h1,h2,h3⟩:=found_sound he hf (fuelP C P') P' rfl hok hr' b hb
    rw[h2]
    exact lx_fill hl h1.len (val_lx C.O.length P' S hl h1.len (ok_num hf hok) (ok_num hf h1.ok) h3)
   ·exact htail
end
section
open Go Go.RowKit
attribute [local go_sem] over_cell
attribute [local go_sem] Oper.semAt_some
def numBad (f:List Int) (k:Nat):Int:=if f[k]?.getD 0 < -999999999∨999999999<f[k]?.getD 0 then 3 else 0
def numE (f:List Int):Int:=errs (numBad f) f.length
def fillE (cells:Int) (f:List Int):Int:=if (f.length:Int)≠cells then 2 else numE f
def normB (f:List Int):Bool:=(List.range f.length).all fun k=>hasB f ((k:Int)+1)
theorem norm_end {f:List Int} (h:∀k,k<f.length→hasB f ((k:Int)+1)=true):normB f=true:=by
 unfold normB
 rw[List.all_eq_true]
 exact fun k hk=>h k (List.mem_range.1 hk)
end
section
open Go Go.RowKit
attribute [local go_sem] over_cell
attribute [local go_sem] Oper.semAt_some
def extAt (g f:List Int) (i:Nat):Bool:=!(decide (0<g[i]?.getD 0)&&g[i]?.getD 0 != f[i]?.getD 0)
def solB (ls:List (List Int)) (sum:Int) (g f:List Int):Bool:=normB f&&((List.range f.length).all (extAt g f)&&ls.all fun l=>sumAt l f==sum)
theorem all_miss {p:Nat→Bool} {n k:Nat} (hk:k<n) (h:p k=false):(List.range n).all p=false:=by
 rw[List.all_eq_false]
 exact ⟨k,List.mem_range.2 hk,by rw[h];decide⟩
theorem all_end {p:Nat→Bool} {n:Nat} (h:∀k,k<n→p k=true):(List.range n).all p=true:=by
 rw[List.all_eq_true]
 exact fun k hk=>h k (List.mem_range.1 hk)
theorem upt_snoc {f:Nat→Bool} {k:Nat} (h:∀j,j<k→f j=true) (hk:f k=true):∀j,j<k+1→f j=true:=by
 intro j hj
 by_cases e:j=k
 ·rw[e];exact hk
 ·exact h j (by omega)
end
section
open Go Go.RowKit
theorem sols_sorted {cells:Int} {ls:List (List Int)} {sum:Int} {g:List Int} (G:GoodTask cells ls sum g):(solsL ls sum g []).Pairwise Lx:=by
 have e:solsL ls sum g []=sols (gC cells ls sum g) []:=(sols_pl (gC cells ls sum g) []).symm
 rw[e]
 unfold sols
 split
 ·split
  ·exact List.Pairwise.nil
  ·exact List.pairwise_singleton _ _
 ·exact found_sorted (gC_even G) (gC_fine G) _ [] rfl ⟨by simp,fun x hx=>(by cases hx),List.nodup_nil⟩ (fun k hk=>absurd hk (Nat.not_lt_zero _))
theorem solF_norm {ls:List (List Int)} {sum:Int} {g f:List Int} (h:SolF ls sum g f):normB f=true:=by
 refine norm_end (fun k hk=>?_)
 cases hb:hasB f ((k:Int)+1) with
 | true=>rfl
 | false =>
  exfalso
  have hl:=h.len
  have hn:f.Nodup:=by
   unfold List.Nodup
   rw[List.pairwise_iff_getElem]
   intro i j hi hj hij e
   have:=h.inj i j hi hj (by rw[List.getElem?_eq_getElem hi,List.getElem?_eq_getElem hj,e])
   omega
  have hs:∀x,x∈f→x∈((List.range f.length).map fun (i:Nat)=>(i:Int)+1).erase ((k:Int)+1):=by
   intro x hx
   obtain ⟨i,hi,e⟩:=List.getElem_of_mem hx
   have h1:=h.num i hi
   rw[List.getElem?_eq_getElem hi,Option.getD_some,e] at h1
   rw[List.mem_erase_of_ne]
   ·exact List.mem_map.2 ⟨(x - 1).toNat,List.mem_range.2 (by omega),by omega⟩
   ·intro e2
    have:=hasB_iff.2 hx
    rw[e2,hb] at this
    cases this
  have h2:=nodup_le hn hs
  rw[List.length_erase_of_mem (List.mem_map.2 ⟨k,List.mem_range.2 hk,rfl⟩),List.length_map,List.length_range] at h2
  omega
theorem solF_solB {cells:Int} {ls:List (List Int)} {sum:Int} {g f:List Int} (G:GoodTask cells ls sum g) (h:SolF ls sum g f):fillE cells f=0∧solB ls sum g f=true∧∀c:Nat,0≤f[c]?.getD 0∧f[c]?.getD 0≤1000000000:=by
 have hl:=h.len
 have hgl:=G.len
 have hc:=G.cells2
 have hv:∀c:Nat,0≤f[c]?.getD 0∧f[c]?.getD 0≤256:=fun c=>by
  rcases Nat.lt_or_ge c f.length with h1|h1
  ·have:=h.num c h1;omega
  ·rw[List.getElem?_eq_none h1];decide
 refine ⟨?_,?_,fun c=>by have:=hv c;omega⟩
 ·unfold fillE
  rw[if_neg (by omega)]
  unfold numE
  refine errs_none (fun j hj=>?_)
  unfold numBad
  have:=hv j
  rw[if_neg (by omega)]
 ·unfold solB
  rw[solF_norm h,Bool.true_and,Bool.and_eq_true]
  refine ⟨all_end (fun i hi=>?_),List.all_eq_true.2 (fun l hml=>?_)⟩
  ·unfold extAt
   by_cases h0:g[i]?.getD 0=0
   ·rw[h0];rfl
   ·rw[h.ext i (by omega) h0];simp
  ·rw[h.line l hml];simp
theorem few_good {cells:Int} {ls:List (List Int)} {sum:Int} {g:List Int} {cc op:Int} (h:few6B cc op cells sum ls g=true):GoodTask cells ls sum g∧((openL g).length:Int)≤op:=by
 unfold few6B at h
 simp only[Bool.and_eq_true,beq_iff_eq,decide_eq_true_eq] at h
 exact ⟨goodTask (by omega),by omega⟩
end
section
open Go Go.RowKit
theorem few_sys {cells:Int} {ls:List (List Int)} {sum:Int} {g:List Int} {cc op:Int} (h:few6B cc op cells sum ls g=true):sysErr cells ls=0:=by
 unfold few6B few2B at h
 simp only[Bool.and_eq_true,beq_iff_eq,decide_eq_true_eq] at h
 omega
theorem taskErr_good {cells:Int} {ls:List (List Int)} {sum:Int} {g:List Int} (G:GoodTask cells ls sum g) (hs:sysErr cells ls=0):taskErr cells ls sum g=0:=by
 have h1:=G.sum1
 have h2:=G.sum2
 have h3:=G.len
 unfold taskErr
 rw[if_neg (by rw[hs];decide),if_neg (by omega),if_neg (by omega)]
 refine errs_none (fun i hi=>?_)
 have h4:=G.num i hi
 unfold givenBad
 rw[if_neg (by omega),if_neg]
 rintro ⟨h5,h6⟩
 obtain ⟨j,hj,e⟩:=List.getElem_of_mem (hasB_iff.1 h6)
 rw[List.length_take] at hj
 rw[List.getElem_take] at e
 have h7:=G.apart j i (by omega) hi h5
 rw[List.getElem?_eq_getElem (by omega:j<g.length),Option.getD_some] at h7
 exact h7 e
end
section
open Go Go.RowKit
attribute [local go_sem] over_cell
attribute [local go_sem] Oper.semAt_some
theorem run_append_nothing {P:Program} (w:World) (t ty e:TypeId) (i:TypeInfo) (ht:P.underlying t=some (.slice e)) (hi:P.info? e=some i) (b:Option Addr) (n cap c:Nat) (h:n≤cap) :
  (Builtin.append_ #[t,t] ty #[.slice b n cap,.slice none 0 c]).run P w = .ok (.slice b n cap) w:=by
 cases b with
 | none=>simp[Builtin.append_,run_underlying ht,sizeOf,typeInfo,hi,Builtin.lenOf,Builtin.firstCells,h]
 | some a=>simp[Builtin.append_,run_underlying ht,sizeOf,typeInfo,hi,Builtin.lenOf,Builtin.firstCells,h,storeCells]
def SrcOk (w:World) (ad:Option Addr) (m:Nat) (news:List Value):Prop:=(∃p,ad=some p∧∀j u,news[j]?=some u→w.cell? (p.add j)=some u)∨(ad=none∧m=0)
theorem IC.src {w:World} {ad:Option Addr} {m:Nat} {xs:List Int} (h:IC w ad m xs):SrcOk w ad m (xs.map (Value.int .i64)):=by
 cases ad with
 | some p=>exact .inl ⟨p,rfl,h.cells⟩
 | none =>
  refine .inr ⟨rfl,?_⟩
  rcases Nat.eq_zero_or_pos m with e|e
  ·exact e
  ·obtain ⟨_,_,e2,_⟩:=h.2 0 e
   cases e2
theorem wpList_append_any {P:Program} (w:World) {ops:Array Oper} {rest:List Oper} {o:Oper} {a:Act} {Q:Exit→Act→World→Prop} (hgd:o.guard=none) (s x:Operand) (t:TypeId)
  (ho:o.op = .call { callee := .builtin .append,args:=#[s,x],argTypes:=#[t,t] })
  (B:Nat) (e:TypeId) (i:TypeInfo) (z:Value) (bytes:Nat) (ht:P.underlying t=some (.slice e)) (hi:P.info? e=some i) (hz:i.zero=some z)
  (hsize:i.size=1) (hby:i.bytes=bytes) (hzs:z.cells.size=1)
  (v:Value) (n:Nat) (xs:List Value) (hs:a.eval s=v) (hown:w.ownsRow B e 1 v n xs) (hB:B≤w.heap.size)
  (ad:Option Addr) (m c:Nat) (news:List Value) (hx:a.eval x = .slice ad m c) (hl:news.length=m) (hnews:SrcOk w ad m news) (h1:∀u∈news,u.oneCell'=true)
  (h63:n+m≤maxLen) (hbytes:(n+m)*bytes≤140737488355328)
  (h:∀v' w',w'.ownsRow B e 1 v' (n+m) (xs++news)→Stays (fun k=>v.ownBlock=some k) w w'→(∀k,v'.ownBlock=some k→v.ownBlock=some k∨w.heap.size≤k)→wpList P ops Q rest (a.put o.dst v') w'):wpList P ops Q (o :: rest) a w:=by
 rcases hnews with ⟨p,rfl,hn⟩|⟨rfl,rfl⟩
 ·refine wpList_append_own2 w hgd s x t ho e i z 1 bytes ht hi hz hsize hby hzs (by decide) v n xs hs (owns_base hown (Nat.zero_le _)) p m c news hx (by omega) hn h1 h63 hbytes ?_
  intro v' w' ho' hg hk
  refine h v' w' ?_ (Stays.grown hg (fun k e=>e)) hk
  refine ⟨ho'.1,ho'.2.imp id ?_⟩
  rintro ⟨g,cap,cur,rfl,_,r⟩
  refine ⟨g,cap,cur,rfl,?_,r⟩
  rcases hk g rfl with e|e
  ·exact (hown.lt g e).1
  ·omega
 ·have hn:news=[]:=List.eq_nil_of_length_eq_zero hl
  subst hn
  obtain ⟨b,cap,hv,hcap⟩:∃b cap,v = .slice b n cap∧n≤cap:=by
   rcases hown.2 with ⟨h2,h3⟩|⟨g,cap,cur,h2,_,_,h3,_⟩
   ·exact ⟨none,0,by rw[h2,h3],by omega⟩
   ·exact ⟨_,cap,h2,h3⟩
  refine wpList_plain hgd fun _ hK=>?_
  have hr:=run_append_nothing (P:=P) w t o.type e i ht hi b n cap c hcap
  unfold Oper.wp execOp
  simp only[ho,resolve,invoke,builtin,Sem.run_bind,Sem.run_pure,Result.andThen_ok,List.map_toArray,List.map_cons,List.map_nil,hs,hv,hx,hr]
  refine hK _ _ ?_
  rw[← hv]
  exact h v w (by simpa using hown) (Stays.refl _ _) (fun k e => .inl e)
end
section
open Go Go.RowKit
attribute [local go_sem] over_cell
attribute [local go_sem] Oper.semAt_some
end
section
open Go Go.RowKit
end
section
open Go Go.RowKit
attribute [local go_sem] over_cell
attribute [local go_sem] Oper.semAt_some
end
section
open Go Go.RowKit
end
section
open Go Go.RowKit
attribute [local go_sem] over_cell
attribute [local go_sem] Oper.semAt_some
end
section
open Go Go.RowKit
end
section
open Go Go.RowKit
attribute [local go_sem] over_cell
attribute [local go_sem] Oper.semAt_some
def fall:Nat→Nat→Nat
 | _,0=>1
 | n,k+1=>n*fall (n - 1) k
def perms:Nat→List Int→List (List Int)
 | 0,_=>[[]]
 | k+1,U=>U.flatMap fun x=>(perms k (U.erase x)).map (x :: ·)
theorem sum_const (c:Nat):∀U:List Int,(U.map fun _=>c).sum=U.length*c
 | []=>by simp
 | x :: U=>by rw[List.map_cons,List.sum_cons,sum_const c U,List.length_cons,Nat.succ_mul];omega
theorem perms_len:∀(k:Nat) (U:List Int),(perms k U).length=fall U.length k
 | 0,_=>rfl
 | k+1,U=>by
  simp only[perms,fall,List.length_flatMap,List.length_map]
  have:∀x,x∈U→(perms k (U.erase x)).length=fall (U.length - 1) k:=fun x hx=>by
   rw[perms_len k,List.length_erase_of_mem hx]
  rw[List.map_congr_left this,sum_const]
theorem mem_perms:∀(k:Nat) (U S:List Int),S.length=k→S.Nodup→(∀x,x∈S→x∈U)→S∈perms k U
 | 0,U,S,h,_,_=>by
  rw[List.eq_nil_of_length_eq_zero h];simp[perms]
 | k+1,U,x :: S,h,hn,hu=>by
  simp only[perms,List.mem_flatMap,List.mem_map]
  have hn2:=List.nodup_cons.1 hn
  exact ⟨x,hu x List.mem_cons_self,S,mem_perms k (U.erase x) S (by simpa using h) hn2.2 (fun y hy=>(List.mem_erase_of_ne (fun e=>hn2.1 (by rw[← e];exact hy))).2 (hu y (List.mem_cons_of_mem _ hy))),rfl⟩
theorem nodup_len:∀{l m:List (List Int)},l.Nodup→(∀x,x∈l→x∈m)→l.length≤m.length
 | [],m,_,_=>Nat.zero_le _
 | x :: l,m,hn,hs=>by
  have hx:=hs x List.mem_cons_self
  have hn':=List.nodup_cons.1 hn
  have:=nodup_len (l:=l) (m:=m.erase x) hn'.2 (fun y hy=>by
   rw[List.mem_erase_of_ne (fun e:y=x=>hn'.1 (by rw[← e];exact hy))]
   exact hs y (List.mem_cons_of_mem _ hy))
  rw[List.length_erase_of_mem hx] at this
  have:0<m.length:=List.length_pos_of_mem hx
  simp only[List.length_cons]
  omega
theorem found_paths {C:Cst} (he:Even C) (hf:Fine C):∀(n:Nat) (P:List Int),fuelP C P=n→OkP C P→Rch C P→∃Ss:List (List Int),found C P=Ss.map (fillP C)∧Ss.Pairwise (fun S T=>val C.O.length S<val C.O.length T)∧∀S,S∈Ss→SolP C S∧val C.O.length P<val C.O.length S:=by
 intro n
 induction n using Nat.strongRecOn with
 | _ n ih =>
  intro P hn ho hr
  rw[found_step he hf ho]
  cases hP:nextP C P with
  | none=>exact ⟨[],rfl,List.Pairwise.nil,fun S h=>by cases h⟩
  | some P' =>
   have hlt:=fuelP_lt he hf ho hP
   have hok:=nextP_ok he hf ho hP
   have hv:=nextP_val he hf ho hP
   have hr':=rch_next hr hP
   obtain ⟨Ss,h1,h2,h3⟩:=ih (fuelP C P') (by omega) P' rfl hok hr'
   simp only
   by_cases hc:(P'.length==C.O.length)=true∧wrongB C P'=false
   ·rw[if_pos hc]
    have hl:P'.length=C.O.length:=by simpa using hc.1
    refine ⟨P' :: Ss,by rw[h1];rfl,List.pairwise_cons.2 ⟨fun S hS=>(h3 S hS).2,h2⟩,fun S hS=>?_⟩
    rcases List.mem_cons.1 hS with rfl|hS
    ·refine ⟨⟨hok,hl,fun k hk=>?_⟩,hv⟩
     rcases Nat.lt_or_ge k S.length with h4|h4
     ·exact hr' k h4
     ·rw[List.take_of_length_le h4];exact hc.2
    ·exact ⟨(h3 S hS).1,by have:=(h3 S hS).2;omega⟩
   ·rw[if_neg hc]
    exact ⟨Ss,by rw[h1];rfl,h2,fun S hS=>⟨(h3 S hS).1,by have:=(h3 S hS).2;omega⟩⟩
theorem fall_le:∀n,n≤7→fall n n≤5040:=by decide
theorem sols_count {cells:Int} {ls:List (List Int)} {sum:Int} {g:List Int} (G:GoodTask cells ls sum g) (h7:(openL g).length≤7):(solsL ls sum g []).length≤5040:=by
 have e:solsL ls sum g []=sols (gC cells ls sum g) []:=(sols_pl (gC cells ls sum g) []).symm
 rw[e]
 unfold sols
 split
 ·split <;> simp
 ·obtain ⟨Ss,h1,h2,h3⟩:=found_paths (gC_even G) (gC_fine G) _ [] rfl ⟨by simp,fun x hx=>(by cases hx),List.nodup_nil⟩ (fun k hk=>absurd hk (Nat.not_lt_zero _))
  rw[h1,List.length_map]
  have hn:Ss.Nodup:=h2.imp (fun {a b} h e=>by rw[e] at h;exact absurd h (Nat.lt_irrefl _))
  have hU:(unusedL g).length=(openL g).length:=G.even
  have hm:∀S,S∈Ss→S∈perms (openL g).length (unusedL g):=fun S hS=>by
   have h4:=(h3 S hS).1
   exact mem_perms _ _ S h4.len h4.ok.nodup h4.ok.num
  have h5:=nodup_len hn hm
  rw[perms_len,hU] at h5
  have:=fall_le _ h7
  omega
end
section
open Go Go.RowKit
attribute [local go_sem] over_cell
attribute [local go_sem] Oper.semAt_some
end
section
open Go Go.RowKit
end
section
open Go Go.RowKit
end
section
open Go Go.RowKit Go.ChangeShapes Go.WideShapes
theorem O3.cellsB:Tryz.prog.cellsOf 4=1:=by kernel_rfl
section
variable {H:Type} {enc:TypeId × Value→H} {w:World} {held:Bool}
end
end
section
open Go Go.RowKit
end
section
open Go Go.RowKit
attribute [local go_sem] over_cell
attribute [local go_sem] Oper.semAt_some
theorem l4 {w:World} {b:Nat} {v0 v1 v2 v3:Value} {T:TypeId} (h:w.heap[b]?=some (.cells #[v0,v1,v2,v3] T (0,0))):w.cell? ⟨b,0,none⟩=some v0∧w.cell? ⟨b,1,none⟩=some v1∧w.cell? ⟨b,2,none⟩=some v2∧w.cell? ⟨b,3,none⟩=some v3∧b<w.heap.size:=⟨q_cell h 0,q_cell h 1,q_cell h 2,q_cell h 3,q_lt h⟩
end
end Go.Proofs.YtaadpihbjhachaaGreat
