/- Texts L1 to T5 of this proof, in one file. -/
import Derived.Test.YtaadpihbjhachaaGreatW06
import Derived.Test.YtaadpihbjhachaaGreatW23
import Derived.Test.YtaadpihbjhachaaGreatW27
import Derived.Below
namespace Go.Proofs.YtaadpihbjhachaaGreat
set_option maxRecDepth 100000
set_option maxHeartbeats 16000000
section
def Lx (f g:List Int):Prop:=∃k:Nat,(∀j:Nat,j<k→f[j]?.getD 0=g[j]?.getD 0)∧f[k]?.getD 0<g[k]?.getD 0
theorem Lx.irr (f:List Int):¬Lx f f:=fun ⟨_,_,h⟩=>by omega
end
section
open Go Go.RowKit
theorem val_lx:∀(m:Nat) (P S:List Int),P.length=m→S.length=m→(∀z,z∈P→0≤z∧z≤256)→(∀z,z∈S→0≤z∧z≤256)→val m P<val m S→Lx P S
 | 0,_,_,_,_,_,_,h=>by simp[val] at h
 | m+1,[],_,h1,_,_,_,_=>by simp at h1
 | m+1,_ :: _,[],_,h2,_,_,_=>by simp at h2
 | m+1,x :: P,y :: S,h1,h2,hP,hS,h=>by
  simp only[val] at h
  have a1:=val_lt m P (fun z hz=>(hP z (List.mem_cons_of_mem _ hz)).2)
  have a2:=val_lt m S (fun z hz=>(hS z (List.mem_cons_of_mem _ hz)).2)
  have hx:=hP x List.mem_cons_self
  have hy:=hS y List.mem_cons_self
  rcases Int.lt_trichotomy x y with e|e|e
  ·exact ⟨0,fun j hj=>by omega,by simpa using e⟩
  ·subst e
   obtain ⟨k,k1,k2⟩:=val_lx m P S (by simpa using h1) (by simpa using h2) (fun z hz=>hP z (List.mem_cons_of_mem _ hz)) (fun z hz=>hS z (List.mem_cons_of_mem _ hz)) (by omega)
   refine ⟨k+1,fun j hj=>?_,by simpa using k2⟩
   cases j with
   | zero=>rfl
   | succ j=>simpa using k1 j (by omega)
  ·have:(y.toNat+1)*257 ^ m≤x.toNat*257 ^ m:=Nat.mul_le_mul_right _ (by omega)
   rw[Nat.add_mul] at this
   omega
theorem open_sorted (g:List Int):(zj g).Pairwise (·<·):=by
 unfold zj jM
 refine List.Pairwise.map _ (fun a b h=>?_) (List.Pairwise.filter _ List.pairwise_lt_range)
 omega
theorem open_lt2 {C:Cst} {i j:Nat} (hi:i<j) (hj:j<C.O.length):(C.O[i]'(by omega)).toNat<(C.O[j]).toNat:=by
 have h1:=List.pairwise_iff_getElem.1 (open_sorted C.g) i j (by show i<C.O.length;omega) hj hi
 have h2:=jN.1 (show C.O[i]'(by omega)∈zj C.g from List.getElem_mem (by show i<C.O.length;omega))
 have h3:=jN.1 (show C.O[j]∈zj C.g from List.getElem_mem hj)
 show (C.O[i]'(by omega)).toNat<_
 have:C.O[i]'(by omega)<C.O[j]:=h1
 omega
theorem fillP_same {C:Cst} {P:List Int} {j:Nat} (h:∀(i:Nat) (hi:i<C.O.length),i<P.length→(C.O[i]).toNat≠j):(jc C P)[j]?=C.g[j]?:=by
 unfold jc
 refine foldl_set_other _ _ (fun x hx e=>?_) _
 have h1:=zip_fst_take hx
 obtain ⟨i,hi,e2⟩:=List.getElem_of_mem h1
 rw[List.length_take] at hi
 rw[List.getElem_take] at e2
 exact h i (by omega) (by omega) (by rw[e2];exact e)
theorem fillP_at {C:Cst} (S:List Int):∀(m:Nat) (_:m≤S.length) (hm2:m≤C.O.length) (k:Nat) (hk:k<m),(jc C (S.take m))[(C.O[k]'(by omega)).toNat]?=some (S[k]?.getD 0)
 | 0,_,_,k,hk=>by omega
 | m+1,h1,h2,k,hk=>by
  have hl:(S.take m).length=m:=by rw[List.length_take];omega
  rw[zP S 0 m (by omega),fillP_snoc _ _ _ (by rw[hl];omega)]
  have hm:=jN.1 (show C.O[m]'(by omega)∈zj C.g from List.getElem_mem (by show m<C.O.length;omega))
  rcases Nat.lt_or_ge k m with h3|h3
  ·have hne:=open_lt2 (C:=C) h3 (by omega)
   rw[List.getElem?_set_ne]
   ·exact fillP_at S m (by omega) (by omega) k h3
   ·simp only[hl];omega
  ·have:k=m:=by omega
   subst this
   simp only[hl]
   rw[List.getElem?_set_self]
   rw[fillP_len]
   omega
theorem fillP_full {C:Cst} {S:List Int} (h:S.length=C.O.length) (k:Nat) (hk:k<C.O.length):(jc C S)[(C.O[k]).toNat]?=some (S[k]?.getD 0):=by
 have:=fillP_at (C:=C) S S.length (Nat.le_refl _) (by omega) k (by omega)
 rwa [List.take_length] at this
theorem lx_fill {C:Cst} {P S:List Int} (hP:P.length=C.O.length) (hS:S.length=C.O.length) (h:Lx P S):Lx (jc C P) (jc C S):=by
 obtain ⟨k,h1,h2⟩:=h
 have hk:k<C.O.length:=by
  refine Nat.lt_of_not_le fun hle=>?_
  rw[List.getElem?_eq_none (by omega),List.getElem?_eq_none (by omega)] at h2
  exact absurd h2 (by simp)
 refine ⟨(C.O[k]).toNat,fun j hj=>?_,?_⟩
 ·by_cases e:∃(i:Nat) (hi:i<C.O.length),(C.O[i]).toNat=j
  ·obtain ⟨i,hi,rfl⟩:=e
   have hik:i<k:=by
    refine Nat.lt_of_not_le fun hle=>?_
    rcases Nat.lt_or_ge k i with h3|h3
    ·have:=open_lt2 (C:=C) h3 hi;omega
    ·have:i=k:=by omega
     subst this;omega
   rw[fillP_full hP i hi,fillP_full hS i hi,Option.getD_some,Option.getD_some]
   exact h1 i hik
  ·rw[fillP_same (fun i hi _ e2=>e ⟨i,hi,e2⟩),fillP_same (fun i hi _ e2=>e ⟨i,hi,e2⟩)]
 ·rw[fillP_full hP k hk,fillP_full hS k hk,Option.getD_some,Option.getD_some]
  exact h2
theorem ok_num {C:Cst} {P:List Int} (hf:Fine C) (ho:OkP C P):∀z,z∈P→0≤z∧z≤256:=fun z hz=>by
 have:=zT.1 (ho.num z hz)
 have:=hf.len
 have:=hf.most
 omega
theorem found_sorted {C:Cst} (he:Even C) (hf:Fine C):∀(n:Nat) (P:List Int),qu C P=n→OkP C P→Rch C P→(qb C P).Pairwise Lx:=by
 intro n
 induction n using Nat.strongRecOn with
 | _ n ih =>
  intro P hn ho hr
  rw[found_step he hf ho]
  cases hP:jJ C P with
  | none=>exact List.Pairwise.nil
  | some P' =>
   simp only
   have hlt:=fuelP_lt he hf ho hP
   have hok:=nextP_ok he hf ho hP
   have hr':=rch_next hr hP
   have htail:=ih (qu C P') (by omega) P' rfl hok hr'
   split
   ·rename_i hc
    have hl:P'.length=C.O.length:=by simpa using hc.1
    refine List.pairwise_append.2 ⟨List.pairwise_singleton _ _,htail,fun a ha b hb=>?_⟩
    rw[List.mem_singleton.1 ha]
    obtain ⟨S,h1,h2,h3⟩:=found_sound he hf (qu C P') P' rfl hok hr' b hb
    rw[h2]
    exact lx_fill hl h1.len (val_lx C.O.length P' S hl h1.len (ok_num hf hok) (ok_num hf h1.ok) h3)
   ·exact htail
end
section
open Go Go.RowKit
attribute [local go_sem] zv
attribute [local go_sem] Oper.semAt_some
def numBad (f:List Int) (k:Nat):Int:=if f[k]?.getD 0 < -999999999∨999999999<f[k]?.getD 0 then 3 else 0
def numE (f:List Int):Int:=qQ (numBad f) f.length
def fillE (cells:Int) (f:List Int):Int:=if (f.length:Int)≠cells then 2 else numE f
def normB (f:List Int):Bool:=(List.range f.length).all fun k=>zY f ((k:Int)+1)
theorem norm_end {f:List Int} (h:∀k,k<f.length→zY f ((k:Int)+1)=true):normB f=true:=by
 unfold normB
 rw[List.all_eq_true]
 exact fun k hk=>h k (List.mem_range.1 hk)
end
section
open Go Go.RowKit
attribute [local go_sem] zv
attribute [local go_sem] Oper.semAt_some
def extAt (g f:List Int) (i:Nat):Bool:=!(decide (0<g[i]?.getD 0)&&g[i]?.getD 0 != f[i]?.getD 0)
def solB (ls:List (List Int)) (sum:Int) (g f:List Int):Bool:=normB f&&((List.range f.length).all (extAt g f)&&ls.all fun l=>jm l f==sum)
theorem all_miss {p:Nat→Bool} {n k:Nat} (hk:k<n) (h:p k=false):(List.range n).all p=false:=by
 rw[List.all_eq_false]
 exact ⟨k,List.mem_range.2 hk,by rw[h];decide⟩
theorem all_end {p:Nat→Bool} {n:Nat} (h:∀k,k<n→p k=true):(List.range n).all p=true:=by
 rw[List.all_eq_true]
 exact fun k hk=>h k (List.mem_range.1 hk)
theorem upt_snoc {f:Nat→Bool} {k:Nat} (h:∀j,j<k→f j=true) (hk:f k=true):∀j,j<k+1→f j=true:=by
 intro j hj
 by_cases e:j=k
 ·rw[e];exact hk
 ·exact h j (by omega)
end
section
open Go Go.RowKit
theorem sols_sorted {cells:Int} {ls:List (List Int)} {sum:Int} {g:List Int} (G:GoodTask cells ls sum g):(jk ls sum g []).Pairwise Lx:=by
 have e:jk ls sum g []=sols (gC cells ls sum g) []:=(sols_pl (gC cells ls sum g) []).symm
 rw[e]
 unfold sols
 split
 ·split
  ·exact List.Pairwise.nil
  ·exact List.pairwise_singleton _ _
 ·exact found_sorted (gC_even G) (gC_fine G) _ [] rfl ⟨by simp,fun x hx=>(by cases hx),List.nodup_nil⟩ (fun k hk=>absurd hk (Nat.not_lt_zero _))
theorem solF_norm {ls:List (List Int)} {sum:Int} {g f:List Int} (h:SolF ls sum g f):normB f=true:=by
 refine norm_end (fun k hk=>?_)
 cases hb:zY f ((k:Int)+1) with
 | true=>rfl
 | false =>
  exfalso
  have hl:=h.len
  have hn:f.Nodup:=by
   unfold List.Nodup
   rw[List.pairwise_iff_getElem]
   intro i j hi hj hij e
   have:=h.inj i j hi hj (by rw[List.getElem?_eq_getElem hi,List.getElem?_eq_getElem hj,e])
   omega
  have hs:∀x,x∈f→x∈((List.range f.length).map fun (i:Nat)=>(i:Int)+1).erase ((k:Int)+1):=by
   intro x hx
   obtain ⟨i,hi,e⟩:=List.getElem_of_mem hx
   have h1:=h.num i hi
   rw[List.getElem?_eq_getElem hi,Option.getD_some,e] at h1
   rw[List.mem_erase_of_ne]
   ·exact List.mem_map.2 ⟨(x - 1).toNat,List.mem_range.2 (by omega),by omega⟩
   ·intro e2
    have:=js.2 hx
    rw[e2,hb] at this
    cases this
  have h2:=nodup_le hn hs
  rw[List.length_erase_of_mem (List.mem_map.2 ⟨k,List.mem_range.2 hk,rfl⟩),List.length_map,List.length_range] at h2
  omega
theorem solF_solB {cells:Int} {ls:List (List Int)} {sum:Int} {g f:List Int} (G:GoodTask cells ls sum g) (h:SolF ls sum g f):fillE cells f=0∧solB ls sum g f=true∧∀c:Nat,0≤f[c]?.getD 0∧f[c]?.getD 0≤1000000000:=by
 have hl:=h.len
 have hgl:=G.len
 have hc:=G.cells2
 have hv:∀c:Nat,0≤f[c]?.getD 0∧f[c]?.getD 0≤256:=fun c=>by
  rcases Nat.lt_or_ge c f.length with h1|h1
  ·have:=h.num c h1;omega
  ·rw[List.getElem?_eq_none h1];decide
 refine ⟨?_,?_,fun c=>by have:=hv c;omega⟩
 ·unfold fillE
  rw[if_neg (by omega)]
  unfold numE
  refine ju (fun j hj=>?_)
  unfold numBad
  have:=hv j
  rw[if_neg (by omega)]
 ·unfold solB
  rw[solF_norm h,Bool.true_and,Bool.and_eq_true]
  refine ⟨all_end (fun i hi=>?_),List.all_eq_true.2 (fun l hml=>?_)⟩
  ·unfold extAt
   by_cases h0:g[i]?.getD 0=0
   ·rw[h0];rfl
   ·rw[h.ext i (by omega) h0];simp
  ·rw[h.line l hml];simp
theorem few_good {cells:Int} {ls:List (List Int)} {sum:Int} {g:List Int} {cc op:Int} (h:few6B cc op cells sum ls g=true):GoodTask cells ls sum g∧((zj g).length:Int)≤op:=by
 unfold few6B at h
 simp only[Bool.and_eq_true,beq_iff_eq,decide_eq_true_eq] at h
 exact ⟨qg (by omega),by omega⟩
end
section
open Go Go.RowKit
theorem few_sys {cells:Int} {ls:List (List Int)} {sum:Int} {g:List Int} {cc op:Int} (h:few6B cc op cells sum ls g=true):zX cells ls=0:=by
 unfold few6B few2B at h
 simp only[Bool.and_eq_true,beq_iff_eq,decide_eq_true_eq] at h
 omega
theorem taskErr_good {cells:Int} {ls:List (List Int)} {sum:Int} {g:List Int} (G:GoodTask cells ls sum g) (hs:zX cells ls=0):zx cells ls sum g=0:=by
 have h1:=G.sum1
 have h2:=G.sum2
 have h3:=G.len
 unfold zx
 rw[if_neg (by rw[hs];decide),if_neg (by omega),if_neg (by omega)]
 refine ju (fun i hi=>?_)
 have h4:=G.num i hi
 unfold jn
 rw[if_neg (by omega),if_neg]
 rintro ⟨h5,h6⟩
 obtain ⟨j,hj,e⟩:=List.getElem_of_mem (js.1 h6)
 rw[List.length_take] at hj
 rw[List.getElem_take] at e
 have h7:=G.apart j i (by omega) hi h5
 rw[List.getElem?_eq_getElem (by omega:j<g.length),Option.getD_some] at h7
 exact h7 e
end
end Go.Proofs.YtaadpihbjhachaaGreat
