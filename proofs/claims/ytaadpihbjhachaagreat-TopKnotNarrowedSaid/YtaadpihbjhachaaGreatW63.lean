/- Texts B2 to B2 of this proof, in one file. -/
import Derived.Test.YtaadpihbjhachaaGreatW15
import Derived.Test.YtaadpihbjhachaaGreatW16
import Derived.Test.YtaadpihbjhachaaGreatW28
import Derived.Test.YtaadpihbjhachaaGreatW39
import Derived.Test.YtaadpihbjhachaaGreatW50
namespace Go.Proofs.YtaadpihbjhachaaGreat
set_option maxRecDepth 100000
set_option maxHeartbeats 16000000
section
open Go Go.RowKit
theorem sum_map_add (C:List Int) (a b:Int→Nat):(C.map fun x=>a x+b x).sum=(C.map a).sum+(C.map b).sum:=by
 induction C with
 | nil=>rfl
 | cons c C ih=>simp only[List.map_cons,List.sum_cons,ih];omega
theorem sum_zero (y:Int):∀C:List Int,y ∉ C→(C.map fun x=>if (y==x)=true then 1 else 0).sum=0
 | [],_=>rfl
 | c :: C,h=>by
  simp only[List.mem_cons,not_or] at h
  rw[List.map_cons,List.sum_cons,sum_zero y C h.2,if_neg (by simpa using h.1)]
theorem sum_one (y:Int):∀C:List Int,C.Nodup→y∈C→(C.map fun x=>if (y==x)=true then 1 else 0).sum=1
 | [],_,h=>by cases h
 | c :: C,hn,h=>by
  rw[List.nodup_cons] at hn
  rw[List.map_cons,List.sum_cons]
  by_cases e:y=c
  ·subst e
   rw[sum_zero y C hn.1,if_pos (by simp)]
  ·rw[if_neg (by simpa using e),sum_one y C hn.2 (by rcases List.mem_cons.1 h with h1|h1;exact absurd h1 e;exact h1)]
theorem sum_none:∀C:List Int,(C.map fun _=>0).sum=0
 | []=>rfl
 | c :: C=>by rw[List.map_cons,List.sum_cons,sum_none C]
theorem count_parts {α:Type} (p:α→Int) (C:List Int) (hn:C.Nodup):∀L:List α,(∀f,f∈L→p f∈C)→(C.map fun x=>(L.filter fun f=>p f==x).length).sum=L.length
 | [],_=>by
  simp only[List.filter_nil,List.length_nil]
  exact sum_none C
 | f :: L,h=>by
  have e:(C.map fun x=>((f :: L).filter fun f=>p f==x).length)=C.map fun x=>(if (p f==x)=true then 1 else 0)+(L.filter fun f=>p f==x).length:=by
   apply List.map_congr_left
   intro x _
   rw[List.filter_cons]
   split
   ·rw[List.length_cons];omega
   ·omega
  rw[e,sum_map_add,sum_one _ C hn (h f List.mem_cons_self),count_parts p C hn L (fun g hg=>h g (List.mem_cons_of_mem _ hg)),List.length_cons]
  omega
theorem sols_with {cells:Int} {ls:List (List Int)} {sum:Int} {g:List Int} (G:GoodTask cells ls sum g) {k:Nat} (hk:k<g.length) (h0:g[k]?.getD 0=0) {x:Int} (hx:x∈unusedL g) :
  solsL ls sum (g.set k x) []=(solsL ls sum g []).filter fun f=>f[k]?.getD 0==x:=by
 have hu:=mem_unused.1 hx
 refine sorted_ext Lx.irr Lx.asymm _ _ (sols_sorted (G.put hk hx)) ((sols_sorted G).filter _) fun f=>?_
 rw[mem_sols (G.put hk hx),List.mem_filter,mem_sols G]
 constructor
 ·intro h
  refine ⟨h.less h0,?_⟩
  have:=h.ext k (by rw[List.length_set];exact hk) (by rw[set_get g k k x hk,if_pos rfl];omega)
  rw[set_get g k k x hk,if_pos rfl] at this
  simpa using this
 ·rintro ⟨h,e⟩
  refine ⟨by rw[List.length_set];exact h.len,fun i hi=>by rw[List.length_set];exact h.num i hi,h.inj,fun i hi hne=>?_,h.line⟩
  rw[List.length_set] at hi
  rw[set_get g k i x hk] at hne ⊢
  by_cases e2:i=k
  ·rw[if_pos e2,e2];simpa using e
  ·rw[if_neg e2] at hne ⊢;exact h.ext i hi hne
theorem drop_sub {Ms:List Nat} {r:Rem} {i b:Nat} (h:((dropR Ms r)[i]?.getD 0).testBit b=true):(Ms[i]?.getD 0).testBit b=true:=by
 unfold dropR at h
 by_cases e:i=r.2.1
 ·subst e
  by_cases hl:r.2.1<Ms.length
  ·rw[List.getElem?_set_self hl,Option.getD_some,testBit_clear,Bool.and_eq_true] at h
   exact h.1
  ·rw[List.getElem?_eq_none (by rw[List.length_set];omega)] at h
   simp at h
 ·rw[List.getElem?_set_ne (fun h=>e h.symm)] at h
  exact h
theorem iter_sub {ls:List (List Int)} {sum:Int} {M:Nat}:∀(k:Nat) (Ms:List Nat) (i b:Nat),((iterR ls sum M k Ms).2[i]?.getD 0).testBit b=true→(Ms[i]?.getD 0).testBit b=true
 | 0,_,_,_,h=>h
 | k+1,Ms,i,b,h=>by
  simp only[iterR] at h
  cases hs:stepR ls sum M Ms with
  | none=>rw[hs] at h;exact h
  | some r=>rw[hs] at h;exact drop_sub (iter_sub k _ i b h)
theorem elems_asc (M:Nat):(elemsM M).Pairwise (·<·):=by
 unfold elemsM elemsTo
 rw[List.pairwise_map]
 refine List.Pairwise.filter _ (List.pairwise_lt_range.imp fun h=>?_)
 omega
structure CandF (g:List Int) (C:List Int):Prop where
 asc:C.Pairwise (·<·)
 mem:∀x,x∈C→x∈unusedL g
theorem cand_f {cells:Int} {ls:List (List Int)} {sum:Int} {g:List Int} (G:GoodTask cells ls sum g) {k:Nat} (hk:k<g.length) (h0:g[k]?.getD 0=0) (j:Nat)
  (hend:stepR ls sum (allM g.length) (iterR ls sum (allM g.length) j (begL g)).2=none):CandF g ((candL (allM g.length) (iterR ls sum (allM g.length) j (begL g)).2)[k]?.getD []):=by
 have hg:=G.glen
 have hbl:(begL g).length=g.length:=by simp[begL]
 have hml:(iterR ls sum (allM g.length) j (begL g)).2.length=g.length:=by rw[iterR_len,hbl]
 have hsub:=fun i b=>iter_sub (ls:=ls) (sum:=sum) (M:=allM g.length) j (begL g) i b
 have hB0:BoundC (begL g) g.length:=begL_bound (fun i hi=>by have:=(G.num i hi).2;have:=G.len;omega)
 generalize (iterR ls sum (allM g.length) j (begL g)).2=Ms at *
 have hB:BoundC Ms Ms.length:=fun i b h=>by rw[hml];exact hB0 i b (hsub i b h)
 unfold candL
 cases hc:contraB Ms (allM g.length) with
 | true =>
  rw[if_pos rfl,List.getElem?_map,List.getElem?_eq_getElem (by omega)]
  exact ⟨List.Pairwise.nil,fun x hx=>by cases hx⟩
 | false =>
  rw[if_neg (by decide),List.getElem?_map,List.getElem?_eq_getElem (by omega)]
  show CandF g (elemsM Ms[k])
  refine ⟨elems_asc _,fun x hx=>?_⟩
  obtain ⟨h1,h2,h3⟩:=elemsM_mem.1 hx
  have hbk:(Ms[k]?.getD 0).testBit (x.toNat - 1)=true:=by rw[List.getElem?_eq_getElem (by omega)];exact h3
  have hlt:=hB k _ hbk
  refine mem_unused.2 ⟨h1,by omega,?_⟩
  rw[Bool.eq_false_iff]
  intro hh
  obtain ⟨i,hi,e⟩:=List.getElem_of_mem (hasB_iff.1 hh)
  have e2:g[i]?.getD 0=x:=by rw[List.getElem?_eq_getElem hi];exact e
  have hik:i≠k:=fun e3=>by rw[e3,h0] at e2;omega
  have hbeg:(begL g)[i]?.getD 0=2 ^ (x.toNat - 1):=by
   rw[begL_at hi,e2]
   unfold begM
   rw[if_pos (by omega)]
  have honly:∀b,(Ms[i]?.getD 0).testBit b=true→b=x.toNat - 1:=fun b hb=>by
   have:=hsub i b hb
   rw[hbeg,Nat.testBit_two_pow,decide_eq_true_eq] at this
   exact this.symm
  have hcq:contraQ Ms=false:=by rw[contra_eq (by omega) hB,hml];exact hc
  have hne:cntB Ms.length (Ms[i]?.getD 0)≠0:=by
   unfold contraQ at hcq
   rw[List.any_eq_false] at hcq
   have:=hcq i (by rw[List.mem_range];omega)
   simp only[Bool.or_eq_true,beq_iff_eq,not_or] at this
   exact this.1
  have hbit:(Ms[i]?.getD 0).testBit (x.toNat - 1)=true:=by
   obtain ⟨b,hb⟩:∃b,b∈(List.range Ms.length).filter fun j=>(Ms[i]?.getD 0).testBit j:=by
    cases hf:(List.range Ms.length).filter fun j=>(Ms[i]?.getD 0).testBit j with
    | nil=>exact absurd (by unfold cntB;rw[hf];rfl) hne
    | cons b r=>exact ⟨b,List.mem_cons_self⟩
   have hb2:=(List.mem_filter.1 hb).2
   rw[← honly b hb2];exact hb2
  have hone:sizeM (Ms[i]?.getD 0)=1:=sizeM_one.2 ⟨x.toNat - 1,by omega,hbit,fun b _ hb=>honly b hb⟩
  have hQ:onceQ Ms k (x.toNat - 1)=true:=(onceQ_iff (by omega) hB).2 ⟨i,by omega,hik,hbit,hone⟩
  have hon:onceR Ms=none:=by
   unfold stepR at hend
   rw[hc,if_neg (by decide)] at hend
   cases ho:onceR Ms with
   | none=>rfl
   | some r=>rw[ho] at hend;cases hend
  rw[← once_next (by omega) hB] at hon
  have h5:=findN_le hon k (by omega)
  have h6:=findN_le h5 (x.toNat - 1) hlt
  rw[if_pos (by rw[Bool.and_eq_true];exact ⟨hbk,hQ⟩)] at h6
  cases h6
theorem CandF.nodup {g C:List Int} (h:CandF g C):C.Nodup:=h.asc.imp fun h=>Int.ne_of_lt h
theorem cand_sum {cells:Int} {ls:List (List Int)} {sum:Int} {g:List Int} (G:GoodTask cells ls sum g) {k:Nat} (hk:k<g.length) (h0:g[k]?.getD 0=0) (C:List Int) (hC:CandF g C) (hin:∀f,f∈solsL ls sum g []→f[k]?.getD 0∈C) :
  (C.map fun x=>(solsL ls sum (g.set k x) []).length).sum=(solsL ls sum g []).length:=by
 rw[← count_parts (fun f:List Int=>f[k]?.getD 0) C hC.nodup (solsL ls sum g []) hin]
 congr 1
 apply List.map_congr_left
 intro x hx
 rw[sols_with G hk h0 (hC.mem x hx)]
end
end Go.Proofs.YtaadpihbjhachaaGreat
