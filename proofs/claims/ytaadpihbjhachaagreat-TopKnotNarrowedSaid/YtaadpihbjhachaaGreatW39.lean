/- Texts Z1 to Z4 of this proof, in one file. -/
import Derived.Test.YtaadpihbjhachaaGreatW12
import Derived.Test.YtaadpihbjhachaaGreatW14
import Derived.Test.YtaadpihbjhachaaGreatW15
import Derived.Test.YtaadpihbjhachaaGreatW27
namespace Go.Proofs.YtaadpihbjhachaaGreat
set_option maxRecDepth 100000
set_option maxHeartbeats 16000000
section
open Go Go.RowKit
theorem mOnce {Ms:List Nat} {i:Nat}:∀k,k≤Ms.length→((onceTo Ms k).testBit i=true↔∃j,j<k∧(Ms[j]?.getD 0).testBit i=true)
 | 0,_=>by simp[onceTo]
 | k+1,h=>by
  rw[onceTo_succ (by omega),Nat.testBit_or,Bool.or_eq_true,mOnce k (by omega)]
  constructor
  ·rintro (⟨j,h1,h2⟩|h1)
   ·exact ⟨j,by omega,h2⟩
   ·exact ⟨k,by omega,h1⟩
  ·rintro ⟨j,h1,h2⟩
   by_cases e:j=k
   ·subst e;exact .inr h2
   ·exact .inl ⟨j,by omega,h2⟩
theorem mTwice {Ms:List Nat} {i:Nat}:∀k,k≤Ms.length→((twiceTo Ms k).testBit i=true↔∃a b,a<b∧b<k∧(Ms[a]?.getD 0).testBit i=true∧(Ms[b]?.getD 0).testBit i=true)
 | 0,_=>by simp[twiceTo]
 | k+1,h=>by
  simp only[twiceTo]
  rw[Nat.testBit_or,Nat.testBit_and,Bool.or_eq_true,Bool.and_eq_true,mTwice k (by omega),mOnce k (by omega)]
  constructor
  ·rintro (⟨a,b,h1,h2,h3,h4⟩|⟨⟨j,h1,h2⟩,h3⟩)
   ·exact ⟨a,b,h1,by omega,h3,h4⟩
   ·exact ⟨j,k,h1,by omega,h2,h3⟩
  ·rintro ⟨a,b,h1,h2,h3,h4⟩
   by_cases e:b=k
   ·subst e;exact .inr ⟨⟨a,h1,h3⟩,h4⟩
   ·exact .inl ⟨a,b,h1,by omega,h3,h4⟩
theorem sizeTo_cnt (M:Nat):∀k,sizeTo M k=cntB (64*k) M
 | 0=>rfl
 | k+1=>by
  simp only[sizeTo]
  rw[sizeTo_cnt M k]
  unfold cntB
  rw[show 64*(k+1)=64*k+64 from by omega,List.range_add,List.filter_append,List.length_append,List.filter_map,List.length_map]
  congr 2
  refine List.filter_congr fun i hi=>?_
  rw[testBit_word M k i (by simpa using hi)]
  rfl
theorem sizeM_cnt (M:Nat):sizeM M=cntB 256 M:=sizeTo_cnt M 4
theorem sizeM_zero {M:Nat}:sizeM M=0↔∀i,i<256→M.testBit i=false:=by
 rw[sizeM_cnt]
 unfold cntB
 rw[List.length_eq_zero_iff,List.filter_eq_nil_iff]
 simp
theorem one_filter {p:Nat→Bool} {a:Nat}:∀l:List Nat,l.Nodup→a∈l→p a=true→(∀b,b∈l→p b=true→b=a)→l.filter p=[a]
 | x :: l,hn,ha,hp,hu=>by
  rw[List.nodup_cons] at hn
  by_cases e:x=a
  ·subst e
   rw[List.filter_cons_of_pos hp]
   congr 1
   rw[List.filter_eq_nil_iff]
   intro b hb hpb
   have:=hu b (List.mem_cons_of_mem _ hb) hpb
   subst this
   exact hn.1 hb
  ·have ha':a∈l:=by
    rcases List.mem_cons.1 ha with h|h
    ·exact absurd h.symm e
    ·exact h
   rw[List.filter_cons_of_neg (fun hx=>e (hu x List.mem_cons_self hx))]
   exact one_filter l hn.2 ha' hp (fun b hb=>hu b (List.mem_cons_of_mem _ hb))
theorem sizeM_one {M:Nat}:sizeM M=1↔∃a,a<256∧M.testBit a=true∧∀b,b<256→M.testBit b=true→b=a:=by
 rw[sizeM_cnt]
 unfold cntB
 constructor
 ·intro h
  rw[List.length_eq_one_iff] at h
  obtain ⟨a,h⟩:=h
  have h1:∀b,b<256→M.testBit b=true→b=a:=fun b hb ht=>by
   have:b∈(List.range 256).filter fun i=>M.testBit i:=List.mem_filter.2 ⟨by simpa using hb,ht⟩
   rw[h] at this
   simpa using this
  have h2:a∈(List.range 256).filter fun i=>M.testBit i:=by rw[h];simp
  rw[List.mem_filter] at h2
  exact ⟨a,by simpa using h2.1,h2.2,h1⟩
 ·rintro ⟨a,h1,h2,h3⟩
  rw[one_filter (p:=fun i=>M.testBit i) (a:=a) (List.range 256) List.nodup_range (by simpa using h1) h2 (fun b hb hp=>h3 b (by simpa using hb) hp)]
  rfl
theorem blen_hi:∀f x j,x<2 ^ f→x.testBit j=true→j<Lib.bitLenAux f x
 | 0,x,j,h,hb=>by
  rw[show x=0 from by simpa using h] at hb
  simp at hb
 | f+1,x,j,h,hb=>by
  have hx:x≠0:=by rintro rfl;simp at hb
  simp only[Lib.bitLenAux]
  rw[if_neg hx]
  cases j with
  | zero=>omega
  | succ j =>
   rw[Nat.testBit_succ] at hb
   have:=blen_hi f (x / 2) j (by rw[Nat.pow_succ] at h;omega) hb
   omega
theorem greatTo_hi {M:Nat}:∀k j,j<64*k→M.testBit j=true→j<greatTo M k
 | 0,j,h,_=>absurd h (by omega)
 | k+1,j,h,hb=>by
  simp only[greatTo]
  by_cases e:j<64*k
  ·split
   ·exact greatTo_hi k j e hb
   ·omega
  ·have hw:(word M k).testBit (j - 64*k)=true:=by rw[testBit_word M k _ (by omega),show 64*k+(j - 64*k)=j from by omega];exact hb
   have hz:word M k≠0:=by intro h0;rw[h0] at hw;simp at hw
   rw[if_neg hz]
   have:=blen_hi 64 (word M k) (j - 64*k) (word_lt M k) hw
   unfold Lib.bitLen
   omega
theorem great_hi {M j:Nat} (h1:1≤j) (h2:j≤256) (hb:M.testBit (j - 1)=true):j≤greatM M:=by
 have:=greatTo_hi (M:=M) 4 (j - 1) (by omega) hb
 unfold greatM
 omega
end
section
open Go Go.RowKit
theorem sub_two:∀{L l:List Nat},l.Sublist L→∀a b,a<b→b<l.length→∃i j,i<j∧j<L.length∧L[i]?.getD 0=l[a]?.getD 0∧L[j]?.getD 0=l[b]?.getD 0:=by
 intro L l h
 induction h with
 | slnil=>intro a b _ h;exact absurd h (by simp)
 | cons x h ih =>
  intro a b h1 h2
  obtain ⟨i,j,h3,h4,h5,h6⟩:=ih a b h1 h2
  exact ⟨i+1,j+1,by omega,by simpa using h4,by simpa using h5,by simpa using h6⟩
 | @cons_cons l L x h ih =>
  intro a b h1 h2
  obtain ⟨b,rfl⟩:∃b',b=b'+1:=⟨b - 1,by omega⟩
  simp only[List.length_cons] at h2
  cases a with
  | zero =>
   have hm:l[b]'(by omega)∈L:=h.subset (List.getElem_mem _)
   obtain ⟨j,hj,e⟩:=List.getElem_of_mem hm
   refine ⟨0,j+1,by omega,by simpa using hj,by simp,?_⟩
   simp only[List.getElem?_cons_succ]
   rw[List.getElem?_eq_getElem hj,List.getElem?_eq_getElem (show b<l.length by omega),e]
  | succ a =>
   obtain ⟨i,j,h3,h4,h5,h6⟩:=ih a b (by omega) (by omega)
   exact ⟨i+1,j+1,by omega,by simpa using h4,by simpa using h5,by simpa using h6⟩
def isC (Ms:List Nat) (i n:Nat):Prop:=1≤n∧n≤256∧(Ms[i]?.getD 0).testBit (n - 1)=true
def HoldsC (Ms:List Nat) (f:List Int):Prop:=f.length=Ms.length∧∀i:Nat,i<f.length→1≤f[i]?.getD 0∧isC Ms i (f[i]?.getD 0).toNat
theorem keep_once {Ms:List Nat} {f:List Int} {r:Rem} (hc:HoldsC Ms f) (hinj:∀i j,i<f.length→j<f.length→f[i]?.getD 0=f[j]?.getD 0→i=j) (h:onceR Ms=some r):f[r.2.1]?.getD 0≠(r.2.2.1:Int):=by
 obtain ⟨c,hcl,h1⟩:=findN_some h
 unfold onceAt at h1
 split at h1
 case isFalse=>cases h1
 rename_i h0
 cases h1
 show f[c]?.getD 0≠((onceF (oneM Ms) (twoM Ms) (Ms[c]?.getD 0):Nat):Int)
 have hs:=aboveM_spec h0
 have e0:onceF (oneM Ms) (twoM Ms) (Ms[c]?.getD 0)=aboveM (if sizeM (Ms[c]?.getD 0)=1 then Ms[c]?.getD 0 &&& twoM Ms else Ms[c]?.getD 0 &&& oneM Ms) 0:=rfl
 rw[← e0] at hs
 generalize onceF (oneM Ms) (twoM Ms) (Ms[c]?.getD 0)=x at *
 intro hf
 obtain ⟨hx1,hx2,hb⟩:=hs
 -- another cell has only x
 have key:∀i,i<f.length→sizeM (Ms[i]?.getD 0)=1→(Ms[i]?.getD 0).testBit (x - 1)=true→i=c:=by
  intro i hi h1 h2
  obtain ⟨a,ha1,ha2,ha3⟩:=sizeM_one.1 h1
  have hfi:=hc.2 i hi
  have e1:=ha3 (x - 1) (by omega) h2
  have e2:=ha3 _ (by have:=hfi.2.2.1;omega) hfi.2.2.2
  have h3:=hfi.2.1
  have h4:=hfi.1
  refine hinj i c hi (by rw[hc.1];exact hcl) ?_
  rw[hf]
  omega
 have hsing:∀s,s∈singles Ms→∃i,i<f.length∧Ms[i]?.getD 0=s∧sizeM s=1:=by
  intro s hs
  unfold singles at hs
  rw[List.mem_filter] at hs
  obtain ⟨i,hi,e⟩:=List.getElem_of_mem hs.1
  exact ⟨i,by rw[hc.1];exact hi,by rw[List.getElem?_eq_getElem hi];exact e,by simpa using hs.2⟩
 have hat:∀k:Nat,(((singles Ms)[k]?.getD 0).testBit (x - 1)=true)→(singles Ms)[k]?.getD 0∈singles Ms:=by
  intro k hk
  by_cases hkl:k<(singles Ms).length
  ·rw[List.getElem?_eq_getElem hkl];exact List.getElem_mem hkl
  ·rw[List.getElem?_eq_none (by omega)] at hk;simp at hk
 by_cases hz:sizeM (Ms[c]?.getD 0)=1
 ·rw[if_pos hz,Nat.testBit_and,Bool.and_eq_true] at hb
  unfold twoM at hb
  obtain ⟨a,b,hab,hbl,ha,hb2⟩:=(mTwice (singles Ms).length (Nat.le_refl _)).1 hb.2
  -- two singles with x: two different cells
  have hsub:(singles Ms).Sublist Ms:=List.filter_sublist
  obtain ⟨i,j,hij,hj,ei,ej⟩:∃i j,i<j∧j<Ms.length∧Ms[i]?.getD 0=(singles Ms)[a]?.getD 0∧Ms[j]?.getD 0=(singles Ms)[b]?.getD 0:=by
   exact sub_two hsub a b hab hbl
  have h1:=hsing _ (hat a ha)
  have h2:=hsing _ (hat b hb2)
  obtain ⟨_,_,e1,z1⟩:=h1
  obtain ⟨_,_,e2,z2⟩:=h2
  have k1:=key i (by rw[hc.1];omega) (by rw[ei];exact z1) (by rw[ei];exact ha)
  have k2:=key j (by rw[hc.1];omega) (by rw[ej];exact z2) (by rw[ej];exact hb2)
  omega
 ·rw[if_neg hz,Nat.testBit_and,Bool.and_eq_true] at hb
  unfold oneM at hb
  obtain ⟨a,_,ha⟩:=(mOnce (singles Ms).length (Nat.le_refl _)).1 hb.2
  obtain ⟨i,hi,e,z⟩:=hsing _ (hat a ha)
  have:=key i hi (by rw[e];exact z) (by rw[e];exact ha)
  subst this
  rw[e] at hz
  exact hz z
def BoundC (Ms:List Nat) (n:Nat):Prop:=∀i b:Nat,(Ms[i]?.getD 0).testBit b=true→b<n
theorem keep_sums {Ms:List Nat} {f:List Int} (hc:HoldsC Ms f) {l:List Int} (hl:∀x,x∈l→0≤x∧x<(Ms.length:Int)):∀k,k≤l.length→((lowTo Ms l k:Nat):Int)≤sumTo l f k∧sumTo l f k≤((highTo Ms l k:Nat):Int) ∧
  ∀j,j<k→((lowTo Ms l k:Nat):Int) - aboveM (Ms[(l[j]?.getD 0).toNat]?.getD 0) 0≤sumTo l f k - f[(l[j]?.getD 0).toNat]?.getD 0∧sumTo l f k - f[(l[j]?.getD 0).toNat]?.getD 0≤((highTo Ms l k:Nat):Int) - greatM (Ms[(l[j]?.getD 0).toNat]?.getD 0)
 | 0,_=>⟨by simp[lowTo,sumTo,sumAt],by simp[highTo,sumTo,sumAt],fun j hj=>absurd hj (by omega)⟩
 | k+1,hk=>by
  obtain ⟨h1,h2,h3⟩:=keep_sums hc hl k (by omega)
  have hm:l[k]?.getD 0∈l:=by rw[List.getElem?_eq_getElem (show k<l.length by omega)];exact List.getElem_mem _
  have hb:=hl _ hm
  rw[sumTo_succ (by omega)]
  simp only[lowTo,highTo]
  have hf:=hc.2 (l[k]?.getD 0).toNat (by rw[hc.1];omega)
  obtain ⟨c,ec⟩:∃c,(l[k]?.getD 0).toNat=c:=⟨_,rfl⟩
  rw[ec] at hf ⊢
  obtain ⟨g1,g2,g3,g4⟩:=hf
  have a1:=aboveM_first (M:=Ms[c]?.getD 0) (x:=0) (j:=(f[c]?.getD 0).toNat) (by omega) g3 g4
  have a2:=great_hi g2 g3 g4
  refine ⟨by omega,by omega,fun j hj=>?_⟩
  by_cases e:j=k
  ·subst e
   rw[ec]
   omega
  ·have:=h3 j (by omega)
   omega
theorem keep_line {ls:List (List Int)} {sum:Int} {Ms:List Nat} {f:List Int} {r:Rem} (hc:HoldsC Ms f) (hl:∀l,l∈ls→∀x,x∈l→0≤x∧x<(Ms.length:Int)) (hs:∀l,l∈ls→sumAt l f=sum) (h:lineR ls sum Ms=some r):f[r.2.1]?.getD 0≠(r.2.2.1:Int):=by
 obtain ⟨k,hk,h1⟩:=findN_some h
 obtain ⟨j,hj,h2⟩:=findN_some h1
 have hm:ls[k]?.getD []∈ls:=by rw[List.getElem?_eq_getElem hk];exact List.getElem_mem hk
 have hsum:=hs _ hm
 obtain ⟨e1,e2,e3⟩:=keep_sums hc (hl _ hm) (ls[k]?.getD []).length (Nat.le_refl _)
 have e3:=e3 j hj
 have hst:sumTo (ls[k]?.getD []) f (ls[k]?.getD []).length=sum:=by unfold sumTo;rw[List.take_length];exact hsum
 rw[hst] at e3
 generalize lowTo Ms (ls[k]?.getD []) (ls[k]?.getD []).length=low at *
 generalize highTo Ms (ls[k]?.getD []) (ls[k]?.getD []).length=high at *
 unfold lineAt at h2
 generalize ((ls[k]?.getD [])[j]?.getD 0).toNat=c at *
 split at h2
 case isFalse=>cases h2
 rename_i h0
 cases h2
 show f[c]?.getD 0≠((lineF sum low high (Ms[c]?.getD 0):Nat):Int)
 intro hf
 rw[hf] at e3
 unfold lineF at *
 generalize Ms[c]?.getD 0=s at *
 split at h0
 ·rename_i h9
  rw[if_pos h9] at e3
  have h8:=aboveM_spec h0
  omega
 ·rename_i h9
  rw[if_neg h9] at e3
  omega
theorem solF_onto {ls:List (List Int)} {sum:Int} {g f:List Int} (h:SolF ls sum g f) {m:Nat} (h1:1≤m) (h2:m≤f.length):∃i,i<f.length∧f[i]?.getD 0=(m:Int):=by
 apply Classical.byContradiction
 intro hno
 have hl:=h.len
 have hn:f.Nodup:=by
  unfold List.Nodup
  rw[List.pairwise_iff_getElem]
  intro i j hi hj hij e
  have:=h.inj i j hi hj (by rw[List.getElem?_eq_getElem hi,List.getElem?_eq_getElem hj,e])
  omega
 have hs:∀x,x∈f→x∈((List.range f.length).map fun (i:Nat)=>(i:Int)+1).erase (m:Int):=by
  intro x hx
  obtain ⟨i,hi,e⟩:=List.getElem_of_mem hx
  have h3:=h.num i hi
  have e9:f[i]?.getD 0=x:=by rw[List.getElem?_eq_getElem hi,Option.getD_some,e]
  rw[e9] at h3
  rw[List.mem_erase_of_ne]
  ·exact List.mem_map.2 ⟨(x - 1).toNat,List.mem_range.2 (by omega),by omega⟩
  ·intro e2
   exact hno ⟨i,hi,by rw[e9,e2]⟩
 have h4:=nodup_le hn hs
 rw[List.length_erase_of_mem (List.mem_map.2 ⟨m - 1,List.mem_range.2 (by omega),by omega⟩),List.length_map,List.length_range] at h4
 omega
theorem keep_place {Ms:List Nat} {f:List Int} {r:Rem} (hc:HoldsC Ms f) (hb:BoundC Ms Ms.length) (hon:∀m:Nat,1≤m→m≤f.length→∃i,i<f.length∧f[i]?.getD 0=(m:Int)) (h:placeR Ms=some r):f[r.2.1]?.getD 0≠(r.2.2.1:Int):=by
 obtain ⟨c,hcl,h1⟩:=findN_some h
 unfold placeAt at h1
 split at h1
 case isFalse=>cases h1
 rename_i h0
 cases h1
 show f[c]?.getD 0≠((placeF (aloneM Ms) (Ms[c]?.getD 0):Nat):Int)
 -- a number that only this cell has is this cell's number
 have key:∀b,b<256→(Ms[c]?.getD 0 &&& aloneM Ms).testBit b=true→f[c]?.getD 0=(b:Int)+1:=by
  intro b hb1 ht
  rw[Nat.testBit_and,Bool.and_eq_true] at ht
  obtain ⟨t1,t2⟩:=ht
  unfold aloneM at t2
  rw[testBit_minus,Bool.and_eq_true] at t2
  have hbn:=hb c b t1
  obtain ⟨i,hi,e⟩:=hon (b+1) (by omega) (by rw[hc.1];omega)
  have hfi:=(hc.2 i hi).2.2.2
  rw[e] at hfi
  have hfi':(Ms[i]?.getD 0).testBit b=true:=by simpa using hfi
  have hnt:¬∃a b',a<b'∧b'<Ms.length∧(Ms[a]?.getD 0).testBit b=true∧(Ms[b']?.getD 0).testBit b=true:=by
   rw[← mTwice Ms.length (Nat.le_refl _)]
   simpa using t2.2
  have hic:i=c:=by
   rcases Nat.lt_trichotomy i c with h3|h3|h3
   ·exact absurd ⟨i,c,h3,hcl,hfi',t1⟩ hnt
   ·exact h3
   ·exact absurd ⟨c,i,h3,by rw[← hc.1];exact hi,t1,hfi'⟩ hnt
  subst hic
  rw[e]
  omega
 generalize aloneM Ms=al at *
 intro hf
 unfold placeF at h0 hf
 generalize Ms[c]?.getD 0=s at *
 by_cases z0:sizeM (s &&& al)=0
 ·rw[if_pos z0] at h0;omega
 ·rw[if_neg z0] at h0 hf
  have hex:∃b,b<256∧(s &&& al).testBit b=true:=by
   apply Classical.byContradiction
   intro hno
   refine z0 (sizeM_zero.2 fun i hi=>?_)
   rw[Bool.eq_false_iff]
   exact fun ht=>hno ⟨i,hi,ht⟩
  obtain ⟨b,hb1,hb2⟩:=hex
  have k1:=key b hb1 hb2
  by_cases z1:sizeM (s &&& al)=1
  ·rw[if_pos z1] at h0 hf
   have hs:=aboveM_spec h0
   rw[testBit_minus,Bool.and_eq_true] at hs
   rw[k1] at hf
   have:aboveM (minus s (s &&& al)) 0 - 1=b:=by omega
   rw[this,hb2] at hs
   exact absurd hs.2.2.2 (by decide)
  ·refine z1 (sizeM_one.2 ⟨b,hb1,hb2,fun b' h3 h4=>?_⟩)
   have:=key b' h3 h4
   omega
theorem keep_drop {Ms:List Nat} {f:List Int} {r:Rem} (hc:HoldsC Ms f) (hr:1≤r.2.2.1) (h:f[r.2.1]?.getD 0≠(r.2.2.1:Int)):HoldsC (dropR Ms r) f:=by
 refine ⟨by rw[dropR_len];exact hc.1,fun i hi=>?_⟩
 obtain ⟨h1,h2,h3,h4⟩:=hc.2 i hi
 refine ⟨h1,h2,h3,?_⟩
 unfold dropR
 by_cases e:i=r.2.1
 ·subst e
  rw[List.getElem?_set_self (by rw[← hc.1];exact hi),Option.getD_some,testBit_clear,h4,Bool.true_and,decide_eq_true_eq]
  omega
 ·rw[List.getElem?_set_ne (fun h=>e h.symm)]
  exact h4
theorem bound_drop {Ms:List Nat} {r:Rem} {n:Nat} (h:BoundC Ms n):BoundC (dropR Ms r) n:=by
 intro i b ht
 unfold dropR at ht
 by_cases e:i=r.2.1
 ·subst e
  by_cases hl:r.2.1<Ms.length
  ·rw[List.getElem?_set_self hl,Option.getD_some,testBit_clear,Bool.and_eq_true] at ht
   exact h _ b ht.1
  ·rw[List.getElem?_eq_none (by rw[List.length_set];omega)] at ht
   simp at ht
 ·rw[List.getElem?_set_ne (fun h=>e h.symm)] at ht
  exact h i b ht
theorem allM_bit {n b:Nat}:(allM n).testBit b=decide (b<n):=by
 induction n with
 | zero=>simp[allM]
 | succ n ih =>
  simp only[allM]
  rw[Nat.testBit_or,ih,Nat.testBit_two_pow]
  rw[Bool.eq_iff_iff]
  simp
  omega
theorem begL_at {g:List Int} {i:Nat} (h:i<g.length):(begL g)[i]?.getD 0=begM g.length (g[i]?.getD 0):=by
 unfold begL
 rw[List.getElem?_map,List.getElem?_eq_getElem h]
 rfl
theorem begL_bound {g:List Int} (hg:∀k,k<g.length→g[k]?.getD 0≤(g.length:Int)):BoundC (begL g) g.length:=by
 intro i b ht
 by_cases hi:i<g.length
 ·rw[begL_at hi] at ht
  unfold begM at ht
  have:=hg i hi
  split at ht
  ·rw[Nat.testBit_two_pow,decide_eq_true_eq] at ht
   omega
  ·rw[allM_bit,decide_eq_true_eq] at ht
   exact ht
 ·rw[List.getElem?_eq_none (by unfold begL;simp;omega)] at ht
  simp at ht
theorem begL_holds {ls:List (List Int)} {sum:Int} {g f:List Int} (hg:g.length≤256) (h0:∀k,k<g.length→0≤g[k]?.getD 0) (h:SolF ls sum g f):HoldsC (begL g) f:=by
 refine ⟨by rw[h.len];simp[begL],fun i hi=>?_⟩
 have hl:=h.len
 have h1:=h.num i hi
 have h2:=h0 i (by omega)
 refine ⟨h1.1,by omega,by omega,?_⟩
 rw[begL_at (by omega)]
 unfold begM
 split
 ·rename_i hp
  have:=h.ext i (by omega) (by omega)
  rw[this,Nat.testBit_two_pow,decide_eq_true_eq]
 ·rw[allM_bit,decide_eq_true_eq]
  omega
theorem keep_iter {cells:Int} {ls:List (List Int)} {sum:Int} {g f:List Int} (G:GoodTask cells ls sum g) (h:SolF ls sum g f) (M:Nat):∀(k:Nat) (Ms:List Nat),Ms.length=g.length→HoldsC Ms f→BoundC Ms Ms.length →
  HoldsC (iterR ls sum M k Ms).2 f∧BoundC (iterR ls sum M k Ms).2 Ms.length∧∀r,r∈(iterR ls sum M k Ms).1→f[r.2.1]?.getD 0≠(r.2.2.1:Int)
 | 0,Ms,_,h1,h2=>⟨h1,h2,fun r hr=>absurd hr (by simp[iterR])⟩
 | k+1,Ms,hlen,h1,h2=>by
  simp only[iterR]
  have hlr:∀l,l∈ls→∀x,x∈l→0≤x∧x<(Ms.length:Int):=fun l hl x hx=>by
   have:=(G.lineLen hl).2 x hx
   have:=G.len
   omega
  cases hs:stepR ls sum M Ms with
  | none=>exact ⟨h1,h2,fun r hr=>absurd hr (by simp)⟩
  | some r =>
   simp only
   have hok:=stepR_ok hlr hs
   have hne:f[r.2.1]?.getD 0≠(r.2.2.1:Int):=by
    unfold stepR at hs
    split at hs
    ·cases hs
    ·split at hs
     ·rename_i r0 e;cases hs;exact keep_once h1 h.inj e
     ·split at hs
      ·rename_i r0 e;cases hs;exact keep_line h1 hlr h.line e
      ·exact keep_place h1 h2 (fun m m1 m2=>solF_onto h m1 m2) hs
   have ih:=keep_iter G h M k (dropR Ms r) (by rw[dropR_len];exact hlen) (keep_drop h1 hok.2.1 hne) (by rw[dropR_len];exact bound_drop h2)
   rw[dropR_len] at ih
   refine ⟨ih.1,ih.2.1,fun r' hr'=>?_⟩
   rcases List.mem_cons.1 hr' with e|e
   ·rw[e];exact hne
   ·exact ih.2.2 r' e
theorem small_mask {M:Nat} (h:∀b,M.testBit b=true→b<256):M<2 ^ 256:=by
 apply Nat.lt_pow_two_of_testBit
 intro i hi
 rw[Bool.eq_false_iff]
 intro ht
 have:=h i ht
 omega
theorem keep_contra {ls:List (List Int)} {sum:Int} {g f:List Int} {Ms:List Nat} (hg:g.length≤256) (hlen:Ms.length=g.length) (h:SolF ls sum g f) (hc:HoldsC Ms f) (hb:BoundC Ms Ms.length):contraB Ms (allM g.length)=false:=by
 have hl:=h.len
 have hbit:∀b,(onceTo Ms Ms.length).testBit b=(allM g.length).testBit b:=by
  intro b
  rw[allM_bit,Bool.eq_iff_iff,mOnce Ms.length (Nat.le_refl _),decide_eq_true_eq]
  constructor
  ·rintro ⟨j,hj,ht⟩
   have:=hb j b ht
   omega
  ·intro hlt
   obtain ⟨i,hi,e⟩:=solF_onto h (m:=b+1) (by omega) (by omega)
   have h2:=(hc.2 i hi).2.2.2
   rw[e] at h2
   exact ⟨i,by rw[← hc.1];exact hi,by simpa using h2⟩
 have e1:onceTo Ms Ms.length=allM g.length:=Nat.eq_of_testBit_eq hbit
 have e2:eqM (onceTo Ms Ms.length) (allM g.length)=true:=by rw[e1];simp[eqM]
 have e3:fullTo Ms Ms.length=true:=by
  unfold fullTo
  rw[List.take_length,List.all_eq_true]
  intro s hs
  obtain ⟨i,hi,e⟩:=List.getElem_of_mem hs
  have hf:=(hc.2 i (by rw[hc.1];exact hi)).2
  have es:Ms[i]?.getD 0=s:=by rw[List.getElem?_eq_getElem hi];exact e
  obtain ⟨f1,f2,f3⟩:=hf
  rw[es] at f3
  have hlt:s<2 ^ 256:=small_mask fun b hb'=>by have:=hb i b (by rw[es];exact hb');omega
  rw[eqM_iff hlt (by decide)]
  have:s≠0:=by rintro rfl;simp at f3
  simpa using this
 unfold contraB
 rw[e2,e3]
 rfl
theorem elemsM_mem {M:Nat} {x:Int}:x∈elemsM M↔1≤x∧x≤256∧M.testBit (x.toNat - 1)=true:=by
 unfold elemsM elemsTo
 rw[List.mem_map]
 constructor
 ·rintro ⟨i,hi,rfl⟩
  rw[List.mem_filter,List.mem_range] at hi
  exact ⟨by omega,by omega,by rw[show ((i:Int)+1).toNat - 1=i from by omega];exact hi.2⟩
 ·rintro ⟨h1,h2,h3⟩
  exact ⟨x.toNat - 1,List.mem_filter.2 ⟨List.mem_range.2 (by omega),h3⟩,by omega⟩
end
end Go.Proofs.YtaadpihbjhachaaGreat
