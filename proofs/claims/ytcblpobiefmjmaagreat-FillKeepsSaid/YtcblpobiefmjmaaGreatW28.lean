/- Texts L1 to T5 of this proof, in one file. -/
import Derived.Test.YtcblpobiefmjmaaGreatW06
import Derived.Test.YtcblpobiefmjmaaGreatW23
import Derived.Test.YtcblpobiefmjmaaGreatW27
import Derived.Below
namespace Go.Proofs.YtcblpobiefmjmaaGreat
set_option maxRecDepth 100000
set_option maxHeartbeats 16000000
section
theorem sorted_ext {α:Type} {r:α→α→Prop} (hi:∀a,¬r a a) (ht:∀a b,r a b→¬r b a):∀(l m:List α),l.Pairwise r→m.Pairwise r→(∀x,x∈l↔x∈m)→l=m
 | [],[],_,_,_=>rfl
 | [],b :: m,_,_,h=>absurd ((h b).2 List.mem_cons_self) (by simp)
 | a :: l,[],_,_,h=>absurd ((h a).1 List.mem_cons_self) (by simp)
 | a :: l,b :: m,hl,hm,h=>by
  have hl1:=List.pairwise_cons.1 hl
  have hm1:=List.pairwise_cons.1 hm
  have hab:a=b:=by
   rcases List.mem_cons.1 ((h a).1 List.mem_cons_self) with e|e
   ·exact e
   ·rcases List.mem_cons.1 ((h b).2 List.mem_cons_self) with e2|e2
    ·exact e2.symm
    ·exact absurd (hm1.1 a e) (ht _ _ (hl1.1 b e2))
  subst hab
  have:l=m:=sorted_ext hi ht l m hl1.2 hm1.2 fun x=>by
   constructor
   ·intro hx
    rcases List.mem_cons.1 ((h x).1 (List.mem_cons_of_mem _ hx)) with e|e
    ·subst e;exact absurd (hl1.1 x hx) (hi x)
    ·exact e
   ·intro hx
    rcases List.mem_cons.1 ((h x).2 (List.mem_cons_of_mem _ hx)) with e|e
    ·subst e;exact absurd (hm1.1 x hx) (hi x)
    ·exact e
  rw[this]
def Lx (f g:List Int):Prop:=∃k:Nat,(∀j:Nat,j<k→f[j]?.getD 0=g[j]?.getD 0)∧f[k]?.getD 0<g[k]?.getD 0
theorem Lx.irr (f:List Int):¬Lx f f:=fun ⟨_,_,h⟩=>by omega
theorem Lx.asymm (f g:List Int) (h:Lx f g):¬Lx g f:=by
 obtain ⟨k,h1,h2⟩:=h
 rintro ⟨j,h3,h4⟩
 rcases Nat.lt_trichotomy j k with e|e|e
 ·have:=h1 j e;omega
 ·subst e;omega
 ·have:=h3 k e;omega
theorem Lx.trans {f g h:List Int} (h1:Lx f g) (h2:Lx g h):Lx f h:=by
 obtain ⟨k,a1,a2⟩:=h1
 obtain ⟨j,b1,b2⟩:=h2
 rcases Nat.lt_trichotomy j k with e|e|e
 ·exact ⟨j,fun i hi=>(a1 i (by omega)).trans (b1 i hi),by rw[a1 j e];exact b2⟩
 ·subst e
  exact ⟨j,fun i hi=>(a1 i hi).trans (b1 i hi),by omega⟩
 ·exact ⟨k,fun i hi=>(a1 i hi).trans (b1 i (by omega)),by rw[← b1 k e];exact a2⟩
end
section
open Go Go.RowKit
theorem val_lx:∀(m:Nat) (P S:List Int),P.length=m→S.length=m→(∀z,z∈P→0≤z∧z≤256)→(∀z,z∈S→0≤z∧z≤256)→val m P<val m S→Lx P S
 | 0,_,_,_,_,_,_,h=>by simp[val] at h
 | m+1,[],_,h1,_,_,_,_=>by simp at h1
 | m+1,_ :: _,[],_,h2,_,_,_=>by simp at h2
 | m+1,x :: P,y :: S,h1,h2,hP,hS,h=>by
  simp only[val] at h
  have a1:=val_lt m P (fun z hz=>(hP z (List.mem_cons_of_mem _ hz)).2)
  have a2:=val_lt m S (fun z hz=>(hS z (List.mem_cons_of_mem _ hz)).2)
  have hx:=hP x List.mem_cons_self
  have hy:=hS y List.mem_cons_self
  rcases Int.lt_trichotomy x y with e|e|e
  ·exact ⟨0,fun j hj=>by omega,by simpa using e⟩
  ·subst e
   obtain ⟨k,k1,k2⟩:=val_lx m P S (by simpa using h1) (by simpa using h2) (fun z hz=>hP z (List.mem_cons_of_mem _ hz)) (fun z hz=>hS z (List.mem_cons_of_mem _ hz)) (by omega)
   refine ⟨k+1,fun j hj=>?_,by simpa using k2⟩
   cases j with
   | zero=>rfl
   | succ j=>simpa using k1 j (by omega)
  ·have:(y.toNat+1)*257 ^ m≤x.toNat*257 ^ m:=Nat.mul_le_mul_right _ (by omega)
   rw[Nat.add_mul] at this
   omega
theorem open_sorted (g:List Int):(openL g).Pairwise (·<·):=by
 unfold openL openTo
 refine List.Pairwise.map _ (fun a b h=>?_) (List.Pairwise.filter _ List.pairwise_lt_range)
 omega
theorem open_lt2 {C:Cst} {i j:Nat} (hi:i<j) (hj:j<C.O.length):(C.O[i]'(by omega)).toNat<(C.O[j]).toNat:=by
 have h1:=List.pairwise_iff_getElem.1 (open_sorted C.g) i j (by show i<C.O.length;omega) hj hi
 have h2:=mem_open.1 (show C.O[i]'(by omega)∈openL C.g from List.getElem_mem (by show i<C.O.length;omega))
 have h3:=mem_open.1 (show C.O[j]∈openL C.g from List.getElem_mem hj)
 show (C.O[i]'(by omega)).toNat<_
 have:C.O[i]'(by omega)<C.O[j]:=h1
 omega
theorem fillP_same {C:Cst} {P:List Int} {j:Nat} (h:∀(i:Nat) (hi:i<C.O.length),i<P.length→(C.O[i]).toNat≠j):(fillP C P)[j]?=C.g[j]?:=by
 unfold fillP
 refine foldl_set_other _ _ (fun x hx e=>?_) _
 have h1:=zip_fst_take hx
 obtain ⟨i,hi,e2⟩:=List.getElem_of_mem h1
 rw[List.length_take] at hi
 rw[List.getElem_take] at e2
 exact h i (by omega) (by omega) (by rw[e2];exact e)
theorem fillP_at {C:Cst} (S:List Int):∀(m:Nat) (_:m≤S.length) (hm2:m≤C.O.length) (k:Nat) (hk:k<m),(fillP C (S.take m))[(C.O[k]'(by omega)).toNat]?=some (S[k]?.getD 0)
 | 0,_,_,k,hk=>by omega
 | m+1,h1,h2,k,hk=>by
  have hl:(S.take m).length=m:=by rw[List.length_take];omega
  rw[take_snoc S 0 m (by omega),fillP_snoc _ _ _ (by rw[hl];omega)]
  have hm:=mem_open.1 (show C.O[m]'(by omega)∈openL C.g from List.getElem_mem (by show m<C.O.length;omega))
  rcases Nat.lt_or_ge k m with h3|h3
  ·have hne:=open_lt2 (C:=C) h3 (by omega)
   rw[List.getElem?_set_ne]
   ·exact fillP_at S m (by omega) (by omega) k h3
   ·simp only[hl];omega
  ·have:k=m:=by omega
   subst this
   simp only[hl]
   rw[List.getElem?_set_self]
   rw[fillP_len]
   omega
theorem fillP_full {C:Cst} {S:List Int} (h:S.length=C.O.length) (k:Nat) (hk:k<C.O.length):(fillP C S)[(C.O[k]).toNat]?=some (S[k]?.getD 0):=by
 have:=fillP_at (C:=C) S S.length (Nat.le_refl _) (by omega) k (by omega)
 rwa [List.take_length] at this
theorem lx_fill {C:Cst} {P S:List Int} (hP:P.length=C.O.length) (hS:S.length=C.O.length) (h:Lx P S):Lx (fillP C P) (fillP C S):=by
 obtain ⟨k,h1,h2⟩:=h
 have hk:k<C.O.length:=by
  refine Nat.lt_of_not_le fun hle=>?_
  rw[List.getElem?_eq_none (by omega),List.getElem?_eq_none (by omega)] at h2
  exact absurd h2 (by simp)
 refine ⟨(C.O[k]).toNat,fun j hj=>?_,?_⟩
 ·by_cases e:∃(i:Nat) (hi:i<C.O.length),(C.O[i]).toNat=j
  ·obtain ⟨i,hi,rfl⟩:=e
   have hik:i<k:=by
    refine Nat.lt_of_not_le fun hle=>?_
    rcases Nat.lt_or_ge k i with h3|h3
    ·have:=open_lt2 (C:=C) h3 hi;omega
    ·have:i=k:=by omega
     subst this;omega
   rw[fillP_full hP i hi,fillP_full hS i hi,Option.getD_some,Option.getD_some]
   exact h1 i hik
  ·rw[fillP_same (fun i hi _ e2=>e ⟨i,hi,e2⟩),fillP_same (fun i hi _ e2=>e ⟨i,hi,e2⟩)]
 ·rw[fillP_full hP k hk,fillP_full hS k hk,Option.getD_some,Option.getD_some]
  exact h2
theorem ok_num {C:Cst} {P:List Int} (hf:Fine C) (ho:OkP C P):∀z,z∈P→0≤z∧z≤256:=fun z hz=>by
 have:=mem_unused.1 (ho.num z hz)
 have:=hf.len
 have:=hf.most
 omega
theorem found_sorted {C:Cst} (he:Even C) (hf:Fine C):∀(n:Nat) (P:List Int),fuelP C P=n→OkP C P→Rch C P→(found C P).Pairwise Lx:=by
 intro n
 induction n using Nat.strongRecOn with
 | _ n ih =>
  intro P hn ho hr
  rw[found_step he hf ho]
  cases hP:nextP C P with
  | none=>exact List.Pairwise.nil
  | some P' =>
   simp only
   have hlt:=fuelP_lt he hf ho hP
   have hok:=nextP_ok he hf ho hP
   have hr':=rch_next hr hP
   have htail:=ih (fuelP C P') (by omega) P' rfl hok hr'
   split
   ·rename_i hc
    have hl:P'.length=C.O.length:=by simpa using hc.1
    refine List.pairwise_append.2 ⟨List.pairwise_singleton _ _,htail,fun a ha b hb=>?_⟩
    rw[List.mem_singleton.1 ha]
    obtain ⟨S,h1,h2,h3⟩:=found_sound he hf (fuelP C P') P' rfl hok hr' b hb
    rw[h2]
    exact lx_fill hl h1.len (val_lx C.O.length P' S hl h1.len (ok_num hf hok) (ok_num hf h1.ok) h3)
   ·exact htail
end
section
open Go Go.RowKit
attribute [local go_sem] over_cell
attribute [local go_sem] Oper.semAt_some
def numBad (f:List Int) (k:Nat):Int:=if f[k]?.getD 0 < -999999999∨999999999<f[k]?.getD 0 then 3 else 0
def numE (f:List Int):Int:=errs (numBad f) f.length
def fillE (cells:Int) (f:List Int):Int:=if (f.length:Int)≠cells then 2 else numE f
def hasTo (f:List Int) (x:Int) (j:Nat):Bool:=hasB (f.take j) x
theorem hasTo_succ {f:List Int} {x:Int} {j:Nat} (h:j<f.length):hasTo f x (j+1)=(hasTo f x j||f[j]?.getD 0==x):=by
 unfold hasTo
 rw[take_snoc f 0 j h,hasB_snoc,Bool.eq_iff_iff]
 simp only[Bool.or_eq_true,decide_eq_true_eq,beq_iff_eq]
 constructor
 ·rintro (h|h)
  ·exact .inl h
  ·exact .inr h.symm
 ·rintro (h|h)
  ·exact .inl h
  ·exact .inr h.symm
def normB (f:List Int):Bool:=(List.range f.length).all fun k=>hasB f ((k:Int)+1)
theorem norm_miss {f:List Int} {k:Nat} (hk:k<f.length) (h:hasB f ((k:Int)+1)=false):normB f=false:=by
 unfold normB
 rw[List.all_eq_false]
 exact ⟨k,List.mem_range.2 hk,by rw[h];decide⟩
theorem norm_end {f:List Int} (h:∀k,k<f.length→hasB f ((k:Int)+1)=true):normB f=true:=by
 unfold normB
 rw[List.all_eq_true]
 exact fun k hk=>h k (List.mem_range.1 hk)
theorem cnum_c (a:Option Addr) (n c:Nat) (f:List Int) (w:World) (h:IC w a n f) :
  Calls Tryz.prog 82 #[.slice a n c] w fun e w'=>e = .returned (.int .i64 (numE f))∧Below w.heap.size w w':=by
 have hm:=h.small
 have H:=Lib.hid h
 have hE:Hid (numE f=errs (numBad f) n):=by unfold Hid numE;rw[h.len]
 clear h
 go_enter Tryz.func82,Tryz.ntmps82
 go_wp2
 go_loop [3] (fun i=>∃k:Nat,k≤n∧i = .int .i64 k∧Hid (∀j,j<k→numBad f j=0)) (fun i=>n - (intOf i).toNat)
 case atStart=>exact ⟨0,by omega,rfl,fun j hj=>absurd hj (by omega)⟩
 case round =>
  obtain ⟨k,hk,rfl,hno⟩:=hrel
  by_cases hlt:k<n
  ·obtain ⟨b,off,rfl,hb,hc⟩:=H.out.2 k hlt
   have hB:Hid (numBad f k=if f[k]?.getD 0 < -999999999∨999999999<f[k]?.getD 0 then 3 else 0):=rfl
   generalize f[k]?.getD 0=x at hc hB
   have hki:(k:Int)<(n:Int):=by omega
   by_cases x1:x < -999999999
   ·rw[if_pos (.inl x1)] at hB
    go_wp2
    go_ret
    exact ⟨ret_int (by rw[hE.out,errs_found hno.out hlt (by rw[hB.out];decide),hB.out]),Below.refl _ _⟩
   ·by_cases x2:999999999<x
    ·rw[if_pos (.inr x2)] at hB
     go_wp2
     go_ret
     exact ⟨ret_int (by rw[hE.out,errs_found hno.out hlt (by rw[hB.out];decide),hB.out]),Below.refl _ _⟩
    ·rw[if_neg (by omega)] at hB
     go_wp2
     go_round
     case rel=>exact ⟨k+1,by omega,by go_num,upto_snoc hno.out hB.out⟩
     case measure=>simp[intOf];omega
  ·have e:k=n:=by omega
   subst e
   go_wp2
   go_ret
   exact ⟨ret_int (by rw[hE.out,errs_none hno.out]),Below.refl _ _⟩
theorem cfill_c (cells:Int) (v1:Value) (a:Option Addr) (n c:Nat) (f:List Int) (w:World) (h:IC w a n f) :
  Calls Tryz.prog 33 #[.agg #[.int .i64 cells,v1],.slice a n c] w fun e w'=>e = .returned (.int .i64 (fillE cells f))∧Below w.heap.size w w':=by
 have hm:=h.small
 have hE:Hid (fillE cells f=if (n:Int)≠cells then 2 else numE f):=by unfold Hid fillE;rw[h.len]
 have HN:=Lib.hid (fun w1 (hb:Below w.heap.size w w1)=>cnum_c a n c f w1 (h.mono hb))
 clear h
 generalize numE f=ne at HN hE
 go_enter Tryz.func33,Tryz.ntmps33
 go_upto_region 1 with fail
 have fsz:(w.alloc (.cells #[.int .i64 cells,v1] 24)).heap.size=w.heap.size+1:=by simp only[World.size_alloc]
 have fB:Below w.heap.size w (w.alloc (.cells #[.int .i64 cells,v1] 24)):=(Below.refl _ _).alloc (Nat.le_refl _) _
 have fq0:(w.alloc (.cells #[.int .i64 cells,v1] 24)).heap[w.heap.size]?=some (.cells #[.int .i64 cells,v1] 24 (0,0)):=by have h:=World.alloc_heap_new w (.cells #[.int .i64 cells,v1] 24);exact h
 generalize (w.alloc (.cells #[.int .i64 cells,v1] 24))=W0 at fsz fB fq0 ⊢
 have x0:W0.cell? ⟨w.heap.size,0,none⟩=some (.int .i64 cells):=q_cell fq0 0
 have xl:=q_lt fq0
 clear fq0 fsz
 by_cases e:(n:Int)=cells
 ·rw[if_neg (by omega)] at hE
  have m:((n:Int) != cells)=false:=by simpa using e
  go_wp2_with (go_at_call 82;refine (HN.out _ fB).mono ?_;rintro _ w1 ⟨rfl,hb1⟩)
  go_ret
  exact ⟨ret_int hE.out.symm,keep_trans fB hb1⟩
 ·rw[if_pos e] at hE
  have m:((n:Int) != cells)=true:=by simpa using e
  go_wp2_with fail
  go_ret
  exact ⟨ret_int hE.out.symm,fB⟩
theorem norm_c2 (a:Option Addr) (n c:Nat) (f:List Int) (w:World) (h:IC w a n f) :
  Calls Tryz.prog 83 #[.slice a n c] w fun e w'=>e = .returned (.bool (normB f))∧Below w.heap.size w w':=by
 have hm:=h.small
 have H:=Lib.hid h
 have hl:=Lib.hid h.len
 have HM:Hid (∀k,k<n→hasB f ((k:Int)+1)=false→normB f=false):=fun k hk e=>norm_miss (by rw[hl.out];exact hk) e
 have HE:Hid ((∀k,k<n→hasB f ((k:Int)+1)=true)→normB f=true):=fun e=>norm_end (by rw[hl.out];exact e)
 clear h
 generalize normB f=nb at HM HE ⊢
 go_enter Tryz.func83,Tryz.ntmps83
 go_wp2
 go_loop [3,4,5] (fun v _ _=>∃k:Nat,k≤n∧v = .int .i64 ((k:Int)+1)∧Hid (∀j,j<k→hasB f ((j:Int)+1)=true)) (fun v _ _=>n+1 - (intOf v).toNat)
 case atStart=>exact ⟨0,by omega,rfl,fun j hj=>absurd hj (by omega)⟩
 case round =>
  obtain ⟨k,hk,rfl,hno⟩:=hrel
  by_cases hlt:k<n
  ·have hki:(k:Int)+1≤(n:Int):=by omega
   have HS:Hid (∀j,j<n→hasTo f ((k:Int)+1) (j+1)=(hasTo f ((k:Int)+1) j||f[j]?.getD 0==(k:Int)+1)):=fun j hj=>hasTo_succ (by rw[hl.out];exact hj)
   have HT:Hid (hasTo f ((k:Int)+1) n=hasB f ((k:Int)+1)):=by unfold Hid hasTo;rw[List.take_of_length_le (by rw[hl.out];exact Nat.le_refl _)]
   have H0:Hid (hasTo f ((k:Int)+1) 0=false):=by unfold Hid hasTo hasB;simp
   go_wp2
   go_loopg [4,5] n (fun gk fv jv wv=>∃j:Nat,gk=n - j∧j≤n∧jv = .int .i64 j∧fv = .bool (hasTo f ((k:Int)+1) j)∧wv=w)
   case atStart=>exact ⟨0,by omega,by omega,rfl,by rw[H0.out],rfl⟩
   case round =>
    obtain ⟨j,rfl,hj,rfl,rfl,hwv⟩:=hrel
    replace hwv:=hwv.symm
    subst hwv
    by_cases hltj:j<n
    ·obtain ⟨b,off,rfl,hb,hc⟩:=H.out.2 j hltj
     have HSJ:=Lib.hid (HS.out j hltj)
     have hji:(j:Int)<(n:Int):=by omega
     generalize hasTo f ((k:Int)+1) j=t at HSJ
     generalize f[j]?.getD 0=x at hc HSJ
     cases t with
     | true =>
      rw[Bool.true_or] at HSJ
      go_wp2
      go_roundg (n - (j+1))
      case measure=>omega
      case rel=>exact ⟨j+1,rfl,by omega,by go_num,by rw[HSJ.out],rfl⟩
     | false =>
      rw[Bool.false_or] at HSJ
      go_wp2
      go_roundg (n - (j+1))
      case measure=>omega
      case rel=>exact ⟨j+1,rfl,by omega,by go_num,by rw[HSJ.out],rfl⟩
    ·have e:j=n:=by omega
     subst e
     rw[HT.out]
     cases hb:hasB f ((k:Int)+1) with
     | true =>
      have hb2:=Lib.hid hb
      clear hb
      go_wp2
      go_round
      case rel=>exact ⟨k+1,by omega,by go_num,fun i hi=>(by
       by_cases e:i=k
       ·rw[e];exact hb2.out
       ·exact hno.out i (by omega))⟩
      case measure=>simp[intOf];omega
     | false =>
      have hb2:=Lib.hid (HM.out k hlt hb)
      clear hb
      go_wp2
      go_ret
      exact ⟨ret_bool hb2.out.symm,Below.refl _ _⟩
  ·have e:k=n:=by omega
   subst e
   have hb2:=Lib.hid (HE.out hno.out)
   have hki:¬(k:Int)+1≤(k:Int):=by omega
   go_wp2
   go_ret
   exact ⟨ret_bool hb2.out.symm,Below.refl _ _⟩
end
section
open Go Go.RowKit
attribute [local go_sem] over_cell
attribute [local go_sem] Oper.semAt_some
def extAt (g f:List Int) (i:Nat):Bool:=!(decide (0<g[i]?.getD 0)&&g[i]?.getD 0 != f[i]?.getD 0)
def solB (ls:List (List Int)) (sum:Int) (g f:List Int):Bool:=normB f&&((List.range f.length).all (extAt g f)&&ls.all fun l=>sumAt l f==sum)
theorem all_miss {p:Nat→Bool} {n k:Nat} (hk:k<n) (h:p k=false):(List.range n).all p=false:=by
 rw[List.all_eq_false]
 exact ⟨k,List.mem_range.2 hk,by rw[h];decide⟩
theorem all_end {p:Nat→Bool} {n:Nat} (h:∀k,k<n→p k=true):(List.range n).all p=true:=by
 rw[List.all_eq_true]
 exact fun k hk=>h k (List.mem_range.1 hk)
theorem allL_miss {α:Type} {p:α→Bool} {l:List α} {d:α} {k:Nat} (hk:k<l.length) (h:p (l[k]?.getD d)=false):l.all p=false:=by
 rw[List.all_eq_false]
 rw[List.getElem?_eq_getElem hk,Option.getD_some] at h
 exact ⟨_,List.getElem_mem hk,by rw[h];decide⟩
theorem allL_end {α:Type} {p:α→Bool} {l:List α} {d:α} (h:∀k,k<l.length→p (l[k]?.getD d)=true):l.all p=true:=by
 rw[List.all_eq_true]
 intro x hx
 obtain ⟨k,hk,rfl⟩:=List.getElem_of_mem hx
 have:=h k hk
 rwa [List.getElem?_eq_getElem hk,Option.getD_some] at this
theorem upt_snoc {f:Nat→Bool} {k:Nat} (h:∀j,j<k→f j=true) (hk:f k=true):∀j,j<k+1→f j=true:=by
 intro j hj
 by_cases e:j=k
 ·rw[e];exact hk
 ·exact h j (by omega)
theorem issol_c {cells:Int} {ls:List (List Int)} {sum:Int} {g:List Int} (G:GoodTask cells ls sum g) (a:Option Addr) (n c:Nat) (a':Option Addr) (n' c':Nat) (af:Option Addr) (nf cf:Nat) (f:List Int) (w:World) (h:RC w a n ls) (h':IC w a' n' g) (hf:IC w af nf f) (hnf:nf=n') (hfv:normB f=true→∀c:Nat,0≤f[c]?.getD 0∧f[c]?.getD 0≤1000000000) :
  Calls Tryz.prog 34 #[.agg #[.int .i64 cells,.slice a n c,.int .i64 sum,.slice a' n' c'],.slice af nf cf] w fun e w'=>e = .returned (.bool (solB ls sum g f))∧Below w.heap.size w w':=by
 subst hnf
 have hns:=h.small
 have hn1:nf≤256:=by have:=G.len;have:=G.cells2;have:=h'.len;omega
 have H:=Lib.hid h
 have H':=Lib.hid h'
 have HF:=Lib.hid hf
 have hll:=Lib.hid h.len
 have hfl:=Lib.hid hf.len
 have HN:=Lib.hid (fun w1 (hb:Below w.heap.size w w1)=>norm_c2 af nf cf f w1 (hf.mono hb))
 have HFV:=Lib.hid hfv
 have HLN:Hid (∀k,k<n→(ls[k]?.getD []).length≤1000∧∀x,x∈ls[k]?.getD []→0≤x∧x<(nf:Int)):=fun k hk=>by
  have hk2:k<ls.length:=by rw[hll.out];exact hk
  rw[List.getElem?_eq_getElem hk2,Option.getD_some]
  have h1:=G.lineLen (List.getElem_mem hk2)
  have h2:=G.len
  have h3:=h'.len
  exact ⟨h1.1,fun x hx=>by have:=h1.2 x hx;omega⟩
 have hE:Hid (solB ls sum g f=(normB f&&((List.range nf).all (extAt g f)&&ls.all fun l=>sumAt l f==sum))):=by unfold Hid solB;rw[hf.len]
 clear h h' hf G hfv
 generalize solB ls sum g f=sv at hE ⊢
 go_enter Tryz.func34,Tryz.ntmps34
 go_upto_region 1 with fail
 have fsz:(w.alloc (.cells #[.int .i64 cells,.slice a n c,.int .i64 sum,.slice a' nf c'] 28)).heap.size=w.heap.size+1:=by simp only[World.size_alloc]
 have fB:Below w.heap.size w (w.alloc (.cells #[.int .i64 cells,.slice a n c,.int .i64 sum,.slice a' nf c'] 28)):=(Below.refl _ _).alloc (Nat.le_refl _) _
 have fq0:(w.alloc (.cells #[.int .i64 cells,.slice a n c,.int .i64 sum,.slice a' nf c'] 28)).heap[w.heap.size]?=some (.cells #[.int .i64 cells,.slice a n c,.int .i64 sum,.slice a' nf c'] 28 (0,0)):=by have h:=World.alloc_heap_new w (.cells #[.int .i64 cells,.slice a n c,.int .i64 sum,.slice a' nf c'] 28);exact h
 generalize (w.alloc (.cells #[.int .i64 cells,.slice a n c,.int .i64 sum,.slice a' nf c'] 28))=W0 at fsz fB fq0 ⊢
 have HQ:=Lib.hid fq0
 clear fq0 fsz
 cases hnb:normB f with
 | false =>
  rw[hnb] at HN hE
  clear hnb
  go_wp2_with (go_at_call 83;refine (HN.out _ fB).mono ?_;rintro _ w1 ⟨rfl,hb1⟩)
  go_ret
  exact ⟨ret_bool (by rw[hE.out];rfl),keep_trans fB hb1⟩
 | true =>
  have HFV:=Lib.hid (HFV.out hnb)
  rw[hnb] at HN hE
  rw[Bool.true_and] at hE
  clear hnb
  go_wp2_with fail
  refine (HN.out _ fB).mono ?_
  rintro _ w1 ⟨rfl,hb1⟩
  have hB1:=keep_trans fB hb1
  have HQ1:=Lib.hid (keepq hb1 HQ.out)
  clear HN hb1 HQ
  go_wp2_with fail
  go_loopw [5] (fun i wr=>∃k:Nat,k≤nf∧i = .int .i64 k∧Hid (∀j,j<k→extAt g f j=true)∧Below w1.heap.size w1 wr) (fun i _=>nf - (intOf i).toNat)
  case atStart=>exact ⟨0,by omega,rfl,fun j hj=>absurd hj (by omega),Below.refl _ _⟩
  case round =>
   obtain ⟨k,hk,rfl,hno,hbr⟩:=hrel
   have hBr:=keep_trans hB1 hbr
   by_cases hlt:k<nf
   ·obtain ⟨bg,og,rfl,hbg,hcg⟩:=(H'.out.mono hBr).2 k hlt
    obtain ⟨bf,of,rfl,hbf,hcf⟩:=(HF.out.mono hBr).2 k hlt
    have x3:wr.cell? ⟨w.heap.size,3,none⟩=some (.slice (some ⟨bg,og,none⟩) nf c'):=q_cell (keepq hbr HQ1.out) 3
    have xl:=q_lt (keepq hbr HQ1.out)
    have hki:(k:Int)<(nf:Int):=by omega
    have hEX:Hid (extAt g f k=!(decide (0<g[k]?.getD 0)&&g[k]?.getD 0 != f[k]?.getD 0)):=rfl
    generalize g[k]?.getD 0=x at hcg hEX
    generalize f[k]?.getD 0=y at hcf hEX
    by_cases x0:0<x
    ·rw[decide_eq_true x0,Bool.true_and] at hEX
     have m0:decide (0<x)=true:=decide_eq_true x0
     cases hxy:(x != y) with
     | true =>
      rw[hxy] at hEX
      have hA:=Lib.hid (all_miss (p:=extAt g f) hlt hEX.out)
      go_wp2_with fail
      refine wp_region_S (fun w'=>∃u,w'=over (wr) u) [] [(0,0),(0,1),(0,2),(0,3),(0,4),(0,5),(0,6),(0,7),(0,8),(0,9),(0,10),(0,11),(0,12),(0,13),(0,14),(0,15),(0,16),(0,17)] (by kernel_rfl) (by kernel_rfl) (by exact ⟨_,below_over (by repeat (first|assumption|exact Below.refl _ _|refine keep_drew ?_|refine keep_alloc ?_ _|refine keep_trans ?_ (by assumption)))⟩) ?_
      dsimp only[pickOps,nthOp]
      repeat (first|(refine wpS_skip rfl (fun K hK=>?_);go_big_quiet_op;refine hK _ ?_;clear hK K)|(refine wpS_quiet rfl rfl (fun K hK=>?_);go_big_quiet_op;refine hK _ ?_;clear hK K))
      refine wpS_end ?_
      go_wp2
      go_ret
      exact ⟨ret_bool (by rw[hE.out,hA.out];rfl),hBr.drew⟩
     | false =>
      rw[hxy] at hEX
      go_wp2_with fail
      refine wp_region_S (fun w'=>∃u,w'=over (wr) u) [] [(0,0),(0,1),(0,2),(0,3),(0,4),(0,5),(0,6),(0,7),(0,8),(0,9),(0,10),(0,11),(0,12),(0,13),(0,14),(0,15),(0,16),(0,17)] (by kernel_rfl) (by kernel_rfl) (by exact ⟨_,below_over (by repeat (first|assumption|exact Below.refl _ _|refine keep_drew ?_|refine keep_alloc ?_ _|refine keep_trans ?_ (by assumption)))⟩) ?_
      dsimp only[pickOps,nthOp]
      repeat (first|(refine wpS_skip rfl (fun K hK=>?_);go_big_quiet_op;refine hK _ ?_;clear hK K)|(refine wpS_quiet rfl rfl (fun K hK=>?_);go_big_quiet_op;refine hK _ ?_;clear hK K))
      refine wpS_end ?_
      go_wp2
      go_roundw
      case rel=>exact ⟨k+1,by omega,by go_num,upt_snoc hno.out hEX.out,hbr.drew⟩
      case measure=>simp[intOf];omega
    ·rw[decide_eq_false x0,Bool.false_and] at hEX
     have m0:decide (0<x)=false:=decide_eq_false x0
     go_wp2_with fail
     refine wp_region_S (fun w'=>∃u,w'=over (wr) u) [] [(0,0),(0,1),(0,2),(0,3),(0,4),(0,5),(0,6),(0,7),(0,8),(0,9),(0,10),(0,11),(0,12),(0,13),(0,14),(0,15),(0,16),(0,17)] (by kernel_rfl) (by kernel_rfl) (by exact ⟨_,below_over (by repeat (first|assumption|exact Below.refl _ _|refine keep_drew ?_|refine keep_alloc ?_ _|refine keep_trans ?_ (by assumption)))⟩) ?_
     dsimp only[pickOps,nthOp]
     repeat (first|(refine wpS_skip rfl (fun K hK=>?_);go_big_quiet_op;refine hK _ ?_;clear hK K)|(refine wpS_quiet rfl rfl (fun K hK=>?_);go_big_quiet_op;refine hK _ ?_;clear hK K))
     refine wpS_end ?_
     go_wp2
     go_roundw
     case rel=>exact ⟨k+1,by omega,by go_num,upt_snoc hno.out hEX.out,hbr.drew⟩
     case measure=>simp[intOf];omega
   ·have e:k=nf:=by omega
    subst e
    rw[all_end hno.out,Bool.true_and] at hE
    have HQr:=Lib.hid (keepq hbr HQ1.out)
    clear hno
    go_wp2_with fail
    go_loopw [6] (fun i ws=>∃j:Nat,j≤n∧i = .int .i64 j∧Hid (∀i,i<j→(sumAt (ls[i]?.getD []) f==sum)=true)∧Below wr.heap.size wr ws) (fun i _=>n - (intOf i).toNat)
    case atStart=>exact ⟨0,by omega,rfl,fun j hj=>absurd hj (by omega),Below.refl _ _⟩
    case round =>
     obtain ⟨j,hj,rfl,hno,hbs⟩:=hrel
     have hBs:=keep_trans hBr hbs
     by_cases hltj:j<n
     ·obtain ⟨b,off,al,nl,cl,rfl,hb,hc,hic,hcl⟩:=(H.out.mono hBs).2 j hltj
      have hln:=HLN.out j hltj
      have hll2:=Lib.hid hic.len
      have HAM:Hid ((sumAt (ls[j]?.getD []) f==sum)=false→(ls.all fun l=>sumAt l f==sum)=false):=fun e=>allL_miss (d:=[]) (by rw[hll.out];exact hltj) e
      have HNX:Hid ((sumAt (ls[j]?.getD []) f==sum)=true→∀i,i<j+1→(sumAt (ls[i]?.getD []) f==sum)=true):=fun e=>upt_snoc (f:=fun i=>sumAt (ls[i]?.getD []) f==sum) hno.out e
      generalize ls[j]?.getD []=l at hic hln hll2 HAM HNX
      have hn1000:nl≤1000:=by rw[← hll2.out];exact hln.1
      have HLX:Hid (∀i,i<nl→0≤l[i]?.getD 0∧l[i]?.getD 0<(k:Int)):=fun i hi=>by
       have hi2:i<l.length:=by rw[hll2.out];exact hi
       rw[List.getElem?_eq_getElem hi2,Option.getD_some]
       exact hln.2 _ (List.getElem_mem hi2)
      have HSM:=Lib.hid (fun W (hb2:Below wr.heap.size wr W)=>rsumof_c al af nl k cl cf l f W (hic.mono hb2) ((HF.out.mono hBs).mono hb2) hn1000 HLX.out HFV.out)
      have x1:wr.cell? ⟨w.heap.size,1,none⟩=some (.slice (some ⟨b,off,none⟩) n c):=q_cell (keepq hbs HQr.out) 1
      have x2:wr.cell? ⟨w.heap.size,2,none⟩=some (.int .i64 sum):=q_cell (keepq hbs HQr.out) 2
      have xl:=q_lt (keepq hbs HQr.out)
      have hji:(j:Int)<(n:Int):=by omega
      clear hln hic hno
      cases hs:(sumAt l f==sum) with
      | true =>
       have hs2:(sumAt l f != sum)=false:=by simpa using hs
       have HN1:=Lib.hid (HNX.out hs)
       clear hs
       go_wp2_with fail
       refine wp_region_S (fun w'=>∃u,w'=over (wr) u) [] [(0,0),(0,1),(0,2),(0,3),(0,4),(0,5),(0,6),(0,8),(0,9),(1,7),(0,10)] (by kernel_rfl) (by kernel_rfl) (by exact ⟨_,below_over (by repeat (first|assumption|exact Below.refl _ _|refine keep_drew ?_|refine keep_alloc ?_ _|refine keep_trans ?_ (by assumption)))⟩) ?_
       dsimp only[pickOps,nthOp]
       repeat (first|(refine wpS_skip rfl (fun K hK=>?_);go_big_quiet_op;refine hK _ ?_;clear hK K)|(refine wpS_quiet rfl rfl (fun K hK=>?_);go_big_quiet_op;refine hK _ ?_;clear hK K)|(refine wpS_loud ?_;go_wp2_with (go_at_call 84;refine (HSM.out _ (keep_drew (Below.refl _ _))).mono ?_;rintro _ w7 ⟨rfl,rfl⟩);refine ⟨?_,?_⟩;focus (exact ⟨_,below_over (by repeat (first|assumption|exact Below.refl _ _|refine keep_drew ?_|refine keep_alloc ?_ _|refine keep_trans ?_ (by assumption)))⟩)))
       refine wpS_end ?_
       go_wp2
       go_roundw
       case rel=>exact ⟨j+1,by omega,by go_num,HN1.out,hbs.drew⟩
       case measure=>simp[intOf];omega
      | false =>
       have hs2:(sumAt l f != sum)=true:=by simpa using hs
       have HN1:=Lib.hid (HAM.out hs)
       clear hs
       go_wp2_with fail
       refine wp_region_S (fun w'=>∃u,w'=over (wr) u) [] [(0,0),(0,1),(0,2),(0,3),(0,4),(0,5),(0,6),(0,8),(0,9),(1,7),(0,10)] (by kernel_rfl) (by kernel_rfl) (by exact ⟨_,below_over (by repeat (first|assumption|exact Below.refl _ _|refine keep_drew ?_|refine keep_alloc ?_ _|refine keep_trans ?_ (by assumption)))⟩) ?_
       dsimp only[pickOps,nthOp]
       repeat (first|(refine wpS_skip rfl (fun K hK=>?_);go_big_quiet_op;refine hK _ ?_;clear hK K)|(refine wpS_quiet rfl rfl (fun K hK=>?_);go_big_quiet_op;refine hK _ ?_;clear hK K)|(refine wpS_loud ?_;go_wp2_with (go_at_call 84;refine (HSM.out _ (keep_drew (Below.refl _ _))).mono ?_;rintro _ w7 ⟨rfl,rfl⟩);refine ⟨?_,?_⟩;focus (exact ⟨_,below_over (by repeat (first|assumption|exact Below.refl _ _|refine keep_drew ?_|refine keep_alloc ?_ _|refine keep_trans ?_ (by assumption)))⟩)))
       refine wpS_end ?_
       go_wp2
       go_ret
       exact ⟨ret_bool (by rw[hE.out,HN1.out]),hBs.drew⟩
     ·have e:j=n:=by omega
      subst e
      have hA:Hid ((ls.all fun l=>sumAt l f==sum)=true):=allL_end (d:=[]) (fun i hi=>hno.out i (by rw[← hll.out];exact hi))
      have x1:wr.cell? ⟨w.heap.size,1,none⟩=some (.slice a j c):=q_cell (keepq hbs HQr.out) 1
      have xl:=q_lt (keepq hbs HQr.out)
      clear hno
      go_wp2_with fail
      go_ret
      exact ⟨ret_bool (by rw[hE.out,hA.out]),hBs⟩
def lexB:List Int→List Int→Bool
 | [],[]=>false
 | [],_ :: _=>true
 | _ :: _,[]=>false
 | x :: a,y :: b=>if x=y then lexB a b else decide (x<y)
theorem lexB_drop {a b:List Int} {k:Nat} (ha:k<a.length) (hb:k<b.length):lexB (a.drop k) (b.drop k)=if a[k]?.getD 0=b[k]?.getD 0 then lexB (a.drop (k+1)) (b.drop (k+1)) else decide (a[k]?.getD 0<b[k]?.getD 0):=by
 rw[List.drop_eq_getElem_cons ha,List.drop_eq_getElem_cons hb,List.getElem?_eq_getElem ha,List.getElem?_eq_getElem hb]
 rfl
theorem lexB_end {a b:List Int} {k:Nat} (hk:k=a.length∨k=b.length) (ha:k≤a.length) (hb:k≤b.length):lexB (a.drop k) (b.drop k)=decide (a.length<b.length):=by
 rcases hk with e|e
 ·rw[List.drop_eq_nil_of_le (by omega)]
  rcases Nat.lt_or_ge k b.length with h|h
  ·rw[List.drop_eq_getElem_cons h]
   rw[decide_eq_true (by omega)]
   rfl
  ·rw[List.drop_eq_nil_of_le h,decide_eq_false (by omega)]
   rfl
 ·rw[List.drop_eq_nil_of_le (by omega:b.length≤k)]
  rw[decide_eq_false (by omega)]
  cases a.drop k <;> rfl
theorem before_c (a a':Option Addr) (n n' c c':Nat) (xs ys:List Int) (w:World) (h:IC w a n xs) (h':IC w a' n' ys) :
  Calls Tryz.prog 35 #[.slice a n c,.slice a' n' c'] w fun e w'=>e = .returned (.bool (lexB xs ys))∧Below w.heap.size w w':=by
 have hm:=h.small
 have hm':=h'.small
 have H:=Lib.hid h
 have H':=Lib.hid h'
 have hl1:=Lib.hid h.len
 have hl2:=Lib.hid h'.len
 clear h h'
 go_enter Tryz.func35,Tryz.ntmps35
 go_wp2
 go_loopw [5] (fun i wr=>∃k:Nat,k≤n∧k≤n'∧i = .int .i64 k∧Hid (lexB xs ys=lexB (xs.drop k) (ys.drop k))∧Below w.heap.size w wr) (fun i _=>n - (intOf i).toNat)
 case atStart=>exact ⟨0,by omega,by omega,rfl,rfl,Below.refl _ _⟩
 case round =>
  obtain ⟨k,hk,hk',rfl,hno,hbr⟩:=hrel
  by_cases h1:k<n
  ·have h1i:(k:Int)<(n:Int):=by omega
   by_cases h2:k<n'
   ·obtain ⟨b,off,rfl,hb,hc⟩:=(H.out.mono hbr).2 k h1
    obtain ⟨b',off',rfl,hb',hc'⟩:=(H'.out.mono hbr).2 k h2
    have h2i:(k:Int)<(n':Int):=by omega
    have hLX:=Lib.hid (hno.out.trans (lexB_drop (by rw[hl1.out];exact h1) (by rw[hl2.out];exact h2)))
    generalize xs[k]?.getD 0=x at hc hLX
    generalize ys[k]?.getD 0=y at hc' hLX
    by_cases e:x=y
    ·rw[if_pos e] at hLX
     have m:(x != y)=false:=by simpa using e
     clear e
     go_wp2_with fail
     refine wp_region_S (fun w'=>∃u,w'=over (wr) u) [] [(0,0),(0,1),(0,2),(0,3),(0,4),(0,5),(0,6),(0,7),(0,8)] (by kernel_rfl) (by kernel_rfl) (by exact ⟨_,below_over (by repeat (first|assumption|exact Below.refl _ _|refine keep_drew ?_|refine keep_alloc ?_ _|refine keep_trans ?_ (by assumption)))⟩) ?_
     dsimp only[pickOps,nthOp]
     repeat (first|(refine wpS_skip rfl (fun K hK=>?_);go_big_quiet_op;refine hK _ ?_;clear hK K)|(refine wpS_quiet rfl rfl (fun K hK=>?_);go_big_quiet_op;refine hK _ ?_;clear hK K))
     refine wpS_end ?_
     go_wp2
     go_roundw
     case rel=>exact ⟨k+1,by omega,by omega,by go_num,hLX.out,hbr.drew⟩
     case measure=>simp[intOf];omega
    ·rw[if_neg e] at hLX
     have m:(x != y)=true:=by simpa using e
     clear e
     go_wp2_with fail
     refine wp_region_S (fun w'=>∃u,w'=over (wr) u) [] [(0,0),(0,1),(0,2),(0,3),(0,4),(0,5),(0,6),(0,7),(0,8)] (by kernel_rfl) (by kernel_rfl) (by exact ⟨_,below_over (by repeat (first|assumption|exact Below.refl _ _|refine keep_drew ?_|refine keep_alloc ?_ _|refine keep_trans ?_ (by assumption)))⟩) ?_
     dsimp only[pickOps,nthOp]
     repeat (first|(refine wpS_skip rfl (fun K hK=>?_);go_big_quiet_op;refine hK _ ?_;clear hK K)|(refine wpS_quiet rfl rfl (fun K hK=>?_);go_big_quiet_op;refine hK _ ?_;clear hK K))
     refine wpS_end ?_
     go_wp2_with fail
     refine wp_region_S (fun w'=>∃u,w'=over (wr) u) [9] [(0,0),(0,1),(0,2),(0,3),(0,4),(0,5),(0,6),(0,7),(0,8),(2,9)] (by kernel_rfl) (by kernel_rfl) (by exact ⟨_,below_over (by repeat (first|assumption|exact Below.refl _ _|refine keep_drew ?_|refine keep_alloc ?_ _|refine keep_trans ?_ (by assumption)))⟩) ?_
     dsimp only[pickOps,nthOp]
     repeat (first|(refine wpS_skip rfl (fun K hK=>?_);go_big_quiet_op;refine hK _ ?_;clear hK K)|(refine wpS_quiet rfl rfl (fun K hK=>?_);go_big_quiet_op;refine hK _ ?_;clear hK K))
     refine wpS_late _ _ _ rfl ?_
     dsimp only[List.map]
     go_wp2
     refine NoPanic.normal ?_
     go_wp2
     go_ret
     exact ⟨ret_bool hLX.out.symm,hbr.drew.drew⟩
   ·have h2i:¬(k:Int)<(n':Int):=by omega
    have hLX:=Lib.hid (hno.out.trans (lexB_end (.inr (by rw[hl2.out];omega)) (by rw[hl1.out];omega) (by rw[hl2.out];omega)))
    rw[hl1.out,hl2.out] at hLX
    have h3:¬(n:Int)<(n':Int):=by omega
    rw[decide_eq_false (by omega)] at hLX
    go_wp2_with fail
    go_ret
    exact ⟨ret_bool hLX.out.symm,hbr⟩
  ·have h1i:¬(k:Int)<(n:Int):=by omega
   have hLX:=Lib.hid (hno.out.trans (lexB_end (.inl (by rw[hl1.out];omega)) (by rw[hl1.out];omega) (by rw[hl2.out];omega)))
   rw[hl1.out,hl2.out] at hLX
   by_cases h3:n<n'
   ·have h3i:(n:Int)<(n':Int):=by omega
    rw[decide_eq_true h3] at hLX
    go_wp2_with fail
    go_ret
    exact ⟨ret_bool hLX.out.symm,hbr⟩
   ·have h3i:¬(n:Int)<(n':Int):=by omega
    rw[decide_eq_false h3] at hLX
    go_wp2_with fail
    go_ret
    exact ⟨ret_bool hLX.out.symm,hbr⟩
end
section
open Go Go.RowKit
theorem lx_lexB:∀(f g:List Int),f.length=g.length→Lx f g→lexB f g=true
 | [],[],_,⟨k,_,h⟩=>by simp at h
 | [],_ :: _,h,_=>by simp at h
 | _ :: _,[],h,_=>by simp at h
 | x :: f,y :: g,hl,⟨k,h1,h2⟩=>by
  simp only[lexB]
  cases k with
  | zero =>
   have h3:x<y:=by simpa using h2
   rw[if_neg (by omega),decide_eq_true h3]
  | succ k =>
   have h3:x=y:=by simpa using h1 0 (by omega)
   rw[if_pos h3]
   exact lx_lexB f g (by simpa using hl) ⟨k,fun j hj=>by simpa using h1 (j+1) (by omega),by simpa using h2⟩
theorem sols_sorted {cells:Int} {ls:List (List Int)} {sum:Int} {g:List Int} (G:GoodTask cells ls sum g):(solsL ls sum g []).Pairwise Lx:=by
 have e:solsL ls sum g []=sols (gC cells ls sum g) []:=(sols_pl (gC cells ls sum g) []).symm
 rw[e]
 unfold sols
 split
 ·split
  ·exact List.Pairwise.nil
  ·exact List.pairwise_singleton _ _
 ·exact found_sorted (gC_even G) (gC_fine G) _ [] rfl ⟨by simp,fun x hx=>(by cases hx),List.nodup_nil⟩ (fun k hk=>absurd hk (Nat.not_lt_zero _))
theorem solF_norm {ls:List (List Int)} {sum:Int} {g f:List Int} (h:SolF ls sum g f):normB f=true:=by
 refine norm_end (fun k hk=>?_)
 cases hb:hasB f ((k:Int)+1) with
 | true=>rfl
 | false =>
  exfalso
  have hl:=h.len
  have hn:f.Nodup:=by
   unfold List.Nodup
   rw[List.pairwise_iff_getElem]
   intro i j hi hj hij e
   have:=h.inj i j hi hj (by rw[List.getElem?_eq_getElem hi,List.getElem?_eq_getElem hj,e])
   omega
  have hs:∀x,x∈f→x∈((List.range f.length).map fun (i:Nat)=>(i:Int)+1).erase ((k:Int)+1):=by
   intro x hx
   obtain ⟨i,hi,e⟩:=List.getElem_of_mem hx
   have h1:=h.num i hi
   rw[List.getElem?_eq_getElem hi,Option.getD_some,e] at h1
   rw[List.mem_erase_of_ne]
   ·exact List.mem_map.2 ⟨(x - 1).toNat,List.mem_range.2 (by omega),by omega⟩
   ·intro e2
    have:=hasB_iff.2 hx
    rw[e2,hb] at this
    cases this
  have h2:=nodup_le hn hs
  rw[List.length_erase_of_mem (List.mem_map.2 ⟨k,List.mem_range.2 hk,rfl⟩),List.length_map,List.length_range] at h2
  omega
theorem solF_solB {cells:Int} {ls:List (List Int)} {sum:Int} {g f:List Int} (G:GoodTask cells ls sum g) (h:SolF ls sum g f):fillE cells f=0∧solB ls sum g f=true∧∀c:Nat,0≤f[c]?.getD 0∧f[c]?.getD 0≤1000000000:=by
 have hl:=h.len
 have hgl:=G.len
 have hc:=G.cells2
 have hv:∀c:Nat,0≤f[c]?.getD 0∧f[c]?.getD 0≤256:=fun c=>by
  rcases Nat.lt_or_ge c f.length with h1|h1
  ·have:=h.num c h1;omega
  ·rw[List.getElem?_eq_none h1];decide
 refine ⟨?_,?_,fun c=>by have:=hv c;omega⟩
 ·unfold fillE
  rw[if_neg (by omega)]
  unfold numE
  refine errs_none (fun j hj=>?_)
  unfold numBad
  have:=hv j
  rw[if_neg (by omega)]
 ·unfold solB
  rw[solF_norm h,Bool.true_and,Bool.and_eq_true]
  refine ⟨all_end (fun i hi=>?_),List.all_eq_true.2 (fun l hml=>?_)⟩
  ·unfold extAt
   by_cases h0:g[i]?.getD 0=0
   ·rw[h0];rfl
   ·rw[h.ext i (by omega) h0];simp
  ·rw[h.line l hml];simp
theorem sols_at {cells:Int} {ls:List (List Int)} {sum:Int} {g:List Int} (G:GoodTask cells ls sum g) {L:List (List Int)} {m:Nat} (hL:(solsL ls sum g []).take m=L) :
  (∀i,i<L.length→(L[i]?.getD []).length=g.length∧fillE cells (L[i]?.getD [])=0∧solB ls sum g (L[i]?.getD [])=true∧∀c:Nat,0≤(L[i]?.getD [])[c]?.getD 0∧(L[i]?.getD [])[c]?.getD 0≤1000000000) ∧
  ∀i,0<i→i<L.length→lexB (L[i - 1]?.getD []) (L[i]?.getD [])=true:=by
 have hmem:∀i,i<L.length→SolF ls sum g (L[i]?.getD []):=fun i hi=>by
  refine (mem_sols G).1 (List.mem_of_mem_take (i:=m) ?_)
  rw[hL,List.getElem?_eq_getElem hi]
  exact List.getElem_mem hi
 refine ⟨fun i hi=>⟨(hmem i hi).len,solF_solB G (hmem i hi)⟩,fun i h0 hi=>?_⟩
 refine lx_lexB _ _ (by rw[(hmem (i - 1) (by omega)).len,(hmem i hi).len]) ?_
 have hs:L.Pairwise Lx:=by rw[← hL];exact (sols_sorted G).sublist (List.take_sublist _ _)
 have h1:i - 1<L.length:=by omega
 rw[List.getElem?_eq_getElem h1,List.getElem?_eq_getElem hi]
 exact List.pairwise_iff_getElem.1 hs (i - 1) i h1 hi (by omega)
theorem few_good {cells:Int} {ls:List (List Int)} {sum:Int} {g:List Int} {cc op:Int} (h:few6B cc op cells sum ls g=true):GoodTask cells ls sum g∧((openL g).length:Int)≤op:=by
 unfold few6B at h
 simp only[Bool.and_eq_true,beq_iff_eq,decide_eq_true_eq] at h
 exact ⟨goodTask (by omega),by omega⟩
end
section
open Go Go.RowKit
theorem few_sys {cells:Int} {ls:List (List Int)} {sum:Int} {g:List Int} {cc op:Int} (h:few6B cc op cells sum ls g=true):sysErr cells ls=0:=by
 unfold few6B few2B at h
 simp only[Bool.and_eq_true,beq_iff_eq,decide_eq_true_eq] at h
 omega
theorem taskErr_good {cells:Int} {ls:List (List Int)} {sum:Int} {g:List Int} (G:GoodTask cells ls sum g) (hs:sysErr cells ls=0):taskErr cells ls sum g=0:=by
 have h1:=G.sum1
 have h2:=G.sum2
 have h3:=G.len
 unfold taskErr
 rw[if_neg (by rw[hs];decide),if_neg (by omega),if_neg (by omega)]
 refine errs_none (fun i hi=>?_)
 have h4:=G.num i hi
 unfold givenBad
 rw[if_neg (by omega),if_neg]
 rintro ⟨h5,h6⟩
 obtain ⟨j,hj,e⟩:=List.getElem_of_mem (hasB_iff.1 h6)
 rw[List.length_take] at hj
 rw[List.getElem_take] at e
 have h7:=G.apart j i (by omega) hi h5
 rw[List.getElem?_eq_getElem (by omega:j<g.length),Option.getD_some] at h7
 exact h7 e
end
end Go.Proofs.YtcblpobiefmjmaaGreat
