/- Texts R1 to S0 of this proof, in one file. -/
import Derived.Test.YtaadpihbjhachaaGreatW06
import Derived.Test.YtaadpihbjhachaaGreatW07
import Derived.Test.YtaadpihbjhachaaGreatW12
import Derived.Deep.CutBlock
import Derived.Deep.CutRange
namespace Go.Proofs.YtaadpihbjhachaaGreat
set_option maxRecDepth 100000
set_option maxHeartbeats 16000000
section
open Go Go.RowKit
attribute [local go_sem] zv
attribute [local go_sem] Oper.semAt_some
def kh (g P:List Int):List Int:=((zj g).zip P).foldl (fun f cx=>f.set cx.1.toNat cx.2) g
theorem fillP_G (C:Cst) (P:List Int):jc C P=kh C.g P:=rfl
theorem fillG_len (g P:List Int):(kh g P).length=g.length:=foldl_set_len _ _
theorem fillG_snoc (g P:List Int) (x:Int) (h:P.length<(zj g).length):kh g (P++[x])=(kh g P).set ((zj g)[P.length]?.getD 0).toNat x:=by
 have:=fillP_snoc (plC [] 0 g) P x h
 rw[fillP_G,fillP_G] at this
 rw[List.getElem?_eq_getElem h]
 exact this
theorem open_lt {g:List Int} {k:Nat} (h:k<(zj g).length):∃x:Nat,(zj g)[k]?.getD 0=(x:Int)∧x<g.length∧g[x]?.getD 0=0:=by
 have hm:=jN.1 (List.getElem_mem h)
 rw[List.getElem?_eq_getElem h]
 exact ⟨((zj g)[k]).toNat,by simp only[Option.getD_some];omega,by omega,hm.2.2⟩
end
section
open Go Go.RowKit
attribute [local go_sem] zv
attribute [local go_sem] Oper.semAt_some
theorem upb_snoc {f:Nat→Bool} {k:Nat} (h:∀j,j<k→f j=false) (hk:f k=false):∀j,j<k+1→f j=false:=by
 intro j hj
 by_cases e:j=k
 ·rw[e];exact hk
 ·exact h j (by omega)
end
section
open Go Go.RowKit
def OkG (g P:List Int):Prop:=OkP (plC [] 0 g) P
theorem OkG.len {g P:List Int} (h:OkG g P):P.length≤(zj g).length:=OkP.len h
def gC (cells:Int) (ls:List (List Int)) (sum:Int) (g:List Int):Cst:=⟨cells,none,0,0,ls,sum,none,g.length,0,g,none,0,0,0⟩
theorem gC_fine {cells:Int} {ls:List (List Int)} {sum:Int} {g:List Int} (G:GoodTask cells ls sum g):Fine (gC cells ls sum g):=GoodTask.fine (C:=gC cells ls sum g) G rfl
theorem gC_even {cells:Int} {ls:List (List Int)} {sum:Int} {g:List Int} (G:GoodTask cells ls sum g):Even (gC cells ls sum g):=G.even
end
section
open Go Go.RowKit
structure SolP (C:Cst) (S:List Int):Prop where
 ok:OkP C S
 len:S.length=C.O.length
 right:∀k,k≤C.O.length→jE C (S.take k)=false
def PLt (P S:List Int):Prop:=∃Q x y R R',P=Q++x :: R∧S=Q++y :: R'∧x<y
theorem aboveM_lo {M x j:Nat} (h1:x<j) (h2:j≤256) (h3:M.testBit (j - 1)=true):0<zJ M x∧zJ M x≤j:=by
 unfold zJ
 cases e:(List.range 257).find? (fun j=>decide (x<j)&&M.testBit (j - 1)) with
 | none =>
  rw[List.find?_eq_none] at e
  have:=e j (List.mem_range.2 (by omega))
  simp[h1,h3] at this
 | some i =>
  rw[List.find?_range_eq_some] at e
  obtain ⟨e1,_,e3⟩:=e
  simp only[Bool.and_eq_true,decide_eq_true_eq] at e1
  show 0<i∧i≤j
  refine ⟨by omega,Nat.le_of_not_lt fun hlt=>?_⟩
  have:=e3 j hlt
  simp[h1,h3] at this
theorem above_le {C:Cst} {Q:List Int} {x:Nat} {y:Int} (hf:Fine C) (hy:y∈zh C.g) (hq:y ∉ Q) (hxy:(x:Int)<y):0<zJ (zZ (jg C Q)) x∧((zJ (zZ (jg C Q)) x:Nat):Int)≤y:=by
 have h1:=zT.1 hy
 have h2:=hf.len
 have h3:=hf.most
 have:=aboveM_lo (M:=zZ (jg C Q)) (x:=x) (j:=y.toNat) (by omega) (by omega) (by
  rw[jW,hasB_left,show ((y.toNat - 1:Nat):Int)+1=y from by omega,js.2 hy]
  simp only[Bool.true_and,Bool.not_eq_true']
  rw[Bool.eq_false_iff]
  exact fun e=>hq (js.1 e))
 exact ⟨this.1,by omega⟩
theorem back_reach {C:Cst} {S Q S':List Int} {x y:Int} (hf:Fine C) (hS:S=Q++y :: S') (hx:0≤x) (hxy:x<y) (hy:y∈zh C.g) (hq:y ∉ Q):∀U:List Int,∃P',qc C (U++x :: Q.reverse)=some P'∧(P' <+: S∨PLt P' S)
 | []=>by
  have ha:=above_le (Q:=Q) (x:=x.toNat) hf hy hq (by omega)
  refine ⟨Q++[((zJ (zZ (jg C Q)) x.toNat:Nat):Int)],?_,?_⟩
  ·show qc C (x :: Q.reverse)=_
   unfold qc
   rw[List.reverse_reverse,if_pos ha.1]
  ·rcases Int.lt_or_eq_of_le ha.2 with h|h
   ·exact .inr ⟨Q,_,y,[],S',rfl,hS,h⟩
   ·left
    rw[h,hS]
    exact ⟨S',by simp⟩
 | z :: U=>by
  rw[List.cons_append]
  unfold qc
  by_cases ha:0<zJ (zZ (jg C (U++x :: Q.reverse).reverse)) z.toNat
  ·rw[if_pos ha]
   refine ⟨_,rfl,.inr ⟨Q,x,y,U.reverse++[((zJ (zZ (jg C (U++x :: Q.reverse).reverse)) z.toNat:Nat):Int)],S',?_,hS,hxy⟩⟩
   generalize ((zJ (zZ (jg C (U++x :: Q.reverse).reverse)) z.toNat:Nat):Int)=v
   rw[List.reverse_append,List.reverse_cons,List.reverse_reverse]
   simp
  ·rw[if_neg ha]
   exact back_reach hf hS hx hxy hy hq U
theorem next_reach {C:Cst} {P S:List Int} (hf:Fine C) (ho:OkP C P) (hS:SolP C S) (h:(P <+: S∧P≠S)∨PLt P S):∃P',jJ C P=some P'∧(P' <+: S∨PLt P' S):=by
 unfold jJ
 rcases h with ⟨⟨T,hT⟩,hne⟩|⟨Q,x,y,R,R',hP,hSe,hxy⟩
 ·cases T with
  | nil=>exact absurd (by simpa using hT) hne
  | cons y S' =>
   have hl:P.length<C.O.length:=by rw[← hS.len,← hT];simp
   have hw:jE C P=false:=by
    have:=hS.right P.length (by omega)
    rwa [← hT,List.take_left] at this
   rw[if_pos ⟨by rw[beq_eq_false_iff_ne];omega,hw⟩]
   have hy:y∈zh C.g:=hS.ok.num y (by rw[← hT];simp)
   have hq:y ∉ P:=by
    have hn:=hS.ok.nodup
    rw[← hT,List.nodup_append] at hn
    exact fun hm=>hn.2.2 y hm y (by simp) rfl
   have hy1:=zT.1 hy
   have ha:=above_le (Q:=P) (x:=0) hf hy hq (by omega)
   refine ⟨_,rfl,?_⟩
   rcases Int.lt_or_eq_of_le ha.2 with h|h
   ·exact .inr ⟨P,_,y,[],S',rfl,hT.symm,h⟩
   ·left
    rw[h,← hT]
    exact ⟨S',by simp⟩
 ·have hy:y∈zh C.g:=hS.ok.num y (by rw[hSe];simp)
  have hq:y ∉ Q:=by
   have hn:=hS.ok.nodup
   rw[hSe,List.nodup_append] at hn
   exact fun hm=>hn.2.2 y hm y (by simp) rfl
  have hx:=zT.1 (ho.num x (by rw[hP];simp))
  split
  ·refine ⟨_,rfl,.inr ⟨Q,x,y,R++[((zJ (zZ (jg C P)) 0:Nat):Int)],R',?_,hSe,hxy⟩⟩
   generalize ((zJ (zZ (jg C P)) 0:Nat):Int)=v
   rw[hP];simp
  ·have:=back_reach hf hSe (by omega) hxy hy hq R.reverse
   rw[hP,List.reverse_append,List.reverse_cons]
   simpa using this
theorem found_mem {C:Cst} {S:List Int} (he:Even C) (hf:Fine C) (hS:SolP C S):∀(n:Nat) (P:List Int),qu C P=n→OkP C P→((P <+: S∧P≠S)∨PLt P S)→jc C S∈qb C P:=by
 intro n
 induction n using Nat.strongRecOn with
 | _ n ih =>
  intro P hn ho h
  obtain ⟨P',hP',hr⟩:=next_reach hf ho hS h
  rw[found_step he hf ho,hP']
  have hlt:=fuelP_lt he hf ho hP'
  have hok:=nextP_ok he hf ho hP'
  simp only
  by_cases e:P'=S
  ·subst e
   have hw:=hS.right C.O.length (Nat.le_refl _)
   rw[List.take_of_length_le (by rw[hS.len];omega)] at hw
   rw[if_pos ⟨by rw[hS.len];simp,hw⟩]
   simp
  ·refine List.mem_append_right _ (ih (qu C P') (by omega) P' rfl hok ?_)
   rcases hr with hr|hr
   ·exact .inl ⟨hr,e⟩
   ·exact .inr hr
def Rch (C:Cst) (P:List Int):Prop:=∀k,k<P.length→jE C (P.take k)=false
theorem backP_shape {C:Cst}:∀(R P':List Int),qc C R=some P'→∃Q a U z,P'=Q++[a]∧R=U++z :: Q.reverse
 | [],P',h=>by simp[qc] at h
 | x :: R,P',h=>by
  unfold qc at h
  split at h
  ·cases h
   exact ⟨_,_,[],x,rfl,by simp⟩
  ·obtain ⟨Q,a,U,z,h1,h2⟩:=backP_shape R P' h
   exact ⟨Q,a,x :: U,z,h1,by rw[h2];rfl⟩
theorem rch_next {C:Cst} {P P':List Int} (h:Rch C P) (hn:jJ C P=some P'):Rch C P':=by
 unfold jJ at hn
 split at hn
 ·rename_i hc
  cases hn
  intro k hk
  rw[List.length_append,List.length_singleton] at hk
  rcases Nat.lt_or_ge k P.length with h1|h1
  ·rw[List.take_append_of_le_length (by omega)];exact h k h1
  ·rw[show k=P.length from by omega,List.take_left];exact hc.2
 ·obtain ⟨Q,a,U,z,h1,h2⟩:=backP_shape _ _ hn
  have h3:P=Q++z :: U.reverse:=by
   have:=congrArg List.reverse h2
   rw[List.reverse_reverse] at this
   rw[this];simp
  subst h1
  intro k hk
  rw[List.length_append,List.length_singleton] at hk
  rw[List.take_append_of_le_length (by omega)]
  have:=h k (by rw[h3];simp;omega)
  rwa [h3,List.take_append_of_le_length (by omega)] at this
theorem found_sound {C:Cst} (he:Even C) (hf:Fine C):∀(n:Nat) (P:List Int),qu C P=n→OkP C P→Rch C P→∀f,f∈qb C P→∃S,SolP C S∧f=jc C S∧val C.O.length P<val C.O.length S:=by
 intro n
 induction n using Nat.strongRecOn with
 | _ n ih =>
  intro P hn ho hr f hm
  rw[found_step he hf ho] at hm
  cases hP:jJ C P with
  | none=>rw[hP] at hm;cases hm
  | some P' =>
   rw[hP] at hm
   simp only at hm
   have hlt:=fuelP_lt he hf ho hP
   have hok:=nextP_ok he hf ho hP
   have hv:=nextP_val he hf ho hP
   have hr':=rch_next hr hP
   rcases List.mem_append.1 hm with hm|hm
   ·split at hm
    ·rename_i hc
     rw[List.mem_singleton.1 hm]
     have hl:P'.length=C.O.length:=by simpa using hc.1
     refine ⟨P',⟨hok,hl,fun k hk=>?_⟩,rfl,hv⟩
     rcases Nat.lt_or_ge k P'.length with h1|h1
     ·exact hr' k h1
     ·rw[List.take_of_length_le h1];exact hc.2
    ·cases hm
   ·obtain ⟨S,h1,h2,h3⟩:=ih (qu C P') (by omega) P' rfl hok hr' f hm
    exact ⟨S,h1,h2,by omega⟩
end
section
open Go Go.RowKit
theorem lastN_le (O l:List Int) (m:Nat):∀n,(List.range n).foldl (fun m i=>if zY l (O[i]?.getD 0)=true then i+1 else m) 0≤m↔∀i,i<n→zY l (O[i]?.getD 0)=true→i+1≤m
 | 0=>by simp
 | n+1=>by
  rw[List.range_succ,List.foldl_append]
  simp only[List.foldl_cons,List.foldl_nil]
  by_cases h:zY l (O[n]?.getD 0)=true
  ·rw[if_pos h]
   constructor
   ·intro h1 i hi _;omega
   ·intro h1;exact h1 n (by omega) h
  ·rw[if_neg h,lastN_le O l m n]
   constructor
   ·intro h1 i hi h2
    by_cases e:i=n
    ·subst e;exact absurd h2 h
    ·exact h1 i (by omega) h2
   ·intro h1 i hi h2;exact h1 i (by omega) h2
theorem fillG_openT (g P:List Int) (hP:P.length≤(zj g).length):∀n,n≤P.length→∀i,i<(zj g).length→(kh g (P.take n))[((zj g)[i]?.getD 0).toNat]?.getD 0=(P.take n)[i]?.getD 0
 | 0,_,i,hi=>by
  obtain ⟨x,h1,_,h3⟩:=open_lt hi
  rw[List.take_zero]
  have e:kh g []=g:=by unfold kh;rw[List.zip_nil_right];rfl
  rw[e,h1,Int.toNat_natCast,h3];rfl
 | n+1,hn,i,hi=>by
  have ih:=fillG_openT g P hP n (by omega) i hi
  have hl:(P.take n).length=n:=by rw[List.length_take];omega
  rw[zP P 0 n (by omega),fillG_snoc g _ _ (by rw[hl];omega),hl]
  obtain ⟨x,h1,h2,_⟩:=open_lt (g:=g) (k:=n) (by omega)
  obtain ⟨y,k1,_,_⟩:=open_lt hi
  rw[h1,Int.toNat_natCast]
  by_cases e:i=n
  ·subst e
   rw[h1,Int.toNat_natCast,List.getElem?_set_self (by rw[fillG_len];exact h2),List.getElem?_append_right (by omega),hl]
   simp
  ·have hne:x≠y:=by
    intro e2
    have hn':n<(zj g).length:=by omega
    rw[List.getElem?_eq_getElem hi] at k1
    rw[List.getElem?_eq_getElem hn'] at h1
    simp only[Option.getD_some] at k1 h1
    have h5:(zj g)[i]=(zj g)[n]:=by rw[k1,h1,e2]
    exact e ((List.getElem_inj (open_nodup g)).1 h5)
   rw[k1,Int.toNat_natCast,List.getElem?_set_ne hne]
   rw[k1,Int.toNat_natCast] at ih
   rw[ih]
   rcases Nat.lt_or_ge i n with h6|h6
   ·rw[List.getElem?_append_left (by omega)]
   ·rw[List.getElem?_eq_none (by omega),List.getElem?_eq_none (by simp;omega)]
theorem fillG_open (g P:List Int) (hP:P.length≤(zj g).length) (i:Nat) (hi:i<(zj g).length):(kh g P)[((zj g)[i]?.getD 0).toNat]?.getD 0=P[i]?.getD 0:=by
 have:=fillG_openT g P hP P.length (Nat.le_refl _) i hi
 rwa [List.take_length] at this
theorem zip_fst {α β:Type} {x:α × β}:∀{O:List α} {P:List β},x∈O.zip P→x.1∈O
 | [],_,h=>by simp at h
 | _ :: _,[],h=>by simp at h
 | o :: O,p :: P,h=>by
  rw[List.zip_cons_cons,List.mem_cons] at h
  rcases h with h|h
  ·rw[h];exact List.mem_cons_self
  ·exact List.mem_cons_of_mem _ (zip_fst h)
theorem fillG_given (g P:List Int) (c:Nat) (h:g[c]?.getD 0≠0):(kh g P)[c]?.getD 0=g[c]?.getD 0:=by
 unfold kh
 rw[foldl_set_other]
 intro x hx e
 have h1:=jN.1 (zip_fst hx)
 rw[e] at h1
 exact h h1.2.2
theorem sum_prefix {cells:Int} {ls:List (List Int)} {sum:Int} {g:List Int} (G:GoodTask cells ls sum g) {P:List Int} (ho:OkG g P) {l:List Int} (hl:l∈ls) {k:Nat} (hk:qU (zj g) l≤k) (hkp:k≤P.length):jm l (kh g (P.take k))=jm l (kh g P):=by
 unfold jm
 congr 1
 apply List.map_congr_left
 intro c hc
 have hr:=(G.lineLen hl).2 c hc
 have hgl:=G.len
 have hpl:=ho.len
 by_cases hg:g[c.toNat]?.getD 0=0
 ·have hm:c∈zj g:=jN.2 ⟨hr.1,by omega,hg⟩
  obtain ⟨i,hi,e⟩:=List.getElem_of_mem hm
  have e2:(zj g)[i]?.getD 0=c:=by rw[List.getElem?_eq_getElem hi];exact e
  have h1:=fillG_open g (P.take k) (by rw[List.length_take];omega) i hi
  have h2:=fillG_open g P hpl i hi
  rw[e2] at h1 h2
  have h3:i+1≤k:=by
   unfold qU at hk
   exact (lastN_le _ _ _ _).1 hk i hi (by rw[e2];exact js.2 hc)
  rw[h1,h2,List.getElem?_take,if_pos (by omega)]
 ·rw[fillG_given g _ _ hg,fillG_given g _ _ hg]
end
end Go.Proofs.YtaadpihbjhachaaGreat
