/- Texts A1 to A3 of this proof, in one file. -/
import Derived.Test.YtaadpihbjhachaaGreatW39
namespace Go.Proofs.YtaadpihbjhachaaGreat
set_option maxRecDepth 100000
set_option maxHeartbeats 16000000
section
open Go Go.RowKit
theorem findN_first {α:Type} {N:Nat} {p:Nat→Bool} {f:Nat→α} {x:Nat} (h0:x=0→∀j,j<N→p j=false) (h1:0<x→x≤N∧p (x - 1)=true∧∀j,j<x - 1→p j=false) :
  findN N (fun j=>if p j=true then some (f (j+1)) else none)=if 0<x then some (f x) else none:=by
 by_cases hx:0<x
 ·obtain ⟨a,b,c⟩:=h1 hx
  rw[if_pos hx]
  refine findN_hit (k:=x - 1) (fun j hj=>by rw[if_neg (by rw[c j hj];decide)]) (by omega) ?_
  rw[if_pos b,show x - 1+1=x from by omega]
 ·rw[if_neg hx]
  exact findN_none (fun j hj=>by rw[if_neg (by rw[h0 (by omega) j hj];decide)])
theorem first_above {B N t:Nat} (hb:∀j,B.testBit j=true→j<N) (hN:N≤256) :
  (aboveM B t=0→∀j,t<j+1→B.testBit j=false)∧(0<aboveM B t→t<aboveM B t∧aboveM B t≤N∧B.testBit (aboveM B t - 1)=true∧∀j,j<aboveM B t - 1→t<j+1→B.testBit j=false):=by
 constructor
 ·intro h0 j hj
  rw[Bool.eq_false_iff]
  intro ht
  have:=hb j ht
  have:=(aboveM_first (M:=B) (x:=t) (j:=j+1) (by omega) (by omega) ht).1
  omega
 ·intro h0
  obtain ⟨a,b,c⟩:=aboveM_spec h0
  have:=hb _ c
  refine ⟨a,by omega,c,fun j hj htj=>?_⟩
  rw[Bool.eq_false_iff]
  intro ht
  have:=hb j ht
  have:=(aboveM_first (M:=B) (x:=t) (j:=j+1) (by omega) (by omega) ht).2
  omega
def hasQ (Ms:List Nat) (i n:Nat):Bool:=(Ms[i]?.getD 0).testBit n
def onceQ (Ms:List Nat) (i n:Nat):Bool:=(List.range Ms.length).any fun j=>!(j==i)&&(hasQ Ms j n&&(cntB Ms.length (Ms[j]?.getD 0)==1))
def ownQ (Ms:List Nat) (n:Nat):Nat:=((List.range Ms.length).filter fun j=>hasQ Ms j n).length
def contraQ (Ms:List Nat):Bool:=(List.range Ms.length).any fun i=>cntB Ms.length (Ms[i]?.getD 0)==0||ownQ Ms i==0
def onceN (Ms:List Nat) (i:Nat):Option Rem:=findN Ms.length fun n=>if (hasQ Ms i n&&onceQ Ms i n)=true then some (0,i,n+1,-1) else none
theorem cnt_small {M N:Nat} (hN:N≤256) (hb:∀j,M.testBit j=true→j<N):cntB N M=sizeM M:=by
 rw[sizeM_cnt]
 unfold cntB
 rw[show 256=N+(256 - N) from by omega,List.range_add,List.filter_append,List.length_append]
 have:((List.map (fun x=>N+x) (List.range (256 - N))).filter fun i=>M.testBit i)=[]:=by
  rw[List.filter_eq_nil_iff]
  intro x hx ht
  rw[List.mem_map] at hx
  obtain ⟨y,_,e⟩:=hx
  have:=hb x ht
  omega
 rw[this]
 rfl
theorem two_sub {p:Nat→Bool}:∀(L:List Nat) (i j:Nat),i<j→j<L.length→p (L[i]?.getD 0)=true→p (L[j]?.getD 0)=true→∃a b,a<b∧b<(L.filter p).length∧(L.filter p)[a]?.getD 0=L[i]?.getD 0∧(L.filter p)[b]?.getD 0=L[j]?.getD 0
 | [],i,j,_,h,_,_=>absurd h (by simp)
 | x :: L,i,j,hij,hj,hi,hpj=>by
  obtain ⟨j,rfl⟩:∃k,j=k+1:=⟨j - 1,by omega⟩
  simp only[List.length_cons] at hj
  simp only[List.getElem?_cons_succ] at hpj ⊢
  cases i with
  | zero =>
   simp only[List.getElem?_cons_zero,Option.getD_some] at hi ⊢
   rw[List.filter_cons_of_pos hi]
   have hm:L[j]?.getD 0∈L.filter p:=List.mem_filter.2 ⟨by rw[List.getElem?_eq_getElem (by omega)];exact List.getElem_mem _,hpj⟩
   obtain ⟨b,hb,e⟩:=List.getElem_of_mem hm
   refine ⟨0,b+1,by omega,by simpa using hb,by simp,?_⟩
   rw[List.getElem?_cons_succ,List.getElem?_eq_getElem hb,e]
   rfl
  | succ i =>
   simp only[List.getElem?_cons_succ] at hi ⊢
   obtain ⟨a,b,h1,h2,h3,h4⟩:=two_sub L i j (by omega) (by omega) hi hpj
   by_cases hx:p x=true
   ·rw[List.filter_cons_of_pos hx]
    exact ⟨a+1,b+1,by omega,by simpa using h2,by simpa using h3,by simpa using h4⟩
   ·rw[List.filter_cons_of_neg hx]
    exact ⟨a,b,h1,h2,h3,h4⟩
theorem single_mem {Ms:List Nat} {s:Nat}:s∈singles Ms↔∃i,i<Ms.length∧Ms[i]?.getD 0=s∧sizeM s=1:=by
 unfold singles
 rw[List.mem_filter]
 constructor
 ·rintro ⟨h1,h2⟩
  obtain ⟨i,hi,e⟩:=List.getElem_of_mem h1
  exact ⟨i,hi,by rw[List.getElem?_eq_getElem hi];exact e,by simpa using h2⟩
 ·rintro ⟨i,hi,e,h2⟩
  refine ⟨?_,by simpa using h2⟩
  rw[List.getElem?_eq_getElem hi] at e
  rw[← e]
  exact List.getElem_mem hi
theorem single_at {Ms:List Nat} {k n:Nat} (h:((singles Ms)[k]?.getD 0).testBit n=true):(singles Ms)[k]?.getD 0∈singles Ms:=by
 by_cases hk:k<(singles Ms).length
 ·rw[List.getElem?_eq_getElem hk];exact List.getElem_mem hk
 ·rw[List.getElem?_eq_none (by omega)] at h;simp at h
theorem onceQ_iff {Ms:List Nat} {i n:Nat} (hN:Ms.length≤256) (hB:BoundC Ms Ms.length):onceQ Ms i n=true↔∃j,j<Ms.length∧j≠i∧(Ms[j]?.getD 0).testBit n=true∧sizeM (Ms[j]?.getD 0)=1:=by
 unfold onceQ hasQ
 rw[List.any_eq_true]
 constructor
 ·rintro ⟨j,hj,h⟩
  rw[cnt_small hN (hB j)] at h
  simp only[Bool.and_eq_true,Bool.not_eq_true',beq_eq_false_iff_ne,beq_iff_eq] at h
  exact ⟨j,by simpa using hj,h.1,h.2.1,h.2.2⟩
 ·rintro ⟨j,hj,h1,h2,h3⟩
  refine ⟨j,by simpa using hj,?_⟩
  rw[cnt_small hN (hB j)]
  simp[h1,h2,h3]
theorem once_bad {Ms:List Nat} {i n:Nat} (hN:Ms.length≤256) (hB:BoundC Ms Ms.length) (hi:i<Ms.length) :
  (if sizeM (Ms[i]?.getD 0)=1 then Ms[i]?.getD 0 &&& twoM Ms else Ms[i]?.getD 0 &&& oneM Ms).testBit n=(hasQ Ms i n&&onceQ Ms i n):=by
 have hs:hasQ Ms i n=(Ms[i]?.getD 0).testBit n:=rfl
 cases hb:(Ms[i]?.getD 0).testBit n with
 | false=>split <;> simp[Nat.testBit_and,hb,hs]
 | true =>
  rw[hs,hb,Bool.true_and]
  split
  ·rename_i hz
   rw[Nat.testBit_and,hb,Bool.true_and,Bool.eq_iff_iff,onceQ_iff hN hB]
   unfold twoM
   rw[mTwice _ (Nat.le_refl _)]
   constructor
   ·rintro ⟨a,b,hab,hbl,h1,h2⟩
    obtain ⟨x,y,hxy,hy,ex,ey⟩:=sub_two (L:=Ms) (l:=singles Ms) List.filter_sublist a b hab hbl
    obtain ⟨_,_,e1,z1⟩:=single_mem.1 (single_at h1)
    obtain ⟨_,_,e2,z2⟩:=single_mem.1 (single_at h2)
    by_cases e:x=i
    ·exact ⟨y,hy,by omega,by rw[ey];exact h2,by rw[ey];exact z2⟩
    ·exact ⟨x,by omega,e,by rw[ex];exact h1,by rw[ex];exact z1⟩
   ·rintro ⟨j,hj,hji,h1,h2⟩
    have hp:∀k:Nat,sizeM (Ms[k]?.getD 0)=1→(sizeM (Ms[k]?.getD 0)==1)=true:=fun k h=>by simpa using h
    rcases Nat.lt_or_gt_of_ne hji with h|h
    ·obtain ⟨a,b,h3,h4,h5,h6⟩:=two_sub (p:=fun s=>sizeM s==1) Ms j i h hi (hp j h2) (hp i hz)
     exact ⟨a,b,h3,h4,by unfold singles;rw[h5];exact h1,by unfold singles;rw[h6];exact hb⟩
    ·obtain ⟨a,b,h3,h4,h5,h6⟩:=two_sub (p:=fun s=>sizeM s==1) Ms i j h hj (hp i hz) (hp j h2)
     exact ⟨a,b,h3,h4,by unfold singles;rw[h5];exact hb,by unfold singles;rw[h6];exact h1⟩
  ·rename_i hz
   rw[Nat.testBit_and,hb,Bool.true_and,Bool.eq_iff_iff,onceQ_iff hN hB]
   unfold oneM
   rw[mOnce _ (Nat.le_refl _)]
   constructor
   ·rintro ⟨a,_,h1⟩
    obtain ⟨j,hj,e1,z1⟩:=single_mem.1 (single_at h1)
    refine ⟨j,hj,?_,by rw[e1];exact h1,by rw[e1];exact z1⟩
    rintro rfl
    rw[e1] at hz
    exact hz z1
   ·rintro ⟨j,hj,hji,h1,h2⟩
    have hm:Ms[j]?.getD 0∈singles Ms:=single_mem.2 ⟨j,hj,rfl,h2⟩
    obtain ⟨a,ha,e⟩:=List.getElem_of_mem hm
    exact ⟨a,ha,by rw[List.getElem?_eq_getElem ha,Option.getD_some,e];exact h1⟩
theorem once_next {Ms:List Nat} (hN:Ms.length≤256) (hB:BoundC Ms Ms.length):findN Ms.length (onceN Ms)=onceR Ms:=by
 unfold onceR
 have hcong:∀i,i<Ms.length→onceN Ms i=onceAt (oneM Ms) (twoM Ms) Ms i:=by
  intro i hi
  unfold onceN onceAt
  have hbad:=fun n=>once_bad (n:=n) hN hB hi
  have e:onceF (oneM Ms) (twoM Ms) (Ms[i]?.getD 0)=aboveM (if sizeM (Ms[i]?.getD 0)=1 then Ms[i]?.getD 0 &&& twoM Ms else Ms[i]?.getD 0 &&& oneM Ms) 0:=rfl
  rw[e]
  generalize (if sizeM (Ms[i]?.getD 0)=1 then Ms[i]?.getD 0 &&& twoM Ms else Ms[i]?.getD 0 &&& oneM Ms)=B at hbad
  have hb:∀j,B.testBit j=true→j<Ms.length:=fun j hj=>by
   rw[hbad,Bool.and_eq_true] at hj
   exact hB i j hj.1
  obtain ⟨h0,h1⟩:=first_above (t:=0) hb hN
  refine findN_first (p:=fun n=>hasQ Ms i n&&onceQ Ms i n) (f:=fun x=>((0,i,x,-1):Rem)) (x:=aboveM B 0) (fun hx j _=>by rw[← hbad];exact h0 hx j (by omega)) (fun hx=>?_)
  obtain ⟨_,a,b,c⟩:=h1 hx
  exact ⟨a,by rw[← hbad];exact b,fun j hj=>by rw[← hbad];exact c j hj (by omega)⟩
 unfold findN
 have:∀l:List Nat,(∀i∈l,i<Ms.length)→l.findSome? (onceN Ms)=l.findSome? (onceAt (oneM Ms) (twoM Ms) Ms):=by
  intro l
  induction l with
  | nil=>intro _;rfl
  | cons x l ih =>
   intro h
   rw[List.findSome?_cons,List.findSome?_cons,hcong x (h x List.mem_cons_self),ih (fun i hi=>h i (List.mem_cons_of_mem _ hi))]
 exact this _ (fun i hi=>by simpa using hi)
theorem hasQ_lt {Ms:List Nat} {i n:Nat} (h:hasQ Ms i n=true):i<Ms.length:=by
 unfold hasQ at h
 by_cases hi:i<Ms.length
 ·exact hi
 ·rw[List.getElem?_eq_none (by omega)] at h;simp at h
theorem contra_eq {Ms:List Nat} (hN:Ms.length≤256) (hB:BoundC Ms Ms.length):contraQ Ms=contraB Ms (allM Ms.length):=by
 have hbit:∀b,Ms.length≤b→(onceTo Ms Ms.length).testBit b=false:=fun b hb=>by
  rw[Bool.eq_false_iff]
  intro h
  obtain ⟨j,_,ht⟩:=(mOnce _ (Nat.le_refl _)).1 h
  have:=hB j b ht
  omega
 have e1:eqM (onceTo Ms Ms.length) (allM Ms.length)=decide (onceTo Ms Ms.length=allM Ms.length):=eqM_iff (small_mask fun b hb=>by
  apply Classical.byContradiction
  intro h
  rw[hbit b (by omega)] at hb
  cases hb) (small_mask fun b hb=>by rw[allM_bit,decide_eq_true_eq] at hb;omega)
 unfold contraB contraQ
 rw[e1,Bool.eq_iff_iff,List.any_eq_true,Bool.or_eq_true,Bool.not_eq_true',Bool.not_eq_true',decide_eq_false_iff_not]
 have hfull:fullTo Ms Ms.length=false↔∃i,i<Ms.length∧Ms[i]?.getD 0=0:=by
  unfold fullTo
  rw[List.take_length,List.all_eq_false]
  constructor
  ·rintro ⟨s,hs,h⟩
   obtain ⟨i,hi,e⟩:=List.getElem_of_mem hs
   refine ⟨i,hi,?_⟩
   have hlt:s<2 ^ 256:=small_mask fun b hb=>by have:=hB i b (by rw[List.getElem?_eq_getElem hi,Option.getD_some,e];exact hb);omega
   rw[eqM_iff hlt (by decide)] at h
   rw[List.getElem?_eq_getElem hi,Option.getD_some,e]
   simpa using h
  ·rintro ⟨i,hi,e⟩
   refine ⟨0,?_,by simp[eqM]⟩
   rw[List.getElem?_eq_getElem hi,Option.getD_some] at e
   rw[← e]
   exact List.getElem_mem hi
 have hz:∀i,cntB Ms.length (Ms[i]?.getD 0)=0↔Ms[i]?.getD 0=0:=fun i=>by
  rw[cnt_small hN (hB i),sizeM_zero]
  constructor
  ·intro h
   refine Nat.eq_of_testBit_eq fun b=>?_
   rw[Nat.zero_testBit,Bool.eq_false_iff]
   intro hb
   have:=h b (by have:=hB i b hb;omega)
   rw[this] at hb
   cases hb
  ·intro h b _
   rw[h,Nat.zero_testBit]
 have ho:∀n,ownQ Ms n=0↔(onceTo Ms Ms.length).testBit n=false:=fun n=>by
  unfold ownQ
  rw[List.length_eq_zero_iff,List.filter_eq_nil_iff,Bool.eq_false_iff,ne_eq,mOnce _ (Nat.le_refl _)]
  constructor
  ·rintro h ⟨j,hj,ht⟩
   exact h j (by simpa using hj) ht
  ·rintro h j hj ht
   exact h ⟨j,by simpa using hj,ht⟩
 constructor
 ·rintro ⟨i,hi,h⟩
  rw[List.mem_range] at hi
  rw[Bool.or_eq_true,beq_iff_eq,beq_iff_eq] at h
  rcases h with h|h
  ·exact .inr (hfull.2 ⟨i,hi,(hz i).1 h⟩)
  ·refine .inl fun e=>?_
   have h1:=(ho i).1 h
   rw[e,allM_bit,decide_eq_false_iff_not] at h1
   omega
 ·rintro (h|h)
  ·apply Classical.byContradiction
   intro hno
   refine h (Nat.eq_of_testBit_eq fun b=>?_)
   rw[allM_bit]
   by_cases hb:b<Ms.length
   ·rw[decide_eq_true hb]
    apply Classical.byContradiction
    intro h1
    rw[Bool.not_eq_true] at h1
    exact hno ⟨b,by simpa using hb,by rw[Bool.or_eq_true,beq_iff_eq,beq_iff_eq];exact .inr ((ho b).2 h1)⟩
   ·rw[decide_eq_false hb]
    exact hbit b (by omega)
  ·obtain ⟨i,hi,e⟩:=hfull.1 h
   exact ⟨i,by simpa using hi,by rw[Bool.or_eq_true,beq_iff_eq,beq_iff_eq];exact .inl ((hz i).2 e)⟩
end
end Go.Proofs.YtaadpihbjhachaaGreat
