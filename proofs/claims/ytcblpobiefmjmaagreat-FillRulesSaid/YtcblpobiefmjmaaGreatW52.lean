/- Texts A1 to A3 of this proof, in one file. -/
import Derived.Test.YtcblpobiefmjmaaGreatW40
namespace Go.Proofs.YtcblpobiefmjmaaGreat
set_option maxRecDepth 100000
set_option maxHeartbeats 16000000
section
open Go Go.RowKit
theorem findN_first {α:Type} {N:Nat} {p:Nat→Bool} {f:Nat→α} {x:Nat} (h0:x=0→∀j,j<N→p j=false) (h1:0<x→x≤N∧p (x - 1)=true∧∀j,j<x - 1→p j=false) :
  findN N (fun j=>if p j=true then some (f (j+1)) else none)=if 0<x then some (f x) else none:=by
 by_cases hx:0<x
 ·obtain ⟨a,b,c⟩:=h1 hx
  rw[if_pos hx]
  refine findN_hit (k:=x - 1) (fun j hj=>by rw[if_neg (by rw[c j hj];decide)]) (by omega) ?_
  rw[if_pos b,show x - 1+1=x from by omega]
 ·rw[if_neg hx]
  exact findN_none (fun j hj=>by rw[if_neg (by rw[h0 (by omega) j hj];decide)])
theorem first_above {B N t:Nat} (hb:∀j,B.testBit j=true→j<N) (hN:N≤256) :
  (aboveM B t=0→∀j,t<j+1→B.testBit j=false)∧(0<aboveM B t→t<aboveM B t∧aboveM B t≤N∧B.testBit (aboveM B t - 1)=true∧∀j,j<aboveM B t - 1→t<j+1→B.testBit j=false):=by
 constructor
 ·intro h0 j hj
  rw[Bool.eq_false_iff]
  intro ht
  have:=hb j ht
  have:=(aboveM_first (M:=B) (x:=t) (j:=j+1) (by omega) (by omega) ht).1
  omega
 ·intro h0
  obtain ⟨a,b,c⟩:=aboveM_spec h0
  have:=hb _ c
  refine ⟨a,by omega,c,fun j hj htj=>?_⟩
  rw[Bool.eq_false_iff]
  intro ht
  have:=hb j ht
  have:=(aboveM_first (M:=B) (x:=t) (j:=j+1) (by omega) (by omega) ht).2
  omega
def hasQ (Ms:List Nat) (i n:Nat):Bool:=(Ms[i]?.getD 0).testBit n
def onceQ (Ms:List Nat) (i n:Nat):Bool:=(List.range Ms.length).any fun j=>!(j==i)&&(hasQ Ms j n&&(cntB Ms.length (Ms[j]?.getD 0)==1))
def ownQ (Ms:List Nat) (n:Nat):Nat:=((List.range Ms.length).filter fun j=>hasQ Ms j n).length
def aloneQ (Ms:List Nat) (i n:Nat):Bool:=(List.range Ms.length).any fun m=>!(m==n)&&(hasQ Ms i m&&(ownQ Ms m==1))
def lowQ (Ms:List Nat) (l:List Int) (c:Int):Nat→Nat
 | 0=>0
 | k+1=>lowQ Ms l c k+if l[k]?.getD 0=c then 0 else aboveM (Ms[(l[k]?.getD 0).toNat]?.getD 0) 0
def highQ (Ms:List Nat) (l:List Int) (c:Int):Nat→Nat
 | 0=>0
 | k+1=>highQ Ms l c k+if l[k]?.getD 0=c then 0 else greatM (Ms[(l[k]?.getD 0).toNat]?.getD 0)
def beyondQ (sum:Int) (Ms:List Nat) (l:List Int) (c:Int) (n:Nat):Bool:=decide (sum - ((n:Int)+1)<(lowQ Ms l c l.length:Nat))||decide (((highQ Ms l c l.length:Nat):Int)<sum - ((n:Int)+1))
def contraQ (Ms:List Nat):Bool:=(List.range Ms.length).any fun i=>cntB Ms.length (Ms[i]?.getD 0)==0||ownQ Ms i==0
def onceN (Ms:List Nat) (i:Nat):Option Rem:=findN Ms.length fun n=>if (hasQ Ms i n&&onceQ Ms i n)=true then some (0,i,n+1,-1) else none
def lineN (sum:Int) (Ms:List Nat) (l:List Int) (k j:Nat):Option Rem:=findN Ms.length fun n=>if (hasQ Ms (l[j]?.getD 0).toNat n&&beyondQ sum Ms l (l[j]?.getD 0) n)=true then some (1,(l[j]?.getD 0).toNat,n+1,k) else none
def aloneN (Ms:List Nat) (i:Nat):Option Rem:=findN Ms.length fun n=>if (hasQ Ms i n&&aloneQ Ms i n)=true then some (2,i,n+1,-1) else none
def lineNk (sum:Int) (Ms:List Nat) (l:List Int) (k:Nat):Option Rem:=findN l.length fun j=>lineN sum Ms l k j
def nextQ (ls:List (List Int)) (sum:Int) (Ms:List Nat):Option Rem :=
 match findN Ms.length (onceN Ms) with
 | some r=>some r
 | none=>match findN ls.length (fun k=>lineNk sum Ms (ls[k]?.getD []) k) with
  | some r=>some r
  | none=>findN Ms.length (aloneN Ms)
theorem cnt_small {M N:Nat} (hN:N≤256) (hb:∀j,M.testBit j=true→j<N):cntB N M=sizeM M:=by
 rw[sizeM_cnt]
 unfold cntB
 rw[show 256=N+(256 - N) from by omega,List.range_add,List.filter_append,List.length_append]
 have:((List.map (fun x=>N+x) (List.range (256 - N))).filter fun i=>M.testBit i)=[]:=by
  rw[List.filter_eq_nil_iff]
  intro x hx ht
  rw[List.mem_map] at hx
  obtain ⟨y,_,e⟩:=hx
  have:=hb x ht
  omega
 rw[this]
 rfl
theorem two_sub {p:Nat→Bool}:∀(L:List Nat) (i j:Nat),i<j→j<L.length→p (L[i]?.getD 0)=true→p (L[j]?.getD 0)=true→∃a b,a<b∧b<(L.filter p).length∧(L.filter p)[a]?.getD 0=L[i]?.getD 0∧(L.filter p)[b]?.getD 0=L[j]?.getD 0
 | [],i,j,_,h,_,_=>absurd h (by simp)
 | x :: L,i,j,hij,hj,hi,hpj=>by
  obtain ⟨j,rfl⟩:∃k,j=k+1:=⟨j - 1,by omega⟩
  simp only[List.length_cons] at hj
  simp only[List.getElem?_cons_succ] at hpj ⊢
  cases i with
  | zero =>
   simp only[List.getElem?_cons_zero,Option.getD_some] at hi ⊢
   rw[List.filter_cons_of_pos hi]
   have hm:L[j]?.getD 0∈L.filter p:=List.mem_filter.2 ⟨by rw[List.getElem?_eq_getElem (by omega)];exact List.getElem_mem _,hpj⟩
   obtain ⟨b,hb,e⟩:=List.getElem_of_mem hm
   refine ⟨0,b+1,by omega,by simpa using hb,by simp,?_⟩
   rw[List.getElem?_cons_succ,List.getElem?_eq_getElem hb,e]
   rfl
  | succ i =>
   simp only[List.getElem?_cons_succ] at hi ⊢
   obtain ⟨a,b,h1,h2,h3,h4⟩:=two_sub L i j (by omega) (by omega) hi hpj
   by_cases hx:p x=true
   ·rw[List.filter_cons_of_pos hx]
    exact ⟨a+1,b+1,by omega,by simpa using h2,by simpa using h3,by simpa using h4⟩
   ·rw[List.filter_cons_of_neg hx]
    exact ⟨a,b,h1,h2,h3,h4⟩
theorem single_mem {Ms:List Nat} {s:Nat}:s∈singles Ms↔∃i,i<Ms.length∧Ms[i]?.getD 0=s∧sizeM s=1:=by
 unfold singles
 rw[List.mem_filter]
 constructor
 ·rintro ⟨h1,h2⟩
  obtain ⟨i,hi,e⟩:=List.getElem_of_mem h1
  exact ⟨i,hi,by rw[List.getElem?_eq_getElem hi];exact e,by simpa using h2⟩
 ·rintro ⟨i,hi,e,h2⟩
  refine ⟨?_,by simpa using h2⟩
  rw[List.getElem?_eq_getElem hi] at e
  rw[← e]
  exact List.getElem_mem hi
theorem single_at {Ms:List Nat} {k n:Nat} (h:((singles Ms)[k]?.getD 0).testBit n=true):(singles Ms)[k]?.getD 0∈singles Ms:=by
 by_cases hk:k<(singles Ms).length
 ·rw[List.getElem?_eq_getElem hk];exact List.getElem_mem hk
 ·rw[List.getElem?_eq_none (by omega)] at h;simp at h
theorem onceQ_iff {Ms:List Nat} {i n:Nat} (hN:Ms.length≤256) (hB:BoundC Ms Ms.length):onceQ Ms i n=true↔∃j,j<Ms.length∧j≠i∧(Ms[j]?.getD 0).testBit n=true∧sizeM (Ms[j]?.getD 0)=1:=by
 unfold onceQ hasQ
 rw[List.any_eq_true]
 constructor
 ·rintro ⟨j,hj,h⟩
  rw[cnt_small hN (hB j)] at h
  simp only[Bool.and_eq_true,Bool.not_eq_true',beq_eq_false_iff_ne,beq_iff_eq] at h
  exact ⟨j,by simpa using hj,h.1,h.2.1,h.2.2⟩
 ·rintro ⟨j,hj,h1,h2,h3⟩
  refine ⟨j,by simpa using hj,?_⟩
  rw[cnt_small hN (hB j)]
  simp[h1,h2,h3]
theorem once_bad {Ms:List Nat} {i n:Nat} (hN:Ms.length≤256) (hB:BoundC Ms Ms.length) (hi:i<Ms.length) :
  (if sizeM (Ms[i]?.getD 0)=1 then Ms[i]?.getD 0 &&& twoM Ms else Ms[i]?.getD 0 &&& oneM Ms).testBit n=(hasQ Ms i n&&onceQ Ms i n):=by
 have hs:hasQ Ms i n=(Ms[i]?.getD 0).testBit n:=rfl
 cases hb:(Ms[i]?.getD 0).testBit n with
 | false=>split <;> simp[Nat.testBit_and,hb,hs]
 | true =>
  rw[hs,hb,Bool.true_and]
  split
  ·rename_i hz
   rw[Nat.testBit_and,hb,Bool.true_and,Bool.eq_iff_iff,onceQ_iff hN hB]
   unfold twoM
   rw[mTwice _ (Nat.le_refl _)]
   constructor
   ·rintro ⟨a,b,hab,hbl,h1,h2⟩
    obtain ⟨x,y,hxy,hy,ex,ey⟩:=sub_two (L:=Ms) (l:=singles Ms) List.filter_sublist a b hab hbl
    obtain ⟨_,_,e1,z1⟩:=single_mem.1 (single_at h1)
    obtain ⟨_,_,e2,z2⟩:=single_mem.1 (single_at h2)
    by_cases e:x=i
    ·exact ⟨y,hy,by omega,by rw[ey];exact h2,by rw[ey];exact z2⟩
    ·exact ⟨x,by omega,e,by rw[ex];exact h1,by rw[ex];exact z1⟩
   ·rintro ⟨j,hj,hji,h1,h2⟩
    have hp:∀k:Nat,sizeM (Ms[k]?.getD 0)=1→(sizeM (Ms[k]?.getD 0)==1)=true:=fun k h=>by simpa using h
    rcases Nat.lt_or_gt_of_ne hji with h|h
    ·obtain ⟨a,b,h3,h4,h5,h6⟩:=two_sub (p:=fun s=>sizeM s==1) Ms j i h hi (hp j h2) (hp i hz)
     exact ⟨a,b,h3,h4,by unfold singles;rw[h5];exact h1,by unfold singles;rw[h6];exact hb⟩
    ·obtain ⟨a,b,h3,h4,h5,h6⟩:=two_sub (p:=fun s=>sizeM s==1) Ms i j h hj (hp i hz) (hp j h2)
     exact ⟨a,b,h3,h4,by unfold singles;rw[h5];exact hb,by unfold singles;rw[h6];exact h1⟩
  ·rename_i hz
   rw[Nat.testBit_and,hb,Bool.true_and,Bool.eq_iff_iff,onceQ_iff hN hB]
   unfold oneM
   rw[mOnce _ (Nat.le_refl _)]
   constructor
   ·rintro ⟨a,_,h1⟩
    obtain ⟨j,hj,e1,z1⟩:=single_mem.1 (single_at h1)
    refine ⟨j,hj,?_,by rw[e1];exact h1,by rw[e1];exact z1⟩
    rintro rfl
    rw[e1] at hz
    exact hz z1
   ·rintro ⟨j,hj,hji,h1,h2⟩
    have hm:Ms[j]?.getD 0∈singles Ms:=single_mem.2 ⟨j,hj,rfl,h2⟩
    obtain ⟨a,ha,e⟩:=List.getElem_of_mem hm
    exact ⟨a,ha,by rw[List.getElem?_eq_getElem ha,Option.getD_some,e];exact h1⟩
theorem once_next {Ms:List Nat} (hN:Ms.length≤256) (hB:BoundC Ms Ms.length):findN Ms.length (onceN Ms)=onceR Ms:=by
 unfold onceR
 have hcong:∀i,i<Ms.length→onceN Ms i=onceAt (oneM Ms) (twoM Ms) Ms i:=by
  intro i hi
  unfold onceN onceAt
  have hbad:=fun n=>once_bad (n:=n) hN hB hi
  have e:onceF (oneM Ms) (twoM Ms) (Ms[i]?.getD 0)=aboveM (if sizeM (Ms[i]?.getD 0)=1 then Ms[i]?.getD 0 &&& twoM Ms else Ms[i]?.getD 0 &&& oneM Ms) 0:=rfl
  rw[e]
  generalize (if sizeM (Ms[i]?.getD 0)=1 then Ms[i]?.getD 0 &&& twoM Ms else Ms[i]?.getD 0 &&& oneM Ms)=B at hbad
  have hb:∀j,B.testBit j=true→j<Ms.length:=fun j hj=>by
   rw[hbad,Bool.and_eq_true] at hj
   exact hB i j hj.1
  obtain ⟨h0,h1⟩:=first_above (t:=0) hb hN
  refine findN_first (p:=fun n=>hasQ Ms i n&&onceQ Ms i n) (f:=fun x=>((0,i,x,-1):Rem)) (x:=aboveM B 0) (fun hx j _=>by rw[← hbad];exact h0 hx j (by omega)) (fun hx=>?_)
  obtain ⟨_,a,b,c⟩:=h1 hx
  exact ⟨a,by rw[← hbad];exact b,fun j hj=>by rw[← hbad];exact c j hj (by omega)⟩
 unfold findN
 have:∀l:List Nat,(∀i∈l,i<Ms.length)→l.findSome? (onceN Ms)=l.findSome? (onceAt (oneM Ms) (twoM Ms) Ms):=by
  intro l
  induction l with
  | nil=>intro _;rfl
  | cons x l ih =>
   intro h
   rw[List.findSome?_cons,List.findSome?_cons,hcong x (h x List.mem_cons_self),ih (fun i hi=>h i (List.mem_cons_of_mem _ hi))]
 exact this _ (fun i hi=>by simpa using hi)
theorem findN_congr {α:Type} {n:Nat} {f g:Nat→Option α} (h:∀j,j<n→f j=g j):findN n f=findN n g:=by
 unfold findN
 have:∀l:List Nat,(∀i∈l,i<n)→l.findSome? f=l.findSome? g:=by
  intro l
  induction l with
  | nil=>intro _;rfl
  | cons x l ih =>
   intro hl
   rw[List.findSome?_cons,List.findSome?_cons,h x (hl x List.mem_cons_self),ih (fun i hi=>hl i (List.mem_cons_of_mem _ hi))]
 exact this _ (fun i hi=>by simpa using hi)
theorem ownQ_one {Ms:List Nat} {n:Nat}:ownQ Ms n=1↔∃a,a<Ms.length∧hasQ Ms a n=true∧∀b,b<Ms.length→hasQ Ms b n=true→b=a:=by
 unfold ownQ
 constructor
 ·intro h
  rw[List.length_eq_one_iff] at h
  obtain ⟨a,h⟩:=h
  have h1:∀b,b<Ms.length→hasQ Ms b n=true→b=a:=fun b hb ht=>by
   have:b∈(List.range Ms.length).filter fun j=>hasQ Ms j n:=List.mem_filter.2 ⟨by simpa using hb,ht⟩
   rw[h] at this
   simpa using this
  have h2:a∈(List.range Ms.length).filter fun j=>hasQ Ms j n:=by rw[h];simp
  rw[List.mem_filter] at h2
  exact ⟨a,by simpa using h2.1,h2.2,h1⟩
 ·rintro ⟨a,h1,h2,h3⟩
  rw[one_filter (p:=fun j=>hasQ Ms j n) (a:=a) (List.range Ms.length) List.nodup_range (by simpa using h1) h2 (fun b hb hp=>h3 b (by simpa using hb) hp)]
  rfl
theorem hasQ_lt {Ms:List Nat} {i n:Nat} (h:hasQ Ms i n=true):i<Ms.length:=by
 unfold hasQ at h
 by_cases hi:i<Ms.length
 ·exact hi
 ·rw[List.getElem?_eq_none (by omega)] at h;simp at h
theorem alone_bit {Ms:List Nat} {n:Nat}:(aloneM Ms).testBit n=(ownQ Ms n==1):=by
 unfold aloneM
 rw[testBit_minus,Bool.eq_iff_iff,Bool.and_eq_true,Bool.not_eq_true',Bool.eq_false_iff,beq_iff_eq,ownQ_one]
 rw[mOnce _ (Nat.le_refl _),ne_eq,mTwice _ (Nat.le_refl _)]
 constructor
 ·rintro ⟨⟨j,hj,h1⟩,h2⟩
  refine ⟨j,hj,h1,fun b hb h3=>?_⟩
  rcases Nat.lt_trichotomy b j with h|h|h
  ·exact absurd ⟨b,j,h,hj,h3,h1⟩ h2
  ·exact h
  ·exact absurd ⟨j,b,h,hb,h1,h3⟩ h2
 ·rintro ⟨a,h1,h2,h3⟩
  refine ⟨⟨a,h1,h2⟩,?_⟩
  rintro ⟨x,y,hxy,hy,h4,h5⟩
  have:=h3 x (by omega) h4
  have:=h3 y hy h5
  omega
theorem aloneQ_iff {Ms:List Nat} {i n:Nat} (hB:BoundC Ms Ms.length):aloneQ Ms i n=true↔∃m,m≠n∧(Ms[i]?.getD 0 &&& aloneM Ms).testBit m=true:=by
 unfold aloneQ
 rw[List.any_eq_true]
 constructor
 ·rintro ⟨m,_,h⟩
  simp only[Bool.and_eq_true,Bool.not_eq_true',beq_eq_false_iff_ne] at h
  exact ⟨m,h.1,by rw[Nat.testBit_and,alone_bit,Bool.and_eq_true];exact h.2⟩
 ·rintro ⟨m,hm,h⟩
  rw[Nat.testBit_and,alone_bit,Bool.and_eq_true] at h
  have:=hB i m h.1
  refine ⟨m,by simpa using this,?_⟩
  rw[Bool.and_eq_true,Bool.and_eq_true,Bool.not_eq_true',beq_eq_false_iff_ne]
  exact ⟨hm,h.1,h.2⟩
theorem place_next {Ms:List Nat} (hN:Ms.length≤256) (hB:BoundC Ms Ms.length):findN Ms.length (aloneN Ms)=placeR Ms:=by
 unfold placeR
 refine findN_congr fun i hi=>?_
 unfold aloneN placeAt
 have hq:=fun n=>aloneQ_iff (i:=i) (n:=n) hB
 have hs:∀n,hasQ Ms i n=(Ms[i]?.getD 0).testBit n:=fun n=>rfl
 have hbs:∀j,(Ms[i]?.getD 0).testBit j=true→j<Ms.length:=hB i
 unfold placeF
 generalize ho:Ms[i]?.getD 0 &&& aloneM Ms=own at hq
 have hos:∀j,own.testBit j=true→(Ms[i]?.getD 0).testBit j=true:=fun j hj=>by
  rw[← ho,Nat.testBit_and,Bool.and_eq_true] at hj
  exact hj.1
 by_cases e0:sizeM own=0
 ·rw[if_pos e0,if_neg (Nat.lt_irrefl 0)]
  refine findN_none fun j _=>?_
  rw[if_neg]
  intro h
  rw[Bool.and_eq_true,hq] at h
  obtain ⟨m,_,h2⟩:=h.2
  have h3:=sizeM_zero.1 e0 m (by have:=hbs m (hos m h2);omega)
  rw[h3] at h2
  cases h2
 ·rw[if_neg e0]
  by_cases e1:sizeM own=1
  ·rw[if_pos e1]
   obtain ⟨m0,hm0,hm1,hm2⟩:=sizeM_one.1 e1
   have hbit:∀n,(minus (Ms[i]?.getD 0) own).testBit n=(hasQ Ms i n&&aloneQ Ms i n):=by
    intro n
    rw[testBit_minus,hs]
    cases hn:(Ms[i]?.getD 0).testBit n with
    | false=>rfl
    | true =>
     rw[Bool.true_and,Bool.true_and,Bool.eq_iff_iff,hq,Bool.not_eq_true',Bool.eq_false_iff]
     constructor
     ·intro h
      exact ⟨m0,fun e=>h (by rw[← e];exact hm1),hm1⟩
     ·rintro ⟨m,h1,h2⟩ h3
      have a1:=hm2 m (by have:=hbs m (hos m h2);omega) h2
      have a2:=hm2 n (by have:=hbs n hn;omega) h3
      omega
   obtain ⟨h0,h1⟩:=first_above (B:=minus (Ms[i]?.getD 0) own) (t:=0) (fun j hj=>by rw[hbit,Bool.and_eq_true] at hj;exact hbs j hj.1) hN
   refine findN_first (p:=fun n=>hasQ Ms i n&&aloneQ Ms i n) (f:=fun x=>((2,i,x,-1):Rem)) (fun hx j _=>by rw[← hbit];exact h0 hx j (by omega)) (fun hx=>?_)
   obtain ⟨_,a,b,c⟩:=h1 hx
   exact ⟨a,by rw[← hbit];exact b,fun j hj=>by rw[← hbit];exact c j hj (by omega)⟩
  ·rw[if_neg e1]
   have hbit:∀n,(Ms[i]?.getD 0).testBit n=(hasQ Ms i n&&aloneQ Ms i n):=by
    intro n
    rw[hs]
    suffices h:aloneQ Ms i n=true by rw[h,Bool.and_true]
    rw[hq]
    apply Classical.byContradiction
    intro hno
    by_cases hn:own.testBit n=true
    ·refine e1 (sizeM_one.2 ⟨n,by have:=hbs n (hos n hn);omega,hn,fun b _ hb=>?_⟩)
     apply Classical.byContradiction
     intro h
     exact hno ⟨b,h,hb⟩
    ·refine e0 (sizeM_zero.2 fun b _=>?_)
     rw[Bool.eq_false_iff]
     intro hb
     exact hno ⟨b,fun e=>hn (by rw[← e];exact hb),hb⟩
   obtain ⟨h0,h1⟩:=first_above (B:=Ms[i]?.getD 0) (t:=0) hbs hN
   refine findN_first (p:=fun n=>hasQ Ms i n&&aloneQ Ms i n) (f:=fun x=>((2,i,x,-1):Rem)) (fun hx j _=>by rw[← hbit];exact h0 hx j (by omega)) (fun hx=>?_)
   obtain ⟨_,a,b,c⟩:=h1 hx
   exact ⟨a,by rw[← hbit];exact b,fun j hj=>by rw[← hbit];exact c j hj (by omega)⟩
theorem low_eq {Ms:List Nat} {l:List Int} {c:Int} (hn:l.Nodup):∀k,k≤l.length→lowTo Ms l k=lowQ Ms l c k+if c∈l.take k then aboveM (Ms[c.toNat]?.getD 0) 0 else 0
 | 0,_=>by simp[lowTo,lowQ]
 | k+1,hk=>by
  have ih:=low_eq (Ms:=Ms) (c:=c) hn k (by omega)
  simp only[lowTo,lowQ]
  have hkl:k<l.length:=by omega
  have ht:l.take (k+1)=l.take k++[l[k]?.getD 0]:=take_snoc l 0 k hkl
  have hd:l[k]?.getD 0 ∉ l.take k:=by
   intro hm
   have h1:(l.take (k+1)).Nodup:=hn.sublist (List.take_sublist _ _)
   rw[ht,List.nodup_append] at h1
   exact h1.2.2 _ hm _ (by simp) rfl
  by_cases e:l[k]?.getD 0=c
  ·rw[if_pos e,if_pos (by rw[ht,e];simp),ih,if_neg (by rw[← e];exact hd),e]
  ·rw[if_neg e,ih]
   have:(c∈l.take (k+1))↔c∈l.take k:=by
    rw[ht,List.mem_append,List.mem_singleton]
    exact ⟨fun h=>h.resolve_right (fun x=>e x.symm),.inl⟩
   by_cases hm:c∈l.take k
   ·rw[if_pos hm,if_pos (this.2 hm)];omega
   ·rw[if_neg hm,if_neg (fun h=>hm (this.1 h))];omega
theorem high_eq {Ms:List Nat} {l:List Int} {c:Int} (hn:l.Nodup):∀k,k≤l.length→highTo Ms l k=highQ Ms l c k+if c∈l.take k then greatM (Ms[c.toNat]?.getD 0) else 0
 | 0,_=>by simp[highTo,highQ]
 | k+1,hk=>by
  have ih:=high_eq (Ms:=Ms) (c:=c) hn k (by omega)
  simp only[highTo,highQ]
  have hkl:k<l.length:=by omega
  have ht:l.take (k+1)=l.take k++[l[k]?.getD 0]:=take_snoc l 0 k hkl
  have hd:l[k]?.getD 0 ∉ l.take k:=by
   intro hm
   have h1:(l.take (k+1)).Nodup:=hn.sublist (List.take_sublist _ _)
   rw[ht,List.nodup_append] at h1
   exact h1.2.2 _ hm _ (by simp) rfl
  by_cases e:l[k]?.getD 0=c
  ·rw[if_pos e,if_pos (by rw[ht,e];simp),ih,if_neg (by rw[← e];exact hd),e]
  ·rw[if_neg e,ih]
   have:(c∈l.take (k+1))↔c∈l.take k:=by
    rw[ht,List.mem_append,List.mem_singleton]
    exact ⟨fun h=>h.resolve_right (fun x=>e x.symm),.inl⟩
   by_cases hm:c∈l.take k
   ·rw[if_pos hm,if_pos (this.2 hm)];omega
   ·rw[if_neg hm,if_neg (fun h=>hm (this.1 h))];omega
theorem line_next {sum:Int} {Ms:List Nat} {l:List Int} {k:Nat} (hN:Ms.length≤256) (hB:BoundC Ms Ms.length) (hn:l.Nodup) (hr:∀x,x∈l→0≤x∧x<(Ms.length:Int)):lineNk sum Ms l k=lineK sum Ms l k:=by
 unfold lineNk lineK
 refine findN_congr fun j hj=>?_
 have hm:l[j]?.getD 0∈l:=by rw[List.getElem?_eq_getElem hj];exact List.getElem_mem hj
 have hlow:=low_eq (Ms:=Ms) (c:=l[j]?.getD 0) hn l.length (Nat.le_refl _)
 have hhigh:=high_eq (Ms:=Ms) (c:=l[j]?.getD 0) hn l.length (Nat.le_refl _)
 rw[List.take_length,if_pos hm] at hlow hhigh
 have hcr:=hr _ hm
 unfold lineN lineAt beyondQ
 generalize lowTo Ms l l.length=low at hlow ⊢
 generalize highTo Ms l l.length=high at hhigh ⊢
 generalize lowQ Ms l (l[j]?.getD 0) l.length=lq at hlow ⊢
 generalize highQ Ms l (l[j]?.getD 0) l.length=hq at hhigh ⊢
 generalize (l[j]?.getD 0).toNat=c at hlow hhigh ⊢
 have hs:∀n,hasQ Ms c n=(Ms[c]?.getD 0).testBit n:=fun n=>rfl
 have hbs:∀j,(Ms[c]?.getD 0).testBit j=true→j<Ms.length:=hB c
 simp only[hs]
 generalize Ms[c]?.getD 0=s at hlow hhigh hbs ⊢
 obtain ⟨l0,l1⟩:=first_above (t:=0) hbs hN
 refine findN_first (p:=fun n=>s.testBit n&&(decide (sum - ((n:Int)+1)<(lq:Nat))||decide (((hq:Nat):Int)<sum - ((n:Int)+1)))) (f:=fun x=>((1,c,x,(k:Int)):Rem)) (x:=lineF sum low high s) ?_ ?_
 ·intro hx n _
  cases hsn:s.testBit n with
  | false=>rfl
  | true =>
   rw[Bool.true_and,Bool.or_eq_false_iff,decide_eq_false_iff_not,decide_eq_false_iff_not]
   unfold lineF at hx
   split at hx
   ·rename_i h1
    have hn1:=hbs n hsn
    have a1:=aboveM_first (M:=s) (x:=0) (j:=n+1) (by omega) (by omega) hsn
    obtain ⟨b0,_⟩:=first_above (t:=(max (sum - ((low:Int) - aboveM s 0)) 0).toNat) hbs hN
    have b1:¬(max (sum - ((low:Int) - aboveM s 0)) 0).toNat<n+1:=fun h=>by
     have:=b0 hx n h
     rw[this] at hsn
     cases hsn
    omega
   ·rw[l0 hx n (by omega)] at hsn
    cases hsn
 ·intro hx
  unfold lineF at hx ⊢
  split at hx
  ·rename_i h1
   rw[if_pos h1]
   obtain ⟨_,b1⟩:=first_above (t:=(max (sum - ((low:Int) - aboveM s 0)) 0).toNat) hbs hN
   obtain ⟨c1,c2,c3,c4⟩:=b1 hx
   generalize aboveM s (max (sum - ((low:Int) - aboveM s 0)) 0).toNat=x at *
   refine ⟨c2,?_,fun n hn=>?_⟩
   ·rw[c3,Bool.true_and,Bool.or_eq_true,decide_eq_true_eq]
    left
    omega
   ·cases hsn:s.testBit n with
    | false=>rfl
    | true =>
     rw[Bool.true_and,Bool.or_eq_false_iff,decide_eq_false_iff_not,decide_eq_false_iff_not]
     have hn1:=hbs n hsn
     have a1:=aboveM_first (M:=s) (x:=0) (j:=n+1) (by omega) (by omega) hsn
     have b1:¬(max (sum - ((low:Int) - aboveM s 0)) 0).toNat<n+1:=fun h=>by
      have:=c4 n hn h
      rw[this] at hsn
      cases hsn
     omega
  ·rename_i h1
   rw[if_neg h1]
   obtain ⟨c1,c2,c3,c4⟩:=l1 hx
   refine ⟨c2,?_,fun n hn=>by rw[c4 n hn (by omega)];rfl⟩
   rw[c3,Bool.true_and,Bool.or_eq_true,decide_eq_true_eq,decide_eq_true_eq]
   right
   omega
theorem next_eq {ls:List (List Int)} {sum:Int} {M:Nat} {Ms:List Nat} (hN:Ms.length≤256) (hB:BoundC Ms Ms.length) (hn:∀l,l∈ls→l.Nodup) (hr:∀l,l∈ls→∀x,x∈l→0≤x∧x<(Ms.length:Int)) (hc:contraB Ms M=false):nextQ ls sum Ms=stepR ls sum M Ms:=by
 unfold nextQ stepR
 rw[if_neg (by rw[hc];decide),once_next hN hB,place_next hN hB]
 have:findN ls.length (fun k=>lineNk sum Ms (ls[k]?.getD []) k)=lineR ls sum Ms:=by
  unfold lineR
  refine findN_congr fun k hk=>?_
  have hm:ls[k]?.getD []∈ls:=by rw[List.getElem?_eq_getElem hk];exact List.getElem_mem hk
  exact line_next hN hB (hn _ hm) (hr _ hm)
 rw[this]
 rfl
theorem contra_eq {Ms:List Nat} (hN:Ms.length≤256) (hB:BoundC Ms Ms.length):contraQ Ms=contraB Ms (allM Ms.length):=by
 have hbit:∀b,Ms.length≤b→(onceTo Ms Ms.length).testBit b=false:=fun b hb=>by
  rw[Bool.eq_false_iff]
  intro h
  obtain ⟨j,_,ht⟩:=(mOnce _ (Nat.le_refl _)).1 h
  have:=hB j b ht
  omega
 have e1:eqM (onceTo Ms Ms.length) (allM Ms.length)=decide (onceTo Ms Ms.length=allM Ms.length):=eqM_iff (small_mask fun b hb=>by
  apply Classical.byContradiction
  intro h
  rw[hbit b (by omega)] at hb
  cases hb) (small_mask fun b hb=>by rw[allM_bit,decide_eq_true_eq] at hb;omega)
 unfold contraB contraQ
 rw[e1,Bool.eq_iff_iff,List.any_eq_true,Bool.or_eq_true,Bool.not_eq_true',Bool.not_eq_true',decide_eq_false_iff_not]
 have hfull:fullTo Ms Ms.length=false↔∃i,i<Ms.length∧Ms[i]?.getD 0=0:=by
  unfold fullTo
  rw[List.take_length,List.all_eq_false]
  constructor
  ·rintro ⟨s,hs,h⟩
   obtain ⟨i,hi,e⟩:=List.getElem_of_mem hs
   refine ⟨i,hi,?_⟩
   have hlt:s<2 ^ 256:=small_mask fun b hb=>by have:=hB i b (by rw[List.getElem?_eq_getElem hi,Option.getD_some,e];exact hb);omega
   rw[eqM_iff hlt (by decide)] at h
   rw[List.getElem?_eq_getElem hi,Option.getD_some,e]
   simpa using h
  ·rintro ⟨i,hi,e⟩
   refine ⟨0,?_,by simp[eqM]⟩
   rw[List.getElem?_eq_getElem hi,Option.getD_some] at e
   rw[← e]
   exact List.getElem_mem hi
 have hz:∀i,cntB Ms.length (Ms[i]?.getD 0)=0↔Ms[i]?.getD 0=0:=fun i=>by
  rw[cnt_small hN (hB i),sizeM_zero]
  constructor
  ·intro h
   refine Nat.eq_of_testBit_eq fun b=>?_
   rw[Nat.zero_testBit,Bool.eq_false_iff]
   intro hb
   have:=h b (by have:=hB i b hb;omega)
   rw[this] at hb
   cases hb
  ·intro h b _
   rw[h,Nat.zero_testBit]
 have ho:∀n,ownQ Ms n=0↔(onceTo Ms Ms.length).testBit n=false:=fun n=>by
  unfold ownQ
  rw[List.length_eq_zero_iff,List.filter_eq_nil_iff,Bool.eq_false_iff,ne_eq,mOnce _ (Nat.le_refl _)]
  constructor
  ·rintro h ⟨j,hj,ht⟩
   exact h j (by simpa using hj) ht
  ·rintro h j hj ht
   exact h ⟨j,by simpa using hj,ht⟩
 constructor
 ·rintro ⟨i,hi,h⟩
  rw[List.mem_range] at hi
  rw[Bool.or_eq_true,beq_iff_eq,beq_iff_eq] at h
  rcases h with h|h
  ·exact .inr (hfull.2 ⟨i,hi,(hz i).1 h⟩)
  ·refine .inl fun e=>?_
   have h1:=(ho i).1 h
   rw[e,allM_bit,decide_eq_false_iff_not] at h1
   omega
 ·rintro (h|h)
  ·apply Classical.byContradiction
   intro hno
   refine h (Nat.eq_of_testBit_eq fun b=>?_)
   rw[allM_bit]
   by_cases hb:b<Ms.length
   ·rw[decide_eq_true hb]
    apply Classical.byContradiction
    intro h1
    rw[Bool.not_eq_true] at h1
    exact hno ⟨b,by simpa using hb,by rw[Bool.or_eq_true,beq_iff_eq,beq_iff_eq];exact .inr ((ho b).2 h1)⟩
   ·rw[decide_eq_false hb]
    exact hbit b (by omega)
  ·obtain ⟨i,hi,e⟩:=hfull.1 h
   exact ⟨i,by simpa using hi,by rw[Bool.or_eq_true,beq_iff_eq,beq_iff_eq];exact .inl ((hz i).2 e)⟩
theorem elems_small {M N:Nat} (hN:N≤256) (hb:∀j,M.testBit j=true→j<N):elemsTo M N=elemsM M:=by
 unfold elemsM elemsTo
 rw[show 256=N+(256 - N) from by omega,List.range_add,List.filter_append]
 have:((List.map (fun x=>N+x) (List.range (256 - N))).filter fun i=>M.testBit i)=[]:=by
  rw[List.filter_eq_nil_iff]
  intro x hx ht
  rw[List.mem_map] at hx
  obtain ⟨y,_,e⟩:=hx
  have:=hb x ht
  omega
 rw[this,List.append_nil]
end
section
open Go Go.RowKit
attribute [local go_sem] over_cell
attribute [local go_sem] Oper.semAt_some
def BR (w:World) (a:Option Addr) (r M:Nat):Prop:=∀j,j<r→∃b off,a=some ⟨b,off,none⟩∧b<w.heap.size∧w.cell? ⟨b,off+j,none⟩=some (.bool (decide (0<j)&&M.testBit (j - 1)))
theorem BR.mono {w w':World} {a:Option Addr} {r M:Nat} (h:BR w a r M) (hb:Below w.heap.size w w'):BR w' a r M:=fun j hj=>by
 obtain ⟨b,off,e,hlt,hc⟩:=h j hj
 exact ⟨b,off,e,Nat.lt_of_lt_of_le hlt hb.size,((bcell hb).1 b _ hlt).trans hc⟩
def BS (w:World) (a:Option Addr) (n r:Nat) (Ms:List Nat):Prop:=(Ms.length=n∧n≤256∧1≤r∧r≤257)∧∀k,k<n→∃b off a' c',a=some ⟨b,off,none⟩∧b<w.heap.size∧w.cell? ⟨b,off+k,none⟩=some (.slice a' r c')∧BR w a' r (Ms[k]?.getD 0)∧r≤c'
theorem BS.mono {w w':World} {a:Option Addr} {n r:Nat} {Ms:List Nat} (h:BS w a n r Ms) (hb:Below w.heap.size w w'):BS w' a n r Ms :=
 ⟨h.1,fun k hk=>by
  obtain ⟨b,off,a',c',e,hlt,hc,hi,hcap⟩:=h.2 k hk
  exact ⟨b,off,a',c',e,Nat.lt_of_lt_of_le hlt hb.size,((bcell hb).1 b _ hlt).trans hc,hi.mono hb,hcap⟩⟩
theorem cntB_succ (k M:Nat):cntB (k+1) M=cntB k M+if M.testBit k=true then 1 else 0:=by
 unfold cntB
 rw[List.range_succ,List.filter_append,List.length_append]
 congr 1
 by_cases h:M.testBit k=true
 ·rw[if_pos h,List.filter_cons_of_pos h];rfl
 ·rw[if_neg h,List.filter_cons_of_neg h];rfl
theorem rsize_c (a:Option Addr) (r c M:Nat) (w:World) (h:BR w a r M) (h1:1≤r) (hr:r≤257) :
  Calls Tryz.prog 123 #[.slice a r c] w fun e w'=>e = .returned (.int .i64 (cntB (r - 1) M:Nat))∧w=w':=by
 go_enter Tryz.func123,Tryz.ntmps123
 go_wp2
 go_loop [3,4] (fun kv iv=>∃j:Nat,1≤j∧j≤r∧iv = .int .i64 j∧kv = .int .i64 (cntB (j - 1) M:Nat)∧cntB (j - 1) M≤j) (fun _ iv=>r - (intOf iv).toNat)
 case atStart=>exact ⟨1,by omega,by omega,rfl,rfl,by simp[cntB]⟩
 case round =>
  obtain ⟨j,hj1,hj,rfl,rfl,hle⟩:=hrel
  by_cases hlt:j<r
  ·have hji:(j:Int)<(r:Int):=by omega
   obtain ⟨b,off,rfl,hb,hc⟩:=h j hlt
   have hs:=Lib.hid (cntB_succ (j - 1) M)
   rw[show j - 1+1=j from by omega] at hs
   rw[decide_eq_true (show 0<j by omega),Bool.true_and] at hc
   generalize cntB (j - 1) M=q at hle hs ⊢
   cases hm:M.testBit (j - 1) with
   | true =>
    rw[hm] at hc hs
    have hm2:=Lib.hid hm
    clear hm
    go_wp2
    go_round
    case rel=>exact ⟨j+1,by omega,by omega,by go_num,by rw[show j+1 - 1=j from by omega,hs.out,if_pos rfl];go_num,by rw[show j+1 - 1=j from by omega,hs.out,if_pos rfl];omega⟩
    case measure=>simp[intOf];omega
   | false =>
    rw[hm] at hc hs
    have hm2:=Lib.hid hm
    clear hm
    go_wp2
    go_round
    case rel=>exact ⟨j+1,by omega,by omega,by go_num,by rw[show j+1 - 1=j from by omega,hs.out,if_neg (by decide)];rfl,by rw[show j+1 - 1=j from by omega,hs.out,if_neg (by decide)];omega⟩
    case measure=>simp[intOf];omega
  ·have e:j=r:=by omega
   subst e
   have hji:¬(j:Int)<(j:Int):=by omega
   go_wp2
   go_ret
   exact ⟨rfl,rfl⟩
def ownCnt (Ms:List Nat) (n k:Nat):Nat:=((List.range k).filter fun j=>hasQ Ms j n).length
theorem ownCnt_succ (Ms:List Nat) (n k:Nat):ownCnt Ms n (k+1)=ownCnt Ms n k+if hasQ Ms k n=true then 1 else 0:=by
 unfold ownCnt
 rw[List.range_succ,List.filter_append,List.length_append]
 congr 1
 by_cases h:hasQ Ms k n=true
 ·rw[if_pos h];simp[h]
 ·rw[if_neg h];simp[h]
theorem owners_c (a:Option Addr) (n r c:Nat) (Ms:List Nat) (m:Nat) (w:World) (h:BS w a n r Ms) (hm:m+1<r) :
  Calls Tryz.prog 124 #[.slice a n c,.int .i64 ((m:Int)+1)] w fun e w'=>e = .returned (.int .i64 (ownQ Ms m:Nat))∧w=w':=by
 obtain ⟨⟨hlen,hn,hr1,hr2⟩,H⟩:=h
 have hq:ownQ Ms m=ownCnt Ms m n:=by rw[← hlen];rfl
 rw[hq]
 have H:=Lib.hid H
 go_enter Tryz.func124,Tryz.ntmps124
 go_wp2
 go_loop [5,6] (fun kv iv=>∃j:Nat,j≤n∧iv = .int .i64 j∧kv = .int .i64 (ownCnt Ms m j:Nat)∧ownCnt Ms m j≤j) (fun _ iv=>n - (intOf iv).toNat)
 case atStart=>exact ⟨0,by omega,rfl,rfl,by simp[ownCnt]⟩
 case round =>
  obtain ⟨j,hj,rfl,rfl,hle⟩:=hrel
  by_cases hlt:j<n
  ·have hji:(j:Int)<(n:Int):=by omega
   obtain ⟨b,off,a',c',rfl,hb,hc,hi,_⟩:=H.out j hlt
   obtain ⟨b2,off2,rfl,hb2,hc2⟩:=hi (m+1) hm
   have hmi:(m:Int)+1<(r:Int):=by omega
   have hs:=Lib.hid (ownCnt_succ Ms m j)
   have hs2:hasQ Ms j m=(Ms[j]?.getD 0).testBit m:=rfl
   rw[decide_eq_true (show 0<m+1 by omega),Bool.true_and,show m+1 - 1=m from by omega,← hs2] at hc2
   generalize ownCnt Ms m j=q at hle hs ⊢
   clear hi hs2
   cases hm:hasQ Ms j m with
   | true =>
    rw[hm] at hc2 hs
    clear hm
    go_wp2
    go_round
    case rel=>exact ⟨j+1,by omega,by go_num,by rw[hs.out,if_pos rfl];go_num,by rw[hs.out,if_pos rfl];omega⟩
    case measure=>simp[intOf];omega
   | false =>
    rw[hm] at hc2 hs
    clear hm
    go_wp2
    go_round
    case rel=>exact ⟨j+1,by omega,by go_num,by rw[hs.out,if_neg (by decide)];rfl,by rw[hs.out,if_neg (by decide)];omega⟩
    case measure=>simp[intOf];omega
  ·have e:j=n:=by omega
   subst e
   have hji:¬(j:Int)<(j:Int):=by omega
   go_wp2
   go_ret
   exact ⟨rfl,rfl⟩
theorem contra_hit {Ms:List Nat} {k:Nat} (hk:k<Ms.length) (h:(cntB Ms.length (Ms[k]?.getD 0)==0||ownQ Ms k==0)=true):contraQ Ms=true:=by
 unfold contraQ
 rw[List.any_eq_true]
 exact ⟨k,by simpa using hk,h⟩
theorem contra_none {Ms:List Nat} (h:∀k,k<Ms.length→(cntB Ms.length (Ms[k]?.getD 0)==0||ownQ Ms k==0)=false):contraQ Ms=false:=by
 unfold contraQ
 rw[List.any_eq_false]
 intro k hk
 rw[h k (by simpa using hk)]
 decide
theorem rcontra_c (a:Option Addr) (n c:Nat) (Ms:List Nat) (w:World) (h:BS w a n (n+1) Ms) :
  Calls Tryz.prog 76 #[.slice a n c] w fun e w'=>e = .returned (.bool (contraQ Ms))∧w=w':=by
 have HO:=Lib.hid (fun m (hm:m+1<n+1)=>owners_c a n (n+1) c Ms m w h hm)
 obtain ⟨⟨hlen,hn,hr1,hr2⟩,H⟩:=h
 have H:=Lib.hid H
 have HH:Hid (∀k,k<n→(cntB n (Ms[k]?.getD 0)==0||ownQ Ms k==0)=true→contraQ Ms=true):=fun k hk e=>contra_hit (by rw[hlen];exact hk) (by rw[hlen];exact e)
 have HN:Hid ((∀k,k<n→(cntB n (Ms[k]?.getD 0)==0||ownQ Ms k==0)=false)→contraQ Ms=false):=fun e=>contra_none (by rw[hlen];exact e)
 clear hlen
 generalize contraQ Ms=cv at HH HN ⊢
 go_enter Tryz.func76,Tryz.ntmps76
 go_wp2
 go_loop [3] (fun iv=>∃j:Nat,j≤n∧iv = .int .i64 j∧Hid (∀k,k<j→(cntB n (Ms[k]?.getD 0)==0||ownQ Ms k==0)=false)) (fun iv=>n - (intOf iv).toNat)
 case atStart=>exact ⟨0,by omega,rfl,fun k hk=>absurd hk (by omega)⟩
 case round =>
  obtain ⟨j,hj,rfl,hno⟩:=hrel
  by_cases hlt:j<n
  ·have hji:(j:Int)<(n:Int):=by omega
   obtain ⟨b,off,a',c',rfl,hb,hc,hi,_⟩:=H.out j hlt
   have HS:=Lib.hid (rsize_c a' (n+1) c' (Ms[j]?.getD 0) w hi (by omega) (by omega))
   rw[show n+1 - 1=n from by omega] at HS
   have HO:=Lib.hid (HO.out j (by omega))
   have HH:=Lib.hid (HH.out j hlt)
   have HX:Hid ((cntB n (Ms[j]?.getD 0)==0||ownQ Ms j==0)=false→∀k,k<j+1→(cntB n (Ms[k]?.getD 0)==0||ownQ Ms k==0)=false):=fun e=>upb_snoc hno.out e
   clear hno hi
   generalize cntB n (Ms[j]?.getD 0)=x at HS HH HX
   generalize ownQ Ms j=y at HO HH HX
   by_cases hx:x=0
   ·subst hx
    go_wp2_with (first|(go_at_call 123;refine HS.out.mono ?_;rintro _ _ ⟨rfl,rfl⟩)|(go_at_call 124;refine HO.out.mono ?_;rintro _ _ ⟨rfl,rfl⟩))
    go_ret
    exact ⟨ret_bool (HH.out rfl).symm,rfl⟩
   ·have hx1:(((x:Nat):Int)==0)=false:=by simpa using hx
    by_cases hy:y=0
    ·subst hy
     go_wp2_with (first|(go_at_call 123;refine HS.out.mono ?_;rintro _ _ ⟨rfl,rfl⟩)|(go_at_call 124;refine HO.out.mono ?_;rintro _ _ ⟨rfl,rfl⟩))
     go_ret
     exact ⟨ret_bool (HH.out (by simp)).symm,rfl⟩
    ·have hy1:(((y:Nat):Int)==0)=false:=by simpa using hy
     go_wp2_with (first|(go_at_call 123;refine HS.out.mono ?_;rintro _ _ ⟨rfl,rfl⟩)|(go_at_call 124;refine HO.out.mono ?_;rintro _ _ ⟨rfl,rfl⟩))
     go_round
     case rel=>exact ⟨j+1,by omega,by go_num,HX.out (by simp[hx,hy])⟩
     case measure=>simp[intOf];omega
  ·have e:j=n:=by omega
   subst e
   have hji:¬(j:Int)<(j:Int):=by omega
   go_wp2
   go_ret
   exact ⟨ret_bool (HN.out hno.out).symm,rfl⟩
end
section
open Go Go.RowKit
attribute [local go_sem] over_cell
attribute [local go_sem] Oper.semAt_some
theorem above_pos {M r:Nat} (hb:∀j,M.testBit j=true→j+1<r) (hr:r≤257) (h:M≠0):0<aboveM M 0∧aboveM M 0<r∧M.testBit (aboveM M 0 - 1)=true∧∀j,1≤j→j<aboveM M 0→M.testBit (j - 1)=false:=by
 obtain ⟨h0,h1⟩:=first_above (B:=M) (N:=r - 1) (t:=0) (fun j hj=>by have:=hb j hj;omega) (by omega)
 by_cases hx:aboveM M 0=0
 ·refine absurd (Nat.eq_of_testBit_eq fun b=>?_) h
  rw[Nat.zero_testBit]
  exact h0 hx b (by omega)
 ·obtain ⟨a,b,c,d⟩:=h1 (by omega)
  exact ⟨by omega,by omega,c,fun j hj1 hj=>d (j - 1) (by omega) (by omega)⟩
theorem great_pos {M r:Nat} (hb:∀j,M.testBit j=true→j+1<r) (hr:r≤257) (h:M≠0):0<greatM M∧greatM M<r∧M.testBit (greatM M - 1)=true∧∀j,greatM M<j→j<r→M.testBit (j - 1)=false:=by
 obtain ⟨a1,a2,a3,_⟩:=above_pos hb hr h
 have h1:=great_hi (M:=M) (j:=aboveM M 0) (by omega) (by omega) a3
 have h2:=great_at (M:=M) (by omega)
 have h3:=hb _ h2.2
 refine ⟨by omega,by omega,h2.2,fun j hj1 hj=>?_⟩
 rw[Bool.eq_false_iff]
 intro ht
 have:=great_hi (M:=M) (j:=j) (by omega) (by omega) ht
 omega
theorem rleast_c (a:Option Addr) (r c M:Nat) (w:World) (h:BR w a r M) (hr:r≤257) (hb:∀j,M.testBit j=true→j+1<r) (hne:M≠0) :
  Calls Tryz.prog 165 #[.slice a r c] w fun e w'=>e = .returned (.int .i64 (aboveM M 0:Nat))∧w=w':=by
 obtain ⟨h1,h2,h3,h4⟩:=above_pos hb hr hne
 have H4:=Lib.hid h4
 clear hb hne h4
 generalize aboveM M 0=x at h1 h2 h3 H4 ⊢
 go_enter Tryz.func165,Tryz.ntmps165
 go_wp2
 go_loop [3] (fun iv=>∃j:Nat,1≤j∧j≤x∧iv = .int .i64 j) (fun iv=>r - (intOf iv).toNat)
 case atStart=>exact ⟨1,by omega,by omega,rfl⟩
 case round =>
  obtain ⟨j,hj1,hj,rfl⟩:=hrel
  have hjr:j<r:=by omega
  have hji:(j:Int)<(r:Int):=by omega
  obtain ⟨b,off,rfl,hb,hc⟩:=h j hjr
  rw[decide_eq_true (show 0<j by omega),Bool.true_and] at hc
  by_cases hlt:j<x
  ·rw[H4.out j hj1 hlt] at hc
   go_wp2
   go_round
   case rel=>exact ⟨j+1,by omega,by omega,by go_num⟩
   case measure=>simp[intOf];omega
  ·have e:j=x:=by omega
   subst e
   rw[h3] at hc
   go_wp2
   go_ret
   exact ⟨rfl,rfl⟩
theorem rgreat_c (a:Option Addr) (r c M:Nat) (w:World) (h:BR w a r M) (hr:r≤257) (hb:∀j,M.testBit j=true→j+1<r) (hne:M≠0) :
  Calls Tryz.prog 166 #[.slice a r c] w fun e w'=>e = .returned (.int .i64 (greatM M:Nat))∧w=w':=by
 obtain ⟨h1,h2,h3,h4⟩:=great_pos hb hr hne
 have H4:=Lib.hid h4
 clear hb hne h4
 generalize greatM M=x at h1 h2 h3 H4 ⊢
 go_enter Tryz.func166,Tryz.ntmps166
 go_wp2
 go_loop [3] (fun iv=>∃j:Nat,x≤j∧j<r∧iv = .int .i64 j) (fun iv=>(intOf iv).toNat)
 case atStart=>exact ⟨r - 1,by omega,by omega,by go_num⟩
 case round =>
  obtain ⟨j,hj1,hjr,rfl⟩:=hrel
  have hji:(j:Int)<(r:Int):=by omega
  obtain ⟨b,off,rfl,hb,hc⟩:=h j hjr
  rw[decide_eq_true (show 0<j by omega),Bool.true_and] at hc
  by_cases hlt:x<j
  ·rw[H4.out j hlt hjr] at hc
   go_wp2
   go_round
   case rel=>exact ⟨j - 1,by omega,by omega,by go_num⟩
   case measure=>simp[intOf];omega
  ·have e:j=x:=by omega
   subst e
   rw[h3] at hc
   go_wp2
   go_ret
   exact ⟨rfl,rfl⟩
def onceAtQ (Ms:List Nat) (i n j:Nat):Bool:=!(j==i)&&(hasQ Ms j n&&(cntB Ms.length (Ms[j]?.getD 0)==1))
theorem onceQ_hit {Ms:List Nat} {i n k:Nat} (hk:k<Ms.length) (h:onceAtQ Ms i n k=true):onceQ Ms i n=true:=by
 unfold onceQ
 rw[List.any_eq_true]
 exact ⟨k,by simpa using hk,h⟩
theorem onceQ_none {Ms:List Nat} {i n:Nat} (h:∀k,k<Ms.length→onceAtQ Ms i n k=false):onceQ Ms i n=false:=by
 unfold onceQ
 rw[List.any_eq_false]
 intro k hk
 have:=h k (by simpa using hk)
 unfold onceAtQ at this
 rw[this]
 decide
theorem ronce_c (a:Option Addr) (n c:Nat) (Ms:List Nat) (i m:Nat) (w:World) (h:BS w a n (n+1) Ms) (hm:m<n) :
  Calls Tryz.prog 125 #[.slice a n c,.int .i64 i,.int .i64 ((m:Int)+1)] w fun e w'=>e = .returned (.bool (onceQ Ms i m))∧w=w':=by
 obtain ⟨⟨hlen,hn,hr1,hr2⟩,H⟩:=h
 have H:=Lib.hid H
 have HH:Hid (∀k,k<n→onceAtQ Ms i m k=true→onceQ Ms i m=true):=fun k hk e=>onceQ_hit (by rw[hlen];exact hk) e
 have HN:Hid ((∀k,k<n→onceAtQ Ms i m k=false)→onceQ Ms i m=false):=fun e=>onceQ_none (fun k hk=>e k (by rw[← hlen];exact hk))
 have HE:Hid (∀k,onceAtQ Ms i m k=(!(k==i)&&(hasQ Ms k m&&(cntB n (Ms[k]?.getD 0)==1)))):=fun k=>by unfold onceAtQ;rw[hlen]
 clear hlen
 generalize onceQ Ms i m=cv at HH HN ⊢
 go_enter Tryz.func125,Tryz.ntmps125
 go_wp2
 go_loop [7] (fun iv=>∃j:Nat,j≤n∧iv = .int .i64 j∧Hid (∀k,k<j→onceAtQ Ms i m k=false)) (fun iv=>n - (intOf iv).toNat)
 case atStart=>exact ⟨0,by omega,rfl,fun k hk=>absurd hk (by omega)⟩
 case round =>
  obtain ⟨j,hj,rfl,hno⟩:=hrel
  by_cases hlt:j<n
  ·have hji:(j:Int)<(n:Int):=by omega
   obtain ⟨b,off,a',c',rfl,hb,hc,hi,_⟩:=H.out j hlt
   have HS:=Lib.hid (rsize_c a' (n+1) c' (Ms[j]?.getD 0) w hi (by omega) (by omega))
   rw[show n+1 - 1=n from by omega] at HS
   obtain ⟨b2,off2,rfl,hb2,hc2⟩:=hi (m+1) (by omega)
   have hmi:(m:Int)+1<((n+1:Nat):Int):=by omega
   have hs2:hasQ Ms j m=(Ms[j]?.getD 0).testBit m:=rfl
   rw[decide_eq_true (show 0<m+1 by omega),Bool.true_and,show m+1 - 1=m from by omega,← hs2] at hc2
   have HE:=Lib.hid (HE.out j)
   have HH:=Lib.hid (HH.out j hlt)
   have HX:Hid (onceAtQ Ms i m j=false→∀k,k<j+1→onceAtQ Ms i m k=false):=fun e=>upb_snoc hno.out e
   clear hno hi hs2
   generalize onceAtQ Ms i m j=ov at HE HH HX
   generalize cntB n (Ms[j]?.getD 0)=x at HS HE
   generalize hasQ Ms j m=y at hc2 HE
   by_cases hi:j=i
   ·have hd:((j:Int) != (i:Int))=false:=by simp[hi]
    have hov:ov=false:=by rw[HE.out,hi];simp
    have HOV:=Lib.hid hov
    clear hov hi
    go_wp2
    go_round
    case rel=>exact ⟨j+1,by omega,by go_num,HX.out HOV.out⟩
    case measure=>simp[intOf];omega
   ·have hd:((j:Int) != (i:Int))=true:=by simp;omega
    cases y with
    | false =>
     have HOV:Hid (ov=false):=by unfold Hid;rw[HE.out];simp
     clear hi
     go_wp2
     go_round
     case rel=>exact ⟨j+1,by omega,by go_num,HX.out HOV.out⟩
     case measure=>simp[intOf];omega
    | true =>
     by_cases hx:x=1
     ·have HOV:Hid (ov=true):=by unfold Hid;rw[HE.out];simp[hi,hx]
      subst hx
      clear hi
      go_wp2_with (first|(go_at_call 123;refine HS.out.mono ?_;rintro _ _ ⟨rfl,rfl⟩))
      go_ret
      exact ⟨ret_bool (HH.out HOV.out).symm,rfl⟩
     ·have HOV:Hid (ov=false):=by unfold Hid;rw[HE.out];simp[hi,hx]
      have hx1:(((x:Nat):Int)==1)=false:=by simp;omega
      clear hi
      go_wp2_with (first|(go_at_call 123;refine HS.out.mono ?_;rintro _ _ ⟨rfl,rfl⟩))
      go_round
      case rel=>exact ⟨j+1,by omega,by go_num,HX.out HOV.out⟩
      case measure=>simp[intOf];omega
  ·have e:j=n:=by omega
   subst e
   have hji:¬(j:Int)<(j:Int):=by omega
   go_wp2
   go_ret
   exact ⟨ret_bool (HN.out hno.out).symm,rfl⟩
def aloneAtQ (Ms:List Nat) (i n m:Nat):Bool:=!(m==n)&&(hasQ Ms i m&&(ownQ Ms m==1))
theorem aloneQ_hit {Ms:List Nat} {i n k:Nat} (hk:k<Ms.length) (h:aloneAtQ Ms i n k=true):aloneQ Ms i n=true:=by
 unfold aloneQ
 rw[List.any_eq_true]
 exact ⟨k,by simpa using hk,h⟩
theorem aloneQ_none {Ms:List Nat} {i n:Nat} (h:∀k,k<Ms.length→aloneAtQ Ms i n k=false):aloneQ Ms i n=false:=by
 unfold aloneQ
 rw[List.any_eq_false]
 intro k hk
 have:=h k (by simpa using hk)
 unfold aloneAtQ at this
 rw[this]
 decide
theorem ralone_c (a:Option Addr) (n c:Nat) (Ms:List Nat) (i m:Nat) (w:World) (h:BS w a n (n+1) Ms) (hi:i<n) :
  Calls Tryz.prog 127 #[.slice a n c,.int .i64 i,.int .i64 ((m:Int)+1)] w fun e w'=>e = .returned (.bool (aloneQ Ms i m))∧w=w':=by
 have HO:=Lib.hid (fun m (hm:m+1<n+1)=>owners_c a n (n+1) c Ms m w h hm)
 obtain ⟨⟨hlen,hn,hr1,hr2⟩,H⟩:=h
 obtain ⟨b,off,a',c',rfl,hb,hc,hrow,_⟩:=H i hi
 have HR:=Lib.hid hrow
 have HH:Hid (∀k,k<n→aloneAtQ Ms i m k=true→aloneQ Ms i m=true):=fun k hk e=>aloneQ_hit (by rw[hlen];exact hk) e
 have HN:Hid ((∀k,k<n→aloneAtQ Ms i m k=false)→aloneQ Ms i m=false):=fun e=>aloneQ_none (fun k hk=>e k (by rw[← hlen];exact hk))
 have hii:(i:Int)<(n:Int):=by omega
 clear hlen H hrow
 generalize aloneQ Ms i m=cv at HH HN ⊢
 go_enter Tryz.func127,Tryz.ntmps127
 go_wp2
 go_loop [7] (fun iv=>∃j:Nat,j≤n∧iv = .int .i64 ((j:Int)+1)∧Hid (∀k,k<j→aloneAtQ Ms i m k=false)) (fun iv=>n+1 - (intOf iv).toNat)
 case atStart=>exact ⟨0,by omega,rfl,fun k hk=>absurd hk (by omega)⟩
 case round =>
  obtain ⟨j,hj,rfl,hno⟩:=hrel
  by_cases hlt:j<n
  ·have hji:(j:Int)+1<((n+1:Nat):Int):=by omega
   obtain ⟨b2,off2,rfl,hb2,hc2⟩:=HR.out (j+1) (by omega)
   have hs2:hasQ Ms i j=(Ms[i]?.getD 0).testBit j:=rfl
   rw[decide_eq_true (show 0<j+1 by omega),Bool.true_and,show j+1 - 1=j from by omega,← hs2] at hc2
   have HE:Hid (aloneAtQ Ms i m j=(!(j==m)&&(hasQ Ms i j&&(ownQ Ms j==1)))):=rfl
   have HO:=Lib.hid (HO.out j (by omega))
   have HH:=Lib.hid (HH.out j hlt)
   have HX:Hid (aloneAtQ Ms i m j=false→∀k,k<j+1→aloneAtQ Ms i m k=false):=fun e=>upb_snoc hno.out e
   clear hno hs2
   generalize aloneAtQ Ms i m j=ov at HE HH HX
   generalize ownQ Ms j=x at HO HE
   generalize hasQ Ms i j=y at hc2 HE
   by_cases he:j=m
   ·have hd:((j:Int)+1 != (m:Int)+1)=false:=by simp;omega
    have HOV:Hid (ov=false):=by unfold Hid;rw[HE.out,he];simp
    clear he
    go_wp2
    go_round
    case rel=>exact ⟨j+1,by omega,by go_num,HX.out HOV.out⟩
    case measure=>simp[intOf];omega
   ·have hd:((j:Int)+1 != (m:Int)+1)=true:=by simp;omega
    cases y with
    | false =>
     have HOV:Hid (ov=false):=by unfold Hid;rw[HE.out];simp
     clear he
     go_wp2
     go_round
     case rel=>exact ⟨j+1,by omega,by go_num,HX.out HOV.out⟩
     case measure=>simp[intOf];omega
    | true =>
     by_cases hx:x=1
     ·have HOV:Hid (ov=true):=by unfold Hid;rw[HE.out];simp[he,hx]
      subst hx
      clear he
      go_wp2_with (first|(go_at_call 124;refine HO.out.mono ?_;rintro _ _ ⟨rfl,rfl⟩))
      go_ret
      exact ⟨ret_bool (HH.out HOV.out).symm,rfl⟩
     ·have HOV:Hid (ov=false):=by unfold Hid;rw[HE.out];simp[he,hx]
      have hx1:(((x:Nat):Int)==1)=false:=by simp;omega
      clear he
      go_wp2_with (first|(go_at_call 124;refine HO.out.mono ?_;rintro _ _ ⟨rfl,rfl⟩))
      go_round
      case rel=>exact ⟨j+1,by omega,by go_num,HX.out HOV.out⟩
      case measure=>simp[intOf];omega
  ·have e:j=n:=by omega
   subst e
   have hji:¬(j:Int)+1<((j+1:Nat):Int):=by omega
   go_wp2
   go_ret
   exact ⟨ret_bool (HN.out hno.out).symm,rfl⟩
theorem low_le {Ms:List Nat} {l:List Int} {c:Int}:∀k,lowQ Ms l c k≤256*k∧highQ Ms l c k≤256*k
 | 0=>by simp[lowQ,highQ]
 | k+1=>by
  obtain ⟨h1,h2⟩:=low_le (Ms:=Ms) (l:=l) (c:=c) k
  have h3:=aboveM_le (Ms[(l[k]?.getD 0).toNat]?.getD 0) 0
  have h4:greatM (Ms[(l[k]?.getD 0).toNat]?.getD 0)≤256:=by
   by_cases h:0<greatM (Ms[(l[k]?.getD 0).toNat]?.getD 0)
   ·exact (great_at h).1
   ·omega
  simp only[lowQ,highQ]
  constructor <;> (split <;> omega)
end
end Go.Proofs.YtcblpobiefmjmaaGreat
