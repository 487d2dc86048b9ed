/- Texts J177 to J193 of this proof, in one file. -/
import Derived.Test.YtpkghjoippcjeaaGreatDoorW01
import Derived.Test.YtpkghjoippcjeaaGreatDoorW55
import Derived.Test.YtpkghjoippcjeaaGreatDoorW57
import Derived.Test.YtpkghjoippcjeaaGreatDoorW60
import Derived.Test.YtpkghjoippcjeaaGreatDoorW61
import Derived.Test.YtpkghjoippcjeaaGreatDoorW62
import Derived.Maps.OwnSet
import Derived.Below
import Derived.StringKeys
import Derived.Carry
import Derived.Laws.EntriesVeiled
namespace Go.Proofs.YtpkghjoippcjeaaGreatDoor
set_option maxRecDepth 100000
set_option maxHeartbeats 16000000
section
end
section
end
section
def sigT:Nat→(Nat→Int)→Int
 | 0,_=>0
 | k+1,f=>sigT k f+f k
theorem sigT_congr {n:Nat} {f g:Nat→Int} (h:∀i,i<n→f i=g i):sigT n f=sigT n g:=by
 induction n with
 | zero=>rfl
 | succ n ih=>unfold sigT;rw[ih (fun i hi=>h i (by omega)),h n (by omega)]
theorem sigT_zero (n:Nat):sigT n (fun _=>0)=0:=by
 induction n with
 | zero=>rfl
 | succ n ih=>unfold sigT;rw[ih];rfl
theorem sigT_mul (n:Nat) (c:Int) (f:Nat→Int):sigT n (fun i=>c*f i)=c*sigT n f:=by
 induction n with
 | zero=>exact (Int.mul_zero c).symm
 | succ n ih=>unfold sigT;rw[ih,Int.mul_add]
theorem sigT_add (n:Nat) (f g:Nat→Int):sigT n (fun i=>f i+g i)=sigT n f+sigT n g:=by
 induction n with
 | zero=>rfl
 | succ n ih =>
  show sigT n (fun i=>f i+g i)+(f n+g n)=(sigT n f+f n)+(sigT n g+g n)
  rw[ih];omega
theorem sigT_sub (n:Nat) (f g:Nat→Int):sigT n (fun i=>f i - g i)=sigT n f - sigT n g:=by
 induction n with
 | zero=>rfl
 | succ n ih =>
  show sigT n (fun i=>f i - g i)+(f n - g n)=(sigT n f+f n) - (sigT n g+g n)
  rw[ih];omega
def skipN (p j:Nat):Nat:=if j<p then j else j+1
theorem sigT_skip (f:Nat→Int) {p:Nat}:∀m,p≤m→sigT (m+1) f=sigT m (fun j=>f (skipN p j))+f p:=by
 intro m
 induction m with
 | zero =>
  intro h
  obtain rfl:p=0:=by omega
  rfl
 | succ m ih =>
  intro h
  by_cases e:p=m+1
  ·subst e
   rw[show sigT (m+1+1) f=sigT (m+1) f+f (m+1) from rfl,sigT_congr (g:=fun j=>f (skipN (m+1) j)) (fun i hi=>by unfold skipN;rw[if_pos hi])]
  ·rw[show sigT (m+1+1) f=sigT (m+1) f+f (m+1) from rfl,ih (by omega),show sigT (m+1) (fun j=>f (skipN p j))=sigT m (fun j=>f (skipN p j))+f (skipN p m) from rfl]
   rw[show skipN p m=m+1 by unfold skipN;rw[if_neg (by omega)]]
   omega
theorem under (r:Nat):∀(c:Nat) (A:Nat→Nat→Int),r<c→∃x:Nat→Int,(∃j,j<c∧x j≠0)∧∀i,i<r→sigT c (fun j=>A i j*x j)=0:=by
 induction r with
 | zero=>intro c A h;exact ⟨fun _=>1,⟨0,h,by decide⟩,fun i hi=>by omega⟩
 | succ r ih =>
  intro c A h
  by_cases hz:∀j,j<c→A r j=0
  ·obtain ⟨x,hx,he⟩:=ih c A (by omega)
   refine ⟨x,hx,fun i hi=>?_⟩
   by_cases e:i=r
   ·subst e
    rw[sigT_congr (g:=fun _=>0) (fun j hj=>by rw[hz j hj,Int.zero_mul]),sigT_zero]
   ·exact he i (by omega)
  ·have hp:∃p,p<c∧A r p≠0:=Classical.byContradiction fun hn=>hz fun j hj=>Classical.byContradiction fun h0=>hn ⟨j,hj,h0⟩
   obtain ⟨p,hpc,hp0⟩:=hp
   obtain ⟨m,rfl⟩:∃m,c=m+1:=⟨c - 1,by omega⟩
   obtain ⟨y,⟨k,hk,hyk⟩,he⟩:=ih m (fun i j=>A r p*A i (skipN p j) - A i p*A r (skipN p j)) (by omega)
   have hsk:∀j,skipN p j≠p:=fun j=>by unfold skipN;split <;> omega
   have hpre:∀j,(if skipN p j<p then skipN p j else skipN p j - 1)=j:=fun j=>by
    unfold skipN
    by_cases h1:j<p
    ·rw[if_pos h1,if_pos h1]
    ·rw[if_neg h1,if_neg (by omega)];omega
   refine ⟨fun q=>if q=p then -sigT m (fun j=>A r (skipN p j)*y j) else A r p*y (if q<p then q else q - 1),⟨skipN p k,by unfold skipN;split <;> omega,?_⟩,fun i hi=>?_⟩
   ·show (if skipN p k=p then _ else A r p*y (if skipN p k<p then skipN p k else skipN p k - 1))≠0
    rw[if_neg (hsk k),hpre]
    exact Int.mul_ne_zero hp0 hyk
   ·rw[sigT_skip (p:=p) _ m (by omega)]
    have e1:sigT m (fun j=>(fun q=>A i q*(if q=p then -sigT m (fun j=>A r (skipN p j)*y j) else A r p*y (if q<p then q else q - 1))) (skipN p j))=sigT m (fun j=>A r p*(A i (skipN p j)*y j)):=sigT_congr fun j _=>by
     show A i (skipN p j)*(if skipN p j=p then _ else A r p*y (if skipN p j<p then skipN p j else skipN p j - 1))=_
     rw[if_neg (hsk j),hpre,Int.mul_left_comm]
    rw[e1]
    show _+A i p*(if p=p then _ else _)=0
    rw[if_pos rfl,sigT_mul]
    have e2:∀i,sigT m (fun j=>(A r p*A i (skipN p j) - A i p*A r (skipN p j))*y j)=A r p*sigT m (fun j=>A i (skipN p j)*y j) - A i p*sigT m (fun j=>A r (skipN p j)*y j):=fun i=>by
     rw[← sigT_mul,← sigT_mul,← sigT_sub]
     exact sigT_congr fun j _=>by rw[Int.sub_mul,Int.mul_assoc,Int.mul_assoc]
    rw[Int.mul_neg,← Int.sub_eq_add_neg,← e2]
    by_cases e:i=r
    ·subst e
     rw[sigT_congr (g:=fun _=>0) (fun j _=>by rw[Int.sub_self,Int.zero_mul]),sigT_zero]
    ·exact he i (by omega)
end
section
theorem sigT_single {n i:Nat} {f:Nat→Int} (hi:i<n) (h:∀j,j<n→j≠i→f j=0):sigT n f=f i:=by
 obtain ⟨m,rfl⟩:∃m,n=m+1:=⟨n - 1,by omega⟩
 rw[sigT_skip f (p:=i) m (by omega),sigT_congr (g:=fun _=>0) (fun j hj=>h _ (by unfold skipN;split <;> omega) (by unfold skipN;split <;> omega)),sigT_zero,Int.zero_add]
theorem sigT_split (n m:Nat) (f:Nat→Int):sigT (n+m) f=sigT n f+sigT m (fun j=>f (n+j)):=by
 induction m with
 | zero=>exact (Int.add_zero _).symm
 | succ m ih=>rw[show sigT (n+(m+1)) f=sigT (n+m) f+f (n+m) from rfl,ih,show sigT (m+1) (fun j=>f (n+j))=sigT m (fun j=>f (n+j))+f (n+m) from rfl];omega
theorem sigT_perm:∀(n:Nat) (p:Nat→Nat) (f:Nat→Int),(∀i,i<n→p i<n)→(∀i j,i<n→j<n→p i=p j→i=j)→sigT n (fun i=>f (p i))=sigT n f:=by
 intro n
 induction n with
 | zero=>intros;rfl
 | succ n ih =>
  intro p f hp hj
  rw[sigT_skip f (p:=p n) n (by have:=hp n (by omega);omega)]
  have hne:∀i,i<n→p i≠p n:=fun i hi e=>by have:=hj i n (by omega) (by omega) e;omega
  rw[← ih (fun i=>if p i<p n then p i else p i - 1) (fun j=>f (skipN (p n) j)) (fun i hi=>by
   have:=hp i (by omega);have:=hp n (by omega);have:=hne i hi
   show (if p i<p n then p i else p i - 1)<n
   split <;> omega) (fun i j hi hj' e=>by
   have h1:=hne i hi
   have h2:=hne j hj'
   have e':(if p i<p n then p i else p i - 1)=(if p j<p n then p j else p j - 1):=e
   exact hj i j (by omega) (by omega) (by split at e' <;> split at e' <;> omega))]
  rw[show sigT (n+1) (fun i=>f (p i))=sigT n (fun i=>f (p i))+f (p n) from rfl]
  congr 1
  exact sigT_congr fun i hi=>by
   have h1:=hne i hi
   show f (p i)=f (skipN (p n) (if p i<p n then p i else p i - 1))
   congr 1
   unfold skipN
   by_cases h:p i<p n
   ·rw[if_pos h,if_pos h]
   ·rw[if_neg h,if_neg (by omega)];omega
theorem nat_nodup_le:∀(N:Nat) (l:List Nat),l.Nodup→(∀x,x∈l→x<N)→l.length≤N:=by
 intro N
 induction N with
 | zero =>
  intro l _ h
  cases l with
  | nil=>exact Nat.le_refl _
  | cons a l=>exact absurd (h a List.mem_cons_self) (by omega)
 | succ N ih =>
  intro l hn h
  by_cases hm:N∈l
  ·have:=ih (l.erase N) (hn.erase N) (fun x hx=>by
    obtain ⟨a,b⟩:=(hn.mem_erase_iff).1 hx
    have:=h x b
    omega)
   rw[List.length_erase_of_mem hm] at this
   omega
  ·have:=ih l hn (fun x hx=>by
    have h1:=h x hx
    have:x≠N:=fun e=>hm (e▸hx)
    omega)
   omega
theorem two_ind {n a b:Nat} (ha:a<n) (hb:b<n) (x:Nat→Int):sigT (n+n) (fun j=>((if j=a then 1 else 0)+(if j=n+b then 1 else 0))*x j)=x a+x (n+b):=by
 rw[sigT_split,sigT_single (i:=a) ha (fun j hj hne=>by rw[if_neg hne,if_neg (by omega)];simp),sigT_single (i:=b) hb (fun j hj hne=>by rw[if_neg (by omega),if_neg (by omega)];simp)]
 rw[if_pos rfl,if_neg (by omega),if_neg (by omega),if_pos rfl,Int.add_zero,Int.zero_add,Int.one_mul,Int.one_mul]
theorem few_terms {n k:Nat} (h1:1≤n) (p:Nat→Nat→Nat) (e:Nat→Nat) (hp:∀t i,t<k→i<n→p t i<n) (hj:∀t i j,t<k→i<n→j<n→p t i=p t j→i=j)
  (he:∀t,t<k→e t<n) (ht:∀s t,s<t→t<k→p t (e s)≠p s (e s)):k≤(n - 1)*(n - 1)+1:=by
 refine Classical.byContradiction fun hk=>?_
 -- the cells of the zeros
 obtain ⟨E,hE⟩:∃E:Nat→Nat,∀t,E t=e t*n+p t (e t):=⟨_,fun _=>rfl⟩
 have hEd:∀t,t<k→E t / n=e t∧E t % n=p t (e t):=fun t h=>by rw[hE];exact gcell_div (hp t _ h (he t h))
 have hEi:∀s t,s<k→t<k→E s=E t→s=t:=fun s t hs ht' h=>by
  have a:=hEd s hs
  have b:=hEd t ht'
  rw[h] at a
  have e1:e s=e t:=a.1.symm.trans b.1
  have e2:p s (e s)=p t (e t):=a.2.symm.trans b.2
  rcases Nat.lt_trichotomy s t with l|l|l
  ·exact absurd (by rw[e2,e1]) (ht s t l ht')
  ·exact l
  ·exact absurd (by rw[← e2,e1]) (ht t s l hs)
 obtain ⟨L,hL⟩:∃L,L=(List.range k).map E:=⟨_,rfl⟩
 have hLm:∀q,q∈L↔∃t,t<k∧E t=q:=fun q=>by
  rw[hL,List.mem_map]
  exact ⟨fun ⟨t,a,b⟩=>⟨t,List.mem_range.1 a,b⟩,fun ⟨t,a,b⟩=>⟨t,List.mem_range.2 a,b⟩⟩
 have hLn:L.Nodup:=by
  rw[hL,List.nodup_iff_pairwise_ne,List.pairwise_map]
  refine (List.pairwise_lt_range (n:=k)).imp_of_mem (fun {a b} ha hb hab h=>?_)
  have:=hEi a b (List.mem_range.1 ha) (List.mem_range.1 hb) h
  omega
 obtain ⟨R,hR⟩:∃R,R=(List.range (n*n)).filter fun q=>!L.contains q:=⟨_,rfl⟩
 have hRm:∀q,q∈R↔q<n*n∧q ∉ L:=fun q=>by
  rw[hR,List.mem_filter,List.mem_range,Bool.not_eq_true',List.contains_eq_mem,decide_eq_false_iff_not]
 have hRn:R.Nodup:=by rw[hR];exact List.nodup_range.filter _
 have hlen:R.length+k≤n*n:=by
  have:=nat_nodup_le (n*n) (R++L) (List.nodup_append.2 ⟨hRn,hLn,fun a ha b hb h=>((hRm a).1 ha).2 (h▸hb)⟩) (fun q hq=>by
   rcases List.mem_append.1 hq with h|h
   ·exact ((hRm q).1 h).1
   ·obtain ⟨t,a,rfl⟩:=(hLm q).1 h
    rw[hE]
    exact gcell_lt (he t a) (hp t _ a (he t a)))
  rw[List.length_append,hL,List.length_map,List.length_range] at this
  rw[hL] at *
  exact this
 have hsq:n*n=(n - 1)*(n - 1)+1+(n+n) - 2:=by
  obtain ⟨m,rfl⟩:∃m,n=m+1:=⟨n - 1,by omega⟩
  rw[Nat.add_sub_cancel,Nat.add_mul,Nat.mul_add]
  omega
 obtain ⟨x,⟨j0,hj0,hx0⟩,hs⟩:=under (R.length+2) (n+n) (fun i j=>if i<R.length then (if j=(R[i]?.getD 0) / n then 1 else 0)+(if j=n+(R[i]?.getD 0) % n then 1 else 0) else if i=R.length then (if j=0 then 1 else 0) else 1) (by omega)
 have hRz:∀q,q∈R→x (q / n)+x (n+q % n)=0:=fun q hq=>by
  obtain ⟨i,hi,rfl⟩:=List.getElem_of_mem hq
  have:=hs i (by omega)
  rw[sigT_congr (g:=fun j=>((if j=R[i] / n then 1 else 0)+(if j=n+R[i] % n then 1 else 0))*x j) (fun j _=>by rw[if_pos hi,List.getElem?_eq_getElem hi,Option.getD_some]),
   two_ind (Nat.div_lt_of_lt_mul ((hRm _).1 hq).1) (Nat.mod_lt _ h1)] at this
  exact this
 have hx00:x 0=0:=by
  have:=hs R.length (by omega)
  rw[sigT_congr (g:=fun j=>(if j=0 then 1 else 0)*x j) (fun j _=>by rw[if_neg (by omega),if_pos rfl]),sigT_single (i:=0) (by omega) (fun j _ h=>by rw[if_neg h,Int.zero_mul]),if_pos rfl,Int.one_mul] at this
  exact this
 have hall:sigT n x+sigT n (fun j=>x (n+j))=0:=by
  have:=hs (R.length+1) (by omega)
  rw[sigT_congr (g:=x) (fun j _=>by rw[if_neg (by omega),if_neg (by omega),Int.one_mul]),sigT_split] at this
  exact this
 have hrow:∀t,t<k→sigT n (fun i=>x i+x (n+p t i))=0:=fun t h=>by
  rw[sigT_add,sigT_perm n (p t) (fun j=>x (n+j)) (fun i hi=>hp t i h hi) (fun i j a b=>hj t i j h a b)]
  exact hall
 have hEz:∀d t,t<k→k - t≤d→x (e t)+x (n+p t (e t))=0:=by
  intro d
  induction d with
  | zero=>intro t h h2;omega
  | succ d ih =>
   intro t h _
   have:=hrow t h
   rw[sigT_single (i:=e t) (he t h) (fun i hi hne=>by
    by_cases hm:i*n+p t i∈L
    ·obtain ⟨s,hsk,es⟩:=(hLm _).1 hm
     have a:=hEd s hsk
     rw[es,(gcell_div (hp t i h hi)).1,(gcell_div (hp t i h hi)).2] at a
     obtain ⟨a1,a2⟩:=a
     have hts:t<s:=by
      rcases Nat.lt_trichotomy s t with l|l|l
      ·exact absurd (by rw[← a1,a2,← a1]) (ht s t l h)
      ·subst l;exact absurd a1 hne
      ·exact l
     have:=ih s hsk (by omega)
     rw[← a2,← a1] at this
     exact this
    ·have:=hRz _ ((hRm _).2 ⟨gcell_lt hi (hp t i h hi),hm⟩)
     rw[(gcell_div (hp t i h hi)).1,(gcell_div (hp t i h hi)).2] at this
     exact this)] at this
   exact this
 have hM:∀i j,i<n→j<n→x i+x (n+j)=0:=fun i j hi hj'=>by
  by_cases hm:i*n+j∈L
  ·obtain ⟨s,hsk,es⟩:=(hLm _).1 hm
   have a:=hEd s hsk
   rw[es,(gcell_div hj').1,(gcell_div hj').2] at a
   have:=hEz k s hsk (by omega)
   rw[← a.2,← a.1] at this
   exact this
  ·have:=hRz _ ((hRm _).2 ⟨gcell_lt hi hj',hm⟩)
   rw[(gcell_div hj').1,(gcell_div hj').2] at this
   exact this
 have hb:∀j,j<n→x (n+j)=0:=fun j hj'=>by have:=hM 0 j h1 hj';omega
 have ha:∀i,i<n→x i=0:=fun i hi=>by have:=hM i 0 hi h1;have:=hb 0 h1;omega
 refine hx0 ?_
 by_cases h:j0<n
 ·exact ha j0 h
 ·obtain ⟨d,rfl⟩:∃d,j0=n+d:=⟨j0 - n,by omega⟩
  exact hb d (by omega)
end
section
def sigL:List Nat→(Nat→Int)→Int
 | [],_=>0
 | x :: l,f=>f x+sigL l f
theorem sigL_erase {f:Nat→Int} {x:Nat}:∀{l:List Nat},x∈l→sigL l f=f x+sigL (l.erase x) f
 | y :: l,h=>by
  by_cases e:y=x
  ·subst e;rw[List.erase_cons_head];rfl
  ·rw[List.erase_cons_tail (by simpa using e)]
   have h2:x∈l:=by
    rcases List.mem_cons.1 h with h|h
    ·exact absurd h.symm e
    ·exact h
   show f y+sigL l f=f x+(f y+sigL (l.erase x) f)
   rw[sigL_erase h2];omega
theorem sigL_le {f:Nat→Int} (h0:∀i,0≤f i):∀(n:Nat) (l:List Nat),l.Nodup→(∀x,x∈l→x<n)→sigL l f≤sigT n f:=by
 intro n
 induction n with
 | zero =>
  intro l _ h
  cases l with
  | nil=>exact Int.le_refl _
  | cons a l=>exact absurd (h a List.mem_cons_self) (by omega)
 | succ n ih =>
  intro l hn h
  show _≤sigT n f+f n
  by_cases hm:n∈l
  ·have:=ih (l.erase n) (hn.erase n) (fun x hx=>by
    obtain ⟨a,b⟩:=(hn.mem_erase_iff).1 hx
    have:=h x b
    omega)
   rw[sigL_erase hm]
   omega
  ·have:=ih l hn (fun x hx=>by
    have h1:=h x hx
    have:x≠n:=fun e=>hm (e▸hx)
    omega)
   have:=h0 n
   omega
theorem sigL_pos {f:Nat→Int} (h0:∀i,0≤f i):∀l:List Nat,0≤sigL l f
 | []=>Int.le_refl _
 | x :: l=>by have:=sigL_pos h0 l;have:=h0 x;show 0≤f x+sigL l f;omega
theorem sigL_ge {f:Nat→Int} (h0:∀i,0≤f i):∀(n:Nat) (l:List Nat),(∀j,j<n→f j≠0→j∈l)→sigT n f≤sigL l f:=by
 intro n
 induction n with
 | zero=>intro l _;exact sigL_pos h0 l
 | succ n ih =>
  intro l h
  show sigT n f+f n≤_
  by_cases e:f n=0
  ·have:=ih l (fun j hj=>h j (by omega))
   omega
  ·have hm:=h n (by omega) e
   have:=ih (l.erase n) (fun j hj hf=>(List.mem_erase_of_ne (by omega)).2 (h j (by omega) hf))
   rw[sigL_erase hm]
   omega
theorem sigL_add (f g:Nat→Int):∀l:List Nat,sigL l (fun i=>f i+g i)=sigL l f+sigL l g
 | []=>rfl
 | x :: l=>by
  show f x+g x+sigL l (fun i=>f i+g i)=(f x+sigL l f)+(g x+sigL l g)
  rw[sigL_add f g l];omega
theorem sigL_zero:∀l:List Nat,sigL l (fun _=>0)=0
 | []=>rfl
 | x :: l=>by show 0+sigL l (fun _=>0)=0;rw[sigL_zero l];rfl
theorem sigL_swap (g:Nat→Nat→Int) (N:List Nat):∀A:List Nat,sigL A (fun t=>sigL N (fun y=>g t y))=sigL N (fun y=>sigL A (fun t=>g t y))
 | []=>(sigL_zero N).symm
 | x :: A=>by
  show sigL N (fun y=>g x y)+sigL A (fun t=>sigL N (fun y=>g t y))=sigL N (fun y=>g x y+sigL A (fun t=>g t y))
  rw[sigL_add,sigL_swap g N A]
theorem sigL_const_ge {f:Nat→Int} {c:Int}:∀l:List Nat,(∀x,x∈l→c≤f x)→c*(l.length:Int)≤sigL l f
 | [],_=>by show c*0≤0;rw[Int.mul_zero];exact Int.le_refl _
 | x :: l,h=>by
  have:=sigL_const_ge l (fun y hy=>h y (List.mem_cons_of_mem _ hy))
  have:=h x List.mem_cons_self
  show _≤f x+sigL l f
  rw[List.length_cons,Int.natCast_add,Int.mul_add]
  omega
theorem sigL_const_le {f:Nat→Int} {c:Int}:∀l:List Nat,(∀x,x∈l→f x≤c)→sigL l f≤c*(l.length:Int)
 | [],_=>by show 0≤c*0;rw[Int.mul_zero];exact Int.le_refl _
 | x :: l,h=>by
  have:=sigL_const_le l (fun y hy=>h y (List.mem_cons_of_mem _ hy))
  have:=h x List.mem_cons_self
  show f x+sigL l f≤_
  rw[List.length_cons,Int.natCast_add,Int.mul_add]
  omega
def posSets (n:Nat) (m:Nat→Nat→Int):List (List Int):=(List.range n).map fun i=>((List.range n).filter fun j=>decide (0<m i j)).map fun j:Nat=>(j:Int)
theorem posSets_len (n:Nat) (m:Nat→Nat→Int):(posSets n m).length=n:=by simp[posSets]
theorem posSets_mem {n:Nat} {m:Nat→Nat→Int} {i:Nat} (hi:i<n) {y:Int}:y∈(posSets n m)[i]?.getD []↔∃j:Nat,j<n∧0<m i j∧y=(j:Int):=by
 unfold posSets
 rw[List.getElem?_map,List.getElem?_range hi,Option.map_some,Option.getD_some,List.mem_map]
 constructor
 ·rintro ⟨j,hj,rfl⟩
  obtain ⟨a,b⟩:=List.mem_filter.1 hj
  exact ⟨j,List.mem_range.1 a,of_decide_eq_true b,rfl⟩
 ·rintro ⟨j,a,b,rfl⟩
  exact ⟨j,List.mem_filter.2 ⟨List.mem_range.2 a,decide_eq_true b⟩,rfl⟩
theorem pos_perm {n:Nat} {m:Nat→Nat→Int} {S:Int} (hS:0<S) (h0:∀i j,0≤m i j) (hr:∀i,i<n→sigT n (fun j=>m i j)=S) (hc:∀j,j<n→sigT n (fun i=>m i j)=S) (hz:∀i j,n≤j→m i j=0) :
  ∃p:Nat→Nat,(∀i,i<n→p i<n)∧(∀i j,i<n→j<n→p i=p j→i=j)∧∀i,i<n→0<m i (p i):=by
 rcases rp_ha (posSets n m) with ⟨l,g,_,_,hl⟩|⟨A,_,_,hv,_⟩
 ·have hlen:l.length=n:=hl.len.trans (posSets_len n m)
  have hm:∀i,i<n→∃j:Nat,j<n∧0<m i j∧l[i]?.getD 0=(j:Int):=fun i hi=>(posSets_mem hi).1 (hl.mem i (by rw[posSets_len];exact hi))
  refine ⟨fun i=>(l[i]?.getD 0).toNat,fun i hi=>?_,fun i j hi hj e=>?_,fun i hi=>?_⟩
  ·obtain ⟨j,a,_,e⟩:=hm i hi
   show (l[i]?.getD 0).toNat<n
   rw[e];exact a
  ·obtain ⟨a,_,_,ea⟩:=hm i hi
   obtain ⟨b,_,_,eb⟩:=hm j hj
   have e':(l[i]?.getD 0).toNat=(l[j]?.getD 0).toNat:=e
   have e2:l[i]?.getD 0=l[j]?.getD 0:=by omega
   rw[List.getElem?_eq_getElem (by omega),List.getElem?_eq_getElem (by omega),Option.getD_some,Option.getD_some] at e2
   exact (List.getElem_inj hl.nodup).1 e2
  ·obtain ⟨j,_,b,e⟩:=hm i hi
   show 0<m i (l[i]?.getD 0).toNat
   rw[e];exact b
 ·exfalso
  obtain ⟨N,hN,hA⟩:=hv.few
  have hlt:∀t,t∈A→t<n:=fun t ht=>by have:=hv.lt t ht;rwa [posSets_len] at this
  have h1:S*(A.length:Int)≤sigL A (fun t=>sigL (N.map Int.toNat) (fun y=>m t y)):=sigL_const_ge A fun t ht=>by
   rw[← hr t (hlt t ht)]
   refine sigL_ge (h0 t) n _ fun j hj hf=>?_
   have:=h0 t j
   exact List.mem_map.2 ⟨(j:Int),hA t ht _ ((posSets_mem (hlt t ht)).2 ⟨j,hj,by omega,rfl⟩),rfl⟩
  rw[sigL_swap] at h1
  have h2:sigL (N.map Int.toNat) (fun y=>sigL A (fun t=>m t y))≤S*((N.map Int.toNat).length:Int):=sigL_const_le _ fun y _=>by
   by_cases h:y<n
   ·rw[← hc y h]
    exact sigL_le (fun i=>h0 i y) n A hv.nodup hlt
   ·have:sigL A (fun t=>m t y)≤0*(A.length:Int):=sigL_const_le A fun t _=>by rw[hz t y (by omega)];exact Int.le_refl _
    rw[Int.zero_mul] at this
    omega
  rw[List.length_map] at h2
  have h3:=Int.mul_lt_mul_of_pos_left (show (N.length:Int)<(A.length:Int) by omega) hS
  omega
end
section
def lessP (m:Nat→Nat→Int) (p:Nat→Nat) (x:Int) (i j:Nat):Int:=m i j - if j=p i then x else 0
structure SumM (n:Nat) (S:Int) (m:Nat→Nat→Int):Prop where
 pos:∀i j,0≤m i j
 row:∀i,i<n→sigT n (fun j=>m i j)=S
 col:∀j,j<n→sigT n (fun i=>m i j)=S
 out:∀i j,n≤j→m i j=0
theorem SumM.less {n:Nat} {S x:Int} {m:Nat→Nat→Int} {p:Nat→Nat} (M:SumM n S m) (hp:∀i,i<n→p i<n) (hj:∀i j,i<n→j<n→p i=p j→i=j) (hx:∀i,i<n→x≤m i (p i)) :
  (∀i j,i<n→j<n→0≤lessP m p x i j)∧(∀i,i<n→sigT n (fun j=>lessP m p x i j)=S - x)∧(∀j,j<n→sigT n (fun i=>lessP m p x i j)=S - x):=by
 refine ⟨fun i j hi hj'=>?_,fun i hi=>?_,fun j hj'=>?_⟩
 ·unfold lessP
  split
  ·rename_i e;subst e;have:=hx i hi;omega
  ·have:=M.pos i j;omega
 ·unfold lessP
  rw[sigT_sub,M.row i hi,sigT_single (i:=p i) (hp i hi) (fun j _ h=>by rw[if_neg h]),if_pos rfl]
 ·unfold lessP
  obtain ⟨i,hi,e⟩:=inj_onto (f:=p) hp hj hj'
  rw[sigT_sub,M.col j hj',sigT_single (i:=i) hi (fun k hk h=>by
   rw[if_neg]
   intro e2
   exact h (hj k i hk hi (e2.symm.trans e.symm))),if_pos e.symm]
theorem less_zero {n:Nat} {x:Int} {m:Nat→Nat→Int} {p:Nat→Nat} (hpos:∀i,i<n→0<m i (p i)) {i j:Nat} (hi:i<n) (h:m i j=0):lessP m p x i j=0:=by
 unfold lessP
 rw[if_neg,h];· rfl
 intro e
 have:=hpos i hi
 rw[← e,h] at this
 omega
structure Rounds (n k:Nat) (m:Nat→Nat→Nat→Int) (p:Nat→Nat→Nat) (x:Nat→Int):Prop where
 lt:∀t i,t<k→i<n→p t i<n
 inj:∀t i j,t<k→i<n→j<n→p t i=p t j→i=j
 pos:∀t i,t<k→i<n→0<m t i (p t i)
 next:∀t i j,t<k→i<n→j<n→m (t+1) i j=lessP (m t) (p t) (x t) i j
 hit:∀t,t<k→∃i,i<n∧m t i (p t i)=x t
theorem Rounds.zero {n k:Nat} {m:Nat→Nat→Nat→Int} {p:Nat→Nat→Nat} {x:Nat→Int} (R:Rounds n k m p x) {i j s:Nat} (hi:i<n) (hj:j<n) (h:m s i j=0):∀d,s+d≤k→m (s+d) i j=0:=by
 intro d
 induction d with
 | zero=>intro _;exact h
 | succ d ih =>
  intro hd
  rw[← Nat.add_assoc,R.next (s+d) i j (by omega) hi hj]
  exact less_zero (n:=n) (fun i hi=>R.pos (s+d) i (by omega) hi) hi (ih (by omega))
theorem Rounds.few {n k:Nat} {m:Nat→Nat→Nat→Int} {p:Nat→Nat→Nat} {x:Nat→Int} (R:Rounds n k m p x) (h1:1≤n):k≤(n - 1)*(n - 1)+1:=by
 have hit:∀t,∃i,t<k→i<n∧m t i (p t i)=x t:=fun t=>by
  by_cases h:t<k
  ·obtain ⟨i,a⟩:=R.hit t h
   exact ⟨i,fun _=>a⟩
  ·exact ⟨0,fun h2=>absurd h2 h⟩
 obtain ⟨e,he⟩:=Classical.axiomOfChoice hit
 refine few_terms h1 p e R.lt R.inj (fun t h=>(he t h).1) fun s t hst ht hp=>?_
 obtain ⟨a,b⟩:=he s (by omega)
 have z:m (s+1) (e s) (p s (e s))=0:=by
  rw[R.next s _ _ (by omega) a (R.lt s _ (by omega) a)]
  unfold lessP
  rw[if_pos rfl,b,Int.sub_self]
 have z2:=R.zero a (R.lt s _ (by omega) a) z (t - (s+1)) (by omega)
 rw[show s+1+(t - (s+1))=t by omega,← hp] at z2
 have:=R.pos t _ ht a
 omega
end
section
def loomS (n:Nat) (cs:List Int) (w:Nat→Int) (i j:Nat):Int:=if i<n∧j<n then w (nat cs (i*n+j)) else 0
theorem loomS_sum {n:Nat} {cs:List Int} (L:Latin n cs) {w:Nat→Int} (hw:∀x,0≤w x):SumM n (sigT n w) (loomS n cs w) where
 pos i j:=by unfold loomS;split;exact hw _;exact Int.le_refl _
 row i hi:=by
  rw[← sigT_perm n (fun j=>nat cs (i*n+j)) w (fun j hj=>L.lt hi hj) (fun j k hj hk h=>L.rinj hi hj hk h)]
  exact sigT_congr fun j hj=>by unfold loomS;rw[if_pos ⟨hi,hj⟩]
 col j hj:=by
  rw[← sigT_perm n (fun i=>nat cs (i*n+j)) w (fun i hi=>L.lt hi hj) (fun i k hi hk h=>L.cinj hi hj hk h)]
  exact sigT_congr fun i hi=>by unfold loomS;rw[if_pos ⟨hi,hj⟩]
 out i j h:=by unfold loomS;rw[if_neg (by omega)]
theorem loom_perm {n:Nat} {cs:List Int} (L:Latin n cs) {x:Nat} (hx:x<n):∃p:Nat→Nat,(∀i,i<n→p i<n)∧(∀i j,i<n→j<n→p i=p j→i=j)∧∀i j,i<n→j<n→(nat cs (i*n+j)=x↔p i=j):=by
 have hit:∀i,∃j,i<n→j<n∧nat cs (i*n+j)=x:=fun i=>by
  by_cases h:i<n
  ·obtain ⟨j,a⟩:=L.ron h hx
   exact ⟨j,fun _=>a⟩
  ·exact ⟨0,fun h2=>absurd h2 h⟩
 obtain ⟨p,hp⟩:=Classical.axiomOfChoice hit
 refine ⟨p,fun i hi=>(hp i hi).1,fun i j hi hj e=>?_,fun i j hi hj=>⟨fun h=>?_,fun h=>?_⟩⟩
 ·have a:=hp i hi
  have b:=hp j hj
  rw[← e] at b
  exact L.cinj hi a.1 hj (a.2.trans b.2.symm)
 ·exact L.rinj hi (hp i hi).1 hj ((hp i hi).2.trans h.symm)
 ·rw[← h];exact (hp i hi).2
theorem loom_total {n:Nat} {cs:List Int} (L:Latin n cs) {w:Nat→Int} {i j:Nat} (hi:i<n) (hj:j<n):loomS n cs w i j=sigT n (fun x=>if nat cs (i*n+j)=x then w x else 0):=by
 rw[sigT_single (i:=nat cs (i*n+j)) (L.lt hi hj) (fun x _ h=>by rw[if_neg (fun e=>h e.symm)]),if_pos rfl]
 unfold loomS;rw[if_pos ⟨hi,hj⟩]
end
section
open Go Go.RowKit Go.Maps
def valElem (v:Value):Option (DataW Value × List MemPlace):=some (.held v,[])
section
variable {α:Type} {P:Program} {k:TypeId} {κ:α→Lit} {b n:Nat} {w:World}
def MapV (w:World) (P:Program) (k:TypeId) (κ:α→Lit) (b n:Nat) (g:α→Option Value):Prop :=
 ∃D:DataW Value,w.ownsMap P k valElem b n D∧∀x,has D (κ x)=(g x).isSome∧∀c,g x=some c→∀z,D.atKey (κ x) z = .held c
theorem MapV.lt {g:α→Option Value} (h:MapV w P k κ b n g):b<w.heap.size:=by obtain ⟨D,h1,_⟩:=h;exact h1.lt
theorem MapV.block {g:α→Option Value} (h:MapV w P k κ b n g) {w':World} (hb:w'.heap[b]?=w.heap[b]?):MapV w' P k κ b n g:=by
 obtain ⟨D,⟨es,clock,h1,r⟩,h2⟩:=h
 exact ⟨D,⟨es,clock,hb.trans h1,r⟩,h2⟩
theorem MapV.mono {g:α→Option Value} (h:MapV w P k κ b n g) {B:Nat} {w':World} (hb:Below B w w') (hlt:b<B):MapV w' P k κ b n g:=h.block (hb.block b hlt)
theorem MapV.more {g:α→Option Value} (h:MapV w P k κ b n g) {m:Nat} (hm:n≤m):MapV w P k κ b m g:=by
 obtain ⟨D,h1,h2⟩:=h
 exact ⟨D,h1.mono hm,h2⟩
theorem MapV.made:MapV (w.alloc (.map #[] 0)) P k κ w.heap.size 0 (fun _=>none):=⟨_,World.ownsMap_made _ _ _ _,fun _=>⟨rfl,fun _ h=>by cases h⟩⟩
end
section
variable {α:Type} [DecidableEq α] {P:Program} (w:World) {ops:Array Oper} {rest:List Oper} {o:Oper} {a:Act} {Q:Exit→Act→World→Prop}
theorem wpList_putV (hg:o.guard=none) (m x v:Operand) (t:TypeId) (hop:o.op=Op.mapUpdate t m x v) (k e:TypeId) (K:Keyed P k) (ht:P.underlying t=some (.map k e))
  (κ:α→Lit) (hinj:∀x y,κ x=κ y→x=y) (b n:Nat) (g:α→Option Value) (hm:a.eval m = .map (some b)) (h:MapV w P k κ b n g) (hn:n<maxLen) (key val:Value) (y:α) (hx:a.eval x=key) (hv:a.eval v=val)
  (hkey:keyOf P k key=some (κ y))
  (hK:∀w',MapV w' P k κ b (n+1) (fun z=>if z=y then some val else g z)→w.grownBy w' (some b)→wpList P ops Q rest (a.put o.dst undef) w') :
  wpList P ops Q (o :: rest) a w:=by
 obtain ⟨D,h1,h2⟩:=h
 refine wpList_mapUpdate_own w hg m x v t hop k e K ht valElem b n D hm h1 hn key val (κ y) hx hv hkey (.held val) [] rfl (fun w' h3 h4=>hK w' ⟨_,h3,fun z=>?_⟩ h4)
 by_cases e1:z=y
 ·subst e1
  dsimp only
  rw[if_pos rfl]
  exact ⟨has_put_same h1.isMap (K.key hkey) _,fun c2 e2 z2=>by cases e2;exact atKey_put_same h1.isMap (K.key hkey) _ _⟩
 ·dsimp only
  rw[if_neg e1,has_put_other (fun e2=>e1 (hinj _ _ e2))]
  exact ⟨(h2 z).1,fun c2 e2 z2=>by rw[atKey_put_other (fun e3=>e1 (hinj _ _ e3))];exact (h2 z).2 c2 e2 z2⟩
end
section
variable {α:Type} {P:Program} (w:World) {ops:Array Oper} {rest:List Oper} {o:Oper} {a:Act} {Q:Exit→Act→World→Prop}
theorem wpList_lookV (hg:o.guard=none) (m x:Operand) (t:TypeId) (hop:o.op=Op.lookup t m x true) (k e:TypeId) (K:Keyed P k) (ht:P.underlying t=some (.map k e)) (z:Value) (hz:(zeroValue e).run P w = .ok z w)
  (κ:α→Lit) (b n:Nat) (g:α→Option Value) (hm:a.eval m = .map (some b)) (h:MapV w P k κ b n g) (key:Value) (y:α) (hx:a.eval x=key) (hkey:keyOf P k key=some (κ y))
  (hK:wpList P ops Q rest (a.put o.dst (.tuple #[(g y).getD z,.bool (g y).isSome])) w) :
  wpList P ops Q (o :: rest) a w:=by
 obtain ⟨D,h1,h2⟩:=h
 refine wpList_lookup_own_ok w hg m x t hop k e K ht valElem hz (.held z) [] rfl b n D hm h1 key (κ y) hx hkey (fun v ps h3=>?_)
 rw[(h2 y).1]
 unfold valElem at h3
 simp only[Option.some.injEq,Prod.mk.injEq] at h3
 cases hgy:g y with
 | some d =>
  rw[(h2 y).2 d hgy] at h3
  have:v=d:=by have:=h3.1;injection this
  rw[this]
  rw[hgy] at hK
  exact hK
 | none =>
  have h4:has D (κ y)=false:=by rw[(h2 y).1,hgy];rfl
  rw[atKey_of_not_has h4] at h3
  have:v=z:=by have:=h3.1;injection this
  rw[this]
  rw[hgy] at hK
  exact hK
end
end
end Go.Proofs.YtpkghjoippcjeaaGreatDoor
