/- Texts J194 to J204 of this proof, in one file. -/
import Derived.Test.YtpkghjoippcjeaaGreatDoorW04
import Derived.Test.YtpkghjoippcjeaaGreatDoorW13
import Derived.Test.YtpkghjoippcjeaaGreatDoorW55
import Derived.Test.YtpkghjoippcjeaaGreatDoorW59
import Derived.Test.YtpkghjoippcjeaaGreatDoorW60
import Derived.Test.YtpkghjoippcjeaaGreatDoorW61
import Derived.Test.YtpkghjoippcjeaaGreatDoorW62
import Derived.Test.YtpkghjoippcjeaaGreatDoorW63
import Derived.Laws.CopyOwn
namespace Go.Proofs.YtpkghjoippcjeaaGreatDoor
set_option maxRecDepth 100000
set_option maxHeartbeats 16000000
section
def updF {β:Type} (c:Nat→β) (i:Nat) (x:β):Nat→β:=fun k=>if k=i then x else c k
theorem updF_same {β:Type} (c:Nat→β) (i:Nat) (x:β):updF c i x i=x:=if_pos rfl
theorem updF_other {β:Type} (c:Nat→β) {i k:Nat} (x:β) (h:k≠i):updF c i x k=c k:=if_neg h
theorem list_updF {β:Type} (d:β) (l:List β) {i:Nat} (x:β) (h:i<l.length):(fun k=>(l.set i x)[k]?.getD d)=updF (fun k=>l[k]?.getD d) i x:=by
 funext k
 unfold updF
 by_cases e:k=i
 ·subst e;rw[if_pos rfl,List.getElem?_set_self h];rfl
 ·rw[if_neg e,List.getElem?_set_ne (fun h=>e h.symm)]
structure MtG (n:Nat) (m:Nat→Nat→Int) (c:Nat→Int):Prop where
 rng:∀i,i<n→c i = -1∨∃j:Nat,j<n∧c i=(j:Int)∧m i j≠0
 inj:∀i i',i<n→i'<n→c i=c i'→c i ≠ -1→i=i'
structure KuWon (n:Nat) (m:Nat→Nat→Int) (c:Nat→Int) (s:Nat→Bool) (row:Nat) (c':Nat→Int):Prop where
 mt:MtG n m c'
 own:∃j:Nat,j<n∧c' row=(j:Int)∧s j=false
 oth:∀i,i<n→i≠row→c' i=c i∨∃j j':Nat,j<n∧j'<n∧c i=(j:Int)∧c' i=(j':Int)∧s j=false∧s j'=false
structure KuLost (n:Nat) (m:Nat→Nat→Int) (c:Nat→Int) (s:Nat→Bool) (row fixed:Nat) (s':Nat→Bool):Prop where
 sub:∀j,j<n→s j=true→s' j=true
 all:∀j,j<n→m row j≠0→s' j=true
 new:∀j,j<n→s' j=true→s j=false→∃i,i<n∧c i=(j:Int)∧(i<fixed∨∀j',j'<n→m i j'≠0→s' j'=true)
structure KuI (n:Nat) (m:Nat→Nat→Int) (c:Nat→Int) (s:Nat→Bool) (row fixed k:Nat) (s':Nat→Bool):Prop where
 sub:∀j,j<n→s j=true→s' j=true
 all:∀j,j<n→j<k→m row j≠0→s' j=true
 new:∀j,j<n→s' j=true→s j=false→∃i,i<n∧c i=(j:Int)∧(i<fixed∨∀j',j'<n→m i j'≠0→s' j'=true)
section
variable {n:Nat} {m:Nat→Nat→Int} {c:Nat→Int} {s s':Nat→Bool} {row fixed k:Nat}
theorem KuI.zero:KuI n m c s row fixed 0 s:=⟨fun _ _ h=>h,fun _ _ h=>absurd h (Nat.not_lt_zero _),fun _ _ h h2=>by rw[h] at h2;cases h2⟩
theorem KuI.done (h:KuI n m c s row fixed n s'):KuLost n m c s row fixed s':=⟨h.sub,fun j hj=>h.all j hj hj,h.new⟩
theorem KuI.skip (h:KuI n m c s row fixed k s') (hk:m row k=0∨s' k=true):KuI n m c s row fixed (k+1) s' :=
 ⟨h.sub,fun j hj hlt hm=>by
  by_cases e:j=k
  ·subst e;exact hk.resolve_left hm
  ·exact h.all j hj (by omega) hm,h.new⟩
theorem KuI.fixd (h:KuI n m c s row fixed k s') {i:Nat} (hi:i<n) (hc:c i=(k:Int)) (hf:i<fixed):KuI n m c s row fixed (k+1) (updF s' k true):=by
 have up:∀j,s' j=true→updF s' k true j=true:=fun j hj=>by
  by_cases e:j=k
  ·subst e;exact updF_same _ _ _
  ·rw[updF_other _ _ e];exact hj
 refine ⟨fun j hj h1=>up j (h.sub j hj h1),fun j hj hlt hm=>?_,fun j hj h1 h2=>?_⟩
 ·by_cases e:j=k
  ·subst e;exact updF_same _ _ _
  ·exact up j (h.all j hj (by omega) hm)
 ·by_cases e:j=k
  ·subst e;exact ⟨i,hi,hc,.inl hf⟩
  ·rw[updF_other _ _ e] at h1
   obtain ⟨i',a,b,d⟩:=h.new j hj h1 h2
   exact ⟨i',a,b,d.imp id (fun d j' hj' hm=>up j' (d j' hj' hm))⟩
theorem KuI.lost (h:KuI n m c s row fixed k s') {i:Nat} (hi:i<n) (hc:c i=(k:Int)) {s2:Nat→Bool} (L:KuLost n m c (updF s' k true) i fixed s2):KuI n m c s row fixed (k+1) s2:=by
 have up:∀j,j<n→s' j=true→s2 j=true:=fun j hj h1=>L.sub j hj (by
  by_cases e:j=k
  ·subst e;exact updF_same _ _ _
  ·rw[updF_other _ _ e];exact h1)
 refine ⟨fun j hj h1=>up j hj (h.sub j hj h1),fun j hj hlt hm=>?_,fun j hj h1 h2=>?_⟩
 ·by_cases e:j=k
  ·subst e;exact L.sub j hj (updF_same _ _ _)
  ·exact up j hj (h.all j hj (by omega) hm)
 ·by_cases e:j=k
  ·subst e
   exact ⟨i,hi,hc,.inr L.all⟩
  ·by_cases e2:s' j=true
   ·obtain ⟨i',a,b,d⟩:=h.new j hj e2 h2
    exact ⟨i',a,b,d.imp id (fun d j' hj' hm=>up j' hj' (d j' hj' hm))⟩
   ·exact L.new j hj h1 (by rw[updF_other _ _ e];simpa using e2)
theorem MtG.put {c':Nat→Int} (h:MtG n m c') (hr:row<n) (hk:k<n) (hm:m row k≠0) (hf:∀i,i<n→c' i≠(k:Int)):MtG n m (updF c' row (k:Int)):=by
 refine ⟨fun i hi=>?_,fun i i' hi hi' e hne=>?_⟩
 ·by_cases e:i=row
  ·subst e;rw[updF_same];exact .inr ⟨k,hk,rfl,hm⟩
  ·rw[updF_other _ _ e];exact h.rng i hi
 ·by_cases e1:i=row
  ·subst e1
   by_cases e2:i'=i
   ·exact e2.symm
   ·rw[updF_same,updF_other _ _ e2] at e
    exact absurd e.symm (hf i' hi')
  ·by_cases e2:i'=row
   ·subst e2
    rw[updF_same,updF_other _ _ e1] at e
    exact absurd e (hf i hi)
   ·rw[updF_other _ _ e1] at hne
    rw[updF_other _ _ e1,updF_other _ _ e2] at e
    exact h.inj i i' hi hi' e hne
theorem MtG.gone (h:MtG n m c) (hr:row<n):MtG n m (updF c row (-1)):=by
 refine ⟨fun i hi=>?_,fun i i' hi hi' e hne=>?_⟩
 ·by_cases e:i=row
  ·subst e;rw[updF_same];exact .inl rfl
  ·rw[updF_other _ _ e];exact h.rng i hi
 ·by_cases e1:i=row
  ·subst e1;exact absurd (updF_same _ _ _) hne
  ·by_cases e2:i'=row
   ·subst e2;rw[updF_same] at e;exact absurd e hne
   ·rw[updF_other _ _ e1] at hne
    rw[updF_other _ _ e1,updF_other _ _ e2] at e
    exact h.inj i i' hi hi' e hne
theorem KuI.free (h:KuI n m c s row fixed k s') (hM:MtG n m c) (hr:row<n) (hk:k<n) (hm:m row k≠0) (hs:s' k=false) (hf:∀i,i<n→c i≠(k:Int)):KuWon n m c s row (updF c row (k:Int)):=by
 refine ⟨hM.put hr hk hm hf,⟨k,hk,updF_same _ _ _,?_⟩,fun i hi hne => .inl (updF_other _ _ hne)⟩
 cases e:s k with
 | false=>rfl
 | true=>rw[h.sub k hk e] at hs;cases hs
theorem KuWon.left {c2:Nat→Int} {i:Nat} (hM:MtG n m c) (hi:i<n) (hk:k<n) (hc:c i=(k:Int)) (hsk:s' k=true) (W:KuWon n m c s' i c2):∀i',i'<n→c2 i'≠(k:Int):=by
 intro i' hi' e
 by_cases e1:i'=i
 ·subst e1
  obtain ⟨j,hj,h1,h2⟩:=W.own
  rw[e] at h1
  have:j=k:=by omega
  subst this
  rw[hsk] at h2;cases h2
 ·rcases W.oth i' hi' e1 with h1|⟨j,j',hj,hj',h1,h2,h3,h4⟩
  ·rw[e] at h1
   exact e1 (hM.inj i' i hi' hi (by rw[← h1,hc]) (by rw[← h1];omega))
  ·rw[e] at h2
   have:j'=k:=by omega
   subst this
   rw[hsk] at h4;cases h4
theorem KuI.move (h:KuI n m c s row fixed k s') (hM:MtG n m c) (hr:row<n) (hk:k<n) (hm:m row k≠0) (hs:s' k=false) {i:Nat} (hi:i<n) (hc:c i=(k:Int)) {c2:Nat→Int} (W:KuWon n m c (updF s' k true) i c2) :
  KuWon n m c s row (updF c2 row (k:Int)):=by
 have hold:∀j,j<n→updF s' k true j=false→s j=false:=fun j hj h1=>by
  cases e:s j with
  | false=>rfl
  | true =>
   by_cases e2:j=k
   ·subst e2;rw[updF_same] at h1;cases h1
   ·rw[updF_other _ _ e2,h.sub j hj e] at h1;cases h1
 have hsk0:s k=false:=by
  cases e:s k with
  | false=>rfl
  | true=>rw[h.sub k hk e] at hs;cases hs
 refine ⟨W.mt.put hr hk hm (W.left hM hi hk hc (updF_same _ _ _)),⟨k,hk,updF_same _ _ _,hsk0⟩,fun i' hi' hne=>?_⟩
 rw[updF_other _ _ hne]
 by_cases e1:i'=i
 ·subst e1
  obtain ⟨j,hj,h1,h2⟩:=W.own
  exact .inr ⟨k,j,hk,hj,hc,h1,hsk0,hold j hj h2⟩
 ·rcases W.oth i' hi' e1 with h1|⟨j,j',hj,hj',h1,h2,h3,h4⟩
  ·exact .inl h1
  ·exact .inr ⟨j,j',hj,hj',h1,h2,hold j hj h3,hold j' hj' h4⟩
theorem KuLost.no {p:Nat→Nat} (hp:∀i,i<n→p i<n) (hj:∀i j,i<n→j<n→p i=p j→i=j) (hm:∀i,i<n→m i (p i)≠0) (hr:row<n) (hc:c row = -1)
  (L:KuLost n m c (fun _=>false) row 0 s'):False:=by
 have hex:∀j,∃i,j<n→s' j=true→i<n∧c i=(j:Int)∧∀j',j'<n→m i j'≠0→s' j'=true:=fun j=>by
  by_cases e:j<n∧s' j=true
  ·obtain ⟨i,a,b,d⟩:=L.new j e.1 e.2 rfl
   exact ⟨i,fun _ _=>⟨a,b,d.resolve_left (Nat.not_lt_zero _)⟩⟩
  ·exact ⟨0,fun h1 h2=>absurd ⟨h1,h2⟩ e⟩
 have hq:∃q:Nat→Nat,∀j,j<n→s' j=true→q j<n∧c (q j)=(j:Int)∧∀j',j'<n→m (q j) j'≠0→s' j'=true :=
  ⟨fun j=>Classical.choose (hex j),fun j h1 h2=>Classical.choose_spec (hex j) h1 h2⟩
 obtain ⟨q,hq⟩:=hq
 have hin:∀j,j<n→s' j=true→s' (p (q j))=true:=fun j h1 h2=>(hq j h1 h2).2.2 _ (hp _ (hq j h1 h2).1) (hm _ (hq j h1 h2).1)
 have hrow:=L.all (p row) (hp row hr) (hm row hr)
 obtain ⟨j,hjn,e⟩:=inj_onto (n:=n) (f:=fun j=>if s' j=true then p (q j) else j) (fun j h1=>by
   try dsimp only
   split
   ·rename_i h2;exact hp _ (hq j h1 h2).1
   ·exact h1) (fun j j' h1 h1' e=>by
   try dsimp only at e
   by_cases h2:s' j=true
   ·rw[if_pos h2] at e
    by_cases h3:s' j'=true
    ·rw[if_pos h3] at e
     have:=hj _ _ (hq j h1 h2).1 (hq j' h1' h3).1 e
     have a:=(hq j h1 h2).2.1
     have b:=(hq j' h1' h3).2.1
     rw[this,b] at a
     omega
    ·rw[if_neg h3] at e
     exact absurd (by rw[← e];exact hin j h1 h2) h3
   ·rw[if_neg h2] at e
    by_cases h3:s' j'=true
    ·rw[if_pos h3] at e
     exact absurd (by rw[e];exact hin j' h1' h3) h2
    ·rw[if_neg h3] at e
     exact e) (hp row hr)
 try dsimp only at e
 by_cases h2:s' j=true
 ·rw[if_pos h2] at e
  have h3:=hj _ _ (hq j hjn h2).1 hr e
  have h4:=(hq j hjn h2).2.1
  rw[h3,hc] at h4
  omega
 ·rw[if_neg h2] at e
  exact h2 (by rw[e];exact hrow)
end
end
section
def permF (p:List Int) (i:Nat):Nat:=(p[i]?.getD 0).toNat
def mT (M:Nat→Nat→Int) (T:List (List Int × Int)):Nat→Nat→Int:=T.foldl (fun m t=>lessP m (permF t.1) t.2) M
theorem mT_snoc (M:Nat→Nat→Int) (T:List (List Int × Int)) (t:List Int × Int):mT M (T++[t])=lessP (mT M T) (permF t.1) t.2:=by
 unfold mT;rw[List.foldl_append];rfl
structure PerN (n:Nat) (p:List Int):Prop where
 len:p.length=n
 num:∀i,i<n→0≤p[i]?.getD 0∧p[i]?.getD 0<(n:Int)
 inj:∀i j,i<n→j<n→p[i]?.getD 0=p[j]?.getD 0→i=j
theorem PerN.lt {n:Nat} {p:List Int} (h:PerN n p) {i:Nat} (hi:i<n):permF p i<n∧((permF p i:Nat):Int)=p[i]?.getD 0:=by
 have:=h.num i hi
 unfold permF
 omega
theorem PerN.injF {n:Nat} {p:List Int} (h:PerN n p) {i j:Nat} (hi:i<n) (hj:j<n) (e:permF p i=permF p j):i=j :=
 h.inj i j hi hj (by rw[← (h.lt hi).2,← (h.lt hj).2,e])
structure BirT (n:Nat) (M:Nat→Nat→Int) (T:List (List Int × Int)):Prop where
 per:∀(k:Nat) (t:List Int × Int),T[k]?=some t→PerN n t.1
 pos:∀(k:Nat) (t:List Int × Int),T[k]?=some t→∀i,i<n→0<mT M (T.take k) i (permF t.1 i)
 le:∀(k:Nat) (t:List Int × Int),T[k]?=some t→∀i,i<n→t.2≤mT M (T.take k) i (permF t.1 i)
 hit:∀(k:Nat) (t:List Int × Int),T[k]?=some t→∃i,i<n∧mT M (T.take k) i (permF t.1 i)=t.2
theorem BirT.nil (n:Nat) (M:Nat→Nat→Int):BirT n M []:=⟨fun _ _ h=>by simp at h,fun _ _ h=>by simp at h,fun _ _ h=>by simp at h,fun _ _ h=>by simp at h⟩
theorem BirT.snoc {n:Nat} {M:Nat→Nat→Int} {T:List (List Int × Int)} (B:BirT n M T) {t:List Int × Int} (hp:PerN n t.1) (h1:∀i,i<n→0<mT M T i (permF t.1 i)) (h2:∀i,i<n→t.2≤mT M T i (permF t.1 i))
  (h3:∃i,i<n∧mT M T i (permF t.1 i)=t.2):BirT n M (T++[t]):=by
 have key:∀(k:Nat) (u:List Int × Int),(T++[t])[k]?=some u→(T[k]?=some u∧(T++[t]).take k=T.take k)∨(k=T.length∧u=t∧(T++[t]).take k=T):=by
  intro k u h
  rcases Nat.lt_trichotomy k T.length with hk|hk|hk
  ·rw[List.getElem?_append_left hk] at h
   exact .inl ⟨h,List.take_append_of_le_length (by omega)⟩
  ·subst hk
   rw[List.getElem?_append_right (by omega),Nat.sub_self] at h
   simp at h
   exact .inr ⟨rfl,h.symm,by rw[List.take_append_of_le_length (by omega),List.take_length]⟩
  ·rw[List.getElem?_eq_none (by simp;omega)] at h;cases h
 refine ⟨fun k u h=>?_,fun k u h=>?_,fun k u h=>?_,fun k u h=>?_⟩
 ·rcases key k u h with ⟨a,_⟩|⟨_,rfl,_⟩
  ·exact B.per k u a
  ·exact hp
 ·rcases key k u h with ⟨a,e⟩|⟨_,rfl,e⟩
  ·rw[e];exact B.pos k u a
  ·rw[e];exact h1
 ·rcases key k u h with ⟨a,e⟩|⟨_,rfl,e⟩
  ·rw[e];exact B.le k u a
  ·rw[e];exact h2
 ·rcases key k u h with ⟨a,e⟩|⟨_,rfl,e⟩
  ·rw[e];exact B.hit k u a
  ·rw[e];exact h3
theorem BirT.rounds {n:Nat} {M:Nat→Nat→Int} {T:List (List Int × Int)} (B:BirT n M T) :
  Rounds n T.length (fun k=>mT M (T.take k)) (fun k=>permF (T[k]?.getD ([],0)).1) (fun k=>(T[k]?.getD ([],0)).2):=by
 have g:∀k,k<T.length→T[k]?=some (T[k]?.getD ([],0)):=fun k hk=>by rw[List.getElem?_eq_getElem hk];rfl
 refine ⟨fun t i ht hi=>((B.per t _ (g t ht)).lt hi).1,fun t i j ht hi hj e=>(B.per t _ (g t ht)).injF hi hj e,fun t i ht hi=>B.pos t _ (g t ht) i hi,fun t i j ht hi hj=>?_,fun t ht=>B.hit t _ (g t ht)⟩
 show mT M (T.take (t+1)) i j=_
 rw[List.take_add_one,g t ht,Option.toList_some,mT_snoc];rfl
theorem BirT.few {n:Nat} {M:Nat→Nat→Int} {T:List (List Int × Int)} (B:BirT n M T) (h1:1≤n):T.length≤(n - 1)*(n - 1)+1:=B.rounds.few h1
def SumW (n:Nat) (S:Int) (m:Nat→Nat→Int):Prop:=(∀i j,i<n→j<n→0≤m i j)∧(∀i,i<n→sigT n (fun j=>m i j)=S)∧∀j,j<n→sigT n (fun i=>m i j)=S
def trM (n:Nat) (m:Nat→Nat→Int) (i j:Nat):Int:=if i<n∧j<n then m i j else 0
theorem trM_in {n:Nat} {m:Nat→Nat→Int} {i j:Nat} (hi:i<n) (hj:j<n):trM n m i j=m i j:=if_pos ⟨hi,hj⟩
theorem SumM.w {n:Nat} {S:Int} {m:Nat→Nat→Int} (H:SumM n S m):SumW n S m:=⟨fun i j _ _=>H.pos i j,H.row,H.col⟩
theorem SumW.tr {n:Nat} {S:Int} {m:Nat→Nat→Int} (H:SumW n S m):SumM n S (trM n m):=by
 refine ⟨fun i j=>?_,fun i hi=>?_,fun j hj=>?_,fun i j hj=>?_⟩
 ·unfold trM
  split
  ·rename_i h;exact H.1 i j h.1 h.2
  ·exact Int.le_refl _
 ·rw[← H.2.1 i hi]
  exact sigT_congr (fun j hj=>trM_in hi hj)
 ·rw[← H.2.2 j hj]
  exact sigT_congr (fun i hi=>trM_in hi hj)
 ·unfold trM;rw[if_neg (by omega)]
theorem SumW.less {n:Nat} {S x:Int} {m:Nat→Nat→Int} {p:Nat→Nat} (H:SumW n S m) (hp:∀i,i<n→p i<n) (hj:∀i j,i<n→j<n→p i=p j→i=j) (hx:∀i,i<n→x≤m i (p i)):SumW n (S - x) (lessP m p x):=by
 have h:=H.tr.less hp hj (x:=x) (fun i hi=>by rw[trM_in hi (hp i hi)];exact hx i hi)
 have e:∀i j,i<n→j<n→lessP (trM n m) p x i j=lessP m p x i j:=fun i j hi hj=>by unfold lessP;rw[trM_in hi hj]
 refine ⟨fun i j hi hj=>by rw[← e i j hi hj];exact h.1 i j hi hj,fun i hi=>?_,fun j hj=>?_⟩
 ·rw[← h.2.1 i hi];exact (sigT_congr (fun j hj=>e i j hi hj)).symm
 ·rw[← h.2.2 j hj];exact (sigT_congr (fun i hi=>e i j hi hj)).symm
theorem SumW.perm {n:Nat} {S:Int} {m:Nat→Nat→Int} (H:SumW n S m) (hS:0<S):∃p:Nat→Nat,(∀i,i<n→p i<n)∧(∀i j,i<n→j<n→p i=p j→i=j)∧∀i,i<n→0<m i (p i):=by
 have T:=H.tr
 obtain ⟨p,a,b,d⟩:=pos_perm hS T.pos T.row T.col T.out
 exact ⟨p,a,b,fun i hi=>by have:=d i hi;rw[trM_in hi (a i hi)] at this;exact this⟩
theorem BirT.sum {n:Nat} {M:Nat→Nat→Int} {T:List (List Int × Int)} (B:BirT n M T) {S:Int} (H:SumW n S M):SumW n (S - (T.map (·.2)).sum) (mT M T):=by
 have:∀k,k≤T.length→SumW n (S - ((T.take k).map (·.2)).sum) (mT M (T.take k)):=by
  intro k
  induction k with
  | zero=>intro _;simpa [mT] using H
  | succ k ih =>
   intro hk
   have hg:T[k]?=some (T[k]'(by omega)):=List.getElem?_eq_getElem (by omega)
   have P:=B.per k _ hg
   have h:=(ih (by omega)).less (p:=permF (T[k]'(by omega)).1) (x:=(T[k]'(by omega)).2) (fun i hi=>(P.lt hi).1) (fun i j hi hj e=>P.injF hi hj e) (B.le k _ hg)
   rw[List.take_add_one,hg,Option.toList_some,mT_snoc,List.map_append,List.sum_append]
   simp only[List.map_cons,List.map_nil,List.sum_cons,List.sum_nil,Int.add_zero]
   rw[← Int.sub_sub]
   exact h
 have:=this T.length (Nat.le_refl _)
 rw[List.take_length] at this
 exact this
def sumT (T:List (List Int × Int)) (i j:Nat):Int:=(T.map fun t=>if j=permF t.1 i then t.2 else 0).sum
theorem mT_sum (M:Nat→Nat→Int) (T:List (List Int × Int)) (i j:Nat):mT M T i j=M i j - sumT T i j:=by
 have:∀k,k≤T.length→mT M (T.take k) i j=M i j - sumT (T.take k) i j:=by
  intro k
  induction k with
  | zero=>intro _;simp[mT,sumT]
  | succ k ih =>
   intro hk
   have hg:T[k]?=some (T[k]'(by omega)):=List.getElem?_eq_getElem (by omega)
   rw[List.take_add_one,hg,Option.toList_some,mT_snoc]
   unfold lessP
   rw[ih (by omega)]
   unfold sumT
   rw[List.map_append,List.sum_append]
   simp only[List.map_cons,List.map_nil,List.sum_cons,List.sum_nil]
   omega
 have:=this T.length (Nat.le_refl _)
 rw[List.take_length] at this
 exact this
end
section
open Go Go.RowKit
attribute [local go_sem] over_cell
attribute [local go_sem] Oper.semAt_some
theorem OI.stay {S:Nat→Prop} {W W':World} {B g n cap:Nat} {xs:List Int} (h:OI W B g n cap xs) (hs:Stays S W W') (hn:¬S g):OI W' B g n cap xs :=
 ⟨h.len,owns_keep h.own (fun k e hl=>hs.block k hl (by cases e;exact hn))⟩
theorem OI.cap {W:World} {B g n cap:Nat} {xs:List Int} (h:OI W B g n cap xs):n≤cap:=by
 rcases h.own.2 with ⟨e,_⟩|⟨g2,cap2,cur,hv,hg,hh,hnc,_⟩
 ·cases e
 ·simp only[Value.slice.injEq] at hv
  obtain ⟨_,_,rfl⟩:=hv
  exact hnc
structure BI (W:World) (B g n cap:Nat) (xs:List Bool):Prop where
 len:xs.length=n
 own:W.ownsRow B 4 1 (.slice (some ⟨g,0,none⟩) n cap) n (xs.map Value.bool)
theorem BI.at {W:World} {B g n cap:Nat} {xs:List Bool} (h:BI W B g n cap xs) {k:Nat} (hk:k<n):W.cell? ⟨g,k,none⟩=some (.bool (xs[k]?.getD false))∧W.frozen? ⟨g,k,none⟩=false∧g<W.heap.size:=by
 obtain ⟨g2,cap2,x,hv,hx,hc,hf,hl,_⟩:=owns_free h.own k hk
 simp only[Value.slice.injEq,Option.some.injEq,Addr.mk.injEq,and_true,true_and] at hv
 obtain ⟨rfl,_⟩:=hv
 have hlt:k<xs.length:=by rw[h.len];exact hk
 rw[List.getElem?_map,List.getElem?_eq_getElem hlt] at hx
 rw[List.getElem?_eq_getElem hlt]
 cases hx
 exact ⟨hc,hf,hl⟩
theorem BI.blk {W:World} {B g n cap:Nat} {xs:List Bool} (h:BI W B g n cap xs):B≤g∧g<W.heap.size:=h.own.lt g rfl
theorem BI.set {W:World} {B g n cap:Nat} {xs:List Bool} (h:BI W B g n cap xs) (k:Nat) (x:Bool):BI (W.setCell ⟨g,k,none⟩ (.bool x)) B g n cap (xs.set k x) :=
 ⟨by rw[List.length_set];exact h.len,by rw[List.map_set];exact owns_set h.own k _⟩
theorem BI.other {W:World} {B g n cap b i:Nat} {xs:List Bool} (h:BI W B g n cap xs) (hne:g≠b) (u:Value):BI (W.setCell ⟨b,i,none⟩ u) B g n cap xs :=
 ⟨h.len,ownsRow_setCell_other h.own (a:=⟨b,i,none⟩) (fun e=>hne (by cases e;rfl)) u⟩
theorem BI.keep {W W':World} {B g n cap:Nat} {xs:List Bool} (h:BI W B g n cap xs) (hb:Below W.heap.size W W'):BI W' B g n cap xs:=⟨h.len,owns_keep h.own (fun k _ hl=>hb.block k hl)⟩
def fresh (s:List Bool):Nat:=s.count false
theorem fresh_set:∀{s:List Bool} {k:Nat},k<s.length→s[k]?.getD false=false→fresh (s.set k true)<fresh s
 | [],_,h,_=>by simp at h
 | x :: l,0,_,h=>by
  simp at h
  subst h
  simp[fresh]
 | x :: l,k+1,h,e=>by
  have:=fresh_set (s:=l) (k:=k) (by simpa using h) (by simpa using e)
  unfold fresh at this ⊢
  simp only[List.set_cons_succ,List.count_cons]
  omega
abbrev colF (col:List Int):Nat→Int:=fun k=>col[k]?.getD 0
abbrev senF (s:List Bool):Nat→Bool:=fun k=>s[k]?.getD false
def entL (ls:List (List Int)) (i j:Nat):Int:=(ls[i]?.getD [])[j]?.getD 0
theorem fresh_mono {n:Nat} {s s':List Bool} (h1:s.length=n) (h2:s'.length=n) (h:∀j,j<n→senF s j=true→senF s' j=true):fresh s'≤fresh s:=by
 induction n generalizing s s' with
 | zero =>
  rw[List.length_eq_zero_iff] at h1 h2
  rw[h1,h2];exact Nat.le_refl _
 | succ n ih =>
  cases s with
  | nil=>cases h1
  | cons a s =>
   cases s' with
   | nil=>cases h2
   | cons b s' =>
    have:=ih (s:=s) (s':=s') (by simpa using h1) (by simpa using h2) (fun j hj hs=>h (j+1) (by omega) hs)
    have h0:a=true→b=true:=h 0 (by omega)
    unfold fresh at this ⊢
    simp only[List.count_cons]
    cases a <;> cases b <;> simp_all <;> omega
structure GP where
 w0:World
 b:Nat
 aM:Option Addr
 cM:Nat
 n:Nat
 gc:Nat
 cc:Nat
 ls:List (List Int)
structure GP.ok (p:GP):Prop where
 rc:RC p.w0 p.aM p.n p.ls
 row:∀i,i<p.n→(p.ls[i]?.getD []).length=p.n
 bb:p.w0.heap.size≤p.b
 ne:p.b≠p.gc
 n16:p.n≤16
structure GrW (p:GP) (col:List Int) (W:World):Prop where
 q:W.heap[p.b]?=some (.cells #[.slice p.aM p.n p.cM,.slice (some ⟨p.gc,0,none⟩) p.n p.cc] 71 (0,0))
 col:OI W p.w0.heap.size p.gc p.n p.cc col
 base:Below p.w0.heap.size p.w0 W
def grS (p:GP) (gs:Nat) (k:Nat):Prop:=k=p.gc∨k=gs
theorem GrW.set {p:GP} (hp:p.ok) {col:List Int} {W:World} (h:GrW p col W) (i:Nat) (x:Int):GrW p (col.set i x) (W.setCell ⟨p.gc,i,none⟩ (.int .i64 x)) :=
 ⟨q_other h.q hp.ne _,h.col.set i x,h.base.setCell (p:=⟨p.gc,i,none⟩) h.col.blk.1 _⟩
theorem GrW.seen {p:GP} {col:List Int} {W:World} (h:GrW p col W) {gs:Nat} (h1:p.b≠gs) (h2:p.gc≠gs) (h3:p.w0.heap.size≤gs) (i:Nat) (u:Value):GrW p col (W.setCell ⟨gs,i,none⟩ u) :=
 ⟨q_other h.q h1 _,h.col.other h2 _,h.base.setCell (p:=⟨gs,i,none⟩) h3 _⟩
def GrQ (p:GP) (gs cs row fixed:Nat) (col:List Int) (s:List Bool) (W:World) (e:Ending) (w':World):Prop :=
 ∃(r:Bool) (col':List Int) (s':List Bool),e = .returned (.bool r)∧GrW p col' w'∧BI w' p.w0.heap.size gs p.n cs s'∧Stays (grS p gs) W w' ∧
  (r=true→KuWon p.n (entL p.ls) (colF col) (senF s) row (colF col'))∧(r=false→col'=col∧KuLost p.n (entL p.ls) (colF col) (senF s) row fixed (senF s'))
theorem grow_c (p:GP) (hp:p.ok) (gs cs fixed:Nat) (g1:p.b≠gs) (g2:p.gc≠gs):∀(f row:Nat) (col:List Int) (s:List Bool) (W:World),row<p.n→fixed≤16→GrW p col W→BI W p.w0.heap.size gs p.n cs s→MtG p.n (entL p.ls) (colF col)→fresh s<f →
  Calls Tryz.prog 39 #[.pointer (some ⟨p.b,0,none⟩),.int .i64 (row:Int),.int .i64 (fixed:Int),.slice (some ⟨gs,0,none⟩) p.n cs] W (GrQ p gs cs row fixed col s W):=by
 intro f
 induction f with
 | zero=>intro row col s W _ _ _ _ _ hf;exact absurd hf (by omega)
 | succ f ih =>
  intro row col s W hrow hfx h hs hM hf
  have HP:=Lib.hid hp
  have HH:=Lib.hid h
  have HS:=Lib.hid hs
  have HM:=Lib.hid hM
  have HIH:=Lib.hid ih
  have HF:=Lib.hid hf
  have hn16:=hp.n16
  obtain ⟨b,off,a',n',c',hpa,hbl,hc,hic,_⟩:=hp.rc.2 row hrow
  have hrl:=hp.row row hrow
  have hn':n'=p.n:=by rw[← hic.len];exact hrl
  subst hn'
  have u0:=(h.base.cell (p:=⟨b,off+row,none⟩) hbl).trans hc
  have ul:=Nat.lt_of_lt_of_le hbl h.base.size
  have hgs:=hs.blk
  have HENT:Hid (∀k,k<p.n→(p.ls[row]?.getD [])[k]?.getD 0=entL p.ls row k):=fun k _=>rfl
  obtain ⟨xs,hxs⟩:∃xs,xs=p.ls[row]?.getD []:=⟨_,rfl⟩
  rw[← hxs] at hic HENT
  have HIC:=Lib.hid hic
  have x0:=q_cell h.q 0
  have x1:=q_cell h.q 1
  have xl:=q_lt h.q
  rw[hpa] at x0
  have hrI:(row:Int)<(p.n:Int):=by omega
  clear hxs hic hc hrl ih hf hM
  go_enter Tryz.func39,Tryz.ntmps39
  clear h hs hp
  go_wp2_with fail
  go_step3
  go_wp2_with fail
  go_step3
  go_wp2_with fail
  go_loopw [9,10,11,12,21] (fun _ _ _ _ s21 wr=>∃(k:Nat) (s1:List Bool),k≤p.n∧s21 = .int .i64 (k:Int)∧Hid (GrW p col wr)∧Hid (BI wr p.w0.heap.size gs p.n cs s1)∧Hid (KuI p.n (entL p.ls) (colF col) (senF s) row fixed k (senF s1))∧Hid (Stays (grS p gs) W wr)) (fun _ _ _ _ s21 _=>p.n - (intOf s21).toNat)
  case atStart=>exact ⟨0,s,by omega,rfl,HH,HS,KuI.zero,Stays.refl _ _⟩
  case round =>
   obtain ⟨k,s1,hk,rfl,hG,hB,hI,hst⟩:=hrel
   clear x0 x1 xl u0 ul
   have x0:=q_cell hG.out.q 0
   have x1:=q_cell hG.out.q 1
   have xl:=q_lt hG.out.q
   by_cases hlt:k<p.n
   ·have hki:(k:Int)<(p.n:Int):=by omega
    obtain ⟨b1,off1,hb1e,hb1,hc1⟩:=(HIC.out.mono hG.out.base).2 k hlt
    subst hb1e
    obtain ⟨y0,y1,y2⟩:=hB.out.at hlt
    obtain ⟨v,hv⟩:∃v,v=xs[k]?.getD 0:=⟨_,rfl⟩
    rw[← hv] at hc1
    have HV:Hid (entL p.ls row k=v):=by unfold Hid;rw[hv];exact (HENT.out k hlt).symm
    clear hv
    obtain ⟨sk,hsk⟩:∃sk,sk=s1[k]?.getD false:=⟨_,rfl⟩
    rw[← hsk] at y0
    have HSK:Hid (senF s1 k=sk):=hsk.symm
    clear hsk
    by_cases h0:v=0
    ·have hd:(v==0)=true:=by simpa using h0
     go_wp2_with fail
     go_roundw
     case rel=>exact ⟨k+1,s1,by omega,by go_num,hG,hB,hI.out.skip (.inl (by rw[HV.out];exact h0)),hst⟩
     case measure=>simp[intOf];omega
    ·have hd:(v==0)=false:=by simpa using h0
     cases sk with
     | true =>
      go_wp2_with fail
      go_roundw
      case rel=>exact ⟨k+1,s1,by omega,by go_num,hG,hB,hI.out.skip (.inr HSK.out),hst⟩
      case measure=>simp[intOf];omega
     | false =>
      have hlen1:s1.length=p.n:=hB.out.len
      have HSET:Hid (senF (s1.set k true)=updF (senF s1) k true):=list_updF false s1 true (by rw[hlen1];exact hlt)
      have hG1:=Lib.hid (hG.out.seen g1 g2 hgs.1 k (.bool true))
      have hB1:=Lib.hid (hB.out.set k true)
      have hst1:Hid (Stays (grS p gs) W (wr.setCell ⟨gs,k,none⟩ (.bool true))):=hst.out.trans (Stays.setCell (S:=grS p gs) wr (p:=⟨gs,k,none⟩) (.inr rfl) _) (fun _ h => .inl h)
      have HFR:Hid (fresh (s1.set k true)<f):=by
       have e1:=fresh_set (s:=s1) (k:=k) (by rw[hlen1];exact hlt) HSK.out
       have e2:=fresh_mono HS.out.len hlen1 hI.out.sub
       have e3:=HF.out
       unfold Hid;omega
      clear hlen1
      go_upto_region 6 with fail
      generalize (wr.setCell ⟨gs,k,none⟩ (.bool true))=W1 at hG1 hB1 hst1 ⊢
      generalize s1.set k true=s2 at HSET hB1 HFR
      clear x0 x1 xl y0 y1 y2
      have x0:=q_cell hG1.out.q 0
      have x1:=q_cell hG1.out.q 1
      have xl:=q_lt hG1.out.q
      go_wp2_with fail
      go_loopw [11,12,42] (fun _ _ s42 wv=>∃(i:Nat) (col2:List Int) (s3:List Bool),i≤p.n∧s42 = .int .i64 (i:Int)∧Hid (GrW p col2 wv)∧Hid (BI wv p.w0.heap.size gs p.n cs s3)∧Hid (Stays (grS p gs) W wv) ∧
       Hid ((col2=col∧s3=s2∧∀i',i'<i→colF col i'≠(k:Int))∨(∃i0,i0<p.n∧colF col i0=(k:Int)∧KuWon p.n (entL p.ls) (colF col) (updF (senF s1) k true) i0 (colF col2)))) (fun _ _ s42 _=>p.n - (intOf s42).toNat)
      case atStart=>exact ⟨0,col,s2,by omega,rfl,hG1,hB1,hst1,.inl ⟨rfl,rfl,fun i hi=>absurd hi (by omega)⟩⟩
      case round =>
       obtain ⟨i,col2,s3,hi,rfl,hG2,hB2,hst2,hcs⟩:=hrel
       clear x0 x1 xl
       have x0:=q_cell hG2.out.q 0
       have x1:=q_cell hG2.out.q 1
       have xl:=q_lt hG2.out.q
       by_cases hil:i<p.n
       ·have hii:(i:Int)<(p.n:Int):=by omega
        obtain ⟨z0,z1,z2⟩:=hG2.out.col.at hil
        obtain ⟨c,hc⟩:∃c,c=col2[i]?.getD 0:=⟨_,rfl⟩
        rw[← hc] at z0
        have HC:Hid (colF col2 i=c):=hc.symm
        clear hc
        by_cases hck:c=(k:Int)
        ·have hd2:(c==(k:Int))=true:=by simpa using hck
         have hcase:Hid (col2=col∧s3=s2∧∀i',i'<i→colF col i'≠(k:Int)):=by
          rcases hcs.out with h|⟨i0,h1,h2,h3⟩
          ·exact h
          ·exact absurd (HC.out.trans hck) (h3.left HM.out h1 hlt h2 (updF_same _ _ _) i hil)
         obtain ⟨e1,e2,hbef⟩:=hcase.out
         subst e1 e2
         by_cases hfi:i<fixed
         ·have hd3:(i:Int)<(fixed:Int):=by omega
          go_wp2_with fail
          go_roundw
          case rel=>exact ⟨k+1,s3,by omega,by go_num,hG2,hB2,(by unfold Hid;rw[HSET.out];exact hI.out.fixd hil (HC.out.trans hck) hfi),hst2⟩
          case measure=>simp[intOf];omega
         ·have hd3:¬(i:Int)<(fixed:Int):=by omega
          have HCL:=Lib.hid (HIH.out i col2 s3 wr hil hfx hG2.out hB2.out HM.out HFR.out)
          go_wp2_with (first|(go_at_call 39;refine HCL.out.mono ?_;rintro _ w9 ⟨r9,col9,s9,rfl,hG9,hB9,hst9,hw9,hl9⟩;cases r9)|fail)
          ·obtain ⟨e1,hL9⟩:=hl9 (by trivial)
           subst e1
           go_roundw
           case rel=>exact ⟨k+1,s9,by omega,by go_num,hG9,hB9,hI.out.lost hil (HC.out.trans hck) (by rw[← HSET.out];exact hL9),hst2.out.trans hst9 (fun _ h => .inl h)⟩
           case measure=>simp[intOf];omega
          ·have hW9:=hw9 (by trivial)
           rw[HSET.out] at hW9
           go_roundw
           case rel=>exact ⟨i+1,col9,s9,by omega,by go_num,hG9,hB9,hst2.out.trans hst9 (fun _ h => .inl h),.inr ⟨i,hil,HC.out.trans hck,hW9⟩⟩
           case measure=>simp[intOf];omega
        ·have hd2:(c==(k:Int))=false:=by simpa using hck
         go_wp2_with fail
         go_roundw
         case rel =>
          refine ⟨i+1,col2,s3,by omega,by go_num,hG2,hB2,hst2,?_⟩
          rcases hcs.out with ⟨e1,e2,h3⟩|h3
          ·refine .inl ⟨e1,e2,fun i' hi'=>?_⟩
           rcases Nat.lt_or_ge i' i with h4|h4
           ·exact h3 i' h4
           ·rw[show i'=i by omega,← e1,HC.out];exact hck
          ·exact .inr h3
         case measure=>simp[intOf];omega
       ·have e:i=p.n:=by omega
        subst e
        have HWON:Hid (KuWon p.n (entL p.ls) (colF col) (senF s) row (colF (col2.set row (k:Int)))):=by
         have e1:colF (col2.set row (k:Int))=updF (colF col2) row (k:Int):=list_updF 0 col2 (k:Int) (by rw[hG2.out.col.len];exact hrow)
         unfold Hid
         rw[e1]
         have hmk:entL p.ls row k≠0:=by rw[HV.out];exact h0
         rcases hcs.out with ⟨e2,_,h3⟩|⟨i0,h1,h2,h3⟩
         ·rw[e2];exact hI.out.free HM.out hrow hlt hmk HSK.out h3
         ·exact hI.out.move HM.out hrow hlt hmk HSK.out h1 h2 h3
        have hG8:=Lib.hid (hG2.out.set HP.out row (k:Int))
        have hst8:=Lib.hid (hst2.out.trans (Stays.setCell (S:=grS p gs) wr (p:=⟨p.gc,row,none⟩) (.inl rfl) (.int .i64 (k:Int))) (fun _ h => .inl h))
        have hB8:=Lib.hid (hB2.out.other (b:=p.gc) (i:=row) (fun e=>g2 e.symm) (.int .i64 (k:Int)))
        obtain ⟨z0,z1,z2⟩:=hG2.out.col.at hrow
        go_wp2_with fail
        try rw[Exit.noGoto_ret]
        go_ret
        exact ⟨true,_,_,rfl,hG8.out,hB8.out,hst8.out,fun _=>HWON.out,fun e=>by cases e⟩
   ·have e:k=p.n:=by omega
    subst e
    go_wp2_with fail
    try rw[Exit.noGoto_ret]
    go_ret
    exact ⟨false,_,_,rfl,hG.out,hB.out,hst.out,(fun e=>by cases e),fun _=>⟨rfl,hI.out.done⟩⟩
end
section
open Go Go.RowKit
def tabL (g c:Nat→Nat) (n k:Nat):List Value:=(List.range n).map fun i=>if i<k then .slice (some ⟨g i,0,none⟩) n (c i) else .slice none 0 0
theorem tabL_get {g c:Nat→Nat} {n k i:Nat} (hi:i<n):(tabL g c n k)[i]?=some (if i<k then .slice (some ⟨g i,0,none⟩) n (c i) else .slice none 0 0):=by
 unfold tabL;rw[List.getElem?_map,List.getElem?_range hi];rfl
theorem tabL_zero (g c:Nat→Nat) (n:Nat):List.replicate n (Value.slice none 0 0)=tabL g c n 0:=by
 apply List.ext_getElem?
 intro i
 by_cases h:i<n
 ·rw[tabL_get h,if_neg (Nat.not_lt_zero _),List.getElem?_replicate,if_pos h]
 ·rw[List.getElem?_eq_none (by simp;omega),List.getElem?_eq_none (by simp[tabL];omega)]
theorem tabL_set {g c:Nat→Nat} {n k:Nat} (hk:k<n) (b d:Nat):(tabL g c n k).set k (.slice (some ⟨b,0,none⟩) n d)=tabL (updF g k b) (updF c k d) n (k+1):=by
 apply List.ext_getElem?
 intro i
 by_cases h:i<n
 ·by_cases e:i=k
  ·subst e
   rw[List.getElem?_set_self (by simp[tabL];omega),tabL_get h,if_pos (by omega),updF_same,updF_same]
  ·rw[List.getElem?_set_ne (fun h=>e h.symm),tabL_get h,tabL_get h,updF_other _ _ e,updF_other _ _ e]
   by_cases h2:i<k
   ·rw[if_pos h2,if_pos (by omega)]
   ·rw[if_neg h2,if_neg (by omega)]
 ·rw[List.getElem?_eq_none (by simp[tabL];omega),List.getElem?_eq_none (by simp[tabL];omega)]
structure MX (W:World) (L bt n ct:Nat) (g c:Nat→Nat) (k:Nat) (m:List (List Int)):Prop where
 own:W.ownsRow L 22 1 (.slice (some ⟨bt,0,none⟩) n ct) n (tabL g c n k)
 row:∀i,i<k→OI W L (g i) n (c i) (m[i]?.getD [])
 ne:∀i,i<k→g i≠bt
 inj:∀i j,i<k→j<k→g i=g j→i=j
 len:m.length=k
 le:k≤n
section
variable {W:World} {L bt n ct k:Nat} {g c:Nat→Nat} {m:List (List Int)}
theorem MX.blk (h:MX W L bt n ct g c k m):L≤bt∧bt<W.heap.size:=h.own.lt bt rfl
theorem MX.tab (h:MX W L bt n ct g c k m) {i:Nat} (hi:i<n):W.cell? ⟨bt,i,none⟩=some (if i<k then .slice (some ⟨g i,0,none⟩) n (c i) else .slice none 0 0)∧W.frozen? ⟨bt,i,none⟩=false:=by
 obtain ⟨g2,cap2,x,hv,hx,hc,hf,hl,_⟩:=owns_free h.own i hi
 simp only[Value.slice.injEq,Option.some.injEq,Addr.mk.injEq,and_true,true_and] at hv
 obtain ⟨rfl,_⟩:=hv
 rw[tabL_get hi] at hx
 cases hx
 exact ⟨hc,hf⟩
theorem MX.keep (h:MX W L bt n ct g c k m) {W':World} (hb:Below W.heap.size W W'):MX W' L bt n ct g c k m :=
 ⟨owns_keep h.own (fun k _ hl=>hb.block k hl),fun i hi=>(h.row i hi).keep hb,h.ne,h.inj,h.len,h.le⟩
theorem MX.stay (h:MX W L bt n ct g c k m) {S:Nat→Prop} {W':World} (hs:Stays S W W') (h1:¬S bt) (h2:∀i,i<k→¬S (g i)):MX W' L bt n ct g c k m :=
 ⟨owns_keep h.own (fun k e hl=>hs.block k hl (by cases e;exact h1)),fun i hi=>(h.row i hi).stay hs (h2 i hi),h.ne,h.inj,h.len,h.le⟩
theorem MX.drew (h:MX W L bt n ct g c k m):MX W.drew L bt n ct g c k m:=h.keep (Below.refl _ _).drew
theorem MX.low {L':Nat} (h:MX W L bt n ct g c k m) (hl:L'≤L):MX W L' bt n ct g c k m:=⟨owns_base h.own hl,fun i hi=>(h.row i hi).base hl,h.ne,h.inj,h.len,h.le⟩
theorem MX.other (h:MX W L bt n ct g c k m) {b i:Nat} (h1:bt≠b) (h2:∀i,i<k→g i≠b) (u:Value):MX (W.setCell ⟨b,i,none⟩ u) L bt n ct g c k m :=
 ⟨ownsRow_setCell_other h.own (a:=⟨b,i,none⟩) (fun e=>h1 (by cases e;rfl)) u,fun j hj=>(h.row j hj).other (h2 j hj) u,h.ne,h.inj,h.len,h.le⟩
theorem MX.start (h:W.ownsRow L 22 1 (.slice (some ⟨bt,0,none⟩) n ct) n (List.replicate n (.slice none 0 0))):MX W L bt n ct (fun _=>0) (fun _=>0) 0 [] :=
 ⟨by rw[← tabL_zero];exact h,fun i hi=>absurd hi (Nat.not_lt_zero _),fun i hi=>absurd hi (Nat.not_lt_zero _),fun i j hi=>absurd hi (Nat.not_lt_zero _),rfl,Nat.zero_le _⟩
theorem MX.fill (h:MX W L bt n ct g c k m) (hk:k<n) {b d:Nat} {xs:List Int} (ho:OI W L b n d xs) (h1:b≠bt) (h2:∀i,i<k→g i≠b):MX (W.setCell ⟨bt,k,none⟩ (.slice (some ⟨b,0,none⟩) n d)) L bt n ct (updF g k b) (updF c k d) (k+1) (m++[xs]):=by
 refine ⟨by rw[← tabL_set hk];exact owns_set h.own k _,fun i hi=>?_,fun i hi=>?_,fun i j hi hj e=>?_,by rw[List.length_append,h.len];rfl,hk⟩
 ·by_cases e:i=k
  ·subst e
   rw[updF_same,updF_same,List.getElem?_append_right (by rw[h.len];exact Nat.le_refl _),h.len,Nat.sub_self]
   exact ho.other h1 _
  ·rw[updF_other _ _ e,updF_other _ _ e,List.getElem?_append_left (by rw[h.len];omega)]
   exact (h.row i (by omega)).other (h.ne i (by omega)) _
 ·by_cases e:i=k
  ·subst e;rw[updF_same];exact h1
  ·rw[updF_other _ _ e];exact h.ne i (by omega)
 ·by_cases e1:i=k
  ·subst e1
   by_cases e2:j=i
   ·exact e2.symm
   ·rw[updF_same,updF_other _ _ e2] at e
    exact absurd e.symm (h2 j (by omega))
  ·by_cases e2:j=k
   ·subst e2
    rw[updF_same,updF_other _ _ e1] at e
    exact absurd e (h2 i (by omega))
   ·rw[updF_other _ _ e1,updF_other _ _ e2] at e
    exact h.inj i j (by omega) (by omega) e
theorem MX.set (h:MX W L bt n ct g c k m) {i:Nat} (hi:i<k) (j:Nat) (x:Int):MX (W.setCell ⟨g i,j,none⟩ (.int .i64 x)) L bt n ct g c k (m.set i ((m[i]?.getD []).set j x)):=by
 refine ⟨ownsRow_setCell_other h.own (a:=⟨g i,j,none⟩) (fun e=>h.ne i hi (by cases e;rfl)) _,fun i' hi'=>?_,h.ne,h.inj,by rw[List.length_set];exact h.len,h.le⟩
 by_cases e:i'=i
 ·subst e
  rw[List.getElem?_set_self (by rw[h.len];exact hi)]
  exact (h.row i' hi').set j x
 ·rw[List.getElem?_set_ne (fun h=>e h.symm)]
  exact (h.row i' hi').other (fun e2=>e (h.inj i' i hi' hi e2)) _
theorem MX.at (h:MX W L bt n ct g c k m) {i j:Nat} (hi:i<k) (hj:j<n):W.cell? ⟨bt,i,none⟩=some (.slice (some ⟨g i,0,none⟩) n (c i))∧bt<W.heap.size∧W.cell? ⟨g i,j,none⟩=some (.int .i64 (entL m i j))∧W.frozen? ⟨g i,j,none⟩=false∧g i<W.heap.size:=by
 have h1:=(h.tab (i:=i) (by have:=h.le;omega)).1
 rw[if_pos hi] at h1
 obtain ⟨h2,h3,h4⟩:=(h.row i hi).at hj
 exact ⟨h1,h.blk.2,h2,h3,h4⟩
theorem MX.rc (h:MX W L bt n ct g c n m) (hn:n≤16):RC W (some ⟨bt,0,none⟩) n m :=
 ⟨⟨h.len,by omega⟩,fun i hi=>⟨bt,0,some ⟨g i,0,none⟩,n,c i,rfl,h.blk.2,by
  have h1:=(h.tab hi).1
  rw[if_pos hi] at h1
  rw[Nat.zero_add];exact h1,(h.row i hi).ic (by omega),(h.row i hi).cap⟩⟩
theorem MX.rlen (h:MX W L bt n ct g c k m) {i:Nat} (hi:i<k):(m[i]?.getD []).length=n:=(h.row i hi).len
end
theorem entL_set {m:List (List Int)} {i j:Nat} (hi:i<m.length) (hj:j<(m[i]?.getD []).length) (x:Int) (i' j':Nat):entL (m.set i ((m[i]?.getD []).set j x)) i' j'=if i'=i∧j'=j then x else entL m i' j':=by
 unfold entL
 by_cases e:i'=i
 ·subst e
  rw[List.getElem?_set_self hi,Option.getD_some]
  by_cases e2:j'=j
  ·subst e2;rw[List.getElem?_set_self hj,if_pos ⟨rfl,rfl⟩];rfl
  ·rw[List.getElem?_set_ne (fun h=>e2 h.symm),if_neg (fun h=>e2 h.2)]
 ·rw[List.getElem?_set_ne (fun h=>e h.symm),if_neg (fun h=>e h.1)]
end
section
open Go Go.RowKit
abbrev TermE:=(Nat × Nat) × (List Int × Int)
def trmcells (n:Nat) (pre:List TermE):List Value:=pre.flatMap fun y=>[.slice (some ⟨y.1.1,0,none⟩) n y.1.2,.int .i64 y.2.2]
theorem trmcells_snoc (n:Nat) (pre:List TermE) (y:TermE):trmcells n (pre++[y])=trmcells n pre++[.slice (some ⟨y.1.1,0,none⟩) n y.1.2,.int .i64 y.2.2]:=by simp[trmcells]
theorem trmcells_at (n:Nat) (pre:List TermE) (k:Nat) (hk:k<pre.length):(trmcells n pre)[2*k]?=some (.slice (some ⟨(pre[k]).1.1,0,none⟩) n (pre[k]).1.2)∧(trmcells n pre)[2*k+1]?=some (.int .i64 (pre[k]).2.2):=by
 induction pre generalizing k with
 | nil=>simp at hk
 | cons x pre ih =>
  show (([Value.slice (some ⟨x.1.1,0,none⟩) n x.1.2,.int .i64 x.2.2]++trmcells n pre))[2*k]?=_∧(([Value.slice (some ⟨x.1.1,0,none⟩) n x.1.2,.int .i64 x.2.2]++trmcells n pre))[2*k+1]?=_
  cases k with
  | zero=>exact ⟨rfl,rfl⟩
  | succ k =>
   have:=ih k (by simpa using hk)
   rw[List.getElem?_append_right (by simp;omega),List.getElem?_append_right (by simp;omega)]
   simp only[List.length_cons,List.length_nil]
   rw[show 2*(k+1) - (0+1+1)=2*k by omega,show 2*(k+1)+1 - (0+1+1)=2*k+1 by omega]
   exact this
structure TermI (n:Nat) (W:World) (L:Nat) (v:Value) (pre:List TermE):Prop where
 own:W.ownsRow L 37 2 v pre.length (trmcells n pre)
 row:∀y,y∈pre→OI W L y.1.1 n y.1.2 y.2.1∧v.ownBlock≠some y.1.1
section
variable {n L:Nat} {W W':World} {v:Value} {pre:List TermE}
theorem TermI.nil (n:Nat) (W:World) (L:Nat):TermI n W L (.slice none 0 0) []:=⟨World.ownsRow_nil W L _ 2,fun _ h=>by cases h⟩
theorem TermI.keep (h:TermI n W L v pre) (hb:Below W.heap.size W W'):TermI n W' L v pre:=⟨owns_keep h.own (fun k _ hl=>hb.block k hl),fun y hy=>⟨(h.row y hy).1.keep hb,(h.row y hy).2⟩⟩
theorem TermI.stay (h:TermI n W L v pre) {S:Nat→Prop} (hs:Stays S W W') (h1:∀k,v.ownBlock=some k→¬S k) (h2:∀y,y∈pre→¬S y.1.1):TermI n W' L v pre :=
 ⟨owns_keep h.own (fun k e hl=>hs.block k hl (h1 k e)),fun y hy=>⟨(h.row y hy).1.stay hs (h2 y hy),(h.row y hy).2⟩⟩
theorem TermI.low {L':Nat} (h:TermI n W L v pre) (hl:L'≤L):TermI n W L' v pre:=⟨owns_base h.own hl,fun y hy=>⟨(h.row y hy).1.base hl,(h.row y hy).2⟩⟩
theorem TermI.append (h:TermI n W L v pre) {v':Value} {y:TermE} (hy:OI W L y.1.1 n y.1.2 y.2.1) (hyv:v.ownBlock≠some y.1.1)
  (hs:Stays (fun k=>v.ownBlock=some k) W W') (hown:W'.ownsRow L 37 2 v' (pre.length+1) (trmcells n pre++[.slice (some ⟨y.1.1,0,none⟩) n y.1.2,.int .i64 y.2.2])) (hnew:∀k,v'.ownBlock=some k→v.ownBlock=some k∨W.heap.size≤k) :
  TermI n W' L v' (pre++[y]):=by
 have hold:∀x,x∈pre++[y]→OI W L x.1.1 n x.1.2 x.2.1∧v.ownBlock≠some x.1.1:=by
  intro x hx
  rcases List.mem_append.1 hx with hx|hx
  ·exact h.row x hx
  ·rw[List.mem_singleton.1 hx];exact ⟨hy,hyv⟩
 refine ⟨by rw[List.length_append,trmcells_snoc];exact hown,fun x hx=>⟨(hold x hx).1.stay hs (hold x hx).2,fun e=>?_⟩⟩
 rcases hnew _ e with e2|e2
 ·exact (hold x hx).2 e2
 ·have:=(hold x hx).1.blk.2;omega
end
def TL (W:World) (a:Option Addr) (cnt n:Nat) (T:List (List Int × Int)):Prop :=
 (T.length=cnt∧cnt≤17592186044416)∧∀k,k<cnt→∃b off a' c',a=some ⟨b,off,none⟩∧b<W.heap.size∧W.cell? ⟨b,off+2*k,none⟩=some (.slice a' n c')∧W.cell? ⟨b,off+(2*k+1),none⟩=some (.int .i64 (T[k]?.getD ([],0)).2)∧IC W a' n (T[k]?.getD ([],0)).1∧n≤c'
theorem TL.below {W W':World} {a:Option Addr} {cnt n:Nat} {T:List (List Int × Int)} (h:TL W a cnt n T) (hb:Below W.heap.size W W'):TL W' a cnt n T :=
 ⟨h.1,fun k hk=>by
  obtain ⟨b,off,a',c',h1,h2,h3,h4,h5,h6⟩:=h.2 k hk
  exact ⟨b,off,a',c',h1,Nat.lt_of_lt_of_le h2 hb.size,(hb.cell h2).trans h3,(hb.cell h2).trans h4,h5.mono hb,h6⟩⟩
theorem owns_shape2 {w:World} {L:Nat} {e:TypeId} {v:Value} {n:Nat} {xs:List Value} (h:w.ownsRow L e 2 v n xs):∃a c,v = .slice a n c:=by
 rcases h.2 with ⟨e,e2⟩|⟨g,cap,cur,hv,_⟩
 ·exact ⟨none,0,by rw[e,e2]⟩
 ·exact ⟨_,_,hv⟩
theorem TermI.tl {n L:Nat} {W:World} {v:Value} {pre:List TermE} (h:TermI n W L v pre) (hn:n≤16) (hm:pre.length≤1000):∃a c,v = .slice a pre.length c∧TL W a pre.length n (pre.map (·.2)):=by
 obtain ⟨a,c,rfl⟩:=owns_shape2 h.own
 refine ⟨a,c,rfl,⟨by rw[List.length_map],by omega⟩,fun k hk=>?_⟩
 rcases h.own.2 with ⟨e,e2⟩|⟨g,cap,cur,hv,hg,hh,hnc,hcm,hsz,htk⟩
 ·simp only[Value.slice.injEq] at e
  omega
 ·simp only[Value.slice.injEq] at hv
  obtain ⟨rfl,_,rfl⟩:=hv
  have hglt:g<W.heap.size:=q_lt hh
  have hat:∀j,j<pre.length*2→W.cell? ⟨g,0+j,none⟩=(trmcells n pre)[j]?:=fun j hj=>by
   rw[Nat.zero_add,cell_of_row W g j cur _ (0,0) hh,← htk,List.getElem?_take,if_pos hj]
   simp
  obtain ⟨g0,g1⟩:=trmcells_at n pre k hk
  have hrow:=(h.row _ (List.getElem_mem hk)).1
  have hk2:(pre.map (·.2))[k]?.getD ([],0)=(pre[k]'hk).2:=by rw[List.getElem?_map,List.getElem?_eq_getElem hk];rfl
  rw[hk2]
  exact ⟨g,0,_,_,rfl,hglt,(hat _ (by omega)).trans g0,(hat _ (by omega)).trans g1,hrow.ic (by omega),hrow.cap⟩
end
section
open Go Go.RowKit
attribute [local go_sem] over_cell
attribute [local go_sem] Oper.semAt_some
theorem mul2_c (w:World):Calls Tryz.prog 58 #[.int .u64 1,.int .u64 2] w fun e w'=>e = .returned (.tuple #[.int .u64 0,.int .u64 2])∧w=w':=by
 go_enter Tryz.func58,Tryz.ntmps58
 go_wp2
 refine bodyPost_ret (v := .tuple #[.int .u64 0,.int .u64 2]) ?_ rfl ⟨rfl,rfl⟩
 kernel_rfl
theorem mul3_c (w:World):Calls Tryz.prog 58 #[.int .u64 1,.int .u64 3] w fun e w'=>e = .returned (.tuple #[.int .u64 0,.int .u64 3])∧w=w':=by
 go_enter Tryz.func58,Tryz.ntmps58
 go_wp2
 refine bodyPost_ret (v := .tuple #[.int .u64 0,.int .u64 3]) ?_ rfl ⟨rfl,rfl⟩
 kernel_rfl
theorem mul4_c (w:World):Calls Tryz.prog 58 #[.int .u64 1,.int .u64 4] w fun e w'=>e = .returned (.tuple #[.int .u64 0,.int .u64 4])∧w=w':=by
 go_enter Tryz.func58,Tryz.ntmps58
 go_wp2
 refine bodyPost_ret (v := .tuple #[.int .u64 0,.int .u64 4]) ?_ rfl ⟨rfl,rfl⟩
 kernel_rfl
theorem mul5_c (w:World):Calls Tryz.prog 58 #[.int .u64 1,.int .u64 5] w fun e w'=>e = .returned (.tuple #[.int .u64 0,.int .u64 5])∧w=w':=by
 go_enter Tryz.func58,Tryz.ntmps58
 go_wp2
 refine bodyPost_ret (v := .tuple #[.int .u64 0,.int .u64 5]) ?_ rfl ⟨rfl,rfl⟩
 kernel_rfl
theorem mulN_c (n:Nat) (h2:2≤n) (h5:n≤5) (w:World):Calls Tryz.prog 58 #[.int .u64 1,.int .u64 (n:Int)] w fun e w'=>e = .returned (.tuple #[.int .u64 0,.int .u64 (n:Int)])∧w=w':=by
 match n,h2,h5 with
 | 2,_,_=>exact mul2_c w
 | 3,_,_=>exact mul3_c w
 | 4,_,_=>exact mul4_c w
 | 5,_,_=>exact mul5_c w
def rptL (x:Int) (k n:Nat):List Value:=List.replicate k (.int .i64 x)++List.replicate (n - k) (.int .i64 0)
theorem rptL_splice (x:Int) {k m n:Nat} (_h:k+m≤n):splice (rptL x k n) k (List.replicate m (.int .i64 x))=rptL x (k+m) n:=by
 unfold splice rptL
 rw[List.length_replicate,List.take_append_of_le_length (by simp),List.take_replicate,Nat.min_self,List.drop_append,List.drop_replicate,List.drop_replicate,List.length_replicate]
 rw[show k - (k+m)=0 by omega,List.replicate_zero,List.nil_append,show k+m - k=m by omega,← List.append_assoc,List.replicate_append_replicate,show n - k - m=n - (k+m) by omega]
theorem repeat_c (n:Nat) (h2:2≤n) (h5:n≤5) (x:Int) (a:Option Addr) (c:Nat) (w:World) (h:IC w a 1 [x]) :
  Calls Tryz.prog 38 #[.slice a 1 c,.int .i64 (n:Int)] w fun e w'=>∃g,e = .returned (.slice (some ⟨g,0,none⟩) n n)∧OI w' w.heap.size g n n (List.replicate n x)∧Below w.heap.size w w':=by
 obtain ⟨i0,hi,hz0,hz1,hz2⟩:=info_parts infoInt
 have HM:=Lib.hid (fun W=>mulN_c n h2 h5 W)
 obtain ⟨b,off,rfl,hb,hc⟩:=h.2 0 (by omega)
 rw[show ([x]:List Int)[0]?.getD 0=x from rfl] at hc
 have HC:=Lib.hid hc
 have hz:decide ((n:Int)<0)=false:=decide_eq_false (by omega)
 have hz9:decide ((9223372036854775807:Int)<(n:Int))=false:=decide_eq_false (by omega)
 clear hc h
 go_enter Tryz.func38,Tryz.ntmps38
 go_upto_region 6 with (first|(go_at_call 58;refine (HM.out _).mono ?_;rintro _ w1 ⟨rfl,rfl⟩)|fail)
 go_upto_region 7 with (refine wpList_make_full _ rfl _ _ 22 rfl w.heap.size 3 i0 (.int .i64 0) 1 Tryz.underlying22 hi hz0 hz1 _ _ _ _ n rfl rfl (by simp) (by simp) (by rw[hz2];omega) (by unfold maxLen;omega) (Nat.le_refl _) ?_;intro W4 hown4 hgr4;have hb4:Below w.heap.size w W4:=(Below.refl w.heap.size w).grown hgr4 (Nat.le_refl _) (fun k e=>by cases e))
 have HG4:Hid (W4.heap[w.heap.size]?=some (.cells (rptL x 0 n).toArray 3 (0,0))):=by
  rcases hown4.2 with ⟨e,_⟩|⟨g,cap,cur,hv,hg,hh,hnc,hcm,hsz,htk⟩
  ·cases e
  ·simp only[Value.slice.injEq,Option.some.injEq,Addr.mk.injEq,and_true,true_and] at hv
   obtain ⟨rfl,rfl⟩:=hv
   unfold Hid
   rw[hh]
   have:cur.toList=List.replicate n (.int .i64 0):=by
    rw[← List.take_of_length_le (l:=cur.toList) (i:=n*1) (by simp;omega),htk]
    apply List.ext_getElem?
    intro i
    by_cases h:i<n
    ·simp[madeCells,h,Value.cells,Nat.mod_one]
    ·simp[madeCells,h]
   have e2:cur=(rptL x 0 n).toArray:=by
    unfold rptL
    rw[List.replicate_zero,List.nil_append,Nat.sub_zero,← this]
   rw[e2]
 have HB4:=Lib.hid hb4
 have hcw:=(hb4.cell (p:=⟨b,off+0,none⟩) hb).trans HC.out
 clear hown4 hgr4 hb4
 have HSI:Hid ((Tryz.prog.info? 3).map (·.size)=some 1):=by unfold Hid;rw[hi];simp[hz1]
 go_upto_region 8 with (first|(refine wpList_copy_splice rfl _ _ 22 22 rfl 3 Tryz.underlying22 HSI.out _ _ _ _ _ _ rfl rfl w.heap.size 0 (rptL x 0 n) 3 HG4.out (List.replicate 1 (.int .i64 x)) (by rw[List.length_replicate];exact (Nat.min_eq_left (by omega)).symm) (fun _=>⟨rfl,_,rfl,fun j v hj=>by cases j with|zero=>(simp at hj;subst hj;exact hcw)|succ j=>simp at hj⟩) (by simp[rptL];omega) (fun v hv=>by rw[List.eq_of_mem_replicate hv];rfl) w.heap.size w HB4.out (Nat.le_refl _) ?_;intro W5 HG5 hb5)|fail)
 have HSP:=Lib.hid (rptL_splice x (k:=0) (m:=1) (n:=n) (by omega))
 have HG6:Hid (W5.heap[w.heap.size]?=some (.cells (rptL x 1 n).toArray 3 (0,0))):=by unfold Hid;rw[← HSP.out];exact HG5.out
 have HB5:=Lib.hid hb5
 clear HG5 hb5 HSP HG4 HB4 hcw
 go_wp2_with fail
 go_loopw [8] (fun s8 wr=>∃k:Nat,1≤k∧k≤n∧s8 = .int .i64 (k:Int)∧Hid (wr.heap[w.heap.size]?=some (.cells (rptL x k n).toArray 3 (0,0)))∧Hid (Below w.heap.size w wr)) (fun s8 _=>n - (intOf s8).toNat)
 case atStart=>exact ⟨1,by omega,by omega,rfl,HG6,HB5⟩
 case round =>
  obtain ⟨k,hk1,hk2,rfl,hG,hB⟩:=hrel
  by_cases hlt:k<n
  ·have hki:(k:Int)<(n:Int):=by omega
   obtain ⟨m,hm⟩:∃m,m=min k (n - k):=⟨_,rfl⟩
   have hm1:1≤m:=by omega
   have hm2:k+m≤n:=by omega
   have HM2:Hid (m=Nat.min k (n - k)):=hm
   have HSP:=Lib.hid (rptL_splice x (k:=k) (m:=m) (n:=n) hm2)
   have HAT:Hid (∀j,j<k→wr.cell? ⟨w.heap.size,j,none⟩=some (.int .i64 x)):=fun j hj=>by
    have h1:=q_cell hG.out j
    rw[h1]
    unfold rptL
    simp[List.getElem?_append_left,hj]
   have HSRC:Hid (∀j v,(List.replicate m (Value.int .i64 x))[j]?=some v→wr.cell? ((⟨w.heap.size,0,none⟩:Addr).add j)=some v):=fun j v hj=>by
    rw[List.getElem?_replicate] at hj
    split at hj
    ·cases hj
     have:=HAT.out j (by omega)
     by_cases e:j=0
     ·subst e;simpa [Addr.add] using this
     ·simpa [Addr.add,e] using this
    ·cases hj
   clear hm
   go_wp2_with fail
   refine wp_region_S (fun _=>True) [9] [(0,0),(0,1),(0,2),(0,3),(0,4),(0,5),(0,6),(1,7),(0,8),(2,9)] (by kernel_rfl) (by kernel_rfl) (by trivial) ?_
   dsimp only[pickOps,nthOp]
   repeat (first|(refine wpS_skip rfl (fun K hK=>?_);go_big_quiet_op;refine hK _ ?_;clear hK K)|(refine wpS_quiet rfl rfl (fun K hK=>?_);go_big_quiet_op;refine hK _ ?_;clear hK K)|(refine wpS_loud ?_;go_wp2_with ((refine wpList_copy_splice rfl _ _ 22 22 rfl 3 Tryz.underlying22 HSI.out _ _ _ _ _ _ rfl rfl w.heap.size k (rptL x k n) 3 hG.out (List.replicate m (.int .i64 x)) (by rw[List.length_replicate];exact HM2.out) (fun _=>⟨rfl,_,rfl,HSRC.out⟩) (by simp[rptL];omega) (fun v hv=>by rw[List.eq_of_mem_replicate hv];rfl) w.heap.size w hB.out.drew (Nat.le_refl _) ?_;intro W7 HG7 hb7));refine ⟨?_,?_⟩;focus (trivial)))
   refine wpS_late _ _ _ rfl ?_
   dsimp only[List.map]
   go_wp2_with ((refine wpList_copy_splice rfl _ _ 22 22 rfl 3 Tryz.underlying22 HSI.out _ _ _ _ _ _ rfl rfl w.heap.size k (rptL x k n) 3 hG.out (List.replicate m (.int .i64 x)) (by rw[List.length_replicate];exact HM2.out) (fun _=>⟨rfl,_,rfl,HSRC.out⟩) (by simp[rptL];omega) (fun v hv=>by rw[List.eq_of_mem_replicate hv];rfl) w.heap.size w hB.out.drew (Nat.le_refl _) ?_;intro W7 HG7 hb7))
   refine NoPanic.normal ?_
   go_wp2_with fail
   go_roundw
   case rel=>exact ⟨k+m,by omega,hm2,by go_num,by unfold Hid;rw[← HSP.out];exact HG7.out,hb7⟩
   case measure=>simp[intOf];omega
  ·have e:k=n:=by omega
   subst e
   go_wp2_with fail
   go_ret
   have hg:=hG.out
   have e2:rptL x k k=(List.replicate k x).map (Value.int .i64):=by simp[rptL]
   refine ⟨w.heap.size,rfl,⟨by simp,?_⟩,hB.out⟩
   rw[← e2]
   have hl:(rptL x k k).length=k:=by rw[e2];simp
   exact ⟨by rw[hl,Nat.mul_one],.inr ⟨w.heap.size,k,(rptL x k k).toArray,rfl,Nat.le_refl _,hg,Nat.le_refl _,by unfold maxLen;omega,by simp[hl],by rw[List.take_of_length_le (by simp[hl])]⟩⟩
end
end Go.Proofs.YtpkghjoippcjeaaGreatDoor
