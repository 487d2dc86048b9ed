/- Texts J3 to J26 of this proof, in one file. -/
import Derived.Test.YtmfpdakaeagdpaaGreatW01
import Derived.Test.YtmfpdakaeagdpaaGreatW03
import Derived.Test.YtmfpdakaeagdpaaGreatW05
namespace Go.Proofs.YtmfpdakaeagdpaaGreat
set_option maxRecDepth 100000
set_option maxHeartbeats 16000000
section
structure HSt where
 hold:Int→Option Nat
 seen:List Int
 asked:List Nat
def updH (h:Int→Option Nat) (x:Int) (s:Nat):Int→Option Nat:=fun y=>if y=x then some s else h y
theorem updH_same {h:Int→Option Nat} {x:Int} {s:Nat}:updH h x s x=some s:=if_pos rfl
theorem updH_ne {h:Int→Option Nat} {x y:Int} {s:Nat} (e:y≠x):updH h x s y=h y:=if_neg e
def tryM (place:Nat→HSt→Bool × HSt) (s:Nat):List Int→HSt→Bool × HSt
 | [],st=>(false,st)
 | x :: xs,st=>if x∈st.seen then tryM place s xs st else
   match st.hold x with
   | none=>(true,⟨updH st.hold x s,x :: st.seen,st.asked⟩)
   | some o=>if (place o ⟨st.hold,x :: st.seen,st.asked⟩).1=true
     then (true,⟨updH (place o ⟨st.hold,x :: st.seen,st.asked⟩).2.hold x s,(place o ⟨st.hold,x :: st.seen,st.asked⟩).2.seen,(place o ⟨st.hold,x :: st.seen,st.asked⟩).2.asked⟩)
     else tryM place s xs (place o ⟨st.hold,x :: st.seen,st.asked⟩).2
def placeM (sets:List (List Int)):Nat→Nat→HSt→Bool × HSt
 | 0,_,st=>(false,st)
 | f+1,s,st=>tryM (placeM sets f) s (sets[s]?.getD []) ⟨st.hold,st.seen,st.asked++[s]⟩
def unseen (U:List Int) (seen:List Int):Nat:=U.countP fun x=>decide (x ∉ seen)
theorem unseen_cons {U seen:List Int} {x:Int} (hx:x∈U) (hn:x ∉ seen):unseen U (x :: seen)<unseen U seen:=by
 unfold unseen
 induction U with
 | nil=>cases hx
 | cons u U ih =>
  have hle:U.countP (fun y=>decide (y ∉ x :: seen))≤U.countP (fun y=>decide (y ∉ seen)):=List.countP_mono_left (fun y _ h=>by simp only[decide_eq_true_eq] at h ⊢;exact fun h2=>h (List.mem_cons_of_mem _ h2))
  rw[List.countP_cons,List.countP_cons]
  by_cases e:u=x
  ·subst e
   have h1:decide (u ∉ u :: seen)=false:=by simp
   have h2:decide (u ∉ seen)=true:=by simpa using hn
   rw[h1,h2]
   simp only[Bool.false_eq_true,if_false,if_true]
   omega
  ·have h:=ih (by simpa [Ne.symm e] using hx)
   have h1:decide (u ∉ x :: seen)=decide (u ∉ seen):=by simp[e]
   rw[h1]
   omega
theorem unseen_mono {U a b:List Int} (h:∀x,x∈a→x∈b):unseen U b≤unseen U a:=by
 unfold unseen
 exact List.countP_mono_left (fun y _ h1=>by simp only[decide_eq_true_eq] at h1 ⊢;exact fun h2=>h1 (h y h2))
def Own (sets:List (List Int)) (h:Int→Option Nat):Prop:=∀x t,h x=some t→t<sets.length∧x∈sets[t]?.getD []
def InjH (h:Int→Option Nat):Prop:=∀a b t,a≠b→h a=some t→h b=some t→False
structure Won (sets:List (List Int)) (s:Nat) (st r:HSt):Prop where
 keep:∀x,x∈st.seen→r.hold x=st.hold x
 new:∃y,y ∉ st.seen∧y∈sets[s]?.getD []∧r.hold y=some s
 cov:∀t,(∃z,st.hold z=some t)→∃z,r.hold z=some t
 own:Own sets r.hold
 inj:∀a b t,a≠b→r.hold a=some t→r.hold b=some t→t=s∧(a∈st.seen∨b∈st.seen)
 val:∀z t,r.hold z=some t→t=s∨∃z',st.hold z'=some t
structure Lost (sets:List (List Int)) (st r:HSt) (N:List Int):Prop where
 hold:r.hold=st.hold
 seen:r.seen=N.reverse++st.seen
 nodup:N.Nodup
 fresh:∀x,x∈N→x ∉ st.seen
 all:∀x,x∈N→∃t,st.hold x=some t∧∀y,y∈sets[t]?.getD []→y∈r.seen
structure Ready (sets:List (List Int)) (s:Nat) (st:HSt):Prop where
 own:Own sets st.hold
 inj:InjH st.hold
 only:∀z,st.hold z=some s→z∈st.seen
def heldBy (h:Int→Option Nat) (N:List Int):List Nat:=N.map fun x=>(h x).getD 0
def PlaceOK (sets:List (List Int)) (f:Nat):Prop:=∀s st,s<sets.length→Ready sets s st→unseen sets.flatten st.seen<f →
 ((placeM sets f s st).1=true→Won sets s st (placeM sets f s st).2) ∧
 ((placeM sets f s st).1=false→∃N,Lost sets st (placeM sets f s st).2 N∧(placeM sets f s st).2.asked=st.asked++s :: heldBy st.hold N∧∀y,y∈sets[s]?.getD []→y∈(placeM sets f s st).2.seen)
theorem try_ok {sets:List (List Int)} {f:Nat} (hp:PlaceOK sets f) {s:Nat} (hs:s<sets.length):∀(xs:List Int) (st:HSt),(∀x,x∈xs→x∈sets[s]?.getD [])→Ready sets s st→unseen sets.flatten st.seen<f+1 →
  ((tryM (placeM sets f) s xs st).1=true→Won sets s st (tryM (placeM sets f) s xs st).2) ∧
  ((tryM (placeM sets f) s xs st).1=false→∃N,Lost sets st (tryM (placeM sets f) s xs st).2 N∧(tryM (placeM sets f) s xs st).2.asked=st.asked++heldBy st.hold N∧∀y,y∈xs→y∈(tryM (placeM sets f) s xs st).2.seen):=by
 intro xs
 induction xs with
 | nil =>
  intro st _ _ _
  refine ⟨fun h=>by simp[tryM] at h,fun _=>⟨[],⟨rfl,rfl,List.nodup_nil,by simp,by simp⟩,by simp[tryM,heldBy],by simp⟩⟩
 | cons x xs ih =>
  intro st hx R hu
  have hxs:=hx x List.mem_cons_self
  have hU:x∈sets.flatten:=by
   rw[List.mem_flatten]
   exact ⟨sets[s],List.getElem_mem hs,by rw[List.getElem?_eq_getElem hs,Option.getD_some] at hxs;exact hxs⟩
  rw[tryM]
  by_cases h1:x∈st.seen
  ·rw[if_pos h1]
   obtain ⟨ha,hb⟩:=ih st (fun y hy=>hx y (List.mem_cons_of_mem _ hy)) R hu
   refine ⟨ha,fun e=>?_⟩
   obtain ⟨N,hL,hA,hS⟩:=hb e
   refine ⟨N,hL,hA,fun y hy=>?_⟩
   rcases List.mem_cons.1 hy with rfl|hy
   ·rw[hL.seen,List.mem_append];exact Or.inr h1
   ·exact hS y hy
  ·rw[if_neg h1]
   cases ho:st.hold x with
   | none =>
    simp only
    refine ⟨fun _=>⟨fun z hz=>?_,⟨x,h1,hxs,updH_same⟩,fun t ⟨z,hz⟩=>⟨z,?_⟩,fun z t hz=>?_,fun a b t hab ha hb=>?_,fun z t hz=>?_⟩,fun e=>by cases e⟩ <;> (try dsimp only at *)
    ·exact updH_ne (fun e=>h1 (e▸hz))
    ·rw[updH_ne (fun e=>by rw[e,ho] at hz;cases hz)];exact hz
    ·by_cases e:z=x
     ·subst e;rw[updH_same] at hz;cases hz;exact ⟨hs,hxs⟩
     ·rw[updH_ne e] at hz;exact R.own z t hz
    ·by_cases e1:a=x
     ·subst e1
      rw[updH_same] at ha
      cases ha
      rw[updH_ne (fun e=>hab e.symm)] at hb
      exact ⟨rfl,Or.inr (R.only b hb)⟩
     ·rw[updH_ne e1] at ha
      by_cases e2:b=x
      ·subst e2
       rw[updH_same] at hb
       cases hb
       exact ⟨rfl,Or.inl (R.only a ha)⟩
      ·rw[updH_ne e2] at hb
       exact (R.inj a b t hab ha hb).elim
    ·by_cases e:z=x
     ·subst e;rw[updH_same] at hz;cases hz;exact Or.inl rfl
     ·rw[updH_ne e] at hz;exact Or.inr ⟨z,hz⟩
   | some o =>
    simp only
    have hol:=R.own x o ho
    have hso:o≠s:=fun e=>h1 (R.only x (e▸ho))
    have R2:Ready sets o ⟨st.hold,x :: st.seen,st.asked⟩:=⟨R.own,R.inj,fun z hz=>by
     by_cases e:z=x
     ·subst e;exact List.mem_cons_self
     ·exact (R.inj z x o e hz ho).elim⟩
    have hu2:unseen sets.flatten (x :: st.seen)<f:=by have:=unseen_cons hU h1;omega
    obtain ⟨pa,pb⟩:=hp o ⟨st.hold,x :: st.seen,st.asked⟩ hol.1 R2 hu2
    generalize placeM sets f o ⟨st.hold,x :: st.seen,st.asked⟩=r at pa pb ⊢
    by_cases hr:r.1=true
    ·rw[if_pos hr]
     have Wn:=pa hr
     obtain ⟨y,hy1,hy2,hy3⟩:=Wn.new
     have hyx:y≠x:=fun e=>hy1 (e▸List.mem_cons_self)
     have hrx:r.2.hold x=some o:=by rw[Wn.keep x List.mem_cons_self];exact ho
     refine ⟨fun _=>⟨fun z hz=>?_,⟨x,h1,hxs,updH_same⟩,fun t ht=>?_,fun z t hz=>?_,fun a b t hab ha hb=>?_,fun z t hz=>?_⟩,fun e=>by cases e⟩ <;> (try dsimp only at *)
     ·rw[updH_ne (fun e=>h1 (by rw[← e];exact hz))]
      exact Wn.keep z (List.mem_cons_of_mem _ hz)
     ·obtain ⟨z,hz⟩:=Wn.cov t ht
      by_cases e:z=x
      ·subst e
       rw[hrx] at hz
       cases hz
       exact ⟨y,by rw[updH_ne hyx];exact hy3⟩
      ·exact ⟨z,by rw[updH_ne e];exact hz⟩
     ·by_cases e:z=x
      ·subst e;rw[updH_same] at hz;cases hz;exact ⟨hs,hxs⟩
      ·rw[updH_ne e] at hz;exact Wn.own z t hz
     ·have hold1:∀z,z≠x→r.2.hold z=some s→z∈st.seen:=fun z hzx hz=>by
       rcases Wn.val z s hz with e|⟨z',hz'⟩
       ·exact absurd e.symm hso
       ·have h3:=R.only z' hz'
        by_cases e:z=z'
        ·subst e;exact h3
        ·have h4:r.2.hold z'=some s:=by rw[Wn.keep z' (List.mem_cons_of_mem _ h3)];exact hz'
         exact absurd (Wn.inj z z' s e hz h4).1.symm hso
      by_cases e1:a=x
      ·subst e1
       rw[updH_same] at ha
       cases ha
       rw[updH_ne (fun e=>hab e.symm)] at hb
       exact ⟨rfl,Or.inr (hold1 b (fun e=>hab e.symm) hb)⟩
      ·rw[updH_ne e1] at ha
       by_cases e2:b=x
       ·subst e2
        rw[updH_same] at hb
        cases hb
        exact ⟨rfl,Or.inl (hold1 a hab ha)⟩
       ·rw[updH_ne e2] at hb
        obtain ⟨e3,h4⟩:=Wn.inj a b t hab ha hb
        subst e3
        have h5:∀z,z≠x→z∈x :: st.seen→r.2.hold z=some t→False:=fun z hzx hz hh=>by
         rw[Wn.keep z hz] at hh
         exact R.inj z x t hzx hh ho
        rcases h4 with h4|h4
        ·exact (h5 a e1 h4 ha).elim
        ·exact (h5 b e2 h4 hb).elim
     ·by_cases e:z=x
      ·subst e;rw[updH_same] at hz;cases hz;exact Or.inl rfl
      ·rw[updH_ne e] at hz
       rcases Wn.val z t hz with e2|h6
       ·subst e2;exact Or.inr ⟨x,ho⟩
       ·exact Or.inr h6
    ·rw[if_neg hr]
     obtain ⟨N,hL,hA,hS⟩:=pb (by simpa using hr)
     have hh:r.2.hold=st.hold:=hL.hold
     have hse:r.2.seen=N.reverse++(x :: st.seen):=hL.seen
     have hsub:∀z,z∈st.seen→z∈r.2.seen:=fun z hz=>by rw[hse];exact List.mem_append_right _ (List.mem_cons_of_mem _ hz)
     have R3:Ready sets s r.2:=⟨by rw[hh];exact R.own,by rw[hh];exact R.inj,fun z hz=>hsub z (R.only z (by rw[hh] at hz;exact hz))⟩
     obtain ⟨ha,hb⟩:=ih r.2 (fun y hy=>hx y (List.mem_cons_of_mem _ hy)) R3 (by have:=unseen_mono (U:=sets.flatten) hsub;omega)
     generalize tryM (placeM sets f) s xs r.2=q at ha hb ⊢
     constructor
     ·intro e
      have Wn:=ha e
      refine ⟨fun z hz=>?_,?_,fun t ht=>Wn.cov t (by rw[hh];exact ht),Wn.own,fun a b t hab h2 h3=>?_,fun z t hz=>?_⟩
      ·rw[Wn.keep z (hsub z hz),hh]
      ·obtain ⟨y,hy1,hy2⟩:=Wn.new
       exact ⟨y,fun h=>hy1 (hsub y h),hy2⟩
      ·obtain ⟨e3,h4⟩:=Wn.inj a b t hab h2 h3
       refine ⟨e3,?_⟩
       subst e3
       have h5:∀z,z∈r.2.seen→q.2.hold z=some t→z∈st.seen:=fun z hz hq=>by
        rw[Wn.keep z hz,hh] at hq
        exact R.only z hq
       rcases h4 with h4|h4
       ·exact Or.inl (h5 a h4 h2)
       ·exact Or.inr (h5 b h4 h3)
      ·rcases Wn.val z t hz with e2|h6
       ·exact Or.inl e2
       ·rw[hh] at h6;exact Or.inr h6
     ·intro e
      obtain ⟨N2,hL2,hA2,hS2⟩:=hb e
      refine ⟨x :: (N++N2),⟨by rw[hL2.hold,hh],?_,?_,?_,?_⟩,?_,?_⟩
      ·rw[hL2.seen,hse];simp
      ·rw[List.nodup_cons,List.nodup_append]
       refine ⟨fun h=>?_,hL.nodup,hL2.nodup,fun a h2 b h3 e=>?_⟩
       ·rcases List.mem_append.1 h with h|h
        ·exact hL.fresh x h List.mem_cons_self
        ·exact hL2.fresh x h (by rw[hse];simp)
       ·subst e
        exact hL2.fresh a h3 (by rw[hse];simp[h2])
      ·intro z hz h2
       rcases List.mem_cons.1 hz with rfl|hz
       ·exact h1 h2
       ·rcases List.mem_append.1 hz with hz|hz
        ·exact hL.fresh z hz (List.mem_cons_of_mem _ h2)
        ·exact hL2.fresh z hz (hsub z h2)
      ·intro z hz
       have hq:∀y,y∈r.2.seen→y∈q.2.seen:=fun y hy=>by rw[hL2.seen];exact List.mem_append_right _ hy
       rcases List.mem_cons.1 hz with rfl|hz
       ·exact ⟨o,ho,fun y hy=>hq y (hS y hy)⟩
       ·rcases List.mem_append.1 hz with hz|hz
        ·obtain ⟨t,ht,h3⟩:=hL.all z hz
         exact ⟨t,ht,fun y hy=>hq y (h3 y hy)⟩
        ·obtain ⟨t,ht,h3⟩:=hL2.all z hz
         exact ⟨t,by rw[hh] at ht;exact ht,h3⟩
      ·rw[hA2,hA,hh]
       simp[heldBy,ho]
      ·intro y hy
       rcases List.mem_cons.1 hy with rfl|hy
       ·rw[hL2.seen,hse];simp
       ·exact hS2 y hy
theorem place_ok {sets:List (List Int)}:∀f,PlaceOK sets f:=by
 intro f
 induction f with
 | zero=>intro s st _ _ h;omega
 | succ f ih =>
  intro s st hs R hu
  rw[placeM]
  obtain ⟨ha,hb⟩:=try_ok ih hs (sets[s]?.getD []) ⟨st.hold,st.seen,st.asked++[s]⟩ (fun _ h=>h) ⟨R.own,R.inj,R.only⟩ hu
  refine ⟨fun e=>?_,fun e=>?_⟩
  ·have Wn:=ha e
   exact ⟨Wn.keep,Wn.new,Wn.cov,Wn.own,Wn.inj,Wn.val⟩
  ·obtain ⟨N,hL,hA,hS⟩:=hb e
   exact ⟨N,⟨hL.hold,hL.seen,hL.nodup,hL.fresh,hL.all⟩,by rw[hA];simp,hS⟩
end
section
def matchM (sets:List (List Int)) (F:Nat):Nat→Nat→(Int→Option Nat)→(Int→Option Nat) ⊕ List Nat
 | 0,_,h => .inl h
 | m+1,k,h=>if (placeM sets F k ⟨h,[],[]⟩).1=true then matchM sets F m (k+1) (placeM sets F k ⟨h,[],[]⟩).2.hold else .inr (placeM sets F k ⟨h,[],[]⟩).2.asked
structure Sdr (sets:List (List Int)) (l:List Int):Prop where
 len:l.length=sets.length
 nodup:l.Nodup
 mem:∀i,i<sets.length→l[i]?.getD 0∈sets[i]?.getD []
structure Violates (sets:List (List Int)) (A:List Nat):Prop where
 nodup:A.Nodup
 lt:∀t,t∈A→t<sets.length
 few:∃N:List Int,N.length<A.length∧∀t,t∈A→∀y,y∈sets[t]?.getD []→y∈N
theorem nodupI_le:∀{l m:List Int},l.Nodup→(∀x,x∈l→x∈m)→l.length≤m.length
 | [],_,_,_=>Nat.zero_le _
 | x :: l,m,hn,hs=>by
  rw[List.nodup_cons] at hn
  have hx:=hs x List.mem_cons_self
  have h:=nodupI_le (l:=l) (m:=m.erase x) hn.2 (fun y hy=>(List.mem_erase_of_ne (fun e=>hn.1 (by rw[← e];exact hy))).2 (hs y (List.mem_cons_of_mem _ hy)))
  rw[List.length_erase_of_mem hx] at h
  have:=List.length_pos_of_mem hx
  simp only[List.length_cons]
  omega
structure Held (sets:List (List Int)) (k:Nat) (h:Int→Option Nat):Prop where
 own:Own sets h
 inj:InjH h
 cov:∀t,t<k→∃z,h z=some t
 lt:∀z t,h z=some t→t<k
theorem held_sdr {sets:List (List Int)} {h:Int→Option Nat} (H:Held sets sets.length h):∃l,Sdr sets l:=by
 have hc:∀k,k≤sets.length→∃l:List Int,l.length=k∧∀i,i<k→h (l[i]?.getD 0)=some i:=by
  intro k
  induction k with
  | zero=>intro _;exact ⟨[],rfl,fun i hi=>absurd hi (by omega)⟩
  | succ k ih =>
   intro hk
   obtain ⟨l,hl,hm⟩:=ih (by omega)
   obtain ⟨z,hz⟩:=H.cov k (by omega)
   refine ⟨l++[z],by simp[hl],fun i hi=>?_⟩
   by_cases e:i=k
   ·subst e
    rw[List.getElem?_append_right (by omega),hl,Nat.sub_self]
    exact hz
   ·rw[List.getElem?_append_left (by omega)]
    exact hm i (by omega)
 obtain ⟨l,hl,hm⟩:=hc sets.length (Nat.le_refl _)
 refine ⟨l,hl,?_,fun i hi=>(H.own _ _ (hm i hi)).2⟩
 rw[List.nodup_iff_pairwise_ne,List.pairwise_iff_getElem]
 intro i j hi hj hij e
 have h1:=hm i (by omega)
 have h2:=hm j (by omega)
 rw[List.getElem?_eq_getElem hi,Option.getD_some] at h1
 rw[List.getElem?_eq_getElem hj,Option.getD_some,← e,h1] at h2
 cases h2
 omega
theorem heldBy_nodup {h:Int→Option Nat} (hI:InjH h):∀{N:List Int},N.Nodup→(∀x,x∈N→∃t,h x=some t)→(heldBy h N).Nodup:=by
 intro N
 induction N with
 | nil=>intro _ _;exact List.nodup_nil
 | cons x N ih =>
  intro hn ha
  rw[List.nodup_cons] at hn
  unfold heldBy
  rw[List.map_cons,List.nodup_cons]
  refine ⟨fun hm=>?_,ih hn.2 (fun y hy=>ha y (List.mem_cons_of_mem _ hy))⟩
  obtain ⟨y,hy,e⟩:=List.mem_map.1 hm
  obtain ⟨t,ht⟩:=ha x List.mem_cons_self
  obtain ⟨u,hu⟩:=ha y (List.mem_cons_of_mem _ hy)
  rw[ht,hu,Option.getD_some,Option.getD_some] at e
  subst e
  exact hI x y u (fun e=>hn.1 (e▸hy)) ht hu
theorem match_ok {sets:List (List Int)} {F:Nat} (hF:sets.flatten.length<F):∀(m k:Nat) (h:Int→Option Nat),k+m=sets.length→Held sets k h →
  (∀g,matchM sets F m k h = .inl g→∃l,Sdr sets l)∧(∀A,matchM sets F m k h = .inr A→Violates sets A∧A≠[]):=by
 intro m
 induction m with
 | zero =>
  intro k h hk H
  refine ⟨fun _ _=>?_,fun A e=>by simp[matchM] at e⟩
  have:k=sets.length:=by omega
  subst this
  exact held_sdr H
 | succ m ih =>
  intro k h hk H
  have R:Ready sets k ⟨h,[],[]⟩:=⟨H.own,H.inj,fun z hz=>absurd (H.lt z k hz) (by omega)⟩
  have hu:unseen sets.flatten []<F:=by
   have:unseen sets.flatten []≤sets.flatten.length:=List.countP_le_length
   omega
  obtain ⟨pa,pb⟩:=place_ok F k ⟨h,[],[]⟩ (by omega) R hu
  rw[matchM]
  generalize placeM sets F k ⟨h,[],[]⟩=r at pa pb ⊢
  by_cases hr:r.1=true
  ·rw[if_pos hr]
   have Wn:=pa hr
   refine ih (k+1) r.2.hold (by omega) ⟨Wn.own,fun a b t hab ha hb=>?_,fun t ht=>?_,fun z t hz=>?_⟩
   ·rcases (Wn.inj a b t hab ha hb).2 with h1|h1 <;> cases h1
   ·by_cases e:t=k
    ·subst e
     obtain ⟨y,_,_,hy⟩:=Wn.new
     exact ⟨y,hy⟩
    ·exact Wn.cov t (H.cov t (by omega))
   ·rcases Wn.val z t hz with e|⟨z',hz'⟩
    ·omega
    ·have:=H.lt z' t hz';omega
  ·rw[if_neg hr]
   refine ⟨fun g e=>(by cases e),fun A e=>?_⟩
   cases e
   obtain ⟨N,hL,hA,hS⟩:=pb (by simpa using hr)
   have hall:∀x,x∈N→∃t,h x=some t∧∀y,y∈sets[t]?.getD []→y∈r.2.seen:=hL.all
   have hse:r.2.seen=N.reverse:=by rw[hL.seen];simp
   have hAk:r.2.asked=k :: heldBy h N:=by rw[hA];simp
   rw[hAk]
   have hmem:∀t,t∈heldBy h N→∃x,x∈N∧h x=some t:=fun t ht=>by
    obtain ⟨x,hx,e⟩:=List.mem_map.1 ht
    obtain ⟨u,hu,_⟩:=hall x hx
    rw[hu,Option.getD_some] at e
    exact ⟨x,hx,e▸hu⟩
   refine ⟨⟨?_,?_,N,?_,?_⟩,by simp⟩
   ·rw[List.nodup_cons]
    refine ⟨fun hm=>?_,heldBy_nodup H.inj hL.nodup (fun x hx=>by obtain ⟨t,ht,_⟩:=hall x hx;exact ⟨t,ht⟩)⟩
    obtain ⟨x,_,hx⟩:=hmem k hm
    exact absurd (H.lt x k hx) (by omega)
   ·intro t ht
    rcases List.mem_cons.1 ht with rfl|ht
    ·omega
    ·obtain ⟨x,_,hx⟩:=hmem t ht
     have:=H.lt x t hx
     omega
   ·simp[heldBy]
   ·intro t ht y hy
    rcases List.mem_cons.1 ht with rfl|ht
    ·have:=hS y hy;rw[hse] at this;simpa using this
    ·obtain ⟨x,hxN,hx⟩:=hmem t ht
     obtain ⟨u,hu,h3⟩:=hall x hxN
     rw[hx] at hu
     cases hu
     have:=h3 y hy
     rw[hse] at this
     simpa using this
def feasB (sets:List (List Int)):Bool:=match matchM sets (sets.flatten.length+1) sets.length 0 (fun _=>none) with
 | .inl _=>true
 | .inr _=>false
def repP (sets:List (List Int)):Nat→List Int→List (List Int)→Option (List Int)
 | 0,out,_=>some out
 | f+1,out,left=>match (sets[out.length]?.getD []).find? fun x=>decide (x ∉ out)&&feasB (left.set out.length [x]) with
  | none=>none
  | some x=>repP sets f (out++[x]) (left.set out.length [x])
end
section
def delta (n:Nat) (cs:List Int) (c:Nat):Int:=(cs[c]?.getD 0 - ((c / n:Nat):Int) - ((c % n:Nat):Int)) % (n:Int)
def refuB (n:Nat) (cs:List Int) (d:Int):Bool:=decide (2≤d)&&decide ((n:Int) % d=0)&&decide ((((n*(n - 1) / 2:Nat):Int)) % d≠0)&&(List.range cs.length).all fun c=>decide (delta n cs c % d=0)
end
section
def freeB (C:Nat) (cs:List Int) (c:Nat) (x:Int):Bool:=(List.range cs.length).all fun d=>!(d != c&&cs[d]?.getD 0==x&&lineB C d c)
theorem freeB_iff {C:Nat} {cs:List Int} {c:Nat} {x:Int}:freeB C cs c x=true↔∀d,d<cs.length→d≠c→cs[d]?.getD 0=x→lineB C d c=false:=by
 unfold freeB
 rw[List.all_eq_true]
 constructor
 ·intro h d hd h1 h2
  have:=h d (List.mem_range.2 hd)
  rw[h2] at this
  simpa [h1] using this
 ·intro h d hd
  rw[List.mem_range] at hd
  by_cases h1:d=c
  ·simp[h1]
  ·by_cases h2:cs[d]?.getD 0=x
   ·have:=h d hd h1 h2
    simp[this]
   ·simp[h2]
def compP (C:Nat) (ok:Nat→Int→List Int→Bool):Nat→Nat→List Int→List (List Int)
 | 0,_,cs=>[cs]
 | f+1,k,cs=>if 0≤cs[k]?.getD 0 then compP C ok f (k+1) cs else
   (List.range C).flatMap fun (x:Nat)=>if (ok k (x:Int) cs&&freeB C cs k (x:Int))=true then compP C ok f (k+1) (cs.set k (x:Int)) else []
theorem gset_get {cs:List Int} {k i:Nat} {x:Int} (hk:k<cs.length):(cs.set k x)[i]?.getD 0=if i=k then x else cs[i]?.getD 0:=by
 rw[List.getElem?_set]
 by_cases e:k=i
 ·subst e;simp[hk]
 ·rw[if_neg e,if_neg (fun h=>e h.symm)]
end
section
theorem lineB_comm {C c d:Nat}:lineB C c d=lineB C d c:=by
 unfold lineB
 rw[Bool.eq_iff_iff]
 simp only[Bool.or_eq_true,beq_iff_eq]
 constructor
 ·rintro (h|h)
  ·exact Or.inl h.symm
  ·exact Or.inr h.symm
 ·rintro (h|h)
  ·exact Or.inl h.symm
  ·exact Or.inr h.symm
def OnceP (C:Nat) (cs:List Int):Prop:=∀c d,c<cs.length→d<cs.length→c≠d→lineB C c d=true→cs[c]?.getD 0=cs[d]?.getD 0→cs[c]?.getD 0<0
theorem once_iff {C:Nat} {cs:List Int}:twiceB C cs=false↔OnceP C cs:=by
 rw[Bool.eq_false_iff,Ne,twiceB_true]
 constructor
 ·intro h c d hc hd hcd hl he
  by_cases h0:0≤cs[c]?.getD 0
  ·exfalso
   rcases Nat.lt_or_gt_of_ne hcd with h1|h1
   ·exact h ⟨d,c,hd,h1,by rw[lineB_comm];exact hl,he.symm,by omega⟩
   ·exact h ⟨c,d,hc,h1,hl,he,h0⟩
  ·omega
 ·rintro h ⟨c,d,hc,hd,hl,he,h0⟩
  have:=h c d hc (by omega) (by omega) hl he
  omega
theorem once_set {C:Nat} {cs:List Int} {k:Nat} {x:Int} (hk:k<cs.length) (h:OnceP C cs) (hf:freeB C cs k x=true):OnceP C (cs.set k x):=by
 intro c d hc hd hcd hl he
 rw[List.length_set] at hc hd
 rw[gset_get hk,gset_get hk] at he
 rw[gset_get hk]
 rw[freeB_iff] at hf
 by_cases h1:c=k
 ·subst h1
  rw[if_pos rfl,if_neg (fun e=>hcd e.symm)] at he
  have:=hf d hd (fun e=>hcd e.symm) he.symm
  rw[lineB_comm] at this
  rw[this] at hl
  cases hl
 ·rw[if_neg h1] at he ⊢
  by_cases h2:d=k
  ·subst h2
   rw[if_pos rfl] at he
   have:=hf c hc h1 he
   rw[this] at hl
   cases hl
  ·rw[if_neg h2] at he
   exact h c d hc hd hcd hl he
def HasG (cs X:List Int):Prop:=X.length=cs.length∧∀i,0≤cs[i]?.getD 0→i<cs.length→X[i]?.getD 0=cs[i]?.getD 0
theorem comp_sound {C:Nat} {ok:Nat→Int→List Int→Bool}:∀{f k:Nat} {cs X:List Int},k+f=cs.length→(∀i,i<k→0≤cs[i]?.getD 0)→(∀x,x∈cs→x<(C:Int))→OnceP C cs→X∈compP C ok f k cs →
  HasG cs X∧(∀i:Nat,0≤X[i]?.getD 0)∧(∀x,x∈X→x<(C:Int))∧OnceP C X:=by
 intro f
 induction f with
 | zero =>
  intro k cs X hk hb hv ho hX
  unfold compP at hX
  rw[List.mem_singleton] at hX
  subst hX
  refine ⟨⟨rfl,fun _ _ _=>rfl⟩,fun i=>?_,hv,ho⟩
  by_cases hi:i<k
  ·exact hb i hi
  ·rw[List.getElem?_eq_none (by omega)];decide
 | succ f ih =>
  intro k cs X hk hb hv ho hX
  unfold compP at hX
  by_cases h0:0≤cs[k]?.getD 0
  ·rw[if_pos h0] at hX
   exact ih (by omega) (fun i hi=>if e:i=k then e▸h0 else hb i (by omega)) hv ho hX
  ·rw[if_neg h0] at hX
   obtain ⟨x,hx,hX⟩:=List.mem_flatMap.1 hX
   rw[List.mem_range] at hx
   by_cases hf:(ok k (x:Int) cs&&freeB C cs k (x:Int))=true
   ·rw[if_pos hf] at hX
    rw[Bool.and_eq_true] at hf
    have hkl:k<cs.length:=by omega
    obtain ⟨h1,h2,h3,h4⟩:=ih (cs:=cs.set k (x:Int)) (by rw[List.length_set];omega) (fun i hi=>by
     rw[gset_get hkl]
     by_cases e:i=k
     ·rw[if_pos e];omega
     ·rw[if_neg e];exact hb i (by omega)) (fun y hy=>by
     rcases List.mem_or_eq_of_mem_set hy with h|h
     ·exact hv y h
     ·omega) (once_set hkl ho hf.2) hX
    refine ⟨⟨by rw[h1.1,List.length_set],fun i hi hil=>?_⟩,h2,h3,h4⟩
    have hik:i≠k:=fun e=>h0 (e▸hi)
    have h5:=h1.2 i (by rw[gset_get hkl,if_neg hik];exact hi) (by rw[List.length_set];exact hil)
    rw[gset_get hkl,if_neg hik] at h5
    exact h5
   ·rw[if_neg hf] at hX
    cases hX
end
section
def pairEq (cs ds:List Int) (c d:Nat):Bool:=cs[c]?.getD 0==cs[d]?.getD 0&&ds[c]?.getD 0==ds[d]?.getD 0
def meetAt (cs ds:List Int) (d:Nat):Option Nat:=(List.range d).find? fun c=>pairEq cs ds c d
def meetR (cs ds:List Int):Option (Nat × Nat):=(List.range cs.length).findSome? fun d=>(meetAt cs ds d).map fun c=>(c,d)
theorem findSome_first {α:Type} {g:Nat→Option α} {d:Nat} {x:α}:∀{n:Nat},d<n→(∀i,i<d→g i=none)→g d=some x→(List.range n).findSome? g=some x:=by
 intro n
 induction n with
 | zero=>intro h;omega
 | succ n ih =>
  intro hd hb hx
  rw[List.range_succ,List.findSome?_append]
  by_cases e:d=n
  ·subst e
   have:(List.range d).findSome? g=none:=List.findSome?_eq_none_iff.2 (fun i hi=>hb i (List.mem_range.1 hi))
   rw[this]
   simp[hx]
  ·rw[ih (by omega) hb hx]
   rfl
theorem full_mem {n:Nat} {l:List Int} (hn:l.Nodup) (hl:l.length=n) (hr:∀y,y∈l→0≤y∧y<(n:Int)) {x:Int} (h0:0≤x) (h1:x<(n:Int)):x∈l:=by
 by_cases hm:x∈l
 ·exact hm
 ·exfalso
  have hx:x∈(List.range n).map fun (i:Nat)=>(i:Int):=List.mem_map.2 ⟨x.toNat,List.mem_range.2 (by omega),by omega⟩
  have h2:=nodupI_le (l:=l) (m:=((List.range n).map fun (i:Nat)=>(i:Int)).erase x) hn (fun y hy=>by
   have h3:=hr y hy
   have h4:y≠x:=fun e=>hm (e▸hy)
   exact (List.mem_erase_of_ne h4).2 (List.mem_map.2 ⟨y.toNat,List.mem_range.2 (by omega),by omega⟩))
  rw[List.length_erase_of_mem hx,List.length_map,List.length_range] at h2
  omega
theorem gcell_div {n i j:Nat} (hj:j<n):(i*n+j) / n=i∧(i*n+j) % n=j:=by
 constructor
 ·rw[Nat.add_comm,Nat.add_mul_div_right _ _ (by omega),Nat.div_eq_of_lt hj,Nat.zero_add]
 ·rw[Nat.add_comm,Nat.add_mul_mod_self_right,Nat.mod_eq_of_lt hj]
theorem gcell_lt {n i j:Nat} (hi:i<n) (hj:j<n):i*n+j<n*n:=by
 have:=Nat.mul_le_mul_right n (show i+1≤n by omega)
 rw[Nat.add_mul,Nat.one_mul] at this
 omega
theorem Latin.get {n:Nat} {cs:List Int} (L:Latin n cs) {c:Nat} (hc:c<n*n):0≤cs[c]?.getD 0∧cs[c]?.getD 0<(n:Int):=by
 rw[List.getElem?_eq_getElem (by rw[L.len];exact hc),Option.getD_some]
 exact L.num _ (List.getElem_mem _)
end
section
open Go Go.RowKit
attribute [local go_sem] over_cell
attribute [local go_sem] Oper.semAt_some
def GridE (w:World) (r C:Int) (cs:List Int) (er:Int) (e:Ending) (w':World):Prop :=
 ∃a c,e = .returned (.tuple #[.agg #[.int .i64 r,.int .i64 C,.slice a cs.length c],.int .i64 er])∧w'.ownsRow w.heap.size 3 1 (.slice a cs.length c) cs.length (cs.map (Value.int .i64))∧Below w.heap.size w w'
def GridM (w:World) (r C:Int) (cs:List Int) (e:Ending) (w':World):Prop :=
 ∃a c,e = .returned (.agg #[.int .i64 r,.int .i64 C,.slice a cs.length c])∧w'.ownsRow w.heap.size 3 1 (.slice a cs.length c) cs.length (cs.map (Value.int .i64))∧Below w.heap.size w w'
section
variable {W:World} {b:Nat} {u0 u1 u2 x0 x1 x2:Value} {T:TypeId}
theorem st3_q (q:W.heap[b]?=some (.cells #[u0,u1,u2] T (0,0))):(((W.setCell ⟨b,0,none⟩ x0).setCell ⟨b,1,none⟩ x1).setCell ⟨b,2,none⟩ x2).heap[b]?=some (.cells #[x0,x1,x2] T (0,0)):=q_set (i:=2) (q_set (i:=1) (q_set (i:=0) q x0) x1) x2
theorem st3_own {B n:Nat} {e:TypeId} {v:Value} {xs:List Value} (h:W.ownsRow B e 1 v n xs) (hb:v.ownBlock≠some b):(((W.setCell ⟨b,0,none⟩ x0).setCell ⟨b,1,none⟩ x1).setCell ⟨b,2,none⟩ x2).ownsRow B e 1 v n xs :=
 ownsRow_setCell_other (ownsRow_setCell_other (ownsRow_setCell_other h (a:=⟨b,0,none⟩) hb x0) (a:=⟨b,1,none⟩) hb x1) (a:=⟨b,2,none⟩) hb x2
theorem st3_below {B:Nat} {w:World} (h:Below B w W) (hb:B≤b):Below B w (((W.setCell ⟨b,0,none⟩ x0).setCell ⟨b,1,none⟩ x1).setCell ⟨b,2,none⟩ x2) :=
 ((h.setCell (p:=⟨b,0,none⟩) hb x0).setCell (p:=⟨b,1,none⟩) hb x1).setCell (p:=⟨b,2,none⟩) hb x2
end
theorem c1_of {w:World} {b:Nat} {v0:Value} {T:TypeId} (h:w.heap[b]?=some (.cells #[v0] T (0,0))):w.cell? ⟨b,0,none⟩=some v0∧w.frozen? ⟨b,0,none⟩=false∧b<w.heap.size:=⟨q_cell h 0,q_free h 0,q_lt h⟩
theorem f3_of {w:World} {b:Nat} {v0 v1 v2:Value} {T:TypeId} (h:w.heap[b]?=some (.cells #[v0,v1,v2] T (0,0))):w.frozen? ⟨b,0,none⟩=false∧w.frozen? ⟨b,1,none⟩=false∧w.frozen? ⟨b,2,none⟩=false:=⟨q_free h 0,q_free h 1,q_free h 2⟩
theorem made_g (N:Nat) (hN:N≤256) (fk:Nat) (fst caps:Array Value) (s:Nat→Nat→Int) (cs:List Int) (w:World) (hcs:cs=madeTo N s (N*N))
  (hcf:∀args w,Sem.run Tryz.prog (callFunc fk args) w = .ok (.enter fk args) w)
  (hs:∀i j:Nat,i<N→j<N→∀W,Below w.heap.size w W→Calls Tryz.prog fk (fst++(#[.int .i64 (i:Int),.int .i64 (j:Int)]++caps)) W (fun e w'=>e = .returned (.int .i64 (s i j))∧Below W.heap.size W w')) :
  Calls Tryz.prog 94 #[.int .i64 (N:Int),.func (.func fk) fst caps] w (GridM w (N:Int) (N:Int) cs):=by
 refine (made_c N hN fk fst caps s w hcf hs).mono ?_
 rintro e w' ⟨v,rfl,hown,hb⟩
 obtain ⟨a,c,rfl⟩:=owns_shape hown
 have hl:cs.length=N*N:=by rw[hcs,madeTo_len]
 refine ⟨a,c,by rw[hl],?_,hb⟩
 rw[hl,hcs];exact hown
theorem ordE_ok {n:Int} (h:ordE n=0):∃N:Nat,n=(N:Int)∧1≤N∧N≤16:=by
 unfold ordE whenV at h
 cases hb:(decide (1≤n)&&decide (n≤16)) with
 | false=>rw[hb] at h;exact absurd h (by decide)
 | true =>
  simp only[Bool.and_eq_true,decide_eq_true_eq] at hb
  exact ⟨n.toNat,by omega,by omega,by omega⟩
theorem enterCyc:∀args w,Sem.run Tryz.prog (callFunc 126 args) w = .ok (.enter 126 args) w:=by
 intro args w;kernel_rfl
theorem cyc1_c (N i j b:Nat) (w:World) (hN1:1≤N) (hN:N≤16) (hi:i<N) (hj:j<N) (hq:w.heap[b]?=some (.cells #[.int .i64 (N:Int)] 3 (0,0))) :
  Calls Tryz.prog 126 #[.int .i64 (i:Int),.int .i64 (j:Int),.pointer (some ⟨b,0,none⟩)] w fun e w'=>e = .returned (.int .i64 (((i:Int)+(j:Int)) % (N:Int)))∧Below w.heap.size w w':=by
 have c0:=q_cell hq 0
 have hl:=q_lt hq
 have hne:(N:Int)≠0:=by omega
 go_enter Tryz.func126,Tryz.ntmps126
 go_wp2
 go_ret
 exact ⟨rfl,Below.refl _ _⟩
-- a zero grid and an error come back;the result's box is bR
-- the arm of a call that makes a grid: its box holds zeros
def cycS (N i j:Nat):Int:=((i:Int)+(j:Int)) % (N:Int)
def cycL (n:Int):List Int:=if ordE n=0 then madeTo n.toNat (cycS n.toNat) (n.toNat*n.toNat) else []
theorem cyclic_c (n:Int) (w:World):Calls Tryz.prog 54 #[.int .i64 n] w (GridE w (if ordE n=0 then n else 0) (if ordE n=0 then n else 0) (cycL n) (ordE n)):=by
 have HO:=Lib.hid (fun W=>corder_c n W)
 by_cases h0:ordE n=0
 ·have hcl:cycL n=madeTo n.toNat (cycS n.toNat) (n.toNat*n.toNat):=if_pos h0
  rw[if_pos h0,h0]
  rw[h0] at HO
  obtain ⟨N,rfl,hN1,hN2⟩:=ordE_ok h0
  rw[show ((N:Int)).toNat=N from rfl] at hcl
  generalize cycL (N:Int)=cs at hcl ⊢
  clear h0
  go_enter Tryz.func54,Tryz.ntmps54
  go_wp2_with fail
  have fsz:((w.alloc (.cells #[.int .i64 (N:Int)] 3)).alloc (.cells #[.int .i64 0,.int .i64 0,.slice none 0 0] 24)).heap.size=w.heap.size+2:=by simp only[World.size_alloc] <;> omega
  have fB:Below w.heap.size w ((w.alloc (.cells #[.int .i64 (N:Int)] 3)).alloc (.cells #[.int .i64 0,.int .i64 0,.slice none 0 0] 24)):=((Below.refl _ _).alloc (Nat.le_refl _) _).alloc (by simp only[World.size_alloc];omega) _
  have fq0:((w.alloc (.cells #[.int .i64 (N:Int)] 3)).alloc (.cells #[.int .i64 0,.int .i64 0,.slice none 0 0] 24)).heap[w.heap.size]?=some (.cells #[.int .i64 (N:Int)] 3 (0,0)):=by have h:=World.alloc_heap_new w (.cells #[.int .i64 (N:Int)] 3);exact (Below.heap_alloc _ _ _ (by simp only[World.size_alloc];omega)).trans (h)
  have fq1:((w.alloc (.cells #[.int .i64 (N:Int)] 3)).alloc (.cells #[.int .i64 0,.int .i64 0,.slice none 0 0] 24)).heap[w.heap.size+1]?=some (.cells #[.int .i64 0,.int .i64 0,.slice none 0 0] 24 (0,0)):=by have h:=World.alloc_heap_new (w.alloc (.cells #[.int .i64 (N:Int)] 3)) (.cells #[.int .i64 0,.int .i64 0,.slice none 0 0] 24);simp only[World.size_alloc] at h;exact h
  generalize ((w.alloc (.cells #[.int .i64 (N:Int)] 3)).alloc (.cells #[.int .i64 0,.int .i64 0,.slice none 0 0] 24))=W0 at fsz fB fq0 fq1 ⊢
  obtain ⟨x0,xf,xl⟩:=c1_of fq0
  have HM:=Lib.hid (made_g N (by omega) 126 #[] #[.pointer (some ⟨w.heap.size,0,none⟩)] (cycS N) cs W0 hcl enterCyc (fun i j hi hj W hb=>cyc1_c N i j w.heap.size W hN1 hN2 hi hj (keepq hb fq0)))
  have HQ1:=Lib.hid fq1
  have hl1:=q_lt fq1
  clear fsz fq1 fq0 hcl
  go_wp2_with (first|(go_at_call 125;refine (HO.out _).mono ?_;rintro _ w1 ⟨rfl,rfl⟩)|(go_at_call 94;refine HM.out.mono ?_;rintro _ w2 ⟨a2,c2,rfl,hown2,hb2⟩;have g1:=keepq hb2 HQ1.out;obtain ⟨y0,y1,y2,yl⟩:=c3_of g1;obtain ⟨yf0,yf1,yf2⟩:=f3_of g1))
  have hne:(Value.slice a2 (cs).length c2).ownBlock≠some (w.heap.size+1):=fun e=>absurd (hown2.lt _ e).1 (by omega)
  have g3:=st3_q (x0 := .int .i64 (N:Int)) (x1 := .int .i64 (N:Int)) (x2 := .slice a2 (cs).length c2) g1
  have hown3:=st3_own (x0 := .int .i64 (N:Int)) (x1 := .int .i64 (N:Int)) (x2 := .slice a2 (cs).length c2) hown2 hne
  have hb3:=st3_below (x0 := .int .i64 (N:Int)) (x1 := .int .i64 (N:Int)) (x2 := .slice a2 (cs).length c2) (b:=w.heap.size+1) (keep_trans fB hb2) (by omega)
  obtain ⟨z0,z1,z2,zl⟩:=c3_of g3
  refine bodyPost_ret (v := .tuple #[.agg #[.int .i64 (N:Int),.int .i64 (N:Int),.slice a2 (cs).length c2],.int .i64 0]) ?_ rfl ⟨_,_,rfl,owns_base hown3 fB.size,hb3⟩
  simp[results,Tryz.f54,go_sem,z0,z1,z2]
 ·have hcl:cycL n=[]:=if_neg h0
  rw[if_neg h0,hcl]
  have h0':(ordE n != 0)=true:=by simpa using h0
  generalize ordE n=er at HO h0' ⊢
  clear h0 hcl
  go_enter Tryz.func54,Tryz.ntmps54
  go_wp2_with fail
  have fsz:((w.alloc (.cells #[.int .i64 n] 3)).alloc (.cells #[.int .i64 0,.int .i64 0,.slice none 0 0] 24)).heap.size=w.heap.size+2:=by simp only[World.size_alloc] <;> omega
  have fB:Below w.heap.size w ((w.alloc (.cells #[.int .i64 n] 3)).alloc (.cells #[.int .i64 0,.int .i64 0,.slice none 0 0] 24)):=((Below.refl _ _).alloc (Nat.le_refl _) _).alloc (by simp only[World.size_alloc];omega) _
  have fq0:((w.alloc (.cells #[.int .i64 n] 3)).alloc (.cells #[.int .i64 0,.int .i64 0,.slice none 0 0] 24)).heap[w.heap.size]?=some (.cells #[.int .i64 n] 3 (0,0)):=by have h:=World.alloc_heap_new w (.cells #[.int .i64 n] 3);exact (Below.heap_alloc _ _ _ (by simp only[World.size_alloc];omega)).trans (h)
  have fq1:((w.alloc (.cells #[.int .i64 n] 3)).alloc (.cells #[.int .i64 0,.int .i64 0,.slice none 0 0] 24)).heap[w.heap.size+1]?=some (.cells #[.int .i64 0,.int .i64 0,.slice none 0 0] 24 (0,0)):=by have h:=World.alloc_heap_new (w.alloc (.cells #[.int .i64 n] 3)) (.cells #[.int .i64 0,.int .i64 0,.slice none 0 0] 24);simp only[World.size_alloc] at h;exact h
  generalize ((w.alloc (.cells #[.int .i64 n] 3)).alloc (.cells #[.int .i64 0,.int .i64 0,.slice none 0 0] 24))=W0 at fsz fB fq0 fq1 ⊢
  obtain ⟨x0,xf,xl⟩:=c1_of fq0
  obtain ⟨y0,y1,y2,yl⟩:=c3_of fq1
  obtain ⟨yf0,yf1,yf2⟩:=f3_of fq1
  go_wp2_with (first|(go_at_call 125;refine (HO.out _).mono ?_;rintro _ w1 ⟨rfl,rfl⟩))
  have g3:=st3_q (x0 := .int .i64 0) (x1 := .int .i64 0) (x2 := .slice none 0 0) fq1
  have hb3:=st3_below (x0 := .int .i64 0) (x1 := .int .i64 0) (x2 := .slice none 0 0) (b:=w.heap.size+1) fB (by omega)
  obtain ⟨z0,z1,z2,zl⟩:=c3_of g3
  refine bodyPost_ret (v := .tuple #[.agg #[.int .i64 0,.int .i64 0,.slice none 0 0],.int .i64 (er)]) ?_ rfl ⟨none,0,rfl,World.ownsRow_nil _ _ _ _,hb3⟩
  simp[results,Tryz.f54,go_sem,z0,z1,z2]
end
end Go.Proofs.YtmfpdakaeagdpaaGreat
