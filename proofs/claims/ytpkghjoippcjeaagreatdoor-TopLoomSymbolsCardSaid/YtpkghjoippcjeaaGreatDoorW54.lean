/- Texts J3 to J10 of this proof, in one file. -/
import Derived.Test.YtpkghjoippcjeaaGreatDoorW01
import Derived.Test.YtpkghjoippcjeaaGreatDoorW35
import Derived.Test.YtpkghjoippcjeaaGreatDoorW53
namespace Go.Proofs.YtpkghjoippcjeaaGreatDoor
set_option maxRecDepth 100000
set_option maxHeartbeats 16000000
section
structure HSt where
 hold:Int→Option Nat
 seen:List Int
 asked:List Nat
def updH (h:Int→Option Nat) (x:Int) (s:Nat):Int→Option Nat:=fun y=>if y=x then some s else h y
theorem updH_same {h:Int→Option Nat} {x:Int} {s:Nat}:updH h x s x=some s:=if_pos rfl
theorem updH_ne {h:Int→Option Nat} {x y:Int} {s:Nat} (e:y≠x):updH h x s y=h y:=if_neg e
def tryM (place:Nat→HSt→Bool × HSt) (s:Nat):List Int→HSt→Bool × HSt
 | [],st=>(false,st)
 | x :: xs,st=>if x∈st.seen then tryM place s xs st else
   match st.hold x with
   | none=>(true,⟨updH st.hold x s,x :: st.seen,st.asked⟩)
   | some o=>if (place o ⟨st.hold,x :: st.seen,st.asked⟩).1=true
     then (true,⟨updH (place o ⟨st.hold,x :: st.seen,st.asked⟩).2.hold x s,(place o ⟨st.hold,x :: st.seen,st.asked⟩).2.seen,(place o ⟨st.hold,x :: st.seen,st.asked⟩).2.asked⟩)
     else tryM place s xs (place o ⟨st.hold,x :: st.seen,st.asked⟩).2
def placeM (sets:List (List Int)):Nat→Nat→HSt→Bool × HSt
 | 0,_,st=>(false,st)
 | f+1,s,st=>tryM (placeM sets f) s (sets[s]?.getD []) ⟨st.hold,st.seen,st.asked++[s]⟩
def unseen (U:List Int) (seen:List Int):Nat:=U.countP fun x=>decide (x ∉ seen)
theorem unseen_cons {U seen:List Int} {x:Int} (hx:x∈U) (hn:x ∉ seen):unseen U (x :: seen)<unseen U seen:=by
 unfold unseen
 induction U with
 | nil=>cases hx
 | cons u U ih =>
  have hle:U.countP (fun y=>decide (y ∉ x :: seen))≤U.countP (fun y=>decide (y ∉ seen)):=List.countP_mono_left (fun y _ h=>by simp only[decide_eq_true_eq] at h ⊢;exact fun h2=>h (List.mem_cons_of_mem _ h2))
  rw[List.countP_cons,List.countP_cons]
  by_cases e:u=x
  ·subst e
   have h1:decide (u ∉ u :: seen)=false:=by simp
   have h2:decide (u ∉ seen)=true:=by simpa using hn
   rw[h1,h2]
   simp only[Bool.false_eq_true,if_false,if_true]
   omega
  ·have h:=ih (by simpa [Ne.symm e] using hx)
   have h1:decide (u ∉ x :: seen)=decide (u ∉ seen):=by simp[e]
   rw[h1]
   omega
theorem unseen_mono {U a b:List Int} (h:∀x,x∈a→x∈b):unseen U b≤unseen U a:=by
 unfold unseen
 exact List.countP_mono_left (fun y _ h1=>by simp only[decide_eq_true_eq] at h1 ⊢;exact fun h2=>h1 (h y h2))
def Own (sets:List (List Int)) (h:Int→Option Nat):Prop:=∀x t,h x=some t→t<sets.length∧x∈sets[t]?.getD []
def InjH (h:Int→Option Nat):Prop:=∀a b t,a≠b→h a=some t→h b=some t→False
structure Won (sets:List (List Int)) (s:Nat) (st r:HSt):Prop where
 keep:∀x,x∈st.seen→r.hold x=st.hold x
 new:∃y,y ∉ st.seen∧y∈sets[s]?.getD []∧r.hold y=some s
 cov:∀t,(∃z,st.hold z=some t)→∃z,r.hold z=some t
 own:Own sets r.hold
 inj:∀a b t,a≠b→r.hold a=some t→r.hold b=some t→t=s∧(a∈st.seen∨b∈st.seen)
 val:∀z t,r.hold z=some t→t=s∨∃z',st.hold z'=some t
structure Lost (sets:List (List Int)) (st r:HSt) (N:List Int):Prop where
 hold:r.hold=st.hold
 seen:r.seen=N.reverse++st.seen
 nodup:N.Nodup
 fresh:∀x,x∈N→x ∉ st.seen
 all:∀x,x∈N→∃t,st.hold x=some t∧∀y,y∈sets[t]?.getD []→y∈r.seen
structure Ready (sets:List (List Int)) (s:Nat) (st:HSt):Prop where
 own:Own sets st.hold
 inj:InjH st.hold
 only:∀z,st.hold z=some s→z∈st.seen
def heldBy (h:Int→Option Nat) (N:List Int):List Nat:=N.map fun x=>(h x).getD 0
def PlaceOK (sets:List (List Int)) (f:Nat):Prop:=∀s st,s<sets.length→Ready sets s st→unseen sets.flatten st.seen<f →
 ((placeM sets f s st).1=true→Won sets s st (placeM sets f s st).2) ∧
 ((placeM sets f s st).1=false→∃N,Lost sets st (placeM sets f s st).2 N∧(placeM sets f s st).2.asked=st.asked++s :: heldBy st.hold N∧∀y,y∈sets[s]?.getD []→y∈(placeM sets f s st).2.seen)
theorem try_ok {sets:List (List Int)} {f:Nat} (hp:PlaceOK sets f) {s:Nat} (hs:s<sets.length):∀(xs:List Int) (st:HSt),(∀x,x∈xs→x∈sets[s]?.getD [])→Ready sets s st→unseen sets.flatten st.seen<f+1 →
  ((tryM (placeM sets f) s xs st).1=true→Won sets s st (tryM (placeM sets f) s xs st).2) ∧
  ((tryM (placeM sets f) s xs st).1=false→∃N,Lost sets st (tryM (placeM sets f) s xs st).2 N∧(tryM (placeM sets f) s xs st).2.asked=st.asked++heldBy st.hold N∧∀y,y∈xs→y∈(tryM (placeM sets f) s xs st).2.seen):=by
 intro xs
 induction xs with
 | nil =>
  intro st _ _ _
  refine ⟨fun h=>by simp[tryM] at h,fun _=>⟨[],⟨rfl,rfl,List.nodup_nil,by simp,by simp⟩,by simp[tryM,heldBy],by simp⟩⟩
 | cons x xs ih =>
  intro st hx R hu
  have hxs:=hx x List.mem_cons_self
  have hU:x∈sets.flatten:=by
   rw[List.mem_flatten]
   exact ⟨sets[s],List.getElem_mem hs,by rw[List.getElem?_eq_getElem hs,Option.getD_some] at hxs;exact hxs⟩
  rw[tryM]
  by_cases h1:x∈st.seen
  ·rw[if_pos h1]
   obtain ⟨ha,hb⟩:=ih st (fun y hy=>hx y (List.mem_cons_of_mem _ hy)) R hu
   refine ⟨ha,fun e=>?_⟩
   obtain ⟨N,hL,hA,hS⟩:=hb e
   refine ⟨N,hL,hA,fun y hy=>?_⟩
   rcases List.mem_cons.1 hy with rfl|hy
   ·rw[hL.seen,List.mem_append];exact Or.inr h1
   ·exact hS y hy
  ·rw[if_neg h1]
   cases ho:st.hold x with
   | none =>
    simp only
    refine ⟨fun _=>⟨fun z hz=>?_,⟨x,h1,hxs,updH_same⟩,fun t ⟨z,hz⟩=>⟨z,?_⟩,fun z t hz=>?_,fun a b t hab ha hb=>?_,fun z t hz=>?_⟩,fun e=>by cases e⟩ <;> (try dsimp only at *)
    ·exact updH_ne (fun e=>h1 (e▸hz))
    ·rw[updH_ne (fun e=>by rw[e,ho] at hz;cases hz)];exact hz
    ·by_cases e:z=x
     ·subst e;rw[updH_same] at hz;cases hz;exact ⟨hs,hxs⟩
     ·rw[updH_ne e] at hz;exact R.own z t hz
    ·by_cases e1:a=x
     ·subst e1
      rw[updH_same] at ha
      cases ha
      rw[updH_ne (fun e=>hab e.symm)] at hb
      exact ⟨rfl,Or.inr (R.only b hb)⟩
     ·rw[updH_ne e1] at ha
      by_cases e2:b=x
      ·subst e2
       rw[updH_same] at hb
       cases hb
       exact ⟨rfl,Or.inl (R.only a ha)⟩
      ·rw[updH_ne e2] at hb
       exact (R.inj a b t hab ha hb).elim
    ·by_cases e:z=x
     ·subst e;rw[updH_same] at hz;cases hz;exact Or.inl rfl
     ·rw[updH_ne e] at hz;exact Or.inr ⟨z,hz⟩
   | some o =>
    simp only
    have hol:=R.own x o ho
    have hso:o≠s:=fun e=>h1 (R.only x (e▸ho))
    have R2:Ready sets o ⟨st.hold,x :: st.seen,st.asked⟩:=⟨R.own,R.inj,fun z hz=>by
     by_cases e:z=x
     ·subst e;exact List.mem_cons_self
     ·exact (R.inj z x o e hz ho).elim⟩
    have hu2:unseen sets.flatten (x :: st.seen)<f:=by have:=unseen_cons hU h1;omega
    obtain ⟨pa,pb⟩:=hp o ⟨st.hold,x :: st.seen,st.asked⟩ hol.1 R2 hu2
    generalize placeM sets f o ⟨st.hold,x :: st.seen,st.asked⟩=r at pa pb ⊢
    by_cases hr:r.1=true
    ·rw[if_pos hr]
     have Wn:=pa hr
     obtain ⟨y,hy1,hy2,hy3⟩:=Wn.new
     have hyx:y≠x:=fun e=>hy1 (e▸List.mem_cons_self)
     have hrx:r.2.hold x=some o:=by rw[Wn.keep x List.mem_cons_self];exact ho
     refine ⟨fun _=>⟨fun z hz=>?_,⟨x,h1,hxs,updH_same⟩,fun t ht=>?_,fun z t hz=>?_,fun a b t hab ha hb=>?_,fun z t hz=>?_⟩,fun e=>by cases e⟩ <;> (try dsimp only at *)
     ·rw[updH_ne (fun e=>h1 (by rw[← e];exact hz))]
      exact Wn.keep z (List.mem_cons_of_mem _ hz)
     ·obtain ⟨z,hz⟩:=Wn.cov t ht
      by_cases e:z=x
      ·subst e
       rw[hrx] at hz
       cases hz
       exact ⟨y,by rw[updH_ne hyx];exact hy3⟩
      ·exact ⟨z,by rw[updH_ne e];exact hz⟩
     ·by_cases e:z=x
      ·subst e;rw[updH_same] at hz;cases hz;exact ⟨hs,hxs⟩
      ·rw[updH_ne e] at hz;exact Wn.own z t hz
     ·have hold1:∀z,z≠x→r.2.hold z=some s→z∈st.seen:=fun z hzx hz=>by
       rcases Wn.val z s hz with e|⟨z',hz'⟩
       ·exact absurd e.symm hso
       ·have h3:=R.only z' hz'
        by_cases e:z=z'
        ·subst e;exact h3
        ·have h4:r.2.hold z'=some s:=by rw[Wn.keep z' (List.mem_cons_of_mem _ h3)];exact hz'
         exact absurd (Wn.inj z z' s e hz h4).1.symm hso
      by_cases e1:a=x
      ·subst e1
       rw[updH_same] at ha
       cases ha
       rw[updH_ne (fun e=>hab e.symm)] at hb
       exact ⟨rfl,Or.inr (hold1 b (fun e=>hab e.symm) hb)⟩
      ·rw[updH_ne e1] at ha
       by_cases e2:b=x
       ·subst e2
        rw[updH_same] at hb
        cases hb
        exact ⟨rfl,Or.inl (hold1 a hab ha)⟩
       ·rw[updH_ne e2] at hb
        obtain ⟨e3,h4⟩:=Wn.inj a b t hab ha hb
        subst e3
        have h5:∀z,z≠x→z∈x :: st.seen→r.2.hold z=some t→False:=fun z hzx hz hh=>by
         rw[Wn.keep z hz] at hh
         exact R.inj z x t hzx hh ho
        rcases h4 with h4|h4
        ·exact (h5 a e1 h4 ha).elim
        ·exact (h5 b e2 h4 hb).elim
     ·by_cases e:z=x
      ·subst e;rw[updH_same] at hz;cases hz;exact Or.inl rfl
      ·rw[updH_ne e] at hz
       rcases Wn.val z t hz with e2|h6
       ·subst e2;exact Or.inr ⟨x,ho⟩
       ·exact Or.inr h6
    ·rw[if_neg hr]
     obtain ⟨N,hL,hA,hS⟩:=pb (by simpa using hr)
     have hh:r.2.hold=st.hold:=hL.hold
     have hse:r.2.seen=N.reverse++(x :: st.seen):=hL.seen
     have hsub:∀z,z∈st.seen→z∈r.2.seen:=fun z hz=>by rw[hse];exact List.mem_append_right _ (List.mem_cons_of_mem _ hz)
     have R3:Ready sets s r.2:=⟨by rw[hh];exact R.own,by rw[hh];exact R.inj,fun z hz=>hsub z (R.only z (by rw[hh] at hz;exact hz))⟩
     obtain ⟨ha,hb⟩:=ih r.2 (fun y hy=>hx y (List.mem_cons_of_mem _ hy)) R3 (by have:=unseen_mono (U:=sets.flatten) hsub;omega)
     generalize tryM (placeM sets f) s xs r.2=q at ha hb ⊢
     constructor
     ·intro e
      have Wn:=ha e
      refine ⟨fun z hz=>?_,?_,fun t ht=>Wn.cov t (by rw[hh];exact ht),Wn.own,fun a b t hab h2 h3=>?_,fun z t hz=>?_⟩
      ·rw[Wn.keep z (hsub z hz),hh]
      ·obtain ⟨y,hy1,hy2⟩:=Wn.new
       exact ⟨y,fun h=>hy1 (hsub y h),hy2⟩
      ·obtain ⟨e3,h4⟩:=Wn.inj a b t hab h2 h3
       refine ⟨e3,?_⟩
       subst e3
       have h5:∀z,z∈r.2.seen→q.2.hold z=some t→z∈st.seen:=fun z hz hq=>by
        rw[Wn.keep z hz,hh] at hq
        exact R.only z hq
       rcases h4 with h4|h4
       ·exact Or.inl (h5 a h4 h2)
       ·exact Or.inr (h5 b h4 h3)
      ·rcases Wn.val z t hz with e2|h6
       ·exact Or.inl e2
       ·rw[hh] at h6;exact Or.inr h6
     ·intro e
      obtain ⟨N2,hL2,hA2,hS2⟩:=hb e
      refine ⟨x :: (N++N2),⟨by rw[hL2.hold,hh],?_,?_,?_,?_⟩,?_,?_⟩
      ·rw[hL2.seen,hse];simp
      ·rw[List.nodup_cons,List.nodup_append]
       refine ⟨fun h=>?_,hL.nodup,hL2.nodup,fun a h2 b h3 e=>?_⟩
       ·rcases List.mem_append.1 h with h|h
        ·exact hL.fresh x h List.mem_cons_self
        ·exact hL2.fresh x h (by rw[hse];simp)
       ·subst e
        exact hL2.fresh a h3 (by rw[hse];simp[h2])
      ·intro z hz h2
       rcases List.mem_cons.1 hz with rfl|hz
       ·exact h1 h2
       ·rcases List.mem_append.1 hz with hz|hz
        ·exact hL.fresh z hz (List.mem_cons_of_mem _ h2)
        ·exact hL2.fresh z hz (hsub z h2)
      ·intro z hz
       have hq:∀y,y∈r.2.seen→y∈q.2.seen:=fun y hy=>by rw[hL2.seen];exact List.mem_append_right _ hy
       rcases List.mem_cons.1 hz with rfl|hz
       ·exact ⟨o,ho,fun y hy=>hq y (hS y hy)⟩
       ·rcases List.mem_append.1 hz with hz|hz
        ·obtain ⟨t,ht,h3⟩:=hL.all z hz
         exact ⟨t,ht,fun y hy=>hq y (h3 y hy)⟩
        ·obtain ⟨t,ht,h3⟩:=hL2.all z hz
         exact ⟨t,by rw[hh] at ht;exact ht,h3⟩
      ·rw[hA2,hA,hh]
       simp[heldBy,ho]
      ·intro y hy
       rcases List.mem_cons.1 hy with rfl|hy
       ·rw[hL2.seen,hse];simp
       ·exact hS2 y hy
theorem place_ok {sets:List (List Int)}:∀f,PlaceOK sets f:=by
 intro f
 induction f with
 | zero=>intro s st _ _ h;omega
 | succ f ih =>
  intro s st hs R hu
  rw[placeM]
  obtain ⟨ha,hb⟩:=try_ok ih hs (sets[s]?.getD []) ⟨st.hold,st.seen,st.asked++[s]⟩ (fun _ h=>h) ⟨R.own,R.inj,R.only⟩ hu
  refine ⟨fun e=>?_,fun e=>?_⟩
  ·have Wn:=ha e
   exact ⟨Wn.keep,Wn.new,Wn.cov,Wn.own,Wn.inj,Wn.val⟩
  ·obtain ⟨N,hL,hA,hS⟩:=hb e
   exact ⟨N,⟨hL.hold,hL.seen,hL.nodup,hL.fresh,hL.all⟩,by rw[hA];simp,hS⟩
end
section
def matchM (sets:List (List Int)) (F:Nat):Nat→Nat→(Int→Option Nat)→(Int→Option Nat) ⊕ List Nat
 | 0,_,h => .inl h
 | m+1,k,h=>if (placeM sets F k ⟨h,[],[]⟩).1=true then matchM sets F m (k+1) (placeM sets F k ⟨h,[],[]⟩).2.hold else .inr (placeM sets F k ⟨h,[],[]⟩).2.asked
structure Sdr (sets:List (List Int)) (l:List Int):Prop where
 len:l.length=sets.length
 nodup:l.Nodup
 mem:∀i,i<sets.length→l[i]?.getD 0∈sets[i]?.getD []
structure Violates (sets:List (List Int)) (A:List Nat):Prop where
 nodup:A.Nodup
 lt:∀t,t∈A→t<sets.length
 few:∃N:List Int,N.length<A.length∧∀t,t∈A→∀y,y∈sets[t]?.getD []→y∈N
theorem nodupI_le:∀{l m:List Int},l.Nodup→(∀x,x∈l→x∈m)→l.length≤m.length
 | [],_,_,_=>Nat.zero_le _
 | x :: l,m,hn,hs=>by
  rw[List.nodup_cons] at hn
  have hx:=hs x List.mem_cons_self
  have h:=nodupI_le (l:=l) (m:=m.erase x) hn.2 (fun y hy=>(List.mem_erase_of_ne (fun e=>hn.1 (by rw[← e];exact hy))).2 (hs y (List.mem_cons_of_mem _ hy)))
  rw[List.length_erase_of_mem hx] at h
  have:=List.length_pos_of_mem hx
  simp only[List.length_cons]
  omega
theorem violates_none {sets:List (List Int)} {A:List Nat} (h:Violates sets A) {l:List Int} (hl:Sdr sets l):False:=by
 obtain ⟨N,hN,hA⟩:=h.few
 have h1:(A.map fun t=>l[t]?.getD 0).Nodup:=by
  have hinj:∀(B:List Nat),B.Nodup→(∀t,t∈B→t<sets.length)→(B.map fun t=>l[t]?.getD 0).Nodup:=by
   intro B
   induction B with
   | nil=>intro _ _;exact List.nodup_nil
   | cons t B ih =>
    intro hB hlt
    rw[List.nodup_cons] at hB
    rw[List.map_cons,List.nodup_cons]
    refine ⟨fun hm=>?_,ih hB.2 (fun u hu=>hlt u (List.mem_cons_of_mem _ hu))⟩
    obtain ⟨u,hu,e⟩:=List.mem_map.1 hm
    have ht:=hlt t List.mem_cons_self
    have hu2:=hlt u (List.mem_cons_of_mem _ hu)
    have hl1:=hl.len
    rw[List.getElem?_eq_getElem (by omega),List.getElem?_eq_getElem (by omega),Option.getD_some,Option.getD_some] at e
    have:=(List.getElem_inj (h₀:=by omega) (h₁:=by omega) hl.nodup).1 e
    exact hB.1 (this▸hu)
  exact hinj A h.nodup h.lt
 have h2:=nodupI_le (m:=N) h1 (fun x hx=>by
  obtain ⟨t,ht,e⟩:=List.mem_map.1 hx
  rw[← e]
  exact hA t ht _ (hl.mem t (h.lt t ht)))
 rw[List.length_map] at h2
 omega
structure Held (sets:List (List Int)) (k:Nat) (h:Int→Option Nat):Prop where
 own:Own sets h
 inj:InjH h
 cov:∀t,t<k→∃z,h z=some t
 lt:∀z t,h z=some t→t<k
theorem held_sdr {sets:List (List Int)} {h:Int→Option Nat} (H:Held sets sets.length h):∃l,Sdr sets l:=by
 have hc:∀k,k≤sets.length→∃l:List Int,l.length=k∧∀i,i<k→h (l[i]?.getD 0)=some i:=by
  intro k
  induction k with
  | zero=>intro _;exact ⟨[],rfl,fun i hi=>absurd hi (by omega)⟩
  | succ k ih =>
   intro hk
   obtain ⟨l,hl,hm⟩:=ih (by omega)
   obtain ⟨z,hz⟩:=H.cov k (by omega)
   refine ⟨l++[z],by simp[hl],fun i hi=>?_⟩
   by_cases e:i=k
   ·subst e
    rw[List.getElem?_append_right (by omega),hl,Nat.sub_self]
    exact hz
   ·rw[List.getElem?_append_left (by omega)]
    exact hm i (by omega)
 obtain ⟨l,hl,hm⟩:=hc sets.length (Nat.le_refl _)
 refine ⟨l,hl,?_,fun i hi=>(H.own _ _ (hm i hi)).2⟩
 rw[List.nodup_iff_pairwise_ne,List.pairwise_iff_getElem]
 intro i j hi hj hij e
 have h1:=hm i (by omega)
 have h2:=hm j (by omega)
 rw[List.getElem?_eq_getElem hi,Option.getD_some] at h1
 rw[List.getElem?_eq_getElem hj,Option.getD_some,← e,h1] at h2
 cases h2
 omega
theorem heldBy_nodup {h:Int→Option Nat} (hI:InjH h):∀{N:List Int},N.Nodup→(∀x,x∈N→∃t,h x=some t)→(heldBy h N).Nodup:=by
 intro N
 induction N with
 | nil=>intro _ _;exact List.nodup_nil
 | cons x N ih =>
  intro hn ha
  rw[List.nodup_cons] at hn
  unfold heldBy
  rw[List.map_cons,List.nodup_cons]
  refine ⟨fun hm=>?_,ih hn.2 (fun y hy=>ha y (List.mem_cons_of_mem _ hy))⟩
  obtain ⟨y,hy,e⟩:=List.mem_map.1 hm
  obtain ⟨t,ht⟩:=ha x List.mem_cons_self
  obtain ⟨u,hu⟩:=ha y (List.mem_cons_of_mem _ hy)
  rw[ht,hu,Option.getD_some,Option.getD_some] at e
  subst e
  exact hI x y u (fun e=>hn.1 (e▸hy)) ht hu
theorem match_ok {sets:List (List Int)} {F:Nat} (hF:sets.flatten.length<F):∀(m k:Nat) (h:Int→Option Nat),k+m=sets.length→Held sets k h →
  (∀g,matchM sets F m k h = .inl g→∃l,Sdr sets l)∧(∀A,matchM sets F m k h = .inr A→Violates sets A∧A≠[]):=by
 intro m
 induction m with
 | zero =>
  intro k h hk H
  refine ⟨fun _ _=>?_,fun A e=>by simp[matchM] at e⟩
  have:k=sets.length:=by omega
  subst this
  exact held_sdr H
 | succ m ih =>
  intro k h hk H
  have R:Ready sets k ⟨h,[],[]⟩:=⟨H.own,H.inj,fun z hz=>absurd (H.lt z k hz) (by omega)⟩
  have hu:unseen sets.flatten []<F:=by
   have:unseen sets.flatten []≤sets.flatten.length:=List.countP_le_length
   omega
  obtain ⟨pa,pb⟩:=place_ok F k ⟨h,[],[]⟩ (by omega) R hu
  rw[matchM]
  generalize placeM sets F k ⟨h,[],[]⟩=r at pa pb ⊢
  by_cases hr:r.1=true
  ·rw[if_pos hr]
   have Wn:=pa hr
   refine ih (k+1) r.2.hold (by omega) ⟨Wn.own,fun a b t hab ha hb=>?_,fun t ht=>?_,fun z t hz=>?_⟩
   ·rcases (Wn.inj a b t hab ha hb).2 with h1|h1 <;> cases h1
   ·by_cases e:t=k
    ·subst e
     obtain ⟨y,_,_,hy⟩:=Wn.new
     exact ⟨y,hy⟩
    ·exact Wn.cov t (H.cov t (by omega))
   ·rcases Wn.val z t hz with e|⟨z',hz'⟩
    ·omega
    ·have:=H.lt z' t hz';omega
  ·rw[if_neg hr]
   refine ⟨fun g e=>(by cases e),fun A e=>?_⟩
   cases e
   obtain ⟨N,hL,hA,hS⟩:=pb (by simpa using hr)
   have hall:∀x,x∈N→∃t,h x=some t∧∀y,y∈sets[t]?.getD []→y∈r.2.seen:=hL.all
   have hse:r.2.seen=N.reverse:=by rw[hL.seen];simp
   have hAk:r.2.asked=k :: heldBy h N:=by rw[hA];simp
   rw[hAk]
   have hmem:∀t,t∈heldBy h N→∃x,x∈N∧h x=some t:=fun t ht=>by
    obtain ⟨x,hx,e⟩:=List.mem_map.1 ht
    obtain ⟨u,hu,_⟩:=hall x hx
    rw[hu,Option.getD_some] at e
    exact ⟨x,hx,e▸hu⟩
   refine ⟨⟨?_,?_,N,?_,?_⟩,by simp⟩
   ·rw[List.nodup_cons]
    refine ⟨fun hm=>?_,heldBy_nodup H.inj hL.nodup (fun x hx=>by obtain ⟨t,ht,_⟩:=hall x hx;exact ⟨t,ht⟩)⟩
    obtain ⟨x,_,hx⟩:=hmem k hm
    exact absurd (H.lt x k hx) (by omega)
   ·intro t ht
    rcases List.mem_cons.1 ht with rfl|ht
    ·omega
    ·obtain ⟨x,_,hx⟩:=hmem t ht
     have:=H.lt x t hx
     omega
   ·simp[heldBy]
   ·intro t ht y hy
    rcases List.mem_cons.1 ht with rfl|ht
    ·have:=hS y hy;rw[hse] at this;simpa using this
    ·obtain ⟨x,hxN,hx⟩:=hmem t ht
     obtain ⟨u,hu,h3⟩:=hall x hxN
     rw[hx] at hu
     cases hu
     have:=h3 y hy
     rw[hse] at this
     simpa using this
def feasB (sets:List (List Int)):Bool:=match matchM sets (sets.flatten.length+1) sets.length 0 (fun _=>none) with
 | .inl _=>true
 | .inr _=>false
theorem feasB_iff {sets:List (List Int)}:feasB sets=true↔∃l,Sdr sets l:=by
 have hH:Held sets 0 (fun _=>none):=⟨fun _ _ h=>(by cases h),fun _ _ _ _ h=>(by cases h),fun t ht=>absurd ht (by omega),fun _ _ h=>(by cases h)⟩
 obtain ⟨ha,hb⟩:=match_ok (F:=sets.flatten.length+1) (by omega) sets.length 0 (fun _=>none) (by omega) hH
 unfold feasB
 cases hm:matchM sets (sets.flatten.length+1) sets.length 0 (fun _=>none) with
 | inl g=>exact ⟨fun _=>ha g hm,fun _=>rfl⟩
 | inr A=>exact ⟨fun h=>(by cases h),fun ⟨l,hl⟩=>(violates_none (hb A hm).1 hl).elim⟩
def repR (sets:List (List Int)):Nat→List Int→Option (List Int)
 | 0,l=>some l
 | f+1,l=>(sets[l.length]?.getD []).findSome? fun x=>if x∈l then none else repR sets f (l++[x])
def repP (sets:List (List Int)):Nat→List Int→List (List Int)→Option (List Int)
 | 0,out,_=>some out
 | f+1,out,left=>match (sets[out.length]?.getD []).find? fun x=>decide (x ∉ out)&&feasB (left.set out.length [x]) with
  | none=>none
  | some x=>repP sets f (out++[x]) (left.set out.length [x])
def Goes (sets:List (List Int)) (out l:List Int):Prop:=Sdr sets l∧l.take out.length=out
theorem take_snoc2 {l:List Int} {k:Nat} (hk:k<l.length):l.take (k+1)=l.take k++[l[k]?.getD 0]:=by
 rw[List.take_add_one,List.getElem?_eq_getElem hk]
 rfl
theorem repR_some {sets:List (List Int)}:∀{f:Nat} {out r:List Int},out.length+f=sets.length→out.Nodup→(∀i,i<out.length→out[i]?.getD 0∈sets[i]?.getD [])→repR sets f out=some r→Goes sets out r:=by
 intro f
 induction f with
 | zero =>
  intro out r hl hn hm h
  cases h
  exact ⟨⟨by omega,hn,fun i hi=>hm i (by omega)⟩,List.take_of_length_le (by omega)⟩
 | succ f ih =>
  intro out r hl hn hm h
  rw[repR] at h
  obtain ⟨x,hx,e⟩:=List.exists_of_findSome?_eq_some h
  by_cases hxo:x∈out
  ·rw[if_pos hxo] at e;cases e
  ·rw[if_neg hxo] at e
   have hg:=ih (out:=out++[x]) (by rw[List.length_append,List.length_singleton];omega) (by rw[List.nodup_append];exact ⟨hn,by simp,fun a ha b hb e3=>by simp at hb;rw[e3,hb] at ha;exact hxo ha⟩) (fun i hi=>by
    rw[List.length_append,List.length_singleton] at hi
    by_cases e2:i=out.length
    ·subst e2;rw[List.getElem?_append_right (by omega),Nat.sub_self];exact hx
    ·rw[List.getElem?_append_left (by omega)];exact hm i (by omega)) e
   refine ⟨hg.1,?_⟩
   have h2:=congrArg (List.take out.length) hg.2
   rw[List.take_take,List.length_append,List.length_singleton,Nat.min_eq_left (by omega),List.take_left' rfl] at h2
   exact h2
theorem repR_none {sets:List (List Int)}:∀{f:Nat} {out l:List Int},out.length+f=sets.length→repR sets f out=none→Goes sets out l→False:=by
 intro f
 induction f with
 | zero=>intro out l _ h;cases h
 | succ f ih =>
  intro out l hl h hg
  rw[repR,List.findSome?_eq_none_iff] at h
  have hll:=hg.1.len
  have hm:=hg.1.mem out.length (by omega)
  have h1:=h _ hm
  have hno:l[out.length]?.getD 0 ∉ out:=fun hin=>by
   have hin2:l[out.length]?.getD 0∈l.take out.length:=by rw[hg.2];exact hin
   obtain ⟨i,hi,e⟩:=List.getElem_of_mem hin2
   have hi2:=hi
   rw[List.length_take] at hi2
   rw[List.getElem_take,List.getElem?_eq_getElem (show out.length<l.length by omega),Option.getD_some] at e
   have:=(List.getElem_inj (h₀:=by omega) (h₁:=by omega) hg.1.nodup).1 e
   omega
  rw[if_neg hno] at h1
  exact ih (by rw[List.length_append,List.length_singleton];omega) h1 ⟨hg.1,by rw[List.length_append,List.length_singleton,take_snoc2 (by omega),hg.2]⟩
def Fast (sets:List (List Int)) (out:List Int) (left:List (List Int)):Prop:=left.length=sets.length∧(∀i,i<out.length→left[i]?.getD []=[out[i]?.getD 0])∧∀i,out.length≤i→left[i]?.getD []=sets[i]?.getD []
theorem fast_goes {sets left:List (List Int)} {out:List Int} (hF:Fast sets out left) (hol:out.length≤sets.length) (hm:∀i,i<out.length→out[i]?.getD 0∈sets[i]?.getD []):(∃l,Sdr left l)↔∃l,Goes sets out l:=by
 constructor
 ·rintro ⟨l,hl⟩
  have h1:=hl.len
  rw[hF.1] at h1
  have he:l.take out.length=out:=by
   apply List.ext_getElem?
   intro i
   by_cases hi:i<out.length
   ·have h2:=hl.mem i (by rw[hF.1];omega)
    rw[hF.2.1 i hi,List.mem_singleton] at h2
    rw[List.getElem?_take_of_lt hi,List.getElem?_eq_getElem (show i<l.length by omega),List.getElem?_eq_getElem hi]
    rw[List.getElem?_eq_getElem (show i<l.length by omega),List.getElem?_eq_getElem hi,Option.getD_some,Option.getD_some] at h2
    rw[h2]
   ·rw[List.getElem?_eq_none (by rw[List.length_take];omega),List.getElem?_eq_none (by omega)]
  refine ⟨l,⟨h1,hl.nodup,fun i hi=>?_⟩,he⟩
  by_cases hi2:i<out.length
  ·have h2:=hl.mem i (by rw[hF.1];omega)
   rw[hF.2.1 i hi2,List.mem_singleton] at h2
   rw[h2]
   exact hm i hi2
  ·have h2:=hl.mem i (by rw[hF.1];omega)
   rw[hF.2.2 i (by omega)] at h2
   exact h2
 ·rintro ⟨l,hl,he⟩
  refine ⟨l,by rw[hl.len,hF.1],hl.nodup,fun i hi=>?_⟩
  rw[hF.1] at hi
  by_cases hi2:i<out.length
  ·rw[hF.2.1 i hi2,List.mem_singleton]
   have h2:=congrArg (fun m=>m[i]?.getD 0) he
   simp only[List.getElem?_take_of_lt hi2] at h2
   exact h2
  ·rw[hF.2.2 i (by omega)]
   exact hl.mem i hi
theorem rep_eq {sets:List (List Int)}:∀{f:Nat} {out:List Int} {left:List (List Int)},out.length+f=sets.length→out.Nodup→(∀i,i<out.length→out[i]?.getD 0∈sets[i]?.getD [])→Fast sets out left→repP sets f out left=repR sets f out:=by
 intro f
 induction f with
 | zero=>intro out left _ _ _ _;rfl
 | succ f ih =>
  intro out left hl hn hm hF
  have hstep:∀x,x∈sets[out.length]?.getD []→x ∉ out→Fast sets (out++[x]) (left.set out.length [x])∧(out++[x]).length+f=sets.length∧(out++[x]).Nodup∧∀i,i<(out++[x]).length→(out++[x])[i]?.getD 0∈sets[i]?.getD []:=fun x hx hxo=>by
   refine ⟨⟨by rw[List.length_set];exact hF.1,fun i hi=>?_,fun i hi=>?_⟩,by rw[List.length_append,List.length_singleton];omega,by rw[List.nodup_append];exact ⟨hn,by simp,fun a ha b hb e3=>by simp at hb;rw[e3,hb] at ha;exact hxo ha⟩,fun i hi=>?_⟩
   ·rw[List.length_append,List.length_singleton] at hi
    have h1:=hF.1
    by_cases e2:i=out.length
    ·subst e2
     rw[List.getElem?_append_right (by omega),Nat.sub_self,List.getElem?_set,if_pos rfl,if_pos (by omega)]
     rfl
    ·rw[List.getElem?_append_left (by omega),List.getElem?_set,if_neg (fun e=>e2 e.symm)]
     exact hF.2.1 i (by omega)
   ·rw[List.length_append,List.length_singleton] at hi
    rw[List.getElem?_set,if_neg (by omega)]
    exact hF.2.2 i (by omega)
   ·rw[List.length_append,List.length_singleton] at hi
    by_cases e2:i=out.length
    ·subst e2;rw[List.getElem?_append_right (by omega),Nat.sub_self];exact hx
    ·rw[List.getElem?_append_left (by omega)];exact hm i (by omega)
  have hfe:∀x,x∈sets[out.length]?.getD []→x ∉ out→(feasB (left.set out.length [x])=true↔∃r,repR sets f (out++[x])=some r):=fun x hx hxo=>by
   obtain ⟨h1,h2,h3,h4⟩:=hstep x hx hxo
   rw[feasB_iff,fast_goes h1 (by omega) h4]
   constructor
   ·rintro ⟨l,hg⟩
    cases hr:repR sets f (out++[x]) with
    | some r=>exact ⟨r,rfl⟩
    | none=>exact (repR_none h2 hr hg).elim
   ·rintro ⟨r,hr⟩
    exact ⟨r,repR_some h2 h3 h4 hr⟩
  rw[repP,repR]
  have hgo:∀xs:List Int,(∀x,x∈xs→x∈sets[out.length]?.getD [])→(match xs.find? (fun x=>decide (x ∉ out)&&feasB (left.set out.length [x])) with
    | none=>none
    | some x=>repP sets f (out++[x]) (left.set out.length [x]))=xs.findSome? fun x=>if x∈out then none else repR sets f (out++[x]):=by
   intro xs
   induction xs with
   | nil=>intro _;rfl
   | cons x xs ihx =>
    intro hx
    have hx1:=hx x List.mem_cons_self
    have ihx:=ihx (fun y hy=>hx y (List.mem_cons_of_mem _ hy))
    rw[List.find?_cons,List.findSome?_cons]
    by_cases hxo:x∈out
    ·rw[if_pos hxo,decide_eq_false (fun h=>h hxo),Bool.false_and]
     exact ihx
    ·rw[if_neg hxo,decide_eq_true hxo,Bool.true_and]
     have h5:=hfe x hx1 hxo
     obtain ⟨h1,h2,h3,h4⟩:=hstep x hx1 hxo
     cases hr:repR sets f (out++[x]) with
     | some r =>
      rw[h5.2 ⟨r,hr⟩]
      show repP sets f (out++[x]) (left.set out.length [x])=some r
      rw[ih h2 h3 h4 h1,hr]
     | none =>
      have:feasB (left.set out.length [x])=false:=by
       rw[Bool.eq_false_iff]
       intro e
       obtain ⟨r,hr2⟩:=h5.1 e
       rw[hr] at hr2
       cases hr2
      rw[this]
      exact ihx
  exact hgo _ (fun _ h=>h)
end
section
end
section
end
section
theorem lineB_comm {C c d:Nat}:lineB C c d=lineB C d c:=by
 unfold lineB
 rw[Bool.eq_iff_iff]
 simp only[Bool.or_eq_true,beq_iff_eq]
 constructor
 ·rintro (h|h)
  ·exact Or.inl h.symm
  ·exact Or.inr h.symm
 ·rintro (h|h)
  ·exact Or.inl h.symm
  ·exact Or.inr h.symm
def OnceP (C:Nat) (cs:List Int):Prop:=∀c d,c<cs.length→d<cs.length→c≠d→lineB C c d=true→cs[c]?.getD 0=cs[d]?.getD 0→cs[c]?.getD 0<0
theorem once_iff {C:Nat} {cs:List Int}:twiceB C cs=false↔OnceP C cs:=by
 rw[Bool.eq_false_iff,Ne,twiceB_true]
 constructor
 ·intro h c d hc hd hcd hl he
  by_cases h0:0≤cs[c]?.getD 0
  ·exfalso
   rcases Nat.lt_or_gt_of_ne hcd with h1|h1
   ·exact h ⟨d,c,hd,h1,by rw[lineB_comm];exact hl,he.symm,by omega⟩
   ·exact h ⟨c,d,hc,h1,hl,he,h0⟩
  ·omega
 ·rintro h ⟨c,d,hc,hd,hl,he,h0⟩
  have:=h c d hc (by omega) (by omega) hl he
  omega
end
section
theorem full_mem {n:Nat} {l:List Int} (hn:l.Nodup) (hl:l.length=n) (hr:∀y,y∈l→0≤y∧y<(n:Int)) {x:Int} (h0:0≤x) (h1:x<(n:Int)):x∈l:=by
 by_cases hm:x∈l
 ·exact hm
 ·exfalso
  have hx:x∈(List.range n).map fun (i:Nat)=>(i:Int):=List.mem_map.2 ⟨x.toNat,List.mem_range.2 (by omega),by omega⟩
  have h2:=nodupI_le (l:=l) (m:=((List.range n).map fun (i:Nat)=>(i:Int)).erase x) hn (fun y hy=>by
   have h3:=hr y hy
   have h4:y≠x:=fun e=>hm (e▸hy)
   exact (List.mem_erase_of_ne h4).2 (List.mem_map.2 ⟨y.toNat,List.mem_range.2 (by omega),by omega⟩))
  rw[List.length_erase_of_mem hx,List.length_map,List.length_range] at h2
  omega
theorem gcell_div {n i j:Nat} (hj:j<n):(i*n+j) / n=i∧(i*n+j) % n=j:=by
 constructor
 ·rw[Nat.add_comm,Nat.add_mul_div_right _ _ (by omega),Nat.div_eq_of_lt hj,Nat.zero_add]
 ·rw[Nat.add_comm,Nat.add_mul_mod_self_right,Nat.mod_eq_of_lt hj]
theorem gcell_lt {n i j:Nat} (hi:i<n) (hj:j<n):i*n+j<n*n:=by
 have:=Nat.mul_le_mul_right n (show i+1≤n by omega)
 rw[Nat.add_mul,Nat.one_mul] at this
 omega
theorem Latin.get {n:Nat} {cs:List Int} (L:Latin n cs) {c:Nat} (hc:c<n*n):0≤cs[c]?.getD 0∧cs[c]?.getD 0<(n:Int):=by
 rw[List.getElem?_eq_getElem (by rw[L.len];exact hc),Option.getD_some]
 exact L.num _ (List.getElem_mem _)
theorem Latin.row {n:Nat} {cs:List Int} (L:Latin n cs) {i:Nat} (hi:i<n) {x:Int} (h0:0≤x) (h1:x<(n:Int)):∃j,j<n∧cs[i*n+j]?.getD 0=x:=by
 have ho:=once_iff.1 L.once
 have hm:=full_mem (n:=n) (l:=(List.range n).map fun j=>cs[i*n+j]?.getD 0) (by
  rw[List.nodup_iff_pairwise_ne,List.pairwise_map]
  refine (List.pairwise_lt_range (n:=n)).imp_of_mem (fun {a b} ha hb hab e=>?_)
  rw[List.mem_range] at ha hb
  have h2:=ho (i*n+a) (i*n+b) (by rw[L.len];exact gcell_lt hi ha) (by rw[L.len];exact gcell_lt hi hb) (by omega) (by unfold lineB;rw[(gcell_div ha).1,(gcell_div hb).1];simp) e
  have h3:=L.get (gcell_lt hi ha)
  omega) (by rw[List.length_map,List.length_range]) (fun y hy=>by
  obtain ⟨j,hj,e⟩:=List.mem_map.1 hy
  rw[← e]
  exact L.get (gcell_lt hi (List.mem_range.1 hj))) h0 h1
 obtain ⟨j,hj,e⟩:=List.mem_map.1 hm
 exact ⟨j,List.mem_range.1 hj,e⟩
end
end Go.Proofs.YtpkghjoippcjeaaGreatDoor
