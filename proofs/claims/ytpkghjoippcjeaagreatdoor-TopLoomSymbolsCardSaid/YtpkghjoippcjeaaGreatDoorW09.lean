/- Texts N1 to N3 of this proof, in one file. -/
import Derived.Test.YtpkghjoippcjeaaGreatDoorW01
import Derived.Test.YtpkghjoippcjeaaGreatDoorW04
import Derived.Test.YtpkghjoippcjeaaGreatDoorW05
namespace Go.Proofs.YtpkghjoippcjeaaGreatDoor
set_option maxRecDepth 100000
set_option maxHeartbeats 16000000
section
open Go Go.RowKit
section
variable {P:Program} {ops:Array Oper} {Q:Exit→Act→World→Prop} {md:Region.Mode} {S:World→Prop}
def forkOk (md:Region.Mode) (ops:Array Oper) (lt:List Nat) (i j:Nat) (r:List (Nat × Nat)):List Nat→Array Bool→Bool
 | [],listed=>((Region.ready md ops listed)==[i,j])&&seqOk md ops lt ((1,j) :: r) (listed.setIfInBounds i true)&&seqOk md ops lt ((1,i) :: r) (listed.setIfInBounds j true)
 | k :: qs,listed =>
  (Region.ready md ops listed).contains k&&Region.free md ops listed k&&!lt.contains k&&lt.all (fun j=>(closure md ops ops.size (aftersOf md ops j)).contains k)&&forkOk md ops lt i j r qs (listed.setIfInBounds k true)
theorem loud_step (hs:Region.noSelect ops=true) (lt:List Nat) (hQ:∀c a d v w,Q (.panic c) (Act.put a d v) w→Q (.panic c) a w) {i:Nat} {t:List (Nat × Nat)} {listed:Array Bool} {a:Act} {w:World}
  (hcl:Closed md ops listed) (hS:S w) (hr:i∈Region.ready md ops listed) (hc:seqOk md ops lt t (listed.setIfInBounds i true)=true) (h:wpS P ops S Q (pickOps ops.toList ((1,i) :: t)) a w) :
  wpOp P ops Q i (fun a' w'=>(lt.contains i=false→S w')∧wpL P md ops Q S (fun i=>lt.contains i) t.length (listed.setIfInBounds i true) a' w') a w:=by
 obtain ⟨oi,hoi⟩:∃oi,ops[i]?=some oi:=by
  obtain ⟨_,oi,h1,_⟩:=(mem_ready (md:=md) (ops:=ops) (listed:=listed) (j:=i)).1 hr
  exact ⟨oi,h1⟩
 have hp:nthOp ops.toList i=some oi:=by rw[nthOp_eq];simpa using hoi
 simp only[pickOps,hp,wpS] at h
 refine wpOp_of_if hoi ?_
 split
 ·rename_i hw
  rw[if_pos hw] at h
  exact h.imp (Oper.wp_mono fun a' w' hk=>⟨fun _=>hk.1,wpL_of_S hs lt hQ t _ a' w' (hcl.set hr) (fun _=>hk.1) hc hk.2⟩) id
 ·rename_i hw
  rw[if_neg hw] at h
  exact ⟨fun _=>hS,wpL_of_S hs lt hQ t _ _ w (hcl.set hr) (fun _=>hS) hc h⟩
theorem wpL_of_fork (hs:Region.noSelect ops=true) (lt:List Nat) (i j:Nat) (r:List (Nat × Nat)) (hQ:∀c a d v w,Q (.panic c) (Act.put a d v) w→Q (.panic c) a w) :
  ∀(qs:List Nat) (listed:Array Bool) (a:Act) (w:World),Closed md ops listed→S w→forkOk md ops lt i j r qs listed=true →
   wpS P ops S Q (pickOps ops.toList (qs.map (fun k=>(0,k))++(1,i) :: (1,j) :: r)) a w→wpS P ops S Q (pickOps ops.toList (qs.map (fun k=>(0,k))++(1,j) :: (1,i) :: r)) a w →
   wpL P md ops Q S (fun i=>lt.contains i) (qs.length+(r.length+2)) listed a w
 | [],listed,a,w,hcl,hSw,hc,h1,h2=>by
  simp only[forkOk,Bool.and_eq_true,beq_iff_eq] at hc
  obtain ⟨⟨hr,hc1⟩,hc2⟩:=hc
  rw[show ([]:List Nat).length+(r.length+2)=(r.length+1)+1 from by simp]
  refine ⟨fun h0=>absurd (hr▸h0) (by simp),fun k hk=>?_⟩
  have hk':=hk
  rw[hr] at hk'
  rcases List.mem_cons.1 hk' with rfl|hk2
  ·exact loud_step hs lt hQ (t:=(1,j) :: r) hcl hSw hk hc1 h1
  ·obtain rfl:k=j:=by simpa using hk2
   exact loud_step hs lt hQ (t:=(1,i) :: r) hcl hSw hk hc2 h2
 | k :: qs,listed,a,w,hcl,hSw,hc,h1,h2=>by
  simp only[forkOk,Bool.and_eq_true] at hc
  obtain ⟨⟨⟨⟨hr,hf⟩,hnl⟩,hla⟩,hc'⟩:=hc
  obtain ⟨oi,hoi⟩:∃oi,ops[k]?=some oi:=by
   obtain ⟨_,oi,h1,_⟩:=(mem_ready (md:=md) (ops:=ops) (listed:=listed) (j:=k)).1 (by simpa using hr)
   exact ⟨oi,h1⟩
  have hp:nthOp ops.toList k=some oi:=by rw[nthOp_eq];simpa using hoi
  have hnl':lt.contains k=false:=by simpa using hnl
  have hlate:∀j listed,lt.contains j=true→Closed md ops listed→j∈Region.ready md ops listed→listed.getD k false=true:=by
   intro j listed' hl hcl' hj
   have h1:=List.all_eq_true.1 hla j (by simpa using hl)
   exact closure_listed hcl' _ _ (ready_afters hj) k (by simpa using h1)
  simp only[List.map_cons,List.cons_append,pickOps,hp,wpS] at h1 h2
  rw[show (k :: qs).length+(r.length+2)=(qs.length+(r.length+2))+1 from by simp only[List.length_cons];omega]
  have key:∀v,YieldsIf P ops S oi v a→wpS P ops S Q (pickOps ops.toList (qs.map (fun k=>(0,k))++(1,i) :: (1,j) :: r)) (a.put oi.dst v) w→wpS P ops S Q (pickOps ops.toList (qs.map (fun k=>(0,k))++(1,j) :: (1,i) :: r)) (a.put oi.dst v) w→wpL P md ops Q S (fun i=>lt.contains i) (qs.length+(r.length+2)+1) listed a w:=by
   intro v hy k1 k2
   exact wpL_first hoi (Region.noSelect_spec hs) (fun c a' w'=>hQ c a' _ _ w') hnl' hlate (qs.length+(r.length+2)) listed a w hcl (Region.free_spec hoi hf) (by simpa using hr) hy hSw
    (wpL_of_fork hs lt i j r hQ qs _ _ w (hcl.set (by simpa using hr)) hSw hc' k1 k2)
  by_cases hw:Region.wanted oi (yielded ops a.tmps)=true
  ·rw[if_pos hw] at h1 h2
   obtain ⟨v,hv,hK⟩:=h1
   obtain ⟨v2,hv2,hK2⟩:=h2
   have e:=(hv w hSw).symm.trans (hv2 w hSw)
   simp only[Result.ok.injEq,Next.value.injEq,and_true] at e
   subst e
   exact key v (.inl ⟨hw,hv⟩) hK hK2
  ·rw[if_neg hw] at h1 h2
   exact key undef (.inr ⟨by simpa using hw,rfl⟩) h1 h2
theorem wp_region_fork {id:Nat} {l:List Oper} {a:Act} {w:World} (S:World→Prop) (lt qs:List Nat) (i j:Nat) (r:List (Nat × Nat))
  (hm:P.follows .mixedOrders=true) (hc:(Region.noSelect l.toArray&&decide (qs.length+(r.length+2)≤l.length)&&forkOk .any l.toArray lt i j r qs (Array.replicate l.length false))=true)
  (hS:S w.drew)
  (h1:wpS P l.toArray S (NoPanic Q) (pickOps l (qs.map (fun k=>(0,k))++(1,i) :: (1,j) :: r)) a w.drew)
  (h2:wpS P l.toArray S (NoPanic Q) (pickOps l (qs.map (fun k=>(0,k))++(1,j) :: (1,i) :: r)) a w.drew):(Code.region id l.toArray true).wp P Q a w:=by
 refine wp_region_noPanic ?_
 simp only[Bool.and_eq_true,decide_eq_true_eq] at hc
 obtain ⟨⟨hs,hlen⟩,hc⟩:=hc
 refine wp_region_any hm ?_
 obtain ⟨m,hm'⟩:∃m,l.toArray.size=(qs.length+(r.length+2))+m:=⟨l.length - (qs.length+(r.length+2)),by simp;omega⟩
 rw[hm']
 refine wpAny_more _ _ _ _ _ (wpAny_of_L (S:=S) (late:=fun i=>lt.contains i) _ _ _ _ ?_)
 have e:Array.replicate (qs.length+(r.length+2)+m) false=Array.replicate l.length false:=by rw[← hm'];simp
 rw[e]
 exact wpL_of_fork hs lt i j r (fun _ _ _ _ _ h=>h) qs _ a w.drew (closed_none _) hS hc h1 h2
end
end
end Go.Proofs.YtpkghjoippcjeaaGreatDoor
