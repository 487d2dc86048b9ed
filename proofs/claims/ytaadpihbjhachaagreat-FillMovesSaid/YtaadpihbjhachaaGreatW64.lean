/- Texts Reg5 to Reg5 of this proof, in one file. -/
import Derived.Test.YtaadpihbjhachaaGreatW24
namespace Go.Proofs.YtaadpihbjhachaaGreat
set_option maxRecDepth 100000
set_option maxHeartbeats 16000000
section
open Go Go.RowKit
section
variable {P:Program} {ops:Array Oper} {Q:Exit→Act→World→Prop} {md:Region.Mode} {S:World→Prop}
def forkOk2 (md:Region.Mode) (ops:Array Oper) (lt:List Nat) (i j:Nat) (t1 t2:List (Nat × Nat)):List Nat→Array Bool→Bool
 | [],listed=>((Region.ready md ops listed)==[i,j])&&kd md ops lt t1 (listed.setIfInBounds i true)&&kd md ops lt t2 (listed.setIfInBounds j true)
 | k :: qs,listed =>
  (Region.ready md ops listed).contains k&&Region.free md ops listed k&&!lt.contains k&&lt.all (fun j=>(closure md ops ops.size (aftersOf md ops j)).contains k)&&forkOk2 md ops lt i j t1 t2 qs (listed.setIfInBounds k true)
theorem wpL_of_fork2 (hs:Region.noSelect ops=true) (lt:List Nat) (i j:Nat) (t1 t2:List (Nat × Nat)) (hl:t2.length=t1.length) (hQ:∀c a d v w,Q (.panic c) (Act.put a d v) w→Q (.panic c) a w) :
  ∀(qs:List Nat) (listed:Array Bool) (a:Act) (w:World),Closed md ops listed→S w→forkOk2 md ops lt i j t1 t2 qs listed=true →
   wpS P ops S Q (zt ops.toList (qs.map (fun k=>(0,k))++(1,i) :: t1)) a w→wpS P ops S Q (zt ops.toList (qs.map (fun k=>(0,k))++(1,j) :: t2)) a w →
   wpL P md ops Q S (fun i=>lt.contains i) (qs.length+(t1.length+1)) listed a w
 | [],listed,a,w,hcl,hSw,hc,h1,h2=>by
  simp only[forkOk2,Bool.and_eq_true,beq_iff_eq] at hc
  obtain ⟨⟨hr,hc1⟩,hc2⟩:=hc
  rw[show ([]:List Nat).length+(t1.length+1)=t1.length+1 from by simp]
  refine ⟨fun h0=>absurd (hr▸h0) (by simp),fun k hk=>?_⟩
  have hk':=hk
  rw[hr] at hk'
  rcases List.mem_cons.1 hk' with rfl|hk2
  ·exact loud_step hs lt hQ (t:=t1) hcl hSw hk hc1 h1
  ·obtain rfl:k=j:=by simpa using hk2
   rw[← hl]
   exact loud_step hs lt hQ (t:=t2) hcl hSw hk hc2 h2
 | k :: qs,listed,a,w,hcl,hSw,hc,h1,h2=>by
  simp only[forkOk2,Bool.and_eq_true] at hc
  obtain ⟨⟨⟨⟨hr,hf⟩,hnl⟩,hla⟩,hc'⟩:=hc
  obtain ⟨oi,hoi⟩:∃oi,ops[k]?=some oi:=by
   obtain ⟨_,oi,h1,_⟩:=(mem_ready (md:=md) (ops:=ops) (listed:=listed) (j:=k)).1 (by simpa using hr)
   exact ⟨oi,h1⟩
  have hp:zG ops.toList k=some oi:=by rw[qK];simpa using hoi
  have hnl':lt.contains k=false:=by simpa using hnl
  have hlate:∀j listed,lt.contains j=true→Closed md ops listed→j∈Region.ready md ops listed→listed.getD k false=true:=by
   intro j listed' hl hcl' hj
   have h1:=List.all_eq_true.1 hla j (by simpa using hl)
   exact qP hcl' _ _ (ready_afters hj) k (by simpa using h1)
  simp only[List.map_cons,List.cons_append,zt,hp,wpS] at h1 h2
  rw[show (k :: qs).length+(t1.length+1)=(qs.length+(t1.length+1))+1 from by simp only[List.length_cons];omega]
  have key:∀v,YieldsIf P ops S oi v a→wpS P ops S Q (zt ops.toList (qs.map (fun k=>(0,k))++(1,i) :: t1)) (a.put oi.dst v) w→wpS P ops S Q (zt ops.toList (qs.map (fun k=>(0,k))++(1,j) :: t2)) (a.put oi.dst v) w→wpL P md ops Q S (fun i=>lt.contains i) (qs.length+(t1.length+1)+1) listed a w:=by
   intro v hy k1 k2
   exact wpL_first hoi (Region.noSelect_spec hs) (fun c a' w'=>hQ c a' _ _ w') hnl' hlate (qs.length+(t1.length+1)) listed a w hcl (Region.free_spec hoi hf) (by simpa using hr) hy hSw
    (wpL_of_fork2 hs lt i j t1 t2 hl hQ qs _ _ w (hcl.set (by simpa using hr)) hSw hc' k1 k2)
  by_cases hw:Region.wanted oi (yielded ops a.tmps)=true
  ·rw[if_pos hw] at h1 h2
   obtain ⟨v,hv,hK⟩:=h1
   obtain ⟨v2,hv2,hK2⟩:=h2
   have e:=(hv w hSw).symm.trans (hv2 w hSw)
   simp only[Result.ok.injEq,Next.value.injEq,and_true] at e
   subst e
   exact key v (.inl ⟨hw,hv⟩) hK hK2
  ·rw[if_neg hw] at h1 h2
   exact key undef (.inr ⟨by simpa using hw,rfl⟩) h1 h2
theorem wp_region_fork2 {id:Nat} {l:List Oper} {a:Act} {w:World} (S:World→Prop) (lt qs:List Nat) (i j:Nat) (t1 t2:List (Nat × Nat))
  (hm:P.follows .mixedOrders=true) (hc:(Region.noSelect l.toArray&&decide (t2.length=t1.length)&&decide (qs.length+(t1.length+1)≤l.length)&&forkOk2 .any l.toArray lt i j t1 t2 qs (Array.replicate l.length false))=true)
  (hS:S w.drew)
  (h1:wpS P l.toArray S (NoPanic Q) (zt l (qs.map (fun k=>(0,k))++(1,i) :: t1)) a w.drew)
  (h2:wpS P l.toArray S (NoPanic Q) (zt l (qs.map (fun k=>(0,k))++(1,j) :: t2)) a w.drew):(Code.region id l.toArray true).wp P Q a w:=by
 refine wp_region_noPanic ?_
 simp only[Bool.and_eq_true,decide_eq_true_eq] at hc
 obtain ⟨⟨⟨hs,hl⟩,hlen⟩,hc⟩:=hc
 refine wp_region_any hm ?_
 obtain ⟨m,hm'⟩:∃m,l.toArray.size=(qs.length+(t1.length+1))+m:=⟨l.length - (qs.length+(t1.length+1)),by simp;omega⟩
 rw[hm']
 refine wpAny_more _ _ _ _ _ (wpAny_of_L (S:=S) (late:=fun i=>lt.contains i) _ _ _ _ ?_)
 have e:Array.replicate (qs.length+(t1.length+1)+m) false=Array.replicate l.length false:=by rw[← hm'];simp
 rw[e]
 exact wpL_of_fork2 hs lt i j t1 t2 hl (fun _ _ _ _ _ h=>h) qs _ a w.drew (closed_none _) hS hc h1 h2
end
end
end Go.Proofs.YtaadpihbjhachaaGreat
