/- Texts Reg7 to Reg7 of this proof, in one file. -/
import Derived.Test.YtpkghjoippcjeaaW02
namespace Go.Proofs.Ytpkghjoippcjeaa
set_option maxRecDepth 100000
set_option maxHeartbeats 16000000
section
open Go Go.RowKit
inductive PT3 where
 | leaf (s:List (Nat × Nat)):PT3
 | fork (qs:List Nat) (i j:Nat) (ti tj:PT3):PT3
 | fork3 (qs:List Nat) (i j k:Nat) (ti tj tk:PT3):PT3
 | step (qs:List Nat) (i:Nat) (t:PT3):PT3
def PT3.depth:PT3→Nat
 | .leaf s=>s.length
 | .fork qs _ _ ti _=>qs.length+(ti.depth+1)
 | .fork3 qs _ _ _ ti _ _=>qs.length+(ti.depth+1)
 | .step qs _ t=>qs.length+(t.depth+1)
section
variable {P:Program} {ops:Array Oper} {Q:Exit→Act→World→Prop} {md:Region.Mode} {S:World→Prop}
def forkPre3 (md:Region.Mode) (ops:Array Oper) (lt:List Nat) (i j m:Nat) (F:Array Bool→Bool):List Nat→Array Bool→Bool
 | [],listed=>((Region.ready md ops listed)==[i,j,m])&&F listed
 | k :: qs,listed =>
  (Region.ready md ops listed).contains k&&Region.free md ops listed k&&!lt.contains k&&lt.all (fun j=>(closure md ops ops.size (aftersOf md ops j)).contains k)&&forkPre3 md ops lt i j m F qs (listed.setIfInBounds k true)
def forkPre1 (md:Region.Mode) (ops:Array Oper) (lt:List Nat) (i:Nat) (F:Array Bool→Bool):List Nat→Array Bool→Bool
 | [],listed=>((Region.ready md ops listed)==[i])&&F listed
 | k :: qs,listed =>
  (Region.ready md ops listed).contains k&&Region.free md ops listed k&&!lt.contains k&&lt.all (fun j=>(closure md ops ops.size (aftersOf md ops j)).contains k)&&forkPre1 md ops lt i F qs (listed.setIfInBounds k true)
def treeOk3 (md:Region.Mode) (ops:Array Oper) (lt:List Nat):PT3→Array Bool→Bool
 | .leaf s,listed=>decide (0<(s.filter fun x=>decide (x.1≤1)).length)&&seqOk md ops lt s listed
 | .fork qs i j ti tj,listed=>decide (tj.depth=ti.depth)&&!lt.contains i&&!lt.contains j &&
  forkPre md ops lt i j (fun l=>treeOk3 md ops lt ti (l.setIfInBounds i true)&&treeOk3 md ops lt tj (l.setIfInBounds j true)) qs listed
 | .fork3 qs i j k ti tj tk,listed=>decide (tj.depth=ti.depth)&&decide (tk.depth=ti.depth)&&!lt.contains i&&!lt.contains j&&!lt.contains k &&
  forkPre3 md ops lt i j k (fun l=>treeOk3 md ops lt ti (l.setIfInBounds i true)&&treeOk3 md ops lt tj (l.setIfInBounds j true)&&treeOk3 md ops lt tk (l.setIfInBounds k true)) qs listed
 | .step qs i t,listed=>!lt.contains i&&forkPre1 md ops lt i (fun l=>treeOk3 md ops lt t (l.setIfInBounds i true)) qs listed
def wpTr3 (P:Program) (ops:Array Oper) (S:World→Prop) (Q:Exit→Act→World→Prop):PT3→Act→World→Prop
 | .leaf s,a,w=>wpS P ops S Q (pickOps ops.toList s) a w
 | .fork qs i j ti tj,a,w=>wpS P ops S (KQ (wpTr3 P ops S Q ti) Q) (pickOps ops.toList (qs.map (fun k=>(0,k))++[(1,i)])) a w ∧
   wpS P ops S (KQ (wpTr3 P ops S Q tj) Q) (pickOps ops.toList (qs.map (fun k=>(0,k))++[(1,j)])) a w
 | .fork3 qs i j k ti tj tk,a,w=>wpS P ops S (KQ (wpTr3 P ops S Q ti) Q) (pickOps ops.toList (qs.map (fun k=>(0,k))++[(1,i)])) a w ∧
   wpS P ops S (KQ (wpTr3 P ops S Q tj) Q) (pickOps ops.toList (qs.map (fun k=>(0,k))++[(1,j)])) a w ∧
   wpS P ops S (KQ (wpTr3 P ops S Q tk) Q) (pickOps ops.toList (qs.map (fun k=>(0,k))++[(1,k)])) a w
 | .step qs i t,a,w=>wpS P ops S (KQ (wpTr3 P ops S Q t) Q) (pickOps ops.toList (qs.map (fun k=>(0,k))++[(1,i)])) a w
theorem wpL_of_pre3 (hs:Region.noSelect ops=true) (lt:List Nat) (i j m:Nat) (F:Array Bool→Bool) (d:Nat) (Ki Kj Km:Act→World→Prop) (hQ:∀c a d v w,Q (.panic c) (Act.put a d v) w→Q (.panic c) a w)
  (hni:lt.contains i=false) (hnj:lt.contains j=false) (hnm:lt.contains m=false)
  (hF:∀listed,F listed=true→Closed md ops listed→(i∈Region.ready md ops listed→∀a' w',S w'→Ki a' w'→wpL P md ops Q S (fun i=>lt.contains i) d (listed.setIfInBounds i true) a' w')∧(j∈Region.ready md ops listed→∀a' w',S w'→Kj a' w'→wpL P md ops Q S (fun i=>lt.contains i) d (listed.setIfInBounds j true) a' w')∧(m∈Region.ready md ops listed→∀a' w',S w'→Km a' w'→wpL P md ops Q S (fun i=>lt.contains i) d (listed.setIfInBounds m true) a' w')) :
  ∀(qs:List Nat) (listed:Array Bool) (a:Act) (w:World),Closed md ops listed→S w→forkPre3 md ops lt i j m F qs listed=true →
   wpS P ops S (KQ Ki Q) (pickOps ops.toList (qs.map (fun k=>(0,k))++[(1,i)])) a w→wpS P ops S (KQ Kj Q) (pickOps ops.toList (qs.map (fun k=>(0,k))++[(1,j)])) a w →
   wpS P ops S (KQ Km Q) (pickOps ops.toList (qs.map (fun k=>(0,k))++[(1,m)])) a w →
   wpL P md ops Q S (fun i=>lt.contains i) (qs.length+(d+1)) listed a w
 | [],listed,a,w,hcl,hSw,hc,h1,h2,h3=>by
  simp only[forkPre3,Bool.and_eq_true,beq_iff_eq] at hc
  obtain ⟨hr,hc1⟩:=hc
  rw[show ([]:List Nat).length+(d+1)=d+1 from by simp]
  refine ⟨fun h0=>absurd (hr▸h0) (by simp),fun k hk=>?_⟩
  have hk':=hk
  rw[hr] at hk'
  rcases List.mem_cons.1 hk' with rfl|hk2
  ·exact loud_K hk hni hSw ((hF listed hc1 hcl).1 hk) h1
  ·rcases List.mem_cons.1 hk2 with rfl|hk3
   ·exact loud_K hk hnj hSw ((hF listed hc1 hcl).2.1 hk) h2
   ·obtain rfl:k=m:=by simpa using hk3
    exact loud_K hk hnm hSw ((hF listed hc1 hcl).2.2 hk) h3
 | k :: qs,listed,a,w,hcl,hSw,hc,h1,h2,h3=>by
  simp only[forkPre3,Bool.and_eq_true] at hc
  obtain ⟨⟨⟨⟨hr,hf⟩,hnl⟩,hla⟩,hc'⟩:=hc
  obtain ⟨oi,hoi⟩:∃oi,ops[k]?=some oi:=by
   obtain ⟨_,oi,h1,_⟩:=(mem_ready (md:=md) (ops:=ops) (listed:=listed) (j:=k)).1 (by simpa using hr)
   exact ⟨oi,h1⟩
  have hp:nthOp ops.toList k=some oi:=by rw[nthOp_eq];simpa using hoi
  have hnl':lt.contains k=false:=by simpa using hnl
  have hlate:∀j listed,lt.contains j=true→Closed md ops listed→j∈Region.ready md ops listed→listed.getD k false=true:=by
   intro j listed' hl hcl' hj
   have h1:=List.all_eq_true.1 hla j (by simpa using hl)
   exact closure_listed hcl' _ _ (ready_afters hj) k (by simpa using h1)
  simp only[List.map_cons,List.cons_append,pickOps,hp,wpS] at h1 h2 h3
  rw[show (k :: qs).length+(d+1)=(qs.length+(d+1))+1 from by simp only[List.length_cons];omega]
  have key:∀v,YieldsIf P ops S oi v a→wpS P ops S (KQ Ki Q) (pickOps ops.toList (qs.map (fun k=>(0,k))++[(1,i)])) (a.put oi.dst v) w→wpS P ops S (KQ Kj Q) (pickOps ops.toList (qs.map (fun k=>(0,k))++[(1,j)])) (a.put oi.dst v) w→wpS P ops S (KQ Km Q) (pickOps ops.toList (qs.map (fun k=>(0,k))++[(1,m)])) (a.put oi.dst v) w→wpL P md ops Q S (fun i=>lt.contains i) (qs.length+(d+1)+1) listed a w:=by
   intro v hy k1 k2 k3
   exact wpL_first hoi (Region.noSelect_spec hs) (fun c a' w'=>hQ c a' _ _ w') hnl' hlate (qs.length+(d+1)) listed a w hcl (Region.free_spec hoi hf) (by simpa using hr) hy hSw
    (wpL_of_pre3 hs lt i j m F d Ki Kj Km hQ hni hnj hnm hF qs _ _ w (hcl.set (by simpa using hr)) hSw hc' k1 k2 k3)
  by_cases hw:Region.wanted oi (yielded ops a.tmps)=true
  ·rw[if_pos hw] at h1 h2 h3
   obtain ⟨v,hv,hK⟩:=h1
   obtain ⟨v2,hv2,hK2⟩:=h2
   obtain ⟨v3,hv3,hK3⟩:=h3
   have e:=(hv w hSw).symm.trans (hv2 w hSw)
   simp only[Result.ok.injEq,Next.value.injEq,and_true] at e
   subst e
   have e:=(hv w hSw).symm.trans (hv3 w hSw)
   simp only[Result.ok.injEq,Next.value.injEq,and_true] at e
   subst e
   exact key v (.inl ⟨hw,hv⟩) hK hK2 hK3
  ·rw[if_neg hw] at h1 h2 h3
   exact key undef (.inr ⟨by simpa using hw,rfl⟩) h1 h2 h3
theorem wpL_of_pre1 (hs:Region.noSelect ops=true) (lt:List Nat) (i:Nat) (F:Array Bool→Bool) (d:Nat) (Ki:Act→World→Prop) (hQ:∀c a d v w,Q (.panic c) (Act.put a d v) w→Q (.panic c) a w)
  (hni:lt.contains i=false)
  (hF:∀listed,F listed=true→Closed md ops listed→(i∈Region.ready md ops listed→∀a' w',S w'→Ki a' w'→wpL P md ops Q S (fun i=>lt.contains i) d (listed.setIfInBounds i true) a' w')) :
  ∀(qs:List Nat) (listed:Array Bool) (a:Act) (w:World),Closed md ops listed→S w→forkPre1 md ops lt i F qs listed=true →
   wpS P ops S (KQ Ki Q) (pickOps ops.toList (qs.map (fun k=>(0,k))++[(1,i)])) a w →
   wpL P md ops Q S (fun i=>lt.contains i) (qs.length+(d+1)) listed a w
 | [],listed,a,w,hcl,hSw,hc,h1=>by
  simp only[forkPre1,Bool.and_eq_true,beq_iff_eq] at hc
  obtain ⟨hr,hc1⟩:=hc
  rw[show ([]:List Nat).length+(d+1)=d+1 from by simp]
  refine ⟨fun h0=>absurd (hr▸h0) (by simp),fun k hk=>?_⟩
  have hk':=hk
  rw[hr] at hk'
  obtain rfl:k=i:=by simpa using hk'
  exact loud_K hk hni hSw (hF listed hc1 hcl hk) h1
 | k :: qs,listed,a,w,hcl,hSw,hc,h1=>by
  simp only[forkPre1,Bool.and_eq_true] at hc
  obtain ⟨⟨⟨⟨hr,hf⟩,hnl⟩,hla⟩,hc'⟩:=hc
  obtain ⟨oi,hoi⟩:∃oi,ops[k]?=some oi:=by
   obtain ⟨_,oi,h1,_⟩:=(mem_ready (md:=md) (ops:=ops) (listed:=listed) (j:=k)).1 (by simpa using hr)
   exact ⟨oi,h1⟩
  have hp:nthOp ops.toList k=some oi:=by rw[nthOp_eq];simpa using hoi
  have hnl':lt.contains k=false:=by simpa using hnl
  have hlate:∀j listed,lt.contains j=true→Closed md ops listed→j∈Region.ready md ops listed→listed.getD k false=true:=by
   intro j listed' hl hcl' hj
   have h1:=List.all_eq_true.1 hla j (by simpa using hl)
   exact closure_listed hcl' _ _ (ready_afters hj) k (by simpa using h1)
  simp only[List.map_cons,List.cons_append,pickOps,hp,wpS] at h1
  rw[show (k :: qs).length+(d+1)=(qs.length+(d+1))+1 from by simp only[List.length_cons];omega]
  have key:∀v,YieldsIf P ops S oi v a→wpS P ops S (KQ Ki Q) (pickOps ops.toList (qs.map (fun k=>(0,k))++[(1,i)])) (a.put oi.dst v) w→wpL P md ops Q S (fun i=>lt.contains i) (qs.length+(d+1)+1) listed a w:=by
   intro v hy k1
   exact wpL_first hoi (Region.noSelect_spec hs) (fun c a' w'=>hQ c a' _ _ w') hnl' hlate (qs.length+(d+1)) listed a w hcl (Region.free_spec hoi hf) (by simpa using hr) hy hSw
    (wpL_of_pre1 hs lt i F d Ki hQ hni hF qs _ _ w (hcl.set (by simpa using hr)) hSw hc' k1)
  by_cases hw:Region.wanted oi (yielded ops a.tmps)=true
  ·rw[if_pos hw] at h1
   obtain ⟨v,hv,hK⟩:=h1
   exact key v (.inl ⟨hw,hv⟩) hK
  ·rw[if_neg hw] at h1
   exact key undef (.inr ⟨by simpa using hw,rfl⟩) h1
theorem wpL_of_tree3 (hs:Region.noSelect ops=true) (lt:List Nat) (hQ:∀c a d v w,Q (.panic c) (Act.put a d v) w→Q (.panic c) a w) :
  ∀(t:PT3) (listed:Array Bool) (a:Act) (w:World),Closed md ops listed→S w→treeOk3 md ops lt t listed=true→wpTr3 P ops S Q t a w →
   wpL P md ops Q S (fun i=>lt.contains i) t.depth listed a w
 | .leaf s,listed,a,w,hcl,hSw,hc,h=>by
  simp only[treeOk3,Bool.and_eq_true] at hc
  exact wpL_of_S hs lt hQ s listed a w hcl (fun _=>hSw) hc.2 h
 | .fork qs i j ti tj,listed,a,w,hcl,hSw,hc,h=>by
  simp only[treeOk3,Bool.and_eq_true,decide_eq_true_eq] at hc
  obtain ⟨⟨⟨hd,hni⟩,hnj⟩,hpre⟩:=hc
  refine wpL_of_pre hs lt i j _ ti.depth (wpTr3 P ops S Q ti) (wpTr3 P ops S Q tj) hQ (by simpa using hni) (by simpa using hnj) (fun l hl hcl2=>?_) qs listed a w hcl hSw hpre h.1 h.2
  simp only[Bool.and_eq_true] at hl
  refine ⟨fun hr a' w' hS' hK=>wpL_of_tree3 hs lt hQ ti _ a' w' (hcl2.set hr) hS' hl.1 hK,fun hr a' w' hS' hK=>?_⟩
  rw[← hd]
  exact wpL_of_tree3 hs lt hQ tj _ a' w' (hcl2.set hr) hS' hl.2 hK
 | .fork3 qs i j k ti tj tk,listed,a,w,hcl,hSw,hc,h=>by
  simp only[treeOk3,Bool.and_eq_true,decide_eq_true_eq] at hc
  obtain ⟨⟨⟨⟨⟨hd,hd2⟩,hni⟩,hnj⟩,hnk⟩,hpre⟩:=hc
  refine wpL_of_pre3 hs lt i j k _ ti.depth (wpTr3 P ops S Q ti) (wpTr3 P ops S Q tj) (wpTr3 P ops S Q tk) hQ (by simpa using hni) (by simpa using hnj) (by simpa using hnk) (fun l hl hcl2=>?_) qs listed a w hcl hSw hpre h.1 h.2.1 h.2.2
  simp only[Bool.and_eq_true] at hl
  refine ⟨fun hr a' w' hS' hK=>wpL_of_tree3 hs lt hQ ti _ a' w' (hcl2.set hr) hS' hl.1.1 hK,fun hr a' w' hS' hK=>?_,fun hr a' w' hS' hK=>?_⟩
  ·rw[← hd]
   exact wpL_of_tree3 hs lt hQ tj _ a' w' (hcl2.set hr) hS' hl.1.2 hK
  ·rw[← hd2]
   exact wpL_of_tree3 hs lt hQ tk _ a' w' (hcl2.set hr) hS' hl.2 hK
 | .step qs i t,listed,a,w,hcl,hSw,hc,h=>by
  simp only[treeOk3,Bool.and_eq_true] at hc
  obtain ⟨hni,hpre⟩:=hc
  exact wpL_of_pre1 hs lt i _ t.depth (wpTr3 P ops S Q t) hQ (by simpa using hni) (fun l hl hcl2 hr a' w' hS' hK=>wpL_of_tree3 hs lt hQ t _ a' w' (hcl2.set hr) hS' hl hK) qs listed a w hcl hSw hpre h
theorem wp_region_tree3 {id:Nat} {l:List Oper} {a:Act} {w:World} (S:World→Prop) (lt:List Nat) (t:PT3)
  (hm:P.follows .mixedOrders=true) (hc:(Region.noSelect l.toArray&&decide (t.depth≤l.length)&&treeOk3 .any l.toArray lt t (Array.replicate l.length false))=true)
  (hS:S w.drew) (h:wpTr3 P l.toArray S (NoPanic Q) t a w.drew):(Code.region id l.toArray true).wp P Q a w:=by
 refine wp_region_noPanic ?_
 simp only[Bool.and_eq_true,decide_eq_true_eq] at hc
 obtain ⟨⟨hs,hlen⟩,hc⟩:=hc
 refine wp_region_any hm ?_
 obtain ⟨m,hm'⟩:∃m,l.toArray.size=t.depth+m:=⟨l.length - t.depth,by simp;omega⟩
 rw[hm']
 refine wpAny_more _ _ _ _ _ (wpAny_of_L (S:=S) (late:=fun i=>lt.contains i) _ _ _ _ ?_)
 have e:Array.replicate (t.depth+m) false=Array.replicate l.length false:=by rw[← hm'];simp
 rw[e]
 exact wpL_of_tree3 hs lt (fun _ _ _ _ _ h=>h) t _ a w.drew (closed_none _) hS hc h
end
end
end Go.Proofs.Ytpkghjoippcjeaa
