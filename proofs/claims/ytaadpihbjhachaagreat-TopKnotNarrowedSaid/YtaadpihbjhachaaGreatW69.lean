/- Texts B6 to Reg6 of this proof, in one file. -/
import Derived.Test.YtaadpihbjhachaaGreatW24
import Derived.Test.YtaadpihbjhachaaGreatW35
import Derived.Test.YtaadpihbjhachaaGreatW62
namespace Go.Proofs.YtaadpihbjhachaaGreat
set_option maxRecDepth 100000
set_option maxHeartbeats 16000000
section
open Go Go.RowKit
def insI (out:List Int) (x:Int):List Int:=out.takeWhile (fun y=>decide (y<x))++x :: out.dropWhile (fun y=>decide (y<x))
def imgTo (p l:List Int) (k:Nat):List Int:=(l.take k).foldl (fun out c=>insI out (p[c.toNat]?.getD 0)) []
def imgQ (p l:List Int):List Int:=imgTo p l l.length
theorem imgTo_succ {p l:List Int} {k:Nat} (h:k<l.length):imgTo p l (k+1)=insI (imgTo p l k) (p[(l[k]?.getD 0).toNat]?.getD 0):=by
 unfold imgTo
 rw[take_snoc l 0 k h,List.foldl_append]
 rfl
theorem insI_perm (out:List Int) (x:Int):(insI out x).Perm (x :: out):=by
 unfold insI
 refine List.perm_middle.trans ?_
 rw[List.takeWhile_append_dropWhile]
theorem drop_ge {x:Int}:∀{out:List Int},out.Pairwise (·≤·)→∀y,y∈out.dropWhile (fun y=>decide (y<x))→x≤y
 | [],_,y,hy=>by cases hy
 | a :: out,h,y,hy=>by
  rw[List.pairwise_cons] at h
  by_cases e:a<x
  ·rw[List.dropWhile_cons_of_pos (by simpa using e)] at hy
   exact drop_ge h.2 y hy
  ·rw[List.dropWhile_cons_of_neg (by simpa using e)] at hy
   rcases List.mem_cons.1 hy with h1|h1
   ·omega
   ·have:=h.1 y h1;omega
theorem take_lt {x:Int}:∀{out:List Int},∀y,y∈out.takeWhile (fun y=>decide (y<x))→y<x
 | [],y,hy=>by cases hy
 | a :: out,y,hy=>by
  by_cases e:a<x
  ·rw[List.takeWhile_cons_of_pos (by simpa using e)] at hy
   rcases List.mem_cons.1 hy with h1|h1
   ·omega
   ·exact take_lt y h1
  ·rw[List.takeWhile_cons_of_neg (by simpa using e)] at hy
   cases hy
theorem insI_up {out:List Int} {x:Int} (h:out.Pairwise (·≤·)):(insI out x).Pairwise (·≤·):=by
 unfold insI
 rw[List.pairwise_append]
 refine ⟨h.sublist (List.takeWhile_sublist _),?_,fun a ha b hb=>?_⟩
 ·rw[List.pairwise_cons]
  exact ⟨fun y hy=>drop_ge h y hy,h.sublist (List.dropWhile_sublist _)⟩
 ·have h1:=take_lt a ha
  rcases List.mem_cons.1 hb with h2|h2
  ·omega
  ·have:=drop_ge h b h2;omega
theorem srt_pair (f:List Int):(srt f).Pairwise (·≤·):=by
 unfold srt
 refine (List.pairwise_mergeSort (le:=fun x y:Int=>decide (x≤y)) (fun a b c h1 h2=>?_) (fun a b=>?_) _).imp fun h=>?_
 ·simp only[decide_eq_true_eq] at h1 h2 ⊢;omega
 ·simp only[Bool.or_eq_true,decide_eq_true_eq];omega
 ·simpa using h
theorem imgTo_spec (p l:List Int):∀k,k≤l.length→(imgTo p l k).Pairwise (·≤·)∧(imgTo p l k).Perm ((l.take k).map fun c=>p[c.toNat]?.getD 0)
 | 0,_=>⟨List.Pairwise.nil,by simp[imgTo]⟩
 | k+1,h=>by
  obtain ⟨h1,h2⟩:=imgTo_spec p l k (by omega)
  rw[imgTo_succ (by omega),take_snoc l 0 k (by omega),List.map_append]
  refine ⟨insI_up h1,(insI_perm _ _).trans ?_⟩
  exact (List.Perm.cons _ h2).trans (List.perm_append_singleton _ _).symm
theorem img_line (p l:List Int):imgQ p l=lineI p l:=by
 obtain ⟨h1,h2⟩:=imgTo_spec p l l.length (Nat.le_refl _)
 rw[List.take_length] at h2
 exact List.Perm.eq_of_pairwise (le:=(·≤·)) (fun a b _ _ h1 h2=>Int.le_antisymm h1 h2) h1 (srt_pair _) (h2.trans (List.mergeSort_perm _ _).symm)
end
section
open Go Go.RowKit
inductive PT where
 | leaf (s:List (Nat × Nat)):PT
 | fork (qs:List Nat) (i j:Nat) (ti tj:PT):PT
def PT.depth:PT→Nat
 | .leaf s=>s.length
 | .fork qs _ _ ti _=>qs.length+(ti.depth+1)
def KQ (K:Act→World→Prop) (Q:Exit→Act→World→Prop):Exit→Act→World→Prop
 | .normal,a,w=>K a w
 | e,a,w=>Q e a w
theorem keep_set {B:Nat} {w0 w:World} {p:Addr} (h:Below B w0 w) (hp:B≤p.block) (u:Value):Below B w0 (w.setCell p u):=h.setCell hp u
section
variable {P:Program} {ops:Array Oper} {Q:Exit→Act→World→Prop} {md:Region.Mode} {S:World→Prop}
def forkPre (md:Region.Mode) (ops:Array Oper) (lt:List Nat) (i j:Nat) (F:Array Bool→Bool):List Nat→Array Bool→Bool
 | [],listed=>((Region.ready md ops listed)==[i,j])&&F listed
 | k :: qs,listed =>
  (Region.ready md ops listed).contains k&&Region.free md ops listed k&&!lt.contains k&&lt.all (fun j=>(closure md ops ops.size (aftersOf md ops j)).contains k)&&forkPre md ops lt i j F qs (listed.setIfInBounds k true)
def treeOk (md:Region.Mode) (ops:Array Oper) (lt:List Nat):PT→Array Bool→Bool
 | .leaf s,listed=>decide (0<(s.filter fun x=>decide (x.1≤1)).length)&&seqOk md ops lt s listed
 | .fork qs i j ti tj,listed=>decide (tj.depth=ti.depth)&&!lt.contains i&&!lt.contains j &&
  forkPre md ops lt i j (fun l=>treeOk md ops lt ti (l.setIfInBounds i true)&&treeOk md ops lt tj (l.setIfInBounds j true)) qs listed
def wpTr (P:Program) (ops:Array Oper) (S:World→Prop) (Q:Exit→Act→World→Prop):PT→Act→World→Prop
 | .leaf s,a,w=>wpS P ops S Q (pickOps ops.toList s) a w
 | .fork qs i j ti tj,a,w=>wpS P ops S (KQ (wpTr P ops S Q ti) Q) (pickOps ops.toList (qs.map (fun k=>(0,k))++[(1,i)])) a w ∧
   wpS P ops S (KQ (wpTr P ops S Q tj) Q) (pickOps ops.toList (qs.map (fun k=>(0,k))++[(1,j)])) a w
theorem KQ_lets {K:Act→World→Prop} (h:LetsOut (KQ K Q)):LetsOut Q:=h
theorem loud_KQ {K:Act→World→Prop} {o:Oper} {a:Act} {w:World} (h:wpS P ops S (KQ K Q) [(1,o)] a w) :
  if Region.wanted o (yielded ops a.tmps) then o.wp P a w (fun a' w'=>S w'∧K a' w') Q∨(o.asks P a w∧LetsOut Q) else K (a.put o.dst undef) w:=by
 simp only[wpS] at h
 split
 ·rename_i hw
  rw[if_pos hw] at h
  rcases h with h|⟨h1,h2⟩
  ·left
   unfold Oper.wp at *
   generalize (execOp a.eval o).run P w=x at *
   cases x with
   | ok n w'=>cases n <;> simp only[Oper.upon] at h ⊢ <;> (try exact h) <;> (try exact h.2) <;> (try exact h.2.2)
   | halt x w'=>cases x <;> simp only[Oper.upon] at h ⊢ <;> exact h
  ·exact .inr ⟨h1,KQ_lets h2⟩
 ·rename_i hw
  rw[if_neg hw] at h
  exact h
theorem loud_K {lt:List Nat} {K:Act→World→Prop} {i:Nat} {listed:Array Bool} {d:Nat} {a:Act} {w:World}
  (hr:i∈Region.ready md ops listed) (_hnl:lt.contains i=false) (hS:S w)
  (hk:∀a' w',S w'→K a' w'→wpL P md ops Q S (fun i=>lt.contains i) d (listed.setIfInBounds i true) a' w') (h:wpS P ops S (KQ K Q) (pickOps ops.toList [(1,i)]) a w) :
  wpOp P ops Q i (fun a' w'=>(lt.contains i=false→S w')∧wpL P md ops Q S (fun i=>lt.contains i) d (listed.setIfInBounds i true) a' w') a w:=by
 obtain ⟨oi,hoi⟩:∃oi,ops[i]?=some oi:=by
  obtain ⟨_,oi,h1,_⟩:=(mem_ready (md:=md) (ops:=ops) (listed:=listed) (j:=i)).1 hr
  exact ⟨oi,h1⟩
 have hp:nthOp ops.toList i=some oi:=by rw[nthOp_eq];simpa using hoi
 simp only[pickOps,hp] at h
 have h2:=loud_KQ h
 refine wpOp_of_if hoi ?_
 split
 ·rename_i hw
  rw[if_pos hw] at h2
  exact h2.imp (Oper.wp_mono fun a' w' hx=>⟨fun _=>hx.1,hk a' w' hx.1 hx.2⟩) id
 ·rename_i hw
  rw[if_neg hw] at h2
  exact ⟨fun _=>hS,hk _ _ hS h2⟩
theorem wpL_of_pre (hs:Region.noSelect ops=true) (lt:List Nat) (i j:Nat) (F:Array Bool→Bool) (d:Nat) (Ki Kj:Act→World→Prop) (hQ:∀c a d v w,Q (.panic c) (Act.put a d v) w→Q (.panic c) a w)
  (hni:lt.contains i=false) (hnj:lt.contains j=false)
  (hF:∀listed,F listed=true→Closed md ops listed→(i∈Region.ready md ops listed→∀a' w',S w'→Ki a' w'→wpL P md ops Q S (fun i=>lt.contains i) d (listed.setIfInBounds i true) a' w')∧(j∈Region.ready md ops listed→∀a' w',S w'→Kj a' w'→wpL P md ops Q S (fun i=>lt.contains i) d (listed.setIfInBounds j true) a' w')) :
  ∀(qs:List Nat) (listed:Array Bool) (a:Act) (w:World),Closed md ops listed→S w→forkPre md ops lt i j F qs listed=true →
   wpS P ops S (KQ Ki Q) (pickOps ops.toList (qs.map (fun k=>(0,k))++[(1,i)])) a w→wpS P ops S (KQ Kj Q) (pickOps ops.toList (qs.map (fun k=>(0,k))++[(1,j)])) a w →
   wpL P md ops Q S (fun i=>lt.contains i) (qs.length+(d+1)) listed a w
 | [],listed,a,w,hcl,hSw,hc,h1,h2=>by
  simp only[forkPre,Bool.and_eq_true,beq_iff_eq] at hc
  obtain ⟨hr,hc1⟩:=hc
  rw[show ([]:List Nat).length+(d+1)=d+1 from by simp]
  refine ⟨fun h0=>absurd (hr▸h0) (by simp),fun k hk=>?_⟩
  have hk':=hk
  rw[hr] at hk'
  rcases List.mem_cons.1 hk' with rfl|hk2
  ·exact loud_K hk hni hSw ((hF listed hc1 hcl).1 hk) h1
  ·obtain rfl:k=j:=by simpa using hk2
   exact loud_K hk hnj hSw ((hF listed hc1 hcl).2 hk) h2
 | k :: qs,listed,a,w,hcl,hSw,hc,h1,h2=>by
  simp only[forkPre,Bool.and_eq_true] at hc
  obtain ⟨⟨⟨⟨hr,hf⟩,hnl⟩,hla⟩,hc'⟩:=hc
  obtain ⟨oi,hoi⟩:∃oi,ops[k]?=some oi:=by
   obtain ⟨_,oi,h1,_⟩:=(mem_ready (md:=md) (ops:=ops) (listed:=listed) (j:=k)).1 (by simpa using hr)
   exact ⟨oi,h1⟩
  have hp:nthOp ops.toList k=some oi:=by rw[nthOp_eq];simpa using hoi
  have hnl':lt.contains k=false:=by simpa using hnl
  have hlate:∀j listed,lt.contains j=true→Closed md ops listed→j∈Region.ready md ops listed→listed.getD k false=true:=by
   intro j listed' hl hcl' hj
   have h1:=List.all_eq_true.1 hla j (by simpa using hl)
   exact closure_listed hcl' _ _ (ready_afters hj) k (by simpa using h1)
  simp only[List.map_cons,List.cons_append,pickOps,hp,wpS] at h1 h2
  rw[show (k :: qs).length+(d+1)=(qs.length+(d+1))+1 from by simp only[List.length_cons];omega]
  have key:∀v,YieldsIf P ops S oi v a→wpS P ops S (KQ Ki Q) (pickOps ops.toList (qs.map (fun k=>(0,k))++[(1,i)])) (a.put oi.dst v) w→wpS P ops S (KQ Kj Q) (pickOps ops.toList (qs.map (fun k=>(0,k))++[(1,j)])) (a.put oi.dst v) w→wpL P md ops Q S (fun i=>lt.contains i) (qs.length+(d+1)+1) listed a w:=by
   intro v hy k1 k2
   exact wpL_first hoi (Region.noSelect_spec hs) (fun c a' w'=>hQ c a' _ _ w') hnl' hlate (qs.length+(d+1)) listed a w hcl (Region.free_spec hoi hf) (by simpa using hr) hy hSw
    (wpL_of_pre hs lt i j F d Ki Kj hQ hni hnj hF qs _ _ w (hcl.set (by simpa using hr)) hSw hc' k1 k2)
  by_cases hw:Region.wanted oi (yielded ops a.tmps)=true
  ·rw[if_pos hw] at h1 h2
   obtain ⟨v,hv,hK⟩:=h1
   obtain ⟨v2,hv2,hK2⟩:=h2
   have e:=(hv w hSw).symm.trans (hv2 w hSw)
   simp only[Result.ok.injEq,Next.value.injEq,and_true] at e
   subst e
   exact key v (.inl ⟨hw,hv⟩) hK hK2
  ·rw[if_neg hw] at h1 h2
   exact key undef (.inr ⟨by simpa using hw,rfl⟩) h1 h2
theorem wpL_of_tree (hs:Region.noSelect ops=true) (lt:List Nat) (hQ:∀c a d v w,Q (.panic c) (Act.put a d v) w→Q (.panic c) a w) :
  ∀(t:PT) (listed:Array Bool) (a:Act) (w:World),Closed md ops listed→S w→treeOk md ops lt t listed=true→wpTr P ops S Q t a w →
   wpL P md ops Q S (fun i=>lt.contains i) t.depth listed a w
 | .leaf s,listed,a,w,hcl,hSw,hc,h=>by
  simp only[treeOk,Bool.and_eq_true] at hc
  exact wpL_of_S hs lt hQ s listed a w hcl (fun _=>hSw) hc.2 h
 | .fork qs i j ti tj,listed,a,w,hcl,hSw,hc,h=>by
  simp only[treeOk,Bool.and_eq_true,decide_eq_true_eq] at hc
  obtain ⟨⟨⟨hd,hni⟩,hnj⟩,hpre⟩:=hc
  refine wpL_of_pre hs lt i j _ ti.depth (wpTr P ops S Q ti) (wpTr P ops S Q tj) hQ (by simpa using hni) (by simpa using hnj) (fun l hl hcl2=>?_) qs listed a w hcl hSw hpre h.1 h.2
  simp only[Bool.and_eq_true] at hl
  refine ⟨fun hr a' w' hS' hK=>wpL_of_tree hs lt hQ ti _ a' w' (hcl2.set hr) hS' hl.1 hK,fun hr a' w' hS' hK=>?_⟩
  rw[← hd]
  exact wpL_of_tree hs lt hQ tj _ a' w' (hcl2.set hr) hS' hl.2 hK
theorem wpTr_end {S:World→Prop} {K:Act→World→Prop} {a:Act} {w:World} (h:K a w):wpS P ops S (KQ K Q) [] a w:=by rw[wpS];exact h
theorem wp_region_tree {id:Nat} {l:List Oper} {a:Act} {w:World} (S:World→Prop) (lt:List Nat) (t:PT)
  (hm:P.follows .mixedOrders=true) (hc:(Region.noSelect l.toArray&&decide (t.depth≤l.length)&&treeOk .any l.toArray lt t (Array.replicate l.length false))=true)
  (hS:S w.drew) (h:wpTr P l.toArray S (NoPanic Q) t a w.drew):(Code.region id l.toArray true).wp P Q a w:=by
 refine wp_region_noPanic ?_
 simp only[Bool.and_eq_true,decide_eq_true_eq] at hc
 obtain ⟨⟨hs,hlen⟩,hc⟩:=hc
 refine wp_region_any hm ?_
 obtain ⟨m,hm'⟩:∃m,l.toArray.size=t.depth+m:=⟨l.length - t.depth,by simp;omega⟩
 rw[hm']
 refine wpAny_more _ _ _ _ _ (wpAny_of_L (S:=S) (late:=fun i=>lt.contains i) _ _ _ _ ?_)
 have e:Array.replicate (t.depth+m) false=Array.replicate l.length false:=by rw[← hm'];simp
 rw[e]
 exact wpL_of_tree hs lt (fun _ _ _ _ _ h=>h) t _ a w.drew (closed_none _) hS hc h
end
end
end Go.Proofs.YtaadpihbjhachaaGreat
